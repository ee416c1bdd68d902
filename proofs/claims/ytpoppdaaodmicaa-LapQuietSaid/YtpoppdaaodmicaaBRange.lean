-- Several functions' contracts in one text.
import Derived.RangeFuncNested
import Derived.RangeFuncBound
import Derived.RangeFuncCalls
import Derived.RangeFuncLeaves
import Derived.RangeFuncBox
import Derived.Test.YtpoppdaaodmicaaBBlock
import Derived.Shelf.Abstract
import Derived.Shelf.RegionOpen
import Derived.WalkKit
import Derived.OwnWalkIn
import Derived.TacticsInMore
import Derived.LoopNIn
import Derived.LoopIn
import Derived.Lib.Hide
import Derived.ArgAppend
import Derived.Test.YtpoppdaaodmicaaBMdct
import Derived.Test.YtpoppdaaodmicaaBAsked
/- /- A range over a function whose rounds read the memory that the iterator lays for them: a law, over the kit's 'wpIn_rangeFunc'. The rounds are numbered; none leaves early. -/ -/
namespace Go.Proofs.Ytpoppdaaodmicaa.Q
open Go Go.RowKit

/-- What lies below B stays as it is, but for the blocks T. -/
def Stays (T : Nat → Prop) (B : Nat) (W W' : World) : Prop := W.heap.size ≤ W'.heap.size ∧ ∀ k, k < B → ¬ T k → W'.heap[k]? = W.heap[k]?
section
variable {T : Nat → Prop} {B : Nat} {W W' W'' : World}
theorem Stays.refl (T : Nat → Prop) (B : Nat) (W : World) : Stays T B W W := ⟨Nat.le_refl _, fun _ _ _ => rfl⟩
theorem Stays.trans (h : Stays T B W W') (h' : Stays T B W' W'') : Stays T B W W'' := ⟨Nat.le_trans h.1 h'.1, fun k hk ht => (h'.2 k hk ht).trans (h.2 k hk ht)⟩
theorem Stays.below (h : Below W.heap.size W W') (hB : B ≤ W.heap.size) : Stays T B W W' := ⟨h.size, fun k hk _ => h.block k (by omega)⟩
theorem Stays.putObj {l : Nat} (o : Obj) (hl : B ≤ l) : Stays T B W (W.putObj l o) := ⟨by simp, fun k hk _ => World.putObj_heap_other (by omega)⟩
theorem Stays.setCell {a : Addr} (v : Value) (h : T a.block ∨ B ≤ a.block) : Stays T B W (W.setCell a v) := ⟨(KeepsWalks.setCell W a v).size, fun k hk ht => Below.heap_setCell W a v k (fun e => h.elim (fun h => ht (e ▸ h)) (fun h => by omega))⟩
theorem Stays.grown {row : Option Nat} (h : W.grownBy W' row) (hB : B ≤ W.heap.size) (hr : ∀ k, row = some k → T k ∨ B ≤ k) : Stays T B W W' := ⟨h.size, fun k hk ht => h.block k (by omega) (fun e => (hr k e.symm).elim (fun h => ht h) (fun h => by omega))⟩
theorem Stays.cell (h : Stays T B W W') {p : Addr} (hp : p.block < B) (ht : ¬ T p.block) : W'.cell? p = W.cell? p := World.cell?_of_block (h.2 _ hp ht)
end
theorem KeepsOthers.of_below {W W' : World} (h : Below W.heap.size W W') : KeepsOthers W W' := ⟨h.size, fun k _ hk _ => (h.block k (Array.getElem?_eq_some_iff.1 hk).1).trans hk⟩

/-- An iterator that yields N times, Gd what it yields the i-th time; of what lay when it was made it leans on nothing but what a round keeps. -/
def SeqGo (F : Fence) (n : Nat) (P : Program) (g : Nat) (lb : Array Value) (T : Nat → Prop) (B N : Nat) (Gd : Nat → Array Value → World → Prop) (w : World) : Prop :=
  ∀ (l : Nat) (J : Nat → World → Prop) (W : World), Stays T B w W → (∀ i X Y, J i X → Below X.heap.size X Y → J i Y) →
    (∀ i vs W1, i < N → J i W1 → Gd i vs W1 → YieldAt F (n - 1) P l vs W1 fun e W' => e = .returned (.bool true) ∧ J (i + 1) W' ∧ Stays T B W1 W') →
    J 0 W → CallsIn F n P g (#[.func (.yield l) #[] #[]] ++ lb) W fun e W' => (∃ v, e = .returned v) ∧ J N W'

def seqPost (T : Nat → Prop) (B : Nat) (I : Nat → World → Prop) (j : Nat) (W : World) : Exit → Act → World → Prop
  | .normal, _, W' => KeepsOthers W W' ∧ Stays T B W W' ∧ I j W'
  | _, _, _ => False

variable {F : Fence} {n : Nat} {P : Program}

theorem wpIn_range_seq {g : Operand} {ps : Array Tmp} {assign body : Code} {Q : Exit → Act → World → Prop} {a : Act} {w : World}
    (hro : F.round = none) (h1 : 1 ≤ n) {gf : Nat} {lb : Array Value} (hg : a.eval g = .func (.func gf) #[] lb) (hFg : F.fn gf) (eg : ∀ args w, (callFunc gf args).run P w = .ok (.enter gf args) w)
    {T : Nat → Prop} {B N : Nat} {Gd : Nat → Array Value → World → Prop} (hseq : SeqGo F (n - 1) P gf lb T B N Gd w) (hB : B ≤ w.heap.size)
    (hps : ∀ i vs W, Gd i vs W → vs.size = ps.size)
    (hGd : ∀ i vs W l o o', Gd i vs W → W.heap[l]? = some o → o.isCells = false → Gd i vs (W.putObj l o'))
    (I : Nat → World → Prop) (hIb : ∀ i X Y, I i X → Below X.heap.size X Y → I i Y) (hIp : ∀ i X l o o', I i X → w.heap.size ≤ l → X.heap[l]? = some o → o.isCells = false → I i (X.putObj l o')) (h0 : I 0 w)
    (hround : ∀ l i vs W, i < N → I i W → Gd i vs W → ∃ a₁ : Act,
      (∀ K : Act → World → Prop, K a₁ W → assign.wpIn (F.inRound l) (n - 1 - 1) P (Exit.then K (fun _ _ _ => False)) { tmps := (ps.zip vs).foldl (fun t (p, v) => t.setIfInBounds p v) a.tmps, defers := [] } W) ∧
      ∀ W2, I i W2 → Gd i vs W2 → w.heap.size ≤ W2.heap.size → body.wpIn (F.inRound l) (n - 1 - 1) P (seqPost T B I (i + 1) W2) a₁ W2)
    (hdone : ∀ (D : Nat) (W : World), w.heap.size ≤ D → I N W → W.heap[D]? = some (.deferred (some [])) → Q .normal { a with defers := { target := .collected D, args := #[] } :: a.defers } W) :
    (Code.rangeFunc g ps assign body).wpIn F n P Q a w := by
  refine wpIn_rangeFunc ?_
  intro fn hfn
  rw [hro]
  obtain ⟨rec, hrec⟩ : ∃ rec : LoopState → Option Code → Loop, rec = fun st pe => { state := st, pending := pe, fn, tmps := a.tmps, params := ps, assign, body, defers := w.heap.size } := ⟨_, rfl⟩
  obtain ⟨W1, hW1⟩ : ∃ W1, (w.alloc (.deferred (some []))).alloc (.loop (rec .ready none)) = W1 := ⟨_, rfl⟩
  have hbW : Below w.heap.size w W1 := by
    rw [← hW1]; exact ((Below.refl _ w).alloc (Nat.le_refl _) _).alloc (by simp) _
  have hL1 : W1.heap[w.heap.size + 1]? = some (.loop (rec .ready none)) := by
    rw [← hW1]; have := World.alloc_heap_new (w.alloc (.deferred (some []))) (.loop (rec .ready none)); rwa [World.size_alloc] at this
  have hK1 : W1.heap[w.heap.size]? = some (.deferred (some [])) := by
    rw [← hW1]; exact (Below.heap_alloc _ _ _ (by simp)).trans (World.alloc_heap_new w _)
  have hI1 : I 0 W1 := hIb _ _ _ h0 hbW
  refine ⟨w.heap.size + 1, [{ target := .collected w.heap.size, args := #[] }], W1, { target := .fn (.func gf) lb, args := #[.func (.yield (w.heap.size + 1)) #[] #[]] }, W1, gf,
    #[.func (.yield (w.heap.size + 1)) #[] #[]] ++ lb, W1, ?_, ?_, ?_, ?_, fun _ => h1, ?_⟩
  · rw [← hW1, hrec]; exact run_enterLoop_outer _ _ _ _ _
  · simp only [resolve, hg]
    simp [go_sem]
  · intro f' hf'; simp [Target.leads] at hf'; subst hf'; exact hFg
  · simp [invoke, go_sem, eg]
  · refine (hseq (w.heap.size + 1) (fun i W => I i W ∧ W.heap[w.heap.size + 1]? = some (.loop (rec .ready none)) ∧ W.heap[w.heap.size]? = some (.deferred (some []))) W1
      (Stays.below hbW hB) (fun i X Y hs hb => ⟨hIb _ _ _ hs.1 hb, (hb.block _ (Array.getElem?_eq_some_iff.1 hs.2.1).1).trans hs.2.1, (hb.block _ (Array.getElem?_eq_some_iff.1 hs.2.2).1).trans hs.2.2⟩) ?_ ⟨hI1, hL1, hK1⟩).mono ?_
    · rintro i vs W hiN ⟨hi, hl, hk⟩ hgd
      have hlt : w.heap.size + 1 < W.heap.size := (Array.getElem?_eq_some_iff.1 hl).1
      have hy := run_yield (P := P) (args := vs) hl (by rw [hrec]; exact hps i vs W hgd)
      rw [hrec] at hy
      obtain ⟨a₁, hassign, hbody⟩ := hround (w.heap.size + 1) i vs W hiN hi hgd
      refine ⟨fn, _, assign, body, hy, roundIn_of_wpIn hfn (hassign _ ⟨_, run_beginRound hl (by rw [hrec]), ?_⟩)⟩
      have hl2 : (W.putObj (w.heap.size + 1) (.loop { rec .ready none with state := .busy })).heap[w.heap.size + 1]? = some (.loop { rec .ready none with state := .busy }) := World.putObj_heap_same hlt
      have hk2 : (W.putObj (w.heap.size + 1) (.loop { rec .ready none with state := .busy })).heap[w.heap.size]? = some (.deferred (some [])) := (World.putObj_heap_other (by omega)).trans hk
      refine wpIn_mono (hbody _ (hIp _ _ _ _ _ hi (by omega) hl rfl) (hGd _ _ _ _ _ _ hgd hl rfl) (by simp; omega)) ?_
      rintro e a3 W3 hp
      cases e with
      | normal =>
        obtain ⟨hk3, hs3, hi3⟩ := hp
        have hl3 := hk3.same _ _ hl2 rfl
        have hr := run_endRound (P := P) none hl3
        rw [hrec] at hr
        refine ⟨_, _, hr, rfl, ⟨?_, ?_, ?_⟩, ?_⟩
        · exact hIp _ _ _ _ _ hi3 (by omega) hl3 rfl
        · rw [hrec]; exact World.putObj_heap_same (Array.getElem?_eq_some_iff.1 hl3).1
        · exact (World.putObj_heap_other (by omega)).trans (hk3.same _ _ hk2 rfl)
        · exact ((Stays.putObj _ (by omega)).trans hs3).trans (Stays.putObj _ (by omega))
      | ret => exact hp.elim
      | exit id => exact hp.elim
      | goto t => exact hp.elim
      | panic ch => exact hp.elim
      | outgrown => exact hp.elim
    · rintro e W2 ⟨⟨v, rfl⟩, hi, hl, hk⟩
      exact ⟨none, _, by have := run_endLoop (P := P) hl (by rw [hrec]; simp); rw [hrec] at this; exact this, hdone _ _ (Nat.le_refl _) (hIp _ _ _ _ _ hi (by omega) hl rfl) ((World.putObj_heap_other (by omega)).trans hk)⟩

end Go.Proofs.Ytpoppdaaodmicaa.Q

/- block.windows (76) and its closure (107): the contracts by hand. -/
namespace Go.Proofs.Ytpoppdaaodmicaa.Q
open Go.RowKit Go.Shelf Go.Proofs.YtpoppdaaodmicaaW.PrintWords Go.Proofs.YtpoppdaaodmicaaW.PrintLast Go.Proofs.YtpoppdaaodmicaaW.PrintMore
attribute [local go_sem] Oper.semAt_some
set_option linter.unusedVariables false
set_option linter.unusedSimpArgs false

/-- What a round is handed: where the window lies, and its values, which may be read. -/
def Gd2 (pos : Nat → Int) (val : Nat → List Int) (i : Nat) (vs : Array Value) (W : World) : Prop :=
  ∃ A c, vs = #[.int .i64 (pos i), .slice A (val i).length c] ∧ Kd.C (Kd.int .i64) W A (val i).length (val i) ∧ (val i).length ≤ c

/-- An append whose run is known, in a fence. -/
theorem wpListIn_append_run {F : Fence} {n : Nat} {P : Program} {w w' : World} {ops : Array Oper} {rest : List Oper} {o : Oper} {a : Act} {Q : Exit → Act → World → Prop}
    (hg : o.guard = none) (s x : Operand) (t : TypeId) (hop : o.op = Op.call { callee := Callee.builtin Builtin.append, args := #[s, x], argTypes := #[t, t] })
    (v1 v2 v' : Value) (hs : a.eval s = v1) (hx : a.eval x = v2) (hrun : (Builtin.append_ #[t, t] o.type #[v1, v2]).run P w = .ok v' w') (hK : wpListIn F n P ops Q rest (a.put o.dst v') w') :
    wpListIn F n P ops Q (o :: rest) a w := by
  refine wpListIn_plain hg fun K hK' => ?_
  unfold Oper.wpIn
  refine ⟨?_, ?_⟩
  · simp [Oper.about, hop, resolve, Target.leads, Sem.run_pure]
  · rw [Oper.semAt_plain F _ _ (by rw [hop]; intro c hc'; cases hc')]
    simp [execOp, hop, resolve, invoke, builtin, hs, hx, hrun, Result.andThen]
    exact hK' _ _ hK
/-- append onto a slice without spare room: new memory, of which all may be read. -/
theorem append_grows (w : World) {A1 A2 : Option Addr} {xs ys : List Int} {c : Nat} (h1 : Kd.C (Kd.int .i64) w A1 xs.length xs) (h2 : Kd.C (Kd.int .i64) w A2 ys.length ys) (p1 : 0 < xs.length) (p2 : 0 < ys.length) (hl : xs.length ≤ 1000 ∧ ys.length ≤ 1000) :
    ∃ v' w', (Builtin.append_ #[29, 29] 29 #[.slice A1 xs.length xs.length, .slice A2 ys.length c]).run Try.prog w = .ok v' w' ∧ Kd.R (Kd.int .i64) 3 w' w.heap.size (fun _ => True) v' (xs ++ ys) ∧ Below w.heap.size w w' := by
  obtain ⟨i0, hi, hz0, hz1, hz2⟩ := info_parts info3
  have cells : ∀ {A : Option Addr} {zs : List Int}, Kd.C (Kd.int .i64) w A zs.length zs → 0 < zs.length → ∃ ad, A = some ad ∧ ∀ j u, (encs (Value.int .i64) zs)[j]? = some u → w.cell? (ad.add j) = some u := by
    intro A zs h p
    obtain ⟨ad, rfl, hc⟩ := h.2.2 p
    refine ⟨ad, rfl, fun j u hj => ?_⟩
    simp only [encs, List.getElem?_map, Option.map_eq_some_iff] at hj
    obtain ⟨x, hx, rfl⟩ := hj
    obtain ⟨c, _, hk, hcell⟩ := hc j x hx
    have hk' : c = [Value.int .i64 x] := hk
    have := hcell 0 (.int .i64 x) (by rw [hk']; rfl)
    have hs : (Kd.int .i64).sz = 1 := rfl
    rw [hs, Nat.mul_one, Nat.add_zero] at this
    exact this
  obtain ⟨ad1, rfl, g1⟩ := cells h1 p1
  obtain ⟨ad2, rfl, g2⟩ := cells h2 p2
  obtain ⟨v', w', hrun, hown, hg⟩ := run_append_arg_grows (P := Try.prog) w 29 29 3 i0 (.int .i64 0) 1 8 Try.underlying29 hi hz0 hz1 hz2 rfl (by decide) ad1 xs.length xs.length (encs (Value.int .i64) xs) (by simp [encs]) g1 ad2 ys.length c (encs (Value.int .i64) ys) (by simp [encs]) g2 (by omega) (by simp [maxLen]; omega) (by omega)
  refine ⟨v', w', hrun, ?_, ?_⟩
  · refine Kd.R_of_own (enc := Value.int .i64) ?_ (fun _ _ => trivial)
    rw [List.length_append]
    have : encs (Value.int .i64) (xs ++ ys) = encs (Value.int .i64) xs ++ encs (Value.int .i64) ys := by simp [encs]
    rw [this]
    exact hown
  · exact (Below.refl _ _).grown hg (Nat.le_refl _) (fun k e => by cases e)

set_option maxHeartbeats 1000000 in
theorem windows.calls (a0 a1 a2 : Int) (w : World) :
    Calls Try.prog 76 #[.int .u8 a0, .int .u8 a1, .int .u8 a2] w fun e w' => e = .returned (.func (.func 107) #[] #[.pointer (some ⟨w.heap.size, 0, none⟩), .pointer (some ⟨w.heap.size + 1, 0, none⟩), .pointer (some ⟨w.heap.size + 1 + 1, 0, none⟩)]) ∧
      w' = ((w.alloc (.cells #[.int .u8 a0] 5)).alloc (.cells #[.int .u8 a1] 5)).alloc (.cells #[.int .u8 a2] 5) := by
  go_enter Try.func76, Try.ntmps76
  go_wp2_with fail
  go_ret
  exact ⟨rfl, rfl⟩

set_option maxRecDepth 100000 in
set_option maxHeartbeats 1000000 in
theorem windows_one (n : Nat) (hn : 3 ≤ n) (B1 B2 B3 : Nat) (a0 a1 a2 : Int) (L : List Int) (hf : block_Window.f 3000 a0 a1 a2 = some (L, 0)) (h2 : a0 ≠ 2) (T : Nat → Prop) (w : World) (h1 : B1 < w.heap.size ∧ B2 < w.heap.size ∧ B3 < w.heap.size) (hT : ¬ T B1 ∧ ¬ T B2 ∧ ¬ T B3)
    (c1 : w.cell? ⟨B1, 0, none⟩ = some (.int .u8 a0)) (c2 : w.cell? ⟨B2, 0, none⟩ = some (.int .u8 a1)) (c3 : w.cell? ⟨B3, 0, none⟩ = some (.int .u8 a2)) :
    SeqGo Fence.wide n Try.prog 107 #[.pointer (some ⟨B1, 0, none⟩), .pointer (some ⟨B2, 0, none⟩), .pointer (some ⟨B3, 0, none⟩)] T w.heap.size 1 (Gd2 (fun _ => 0) (fun _ => L)) w := by
  intro l J W hW hJ hY h0
  have d1 := (hW.cell (p := ⟨B1, 0, none⟩) h1.1 hT.1).trans c1
  have d2 := (hW.cell (p := ⟨B2, 0, none⟩) h1.2.1 hT.2.1).trans c2
  have d3 := (hW.cell (p := ⟨B3, 0, none⟩) h1.2.2 hT.2.2).trans c3
  have hne : (a0 != 2) = true := bne_iff_ne.mpr h2
  have HC := Lib.hid (block_Window.calls 3000 a0 a1 a2 L 0 W hf)
  have HY := Lib.hid hY
  have HJ := Lib.hid hJ
  have H0 := Lib.hid h0
  have HW := Lib.hid hW
  clear hY hJ h0 hW hf h2 h1 hT c1 c2 c3
  refine callsIn_of_wp Try.func107 rfl trivial ?_ rfl
  simp only [Try.ntmps107, List.size_toArray, List.length_cons, List.length_nil, Nat.reduceAdd, Nat.reduceSub, Array.replicate_succ, Array.replicate_zero, List.push_toArray, List.append_toArray, List.nil_append, List.cons_append]
  gi_wp2_with fail
  refine ⟨trivial, fun _ => by omega, (callsIn_wide.2 HC.out).mono ?_⟩
  rintro e w1 ⟨v, rfl, hv, hb⟩
  obtain ⟨A, c, rfl, hc, hr⟩ := Kd.R_reads hv
  obtain ⟨fn, tmps, assign, body, hy, hR⟩ := HY.out 0 #[.int .i64 0, .slice A L.length c] w1 (by omega) (HJ.out _ _ _ H0.out hb) ⟨A, c, rfl, hr, hc⟩
  have HR := Lib.hid hR
  clear hv hb hr hR hc
  gi_wp2_with fail
  refine ⟨fun _ => by omega, HR.out.mono ?_⟩
  rintro e W2 ⟨rfl, hJ2, hk2⟩
  have HJ2 := Lib.hid hJ2
  clear hJ2 hk2 hy
  gi_wp2_with fail
  refine bodyPost_ret (results_none rfl _ _ _) rfl ?_
  exact ⟨⟨_, rfl⟩, HJ2.out⟩

set_option maxRecDepth 100000 in
set_option maxHeartbeats 4000000 in
theorem windows_eight (n : Nat) (hn : 3 ≤ n) (B1 B2 B3 : Nat) (a1 a2 : Int) (L1 L2 L3 : List Int) (hf1 : block_half.f a1 true = some L1) (hf2 : block_half.f a2 true = some L2) (hf3 : block_fall.f 3000 a2 true = some L3) (hl : (0 < L1.length ∧ 0 < L2.length ∧ 0 < L3.length) ∧ L1.length ≤ 1000 ∧ L2.length ≤ 1000 ∧ L3.length ≤ 900) (T : Nat → Prop) (w : World) (h1 : B1 < w.heap.size ∧ B2 < w.heap.size ∧ B3 < w.heap.size) (hT : ¬ T B1 ∧ ¬ T B2 ∧ ¬ T B3)
    (c1 : w.cell? ⟨B1, 0, none⟩ = some (.int .u8 2)) (c2 : w.cell? ⟨B2, 0, none⟩ = some (.int .u8 a1)) (c3 : w.cell? ⟨B3, 0, none⟩ = some (.int .u8 a2)) :
    SeqGo Fence.wide n Try.prog 107 #[.pointer (some ⟨B1, 0, none⟩), .pointer (some ⟨B2, 0, none⟩), .pointer (some ⟨B3, 0, none⟩)] T w.heap.size 8 (Gd2 (fun i => 112 + 32 * (i : Int)) (fun i => (if i = 0 then L1 else L2) ++ L3)) w := by
  intro l J W hW hJ hY h0
  have d1 := (hW.cell (p := ⟨B1, 0, none⟩) h1.1 hT.1).trans c1
  have d2 := (hW.cell (p := ⟨B2, 0, none⟩) h1.2.1 hT.2.1).trans c2
  have d3 := (hW.cell (p := ⟨B3, 0, none⟩) h1.2.2 hT.2.2).trans c3
  have HD := Lib.hid (fun W' (h : Stays T w.heap.size W W') => (h.cell (p := ⟨B3, 0, none⟩) h1.2.2 hT.2.2).trans d3)
  have hs := hW.1
  have HC1 := Lib.hid (block_half.capped a1 true L1 W hf1)
  have HC2 := Lib.hid (fun W' => block_half.capped a2 true L2 W' hf2)
  have HC3 := Lib.hid (fun W' => block_fall.calls 3000 a2 true L3 W' hf3)
  have HY := Lib.hid hY
  have HJ := Lib.hid hJ
  have H0 := Lib.hid h0
  have HL := Lib.hid hl
  clear hY hJ h0 hW hf1 hf2 hf3 h1 hT c1 c2 c3 d3 hl
  refine callsIn_of_wp Try.func107 rfl trivial ?_ rfl
  simp only [Try.ntmps107, List.size_toArray, List.length_cons, List.length_nil, Nat.reduceAdd, Nat.reduceSub, Array.replicate_succ, Array.replicate_zero, List.push_toArray, List.append_toArray, List.nil_append, List.cons_append]
  gi_wp2_with fail
  refine ⟨trivial, fun _ => by omega, (callsIn_wide.2 HC1.out).mono ?_⟩
  rintro e w1 ⟨A, rfl, hv, hb⟩
  have HV := Lib.hid (Kd.R_reads' hv).2.2
  have HS := Lib.hid (Stays.below (T := T) hb hs)
  have HJ1 := Lib.hid (HJ.out _ _ _ H0.out hb)
  clear hv hb d1 d2
  gi_wp2_with fail
  gi_loopw [7, 23] (fun v7 v23 wr => ∃ (i : Nat) (A : Option Addr) (X : List Int), i ≤ 8 ∧ v23 = .int .i64 (i : Int) ∧ v7 = .slice A X.length X.length ∧ Hid (X = if i = 0 then L1 else L2) ∧ Hid (Kd.C (Kd.int .i64) wr A X.length X) ∧ Hid (Stays T w.heap.size W wr) ∧ Hid (J i wr)) (fun v7 v23 wr => (8 - intOf v23).toNat)
  case atStart => exact ⟨0, A, L1, by omega, rfl, rfl, Lib.hid rfl, HV, HS, HJ1⟩
  case round =>
    obtain ⟨i, A, X, hi, rfl, rfl, HX, HVi, HSi, HJi⟩ := hrel
    by_cases hlt : i < 8
    · have d3 := HD.out _ HSi.out
      have HC3i := Lib.hid (HC3.out wr)
      have hw1 : wrap64 (32 * (i : Int)) = 32 * (i : Int) := by unfold wrap64; omega
      have hw2 : wrap64 (112 + 32 * (i : Int)) = 112 + 32 * (i : Int) := by unfold wrap64; omega
      have hw3 : wrap64 ((i : Int) + 1) = (i : Int) + 1 := by unfold wrap64; omega
      gi_wp2_with fail
      refine ⟨trivial, fun _ => by omega, (callsIn_wide.2 HC3i.out).mono ?_⟩
      rintro e w3 ⟨v3, rfl, hv3, hb3⟩
      obtain ⟨A3, c3, rfl, hc3, hr3⟩ := Kd.R_reads hv3
      have hX : (0 < X.length ∧ X.length ≤ 1000) := by
        have hh := HL.out
        rw [HX.out]
        split
        · exact ⟨hh.1.1, hh.2.1⟩
        · exact ⟨hh.1.2.1, hh.2.2.1⟩
      obtain ⟨v4, w4, hrun, hR4, hb4⟩ := append_grows w3 (c := c3) (Kd.C_below HVi.out hb3) hr3 hX.1 HL.out.1.2.2 ⟨hX.2, by have := HL.out; omega⟩
      obtain ⟨A4, c4, rfl, hc4, hr4⟩ := Kd.R_reads hR4
      have hb34 : Below wr.heap.size wr w4 := hb3.trans (hb4.mono hb3.size)
      obtain ⟨fn, tmps, assign, body, hy, hR⟩ := HY.out i #[.int .i64 (112 + 32 * (i : Int)), .slice A4 (X ++ L3).length c4] w4 hlt (HJ.out _ _ _ HJi.out hb34)
        ⟨A4, c4, by dsimp only; rw [← HX.out], by dsimp only; rw [← HX.out]; exact hr4, by dsimp only; rw [← HX.out]; exact hc4⟩
      rw [List.length_append] at hy hrun
      have HR := Lib.hid hR
      have HRUN := Lib.hid hrun
      have HS4 := Lib.hid (HSi.out.trans (Stays.below (T := T) hb34 (Nat.le_trans hs HSi.out.1)))
      clear hv3 hb3 hr3 hR4 hb4 hr4 hb34 hR hc3 hc4 d3 hX hrun
      gi_wp2_with (gi_at_builtin; refine wpListIn_append_run rfl _ _ _ rfl _ _ _ rfl rfl HRUN.out ?_)
      refine ⟨fun _ => by omega, HR.out.mono ?_⟩
      rintro e w5 ⟨rfl, hJ5, hs5⟩
      have HS5 := Lib.hid (HS4.out.trans hs5)
      have HJ5 := Lib.hid hJ5
      have d5 := HD.out _ HS5.out
      have HC2i := Lib.hid (HC2.out w5)
      clear hJ5 hs5 hy hw1 hw2
      gi_wp2_with fail
      refine ⟨trivial, fun _ => by omega, (callsIn_wide.2 HC2i.out).mono ?_⟩
      rintro e w6 ⟨A6, rfl, hv6, hb6⟩
      have HV6 := Lib.hid (Kd.R_reads' hv6).2.2
      have HS6 := Lib.hid (HS5.out.trans (Stays.below (T := T) hb6 (Nat.le_trans hs HS5.out.1)))
      have HJ6 := Lib.hid (HJ.out _ _ _ HJ5.out hb6)
      clear hv6 hb6 d5
      gi_wp2_with fail
      go_roundw
      case rel => exact ⟨i + 1, A6, L2, by omega, by rw [Int.natCast_add]; rfl, rfl, Lib.hid (by rw [if_neg (by omega)]), HV6, HS6, HJ6⟩
      case measure => simp [intOf]; omega
    · obtain rfl : i = 8 := by omega
      gi_wp2_with fail
      go_end0
      exact ⟨⟨_, rfl⟩, HJi.out⟩

end Go.Proofs.Ytpoppdaaodmicaa.Q

/- block.Analyse (42): the contract by hand. -/
namespace Go.Proofs.Ytpoppdaaodmicaa.Q
open Go.RowKit Go.Shelf Go.Proofs.YtpoppdaaodmicaaW.PrintWords Go.Proofs.YtpoppdaaodmicaaW.PrintLast Go.Proofs.YtpoppdaaodmicaaW.PrintMore
attribute [local go_sem] Oper.semAt_some
set_option linter.unusedVariables false
set_option linter.unusedSimpArgs false

/-! ### what lies as it lay, where a block that is no cells is turned -/
theorem C_putObj {W : World} {A : Option Addr} {n : Nat} {xs : List Int} {l : Nat} {o : Obj} (o' : Obj) (h : Kd.C (Kd.int .i64) W A n xs) (hl : W.heap[l]? = some o) (ho : o.isCells = false) : Kd.C (Kd.int .i64) (W.putObj l o') A n xs := by
  refine ⟨h.1, h.2.1, fun hn => ?_⟩
  obtain ⟨ad, ha, hc⟩ := h.2.2 hn
  refine ⟨ad, ha, fun j p hj => ?_⟩
  obtain ⟨c, h1, h2, h3⟩ := hc j p hj
  exact ⟨c, h1, h2, fun i u hi => cell_kept (h3 i u hi) (grownBy_putObj' W l o') (fun r e => by cases e; exact ⟨o, hl, ho⟩)⟩
theorem R_putObj {W : World} {base : Nat} {ok : Nat → Prop} {v : Value} {xs : List Int} {l : Nat} {o : Obj} (o' : Obj) (h : Kd.R (Kd.int .i64) 3 W base ok v xs) (hl : W.heap[l]? = some o) (ho : o.isCells = false) : Kd.R (Kd.int .i64) 3 (W.putObj l o') base ok v xs := by
  refine Kd.R_mono (Kd.R_move (Kd.R_bound h) (fun k hk => World.putObj_heap_other ?_)) (fun _ hk => hk.1)
  rintro rfl
  obtain ⟨_, _, _, q, _, cells, hc⟩ := hk
  rw [hl] at hc
  cases hc
  cases ho
theorem Boxed_putObj {W : World} {B : Nat} {t : TypeId} {v : Value} {l : Nat} (o' : Obj) (h : Boxed W B t v) (hne : B ≠ l) : Boxed (W.putObj l o') B t v := (World.putObj_heap_other hne).trans h
theorem Boxed_below {W W' : World} {B : Nat} {t : TypeId} {v : Value} (h : Boxed W B t v) (hb : Below W.heap.size W W') : Boxed W' B t v := (hb.block B h.lt).trans h
theorem Below_putObj {w W : World} {l : Nat} (o' : Obj) (h : Below w.heap.size w W) (hl : w.heap.size ≤ l) : Below w.heap.size w (W.putObj l o') := h.grown (grownBy_putObj' W l o') h.size (fun k e => by cases e; exact hl)
theorem gd2_put (pos : Nat → Int) (val : Nat → List Int) : ∀ i vs W l o o', Gd2 pos val i vs W → W.heap[l]? = some o → o.isCells = false → Gd2 pos val i vs (W.putObj l o') := by
  rintro i vs W l o o' ⟨A, c, h1, h2, h3⟩ hl ho
  exact ⟨A, c, h1, C_putObj o' h2 hl ho, h3⟩

/-! ### append onto a row of one's own -/
theorem append_owns (w : World) {v : Value} {base : Nat} {ok : Nat → Prop} {A2 : Option Addr} {xs ys : List Int} {c : Nat} (h1 : Kd.R (Kd.int .i64) 3 w base ok v xs) (h2 : Kd.C (Kd.int .i64) w A2 ys.length ys) (p2 : 0 < ys.length) (hl : xs.length ≤ 1000 ∧ ys.length ≤ 1000) (hb : base ≤ w.heap.size) :
    ∃ A' c' w', (Builtin.append_ #[29, 29] 29 #[v, .slice A2 ys.length c]).run Try.prog w = .ok (.slice A' (xs.length + ys.length) c') w' ∧ Kd.R (Kd.int .i64) 3 w' base (fun _ => True) (.slice A' (xs.length + ys.length) c') (xs ++ ys) ∧ w.grownBy w' v.ownBlock := by
  obtain ⟨i0, hi, hz0, hz1, hz2⟩ := info_parts info3
  obtain ⟨ad, rfl, hc⟩ := h2.2.2 p2
  have g2 : ∀ j u, (encs (Value.int .i64) ys)[j]? = some u → w.cell? (ad.add j) = some u := by
    intro j u hj
    simp only [encs, List.getElem?_map, Option.map_eq_some_iff] at hj
    obtain ⟨x, hx, rfl⟩ := hj
    obtain ⟨c, _, hk, hcell⟩ := hc j x hx
    have hk' : c = [Value.int .i64 x] := hk
    have := hcell 0 (.int .i64 x) (by rw [hk']; rfl)
    have hs : (Kd.int .i64).sz = 1 := rfl
    rw [hs, Nat.mul_one, Nat.add_zero] at this
    exact this
  have ho : w.ownsRow base 3 1 v xs.length (encs (Value.int .i64) xs) := Kd.own_of_R h1
  obtain ⟨v', w', hrun, hown, hg, _⟩ := run_append_own (P := Try.prog) w base 29 29 3 i0 (.int .i64 0) 1 8 Try.underlying29 hi hz0 hz1 hz2 rfl (by decide) v xs.length (encs (Value.int .i64) xs) ho ad ys.length c (encs (Value.int .i64) ys) (by simp [encs]) g2 (fun u hu => by simp only [encs, List.mem_map] at hu; obtain ⟨x, _, rfl⟩ := hu; rfl) (by simp [maxLen]; omega) (by omega) hb
  have hR : Kd.R (Kd.int .i64) 3 w' base (fun _ => True) v' (xs ++ ys) := by
    refine Kd.R_of_own (enc := Value.int .i64) ?_ (fun _ _ => trivial)
    rw [List.length_append]
    have : encs (Value.int .i64) (xs ++ ys) = encs (Value.int .i64) xs ++ encs (Value.int .i64) ys := by simp [encs]
    rw [this]
    exact hown
  obtain ⟨A', c', e⟩ := Kd.R_slice hR
  rw [List.length_append] at e
  subst e
  exact ⟨A', c', w', hrun, hR, hg⟩

/-- Two results that lie in plain cells. -/
theorem results_pp {fn : Func} {p p' : Tmp} (h : fn.results = #[.cell p 29, .cell p' 32]) (tmps : Array Value) (w : World) (a a' : Addr) (v v' : Value)
    (hp : tmps.getD p undef = .pointer (some a)) (hp' : tmps.getD p' undef = .pointer (some a')) (hc : w.cell? a = some v) (hc' : w.cell? a' = some v') :
    (results fn tmps).run Try.prog w = .ok (.tuple #[v, v']) w := by
  have h1 : tmps[p]?.getD undef = .pointer (some a) := by simpa using hp
  have h2 : tmps[p']?.getD undef = .pointer (some a') := by simpa using hp'
  simp [results, h, h1, h2, asAddr, go_sem, hc, hc', run_underlying Try.underlying29, run_underlying Try.underlying32]

end Go.Proofs.Ytpoppdaaodmicaa.Q

/- block.Analyse (42): what it answers, and the contract. -/
namespace Go.Proofs.Ytpoppdaaodmicaa.Q
open Go.RowKit Go.Shelf Go.Proofs.YtpoppdaaodmicaaW.PrintWords Go.Proofs.YtpoppdaaodmicaaW.PrintLast Go.Proofs.YtpoppdaaodmicaaW.PrintMore
set_option linter.unusedVariables false
set_option linter.unusedSimpArgs false

end Go.Proofs.Ytpoppdaaodmicaa.Q
