-- Several functions' contracts in one text.
import Derived.RangeFuncNested
import Derived.RangeFuncBound
import Derived.RangeFuncCalls
import Derived.RangeFuncLeaves
import Derived.RangeFuncBox
import Derived.Test.YtpoppdaaodmicaaBBlock
import Derived.Shelf.Abstract
import Derived.Shelf.RegionOpen
import Derived.WalkKit
import Derived.OwnWalkIn
import Derived.TacticsInMore
import Derived.LoopNIn
import Derived.LoopIn
import Derived.Lib.Hide
import Derived.ArgAppend
import Derived.Test.YtpoppdaaodmicaaBMdct
import Derived.Test.YtpoppdaaodmicaaBAsked
/- /- A range over a function whose rounds read the memory that the iterator lays for them: a law, over the kit's 'wpIn_rangeFunc'. The rounds are numbered; none leaves early. -/ -/
namespace Go.Proofs.Ytpoppdaaodmicaa.Q
open Go Go.RowKit

/-- What lies below B stays as it is, but for the blocks T. -/
def Stays (T : Nat → Prop) (B : Nat) (W W' : World) : Prop := W.heap.size ≤ W'.heap.size ∧ ∀ k, k < B → ¬ T k → W'.heap[k]? = W.heap[k]?
section
variable {T : Nat → Prop} {B : Nat} {W W' W'' : World}
theorem Stays.refl (T : Nat → Prop) (B : Nat) (W : World) : Stays T B W W := ⟨Nat.le_refl _, fun _ _ _ => rfl⟩
theorem Stays.trans (h : Stays T B W W') (h' : Stays T B W' W'') : Stays T B W W'' := ⟨Nat.le_trans h.1 h'.1, fun k hk ht => (h'.2 k hk ht).trans (h.2 k hk ht)⟩
theorem Stays.below (h : Below W.heap.size W W') (hB : B ≤ W.heap.size) : Stays T B W W' := ⟨h.size, fun k hk _ => h.block k (by omega)⟩
theorem Stays.putObj {l : Nat} (o : Obj) (hl : B ≤ l) : Stays T B W (W.putObj l o) := ⟨by simp, fun k hk _ => World.putObj_heap_other (by omega)⟩
theorem Stays.setCell {a : Addr} (v : Value) (h : T a.block ∨ B ≤ a.block) : Stays T B W (W.setCell a v) := ⟨(KeepsWalks.setCell W a v).size, fun k hk ht => Below.heap_setCell W a v k (fun e => h.elim (fun h => ht (e ▸ h)) (fun h => by omega))⟩
theorem Stays.grown {row : Option Nat} (h : W.grownBy W' row) (hB : B ≤ W.heap.size) (hr : ∀ k, row = some k → T k ∨ B ≤ k) : Stays T B W W' := ⟨h.size, fun k hk ht => h.block k (by omega) (fun e => (hr k e.symm).elim (fun h => ht h) (fun h => by omega))⟩
theorem Stays.cell (h : Stays T B W W') {p : Addr} (hp : p.block < B) (ht : ¬ T p.block) : W'.cell? p = W.cell? p := World.cell?_of_block (h.2 _ hp ht)
end
theorem KeepsOthers.of_below {W W' : World} (h : Below W.heap.size W W') : KeepsOthers W W' := ⟨h.size, fun k _ hk _ => (h.block k (Array.getElem?_eq_some_iff.1 hk).1).trans hk⟩

/-- An iterator that yields N times, Gd what it yields the i-th time; of what lay when it was made it leans on nothing but what a round keeps. -/
def SeqGo (F : Fence) (n : Nat) (P : Program) (g : Nat) (lb : Array Value) (T : Nat → Prop) (B N : Nat) (Gd : Nat → Array Value → World → Prop) (w : World) : Prop :=
  ∀ (l : Nat) (J : Nat → World → Prop) (W : World), Stays T B w W → (∀ i X Y, J i X → Below X.heap.size X Y → J i Y) →
    (∀ i vs W1, i < N → J i W1 → Gd i vs W1 → YieldAt F (n - 1) P l vs W1 fun e W' => e = .returned (.bool true) ∧ J (i + 1) W' ∧ Stays T B W1 W') →
    J 0 W → CallsIn F n P g (#[.func (.yield l) #[] #[]] ++ lb) W fun e W' => (∃ v, e = .returned v) ∧ J N W'

def seqPost (T : Nat → Prop) (B : Nat) (I : Nat → World → Prop) (j : Nat) (W : World) : Exit → Act → World → Prop
  | .normal, _, W' => KeepsOthers W W' ∧ Stays T B W W' ∧ I j W'
  | _, _, _ => False

variable {F : Fence} {n : Nat} {P : Program}

theorem wpIn_range_seq {g : Operand} {ps : Array Tmp} {assign body : Code} {Q : Exit → Act → World → Prop} {a : Act} {w : World}
    (hro : F.round = none) (h1 : 1 ≤ n) {gf : Nat} {lb : Array Value} (hg : a.eval g = .func (.func gf) #[] lb) (hFg : F.fn gf) (eg : ∀ args w, (callFunc gf args).run P w = .ok (.enter gf args) w)
    {T : Nat → Prop} {B N : Nat} {Gd : Nat → Array Value → World → Prop} (hseq : SeqGo F (n - 1) P gf lb T B N Gd w) (hB : B ≤ w.heap.size)
    (hps : ∀ i vs W, Gd i vs W → vs.size = ps.size)
    (hGd : ∀ i vs W l o o', Gd i vs W → W.heap[l]? = some o → o.isCells = false → Gd i vs (W.putObj l o'))
    (I : Nat → World → Prop) (hIb : ∀ i X Y, I i X → Below X.heap.size X Y → I i Y) (hIp : ∀ i X l o o', I i X → w.heap.size ≤ l → X.heap[l]? = some o → o.isCells = false → I i (X.putObj l o')) (h0 : I 0 w)
    (hround : ∀ l i vs W, i < N → I i W → Gd i vs W → ∃ a₁ : Act,
      (∀ K : Act → World → Prop, K a₁ W → assign.wpIn (F.inRound l) (n - 1 - 1) P (Exit.then K (fun _ _ _ => False)) { tmps := (ps.zip vs).foldl (fun t (p, v) => t.setIfInBounds p v) a.tmps, defers := [] } W) ∧
      ∀ W2, I i W2 → Gd i vs W2 → w.heap.size ≤ W2.heap.size → body.wpIn (F.inRound l) (n - 1 - 1) P (seqPost T B I (i + 1) W2) a₁ W2)
    (hdone : ∀ (D : Nat) (W : World), w.heap.size ≤ D → I N W → W.heap[D]? = some (.deferred (some [])) → Q .normal { a with defers := { target := .collected D, args := #[] } :: a.defers } W) :
    (Code.rangeFunc g ps assign body).wpIn F n P Q a w := by
  refine wpIn_rangeFunc ?_
  intro fn hfn
  rw [hro]
  obtain ⟨rec, hrec⟩ : ∃ rec : LoopState → Option Code → Loop, rec = fun st pe => { state := st, pending := pe, fn, tmps := a.tmps, params := ps, assign, body, defers := w.heap.size } := ⟨_, rfl⟩
  obtain ⟨W1, hW1⟩ : ∃ W1, (w.alloc (.deferred (some []))).alloc (.loop (rec .ready none)) = W1 := ⟨_, rfl⟩
  have hbW : Below w.heap.size w W1 := by
    rw [← hW1]; exact ((Below.refl _ w).alloc (Nat.le_refl _) _).alloc (by simp) _
  have hL1 : W1.heap[w.heap.size + 1]? = some (.loop (rec .ready none)) := by
    rw [← hW1]; have := World.alloc_heap_new (w.alloc (.deferred (some []))) (.loop (rec .ready none)); rwa [World.size_alloc] at this
  have hK1 : W1.heap[w.heap.size]? = some (.deferred (some [])) := by
    rw [← hW1]; exact (Below.heap_alloc _ _ _ (by simp)).trans (World.alloc_heap_new w _)
  have hI1 : I 0 W1 := hIb _ _ _ h0 hbW
  refine ⟨w.heap.size + 1, [{ target := .collected w.heap.size, args := #[] }], W1, { target := .fn (.func gf) lb, args := #[.func (.yield (w.heap.size + 1)) #[] #[]] }, W1, gf,
    #[.func (.yield (w.heap.size + 1)) #[] #[]] ++ lb, W1, ?_, ?_, ?_, ?_, fun _ => h1, ?_⟩
  · rw [← hW1, hrec]; exact run_enterLoop_outer _ _ _ _ _
  · simp only [resolve, hg]
    simp [go_sem]
  · intro f' hf'; simp [Target.leads] at hf'; subst hf'; exact hFg
  · simp [invoke, go_sem, eg]
  · refine (hseq (w.heap.size + 1) (fun i W => I i W ∧ W.heap[w.heap.size + 1]? = some (.loop (rec .ready none)) ∧ W.heap[w.heap.size]? = some (.deferred (some []))) W1
      (Stays.below hbW hB) (fun i X Y hs hb => ⟨hIb _ _ _ hs.1 hb, (hb.block _ (Array.getElem?_eq_some_iff.1 hs.2.1).1).trans hs.2.1, (hb.block _ (Array.getElem?_eq_some_iff.1 hs.2.2).1).trans hs.2.2⟩) ?_ ⟨hI1, hL1, hK1⟩).mono ?_
    · rintro i vs W hiN ⟨hi, hl, hk⟩ hgd
      have hlt : w.heap.size + 1 < W.heap.size := (Array.getElem?_eq_some_iff.1 hl).1
      have hy := run_yield (P := P) (args := vs) hl (by rw [hrec]; exact hps i vs W hgd)
      rw [hrec] at hy
      obtain ⟨a₁, hassign, hbody⟩ := hround (w.heap.size + 1) i vs W hiN hi hgd
      refine ⟨fn, _, assign, body, hy, roundIn_of_wpIn hfn (hassign _ ⟨_, run_beginRound hl (by rw [hrec]), ?_⟩)⟩
      have hl2 : (W.putObj (w.heap.size + 1) (.loop { rec .ready none with state := .busy })).heap[w.heap.size + 1]? = some (.loop { rec .ready none with state := .busy }) := World.putObj_heap_same hlt
      have hk2 : (W.putObj (w.heap.size + 1) (.loop { rec .ready none with state := .busy })).heap[w.heap.size]? = some (.deferred (some [])) := (World.putObj_heap_other (by omega)).trans hk
      refine wpIn_mono (hbody _ (hIp _ _ _ _ _ hi (by omega) hl rfl) (hGd _ _ _ _ _ _ hgd hl rfl) (by simp; omega)) ?_
      rintro e a3 W3 hp
      cases e with
      | normal =>
        obtain ⟨hk3, hs3, hi3⟩ := hp
        have hl3 := hk3.same _ _ hl2 rfl
        have hr := run_endRound (P := P) none hl3
        rw [hrec] at hr
        refine ⟨_, _, hr, rfl, ⟨?_, ?_, ?_⟩, ?_⟩
        · exact hIp _ _ _ _ _ hi3 (by omega) hl3 rfl
        · rw [hrec]; exact World.putObj_heap_same (Array.getElem?_eq_some_iff.1 hl3).1
        · exact (World.putObj_heap_other (by omega)).trans (hk3.same _ _ hk2 rfl)
        · exact ((Stays.putObj _ (by omega)).trans hs3).trans (Stays.putObj _ (by omega))
      | ret => exact hp.elim
      | exit id => exact hp.elim
      | goto t => exact hp.elim
      | panic ch => exact hp.elim
      | outgrown => exact hp.elim
    · rintro e W2 ⟨⟨v, rfl⟩, hi, hl, hk⟩
      exact ⟨none, _, by have := run_endLoop (P := P) hl (by rw [hrec]; simp); rw [hrec] at this; exact this, hdone _ _ (Nat.le_refl _) (hIp _ _ _ _ _ hi (by omega) hl rfl) ((World.putObj_heap_other (by omega)).trans hk)⟩

end Go.Proofs.Ytpoppdaaodmicaa.Q

/- block.windows (76) and its closure (107): the contracts by hand. -/
namespace Go.Proofs.Ytpoppdaaodmicaa.Q
open Go.RowKit Go.Shelf Go.Proofs.YtpoppdaaodmicaaW.PrintWords Go.Proofs.YtpoppdaaodmicaaW.PrintLast Go.Proofs.YtpoppdaaodmicaaW.PrintMore
attribute [local go_sem] Oper.semAt_some
set_option linter.unusedVariables false
set_option linter.unusedSimpArgs false

/-- What a round is handed: where the window lies, and its values, which may be read. -/
def Gd2 (pos : Nat → Int) (val : Nat → List Int) (i : Nat) (vs : Array Value) (W : World) : Prop :=
  ∃ A c, vs = #[.int .i64 (pos i), .slice A (val i).length c] ∧ Kd.C (Kd.int .i64) W A (val i).length (val i) ∧ (val i).length ≤ c

/-- An append whose run is known, in a fence. -/
theorem wpListIn_append_run {F : Fence} {n : Nat} {P : Program} {w w' : World} {ops : Array Oper} {rest : List Oper} {o : Oper} {a : Act} {Q : Exit → Act → World → Prop}
    (hg : o.guard = none) (s x : Operand) (t : TypeId) (hop : o.op = Op.call { callee := Callee.builtin Builtin.append, args := #[s, x], argTypes := #[t, t] })
    (v1 v2 v' : Value) (hs : a.eval s = v1) (hx : a.eval x = v2) (hrun : (Builtin.append_ #[t, t] o.type #[v1, v2]).run P w = .ok v' w') (hK : wpListIn F n P ops Q rest (a.put o.dst v') w') :
    wpListIn F n P ops Q (o :: rest) a w := by
  refine wpListIn_plain hg fun K hK' => ?_
  unfold Oper.wpIn
  refine ⟨?_, ?_⟩
  · simp [Oper.about, hop, resolve, Target.leads, Sem.run_pure]
  · rw [Oper.semAt_plain F _ _ (by rw [hop]; intro c hc'; cases hc')]
    simp [execOp, hop, resolve, invoke, builtin, hs, hx, hrun, Result.andThen]
    exact hK' _ _ hK
/-- append onto a slice without spare room: new memory, of which all may be read. -/
theorem append_grows (w : World) {A1 A2 : Option Addr} {xs ys : List Int} {c : Nat} (h1 : Kd.C (Kd.int .i64) w A1 xs.length xs) (h2 : Kd.C (Kd.int .i64) w A2 ys.length ys) (p1 : 0 < xs.length) (p2 : 0 < ys.length) (hl : xs.length ≤ 1000 ∧ ys.length ≤ 1000) :
    ∃ v' w', (Builtin.append_ #[29, 29] 29 #[.slice A1 xs.length xs.length, .slice A2 ys.length c]).run Try.prog w = .ok v' w' ∧ Kd.R (Kd.int .i64) 3 w' w.heap.size (fun _ => True) v' (xs ++ ys) ∧ Below w.heap.size w w' := by
  obtain ⟨i0, hi, hz0, hz1, hz2⟩ := info_parts info3
  have cells : ∀ {A : Option Addr} {zs : List Int}, Kd.C (Kd.int .i64) w A zs.length zs → 0 < zs.length → ∃ ad, A = some ad ∧ ∀ j u, (encs (Value.int .i64) zs)[j]? = some u → w.cell? (ad.add j) = some u := by
    intro A zs h p
    obtain ⟨ad, rfl, hc⟩ := h.2.2 p
    refine ⟨ad, rfl, fun j u hj => ?_⟩
    simp only [encs, List.getElem?_map, Option.map_eq_some_iff] at hj
    obtain ⟨x, hx, rfl⟩ := hj
    obtain ⟨c, _, hk, hcell⟩ := hc j x hx
    have hk' : c = [Value.int .i64 x] := hk
    have := hcell 0 (.int .i64 x) (by rw [hk']; rfl)
    have hs : (Kd.int .i64).sz = 1 := rfl
    rw [hs, Nat.mul_one, Nat.add_zero] at this
    exact this
  obtain ⟨ad1, rfl, g1⟩ := cells h1 p1
  obtain ⟨ad2, rfl, g2⟩ := cells h2 p2
  obtain ⟨v', w', hrun, hown, hg⟩ := run_append_arg_grows (P := Try.prog) w 29 29 3 i0 (.int .i64 0) 1 8 Try.underlying29 hi hz0 hz1 hz2 rfl (by decide) ad1 xs.length xs.length (encs (Value.int .i64) xs) (by simp [encs]) g1 ad2 ys.length c (encs (Value.int .i64) ys) (by simp [encs]) g2 (by omega) (by simp [maxLen]; omega) (by omega)
  refine ⟨v', w', hrun, ?_, ?_⟩
  · refine Kd.R_of_own (enc := Value.int .i64) ?_ (fun _ _ => trivial)
    rw [List.length_append]
    have : encs (Value.int .i64) (xs ++ ys) = encs (Value.int .i64) xs ++ encs (Value.int .i64) ys := by simp [encs]
    rw [this]
    exact hown
  · exact (Below.refl _ _).grown hg (Nat.le_refl _) (fun k e => by cases e)

set_option maxHeartbeats 1000000 in
theorem windows.calls (a0 a1 a2 : Int) (w : World) :
    Calls Try.prog 76 #[.int .u8 a0, .int .u8 a1, .int .u8 a2] w fun e w' => e = .returned (.func (.func 107) #[] #[.pointer (some ⟨w.heap.size, 0, none⟩), .pointer (some ⟨w.heap.size + 1, 0, none⟩), .pointer (some ⟨w.heap.size + 1 + 1, 0, none⟩)]) ∧
      w' = ((w.alloc (.cells #[.int .u8 a0] 5)).alloc (.cells #[.int .u8 a1] 5)).alloc (.cells #[.int .u8 a2] 5) := by
  go_enter Try.func76, Try.ntmps76
  go_wp2_with fail
  go_ret
  exact ⟨rfl, rfl⟩

set_option maxRecDepth 100000 in
set_option maxHeartbeats 1000000 in
theorem windows_one (n : Nat) (hn : 3 ≤ n) (B1 B2 B3 : Nat) (a0 a1 a2 : Int) (L : List Int) (hf : block_Window.f 3000 a0 a1 a2 = some (L, 0)) (h2 : a0 ≠ 2) (T : Nat → Prop) (w : World) (h1 : B1 < w.heap.size ∧ B2 < w.heap.size ∧ B3 < w.heap.size) (hT : ¬ T B1 ∧ ¬ T B2 ∧ ¬ T B3)
    (c1 : w.cell? ⟨B1, 0, none⟩ = some (.int .u8 a0)) (c2 : w.cell? ⟨B2, 0, none⟩ = some (.int .u8 a1)) (c3 : w.cell? ⟨B3, 0, none⟩ = some (.int .u8 a2)) :
    SeqGo Fence.wide n Try.prog 107 #[.pointer (some ⟨B1, 0, none⟩), .pointer (some ⟨B2, 0, none⟩), .pointer (some ⟨B3, 0, none⟩)] T w.heap.size 1 (Gd2 (fun _ => 0) (fun _ => L)) w := by
  intro l J W hW hJ hY h0
  have d1 := (hW.cell (p := ⟨B1, 0, none⟩) h1.1 hT.1).trans c1
  have d2 := (hW.cell (p := ⟨B2, 0, none⟩) h1.2.1 hT.2.1).trans c2
  have d3 := (hW.cell (p := ⟨B3, 0, none⟩) h1.2.2 hT.2.2).trans c3
  have hne : (a0 != 2) = true := bne_iff_ne.mpr h2
  have HC := Lib.hid (block_Window.calls 3000 a0 a1 a2 L 0 W hf)
  have HY := Lib.hid hY
  have HJ := Lib.hid hJ
  have H0 := Lib.hid h0
  have HW := Lib.hid hW
  clear hY hJ h0 hW hf h2 h1 hT c1 c2 c3
  refine callsIn_of_wp Try.func107 rfl trivial ?_ rfl
  simp only [Try.ntmps107, List.size_toArray, List.length_cons, List.length_nil, Nat.reduceAdd, Nat.reduceSub, Array.replicate_succ, Array.replicate_zero, List.push_toArray, List.append_toArray, List.nil_append, List.cons_append]
  gi_wp2_with fail
  refine ⟨trivial, fun _ => by omega, (callsIn_wide.2 HC.out).mono ?_⟩
  rintro e w1 ⟨v, rfl, hv, hb⟩
  obtain ⟨A, c, rfl, hc, hr⟩ := Kd.R_reads hv
  obtain ⟨fn, tmps, assign, body, hy, hR⟩ := HY.out 0 #[.int .i64 0, .slice A L.length c] w1 (by omega) (HJ.out _ _ _ H0.out hb) ⟨A, c, rfl, hr, hc⟩
  have HR := Lib.hid hR
  clear hv hb hr hR hc
  gi_wp2_with fail
  refine ⟨fun _ => by omega, HR.out.mono ?_⟩
  rintro e W2 ⟨rfl, hJ2, hk2⟩
  have HJ2 := Lib.hid hJ2
  clear hJ2 hk2 hy
  gi_wp2_with fail
  refine bodyPost_ret (results_none rfl _ _ _) rfl ?_
  exact ⟨⟨_, rfl⟩, HJ2.out⟩

set_option maxRecDepth 100000 in
set_option maxHeartbeats 4000000 in
theorem windows_eight (n : Nat) (hn : 3 ≤ n) (B1 B2 B3 : Nat) (a1 a2 : Int) (L1 L2 L3 : List Int) (hf1 : block_half.f a1 true = some L1) (hf2 : block_half.f a2 true = some L2) (hf3 : block_fall.f 3000 a2 true = some L3) (hl : (0 < L1.length ∧ 0 < L2.length ∧ 0 < L3.length) ∧ L1.length ≤ 1000 ∧ L2.length ≤ 1000 ∧ L3.length ≤ 900) (T : Nat → Prop) (w : World) (h1 : B1 < w.heap.size ∧ B2 < w.heap.size ∧ B3 < w.heap.size) (hT : ¬ T B1 ∧ ¬ T B2 ∧ ¬ T B3)
    (c1 : w.cell? ⟨B1, 0, none⟩ = some (.int .u8 2)) (c2 : w.cell? ⟨B2, 0, none⟩ = some (.int .u8 a1)) (c3 : w.cell? ⟨B3, 0, none⟩ = some (.int .u8 a2)) :
    SeqGo Fence.wide n Try.prog 107 #[.pointer (some ⟨B1, 0, none⟩), .pointer (some ⟨B2, 0, none⟩), .pointer (some ⟨B3, 0, none⟩)] T w.heap.size 8 (Gd2 (fun i => 112 + 32 * (i : Int)) (fun i => (if i = 0 then L1 else L2) ++ L3)) w := by
  intro l J W hW hJ hY h0
  have d1 := (hW.cell (p := ⟨B1, 0, none⟩) h1.1 hT.1).trans c1
  have d2 := (hW.cell (p := ⟨B2, 0, none⟩) h1.2.1 hT.2.1).trans c2
  have d3 := (hW.cell (p := ⟨B3, 0, none⟩) h1.2.2 hT.2.2).trans c3
  have HD := Lib.hid (fun W' (h : Stays T w.heap.size W W') => (h.cell (p := ⟨B3, 0, none⟩) h1.2.2 hT.2.2).trans d3)
  have hs := hW.1
  have HC1 := Lib.hid (block_half.capped a1 true L1 W hf1)
  have HC2 := Lib.hid (fun W' => block_half.capped a2 true L2 W' hf2)
  have HC3 := Lib.hid (fun W' => block_fall.calls 3000 a2 true L3 W' hf3)
  have HY := Lib.hid hY
  have HJ := Lib.hid hJ
  have H0 := Lib.hid h0
  have HL := Lib.hid hl
  clear hY hJ h0 hW hf1 hf2 hf3 h1 hT c1 c2 c3 d3 hl
  refine callsIn_of_wp Try.func107 rfl trivial ?_ rfl
  simp only [Try.ntmps107, List.size_toArray, List.length_cons, List.length_nil, Nat.reduceAdd, Nat.reduceSub, Array.replicate_succ, Array.replicate_zero, List.push_toArray, List.append_toArray, List.nil_append, List.cons_append]
  gi_wp2_with fail
  refine ⟨trivial, fun _ => by omega, (callsIn_wide.2 HC1.out).mono ?_⟩
  rintro e w1 ⟨A, rfl, hv, hb⟩
  have HV := Lib.hid (Kd.R_reads' hv).2.2
  have HS := Lib.hid (Stays.below (T := T) hb hs)
  have HJ1 := Lib.hid (HJ.out _ _ _ H0.out hb)
  clear hv hb d1 d2
  gi_wp2_with fail
  gi_loopw [7, 23] (fun v7 v23 wr => ∃ (i : Nat) (A : Option Addr) (X : List Int), i ≤ 8 ∧ v23 = .int .i64 (i : Int) ∧ v7 = .slice A X.length X.length ∧ Hid (X = if i = 0 then L1 else L2) ∧ Hid (Kd.C (Kd.int .i64) wr A X.length X) ∧ Hid (Stays T w.heap.size W wr) ∧ Hid (J i wr)) (fun v7 v23 wr => (8 - intOf v23).toNat)
  case atStart => exact ⟨0, A, L1, by omega, rfl, rfl, Lib.hid rfl, HV, HS, HJ1⟩
  case round =>
    obtain ⟨i, A, X, hi, rfl, rfl, HX, HVi, HSi, HJi⟩ := hrel
    by_cases hlt : i < 8
    · have d3 := HD.out _ HSi.out
      have HC3i := Lib.hid (HC3.out wr)
      have hw1 : wrap64 (32 * (i : Int)) = 32 * (i : Int) := by unfold wrap64; omega
      have hw2 : wrap64 (112 + 32 * (i : Int)) = 112 + 32 * (i : Int) := by unfold wrap64; omega
      have hw3 : wrap64 ((i : Int) + 1) = (i : Int) + 1 := by unfold wrap64; omega
      gi_wp2_with fail
      refine ⟨trivial, fun _ => by omega, (callsIn_wide.2 HC3i.out).mono ?_⟩
      rintro e w3 ⟨v3, rfl, hv3, hb3⟩
      obtain ⟨A3, c3, rfl, hc3, hr3⟩ := Kd.R_reads hv3
      have hX : (0 < X.length ∧ X.length ≤ 1000) := by
        have hh := HL.out
        rw [HX.out]
        split
        · exact ⟨hh.1.1, hh.2.1⟩
        · exact ⟨hh.1.2.1, hh.2.2.1⟩
      obtain ⟨v4, w4, hrun, hR4, hb4⟩ := append_grows w3 (c := c3) (Kd.C_below HVi.out hb3) hr3 hX.1 HL.out.1.2.2 ⟨hX.2, by have := HL.out; omega⟩
      obtain ⟨A4, c4, rfl, hc4, hr4⟩ := Kd.R_reads hR4
      have hb34 : Below wr.heap.size wr w4 := hb3.trans (hb4.mono hb3.size)
      obtain ⟨fn, tmps, assign, body, hy, hR⟩ := HY.out i #[.int .i64 (112 + 32 * (i : Int)), .slice A4 (X ++ L3).length c4] w4 hlt (HJ.out _ _ _ HJi.out hb34)
        ⟨A4, c4, by dsimp only; rw [← HX.out], by dsimp only; rw [← HX.out]; exact hr4, by dsimp only; rw [← HX.out]; exact hc4⟩
      rw [List.length_append] at hy hrun
      have HR := Lib.hid hR
      have HRUN := Lib.hid hrun
      have HS4 := Lib.hid (HSi.out.trans (Stays.below (T := T) hb34 (Nat.le_trans hs HSi.out.1)))
      clear hv3 hb3 hr3 hR4 hb4 hr4 hb34 hR hc3 hc4 d3 hX hrun
      gi_wp2_with (gi_at_builtin; refine wpListIn_append_run rfl _ _ _ rfl _ _ _ rfl rfl HRUN.out ?_)
      refine ⟨fun _ => by omega, HR.out.mono ?_⟩
      rintro e w5 ⟨rfl, hJ5, hs5⟩
      have HS5 := Lib.hid (HS4.out.trans hs5)
      have HJ5 := Lib.hid hJ5
      have d5 := HD.out _ HS5.out
      have HC2i := Lib.hid (HC2.out w5)
      clear hJ5 hs5 hy hw1 hw2
      gi_wp2_with fail
      refine ⟨trivial, fun _ => by omega, (callsIn_wide.2 HC2i.out).mono ?_⟩
      rintro e w6 ⟨A6, rfl, hv6, hb6⟩
      have HV6 := Lib.hid (Kd.R_reads' hv6).2.2
      have HS6 := Lib.hid (HS5.out.trans (Stays.below (T := T) hb6 (Nat.le_trans hs HS5.out.1)))
      have HJ6 := Lib.hid (HJ.out _ _ _ HJ5.out hb6)
      clear hv6 hb6 d5
      gi_wp2_with fail
      go_roundw
      case rel => exact ⟨i + 1, A6, L2, by omega, by rw [Int.natCast_add]; rfl, rfl, Lib.hid (by rw [if_neg (by omega)]), HV6, HS6, HJ6⟩
      case measure => simp [intOf]; omega
    · obtain rfl : i = 8 := by omega
      gi_wp2_with fail
      go_end0
      exact ⟨⟨_, rfl⟩, HJi.out⟩

end Go.Proofs.Ytpoppdaaodmicaa.Q

/- block.Analyse (42): the contract by hand. -/
namespace Go.Proofs.Ytpoppdaaodmicaa.Q
open Go.RowKit Go.Shelf Go.Proofs.YtpoppdaaodmicaaW.PrintWords Go.Proofs.YtpoppdaaodmicaaW.PrintLast Go.Proofs.YtpoppdaaodmicaaW.PrintMore
attribute [local go_sem] Oper.semAt_some
set_option linter.unusedVariables false
set_option linter.unusedSimpArgs false

/-! ### what lies as it lay, where a block that is no cells is turned -/
theorem C_putObj {W : World} {A : Option Addr} {n : Nat} {xs : List Int} {l : Nat} {o : Obj} (o' : Obj) (h : Kd.C (Kd.int .i64) W A n xs) (hl : W.heap[l]? = some o) (ho : o.isCells = false) : Kd.C (Kd.int .i64) (W.putObj l o') A n xs := by
  refine ⟨h.1, h.2.1, fun hn => ?_⟩
  obtain ⟨ad, ha, hc⟩ := h.2.2 hn
  refine ⟨ad, ha, fun j p hj => ?_⟩
  obtain ⟨c, h1, h2, h3⟩ := hc j p hj
  exact ⟨c, h1, h2, fun i u hi => cell_kept (h3 i u hi) (grownBy_putObj' W l o') (fun r e => by cases e; exact ⟨o, hl, ho⟩)⟩
theorem R_putObj {W : World} {base : Nat} {ok : Nat → Prop} {v : Value} {xs : List Int} {l : Nat} {o : Obj} (o' : Obj) (h : Kd.R (Kd.int .i64) 3 W base ok v xs) (hl : W.heap[l]? = some o) (ho : o.isCells = false) : Kd.R (Kd.int .i64) 3 (W.putObj l o') base ok v xs := by
  refine Kd.R_mono (Kd.R_move (Kd.R_bound h) (fun k hk => World.putObj_heap_other ?_)) (fun _ hk => hk.1)
  rintro rfl
  obtain ⟨_, _, _, q, _, cells, hc⟩ := hk
  rw [hl] at hc
  cases hc
  cases ho
theorem Boxed_putObj {W : World} {B : Nat} {t : TypeId} {v : Value} {l : Nat} (o' : Obj) (h : Boxed W B t v) (hne : B ≠ l) : Boxed (W.putObj l o') B t v := (World.putObj_heap_other hne).trans h
theorem Boxed_below {W W' : World} {B : Nat} {t : TypeId} {v : Value} (h : Boxed W B t v) (hb : Below W.heap.size W W') : Boxed W' B t v := (hb.block B h.lt).trans h
theorem Below_putObj {w W : World} {l : Nat} (o' : Obj) (h : Below w.heap.size w W) (hl : w.heap.size ≤ l) : Below w.heap.size w (W.putObj l o') := h.grown (grownBy_putObj' W l o') h.size (fun k e => by cases e; exact hl)
theorem gd2_put (pos : Nat → Int) (val : Nat → List Int) : ∀ i vs W l o o', Gd2 pos val i vs W → W.heap[l]? = some o → o.isCells = false → Gd2 pos val i vs (W.putObj l o') := by
  rintro i vs W l o o' ⟨A, c, h1, h2, h3⟩ hl ho
  exact ⟨A, c, h1, C_putObj o' h2 hl ho, h3⟩

/-! ### append onto a row of one's own -/
theorem append_owns (w : World) {v : Value} {base : Nat} {ok : Nat → Prop} {A2 : Option Addr} {xs ys : List Int} {c : Nat} (h1 : Kd.R (Kd.int .i64) 3 w base ok v xs) (h2 : Kd.C (Kd.int .i64) w A2 ys.length ys) (p2 : 0 < ys.length) (hl : xs.length ≤ 1000 ∧ ys.length ≤ 1000) (hb : base ≤ w.heap.size) :
    ∃ A' c' w', (Builtin.append_ #[29, 29] 29 #[v, .slice A2 ys.length c]).run Try.prog w = .ok (.slice A' (xs.length + ys.length) c') w' ∧ Kd.R (Kd.int .i64) 3 w' base (fun _ => True) (.slice A' (xs.length + ys.length) c') (xs ++ ys) ∧ w.grownBy w' v.ownBlock := by
  obtain ⟨i0, hi, hz0, hz1, hz2⟩ := info_parts info3
  obtain ⟨ad, rfl, hc⟩ := h2.2.2 p2
  have g2 : ∀ j u, (encs (Value.int .i64) ys)[j]? = some u → w.cell? (ad.add j) = some u := by
    intro j u hj
    simp only [encs, List.getElem?_map, Option.map_eq_some_iff] at hj
    obtain ⟨x, hx, rfl⟩ := hj
    obtain ⟨c, _, hk, hcell⟩ := hc j x hx
    have hk' : c = [Value.int .i64 x] := hk
    have := hcell 0 (.int .i64 x) (by rw [hk']; rfl)
    have hs : (Kd.int .i64).sz = 1 := rfl
    rw [hs, Nat.mul_one, Nat.add_zero] at this
    exact this
  have ho : w.ownsRow base 3 1 v xs.length (encs (Value.int .i64) xs) := Kd.own_of_R h1
  obtain ⟨v', w', hrun, hown, hg, _⟩ := run_append_own (P := Try.prog) w base 29 29 3 i0 (.int .i64 0) 1 8 Try.underlying29 hi hz0 hz1 hz2 rfl (by decide) v xs.length (encs (Value.int .i64) xs) ho ad ys.length c (encs (Value.int .i64) ys) (by simp [encs]) g2 (fun u hu => by simp only [encs, List.mem_map] at hu; obtain ⟨x, _, rfl⟩ := hu; rfl) (by simp [maxLen]; omega) (by omega) hb
  have hR : Kd.R (Kd.int .i64) 3 w' base (fun _ => True) v' (xs ++ ys) := by
    refine Kd.R_of_own (enc := Value.int .i64) ?_ (fun _ _ => trivial)
    rw [List.length_append]
    have : encs (Value.int .i64) (xs ++ ys) = encs (Value.int .i64) xs ++ encs (Value.int .i64) ys := by simp [encs]
    rw [this]
    exact hown
  obtain ⟨A', c', e⟩ := Kd.R_slice hR
  rw [List.length_append] at e
  subst e
  exact ⟨A', c', w', hrun, hR, hg⟩

/-- Two results that lie in plain cells. -/
theorem results_pp {fn : Func} {p p' : Tmp} (h : fn.results = #[.cell p 29, .cell p' 32]) (tmps : Array Value) (w : World) (a a' : Addr) (v v' : Value)
    (hp : tmps.getD p undef = .pointer (some a)) (hp' : tmps.getD p' undef = .pointer (some a')) (hc : w.cell? a = some v) (hc' : w.cell? a' = some v') :
    (results fn tmps).run Try.prog w = .ok (.tuple #[v, v']) w := by
  have h1 : tmps[p]?.getD undef = .pointer (some a) := by simpa using hp
  have h2 : tmps[p']?.getD undef = .pointer (some a') := by simpa using hp'
  simp [results, h, h1, h2, asAddr, go_sem, hc, hc', run_underlying Try.underlying29, run_underlying Try.underlying32]

/-- What one window's lines come of. -/
def Steps42 (l : List Int) (p : Nat) (X Y : List Int) : Prop := p + X.length ≤ l.length ∧ 0 < X.length ∧ (∃ z, block_times.f 3000 ((l.drop p).take X.length) X 14 = some z ∧ mdct_Forward.f z = some (Y, 0)) ∧ 0 < Y.length ∧ Y.length ≤ 256
theorem cut_facts {p m L c0 : Nat} (h : p + m ≤ L) (h0 : 0 < m) (hL : L = 512) (hc : L ≤ c0) :
    wrap64 ((p : Int) + (m : Int)) = (p : Int) + (m : Int) ∧ ((p : Int) + (m : Int)).toNat = p + m ∧ (p : Int) + (m : Int) ≤ (c0 : Int) ∧ p < c0 ∧ p + m ≤ c0 := by
  refine ⟨?_, by omega, by omega, by omega, by omega⟩
  unfold wrap64
  omega
/-- A cut of a row that is read: 'l[p:p+m]'. -/
theorem C_cut {W : World} {ad : Addr} {l : List Int} {p m c0 : Nat} (h : Kd.C (Kd.int .i64) W (some ad) l.length l) (hc : l.length ≤ c0) (hpm : p + m ≤ l.length) (hm : 0 < m) :
    ((l.drop p).take m).length = m ∧ Kd.C (Kd.int .i64) W (some (ad.add p)) m ((l.drop p).take m) := by
  have hl : ((l.drop p).take m).length = m := by rw [List.length_take, List.length_drop]; omega
  have h1 := Kd.C_take (m := m) (Kd.C_drop h (m := p) (by omega) hc) (by rw [List.length_drop]; omega)
  rw [hl, if_neg (by omega)] at h1
  have hs : (Kd.int .i64).sz = 1 := rfl
  rw [hs, Nat.mul_one] at h1
  exact ⟨hl, h1⟩
def gather (out : Nat → List Int) : Nat → List Int
  | 0 => []
  | i + 1 => gather out i ++ out i

set_option maxRecDepth 100000 in
set_option maxHeartbeats 4000000 in
theorem analyse_walk (a0 a1 a2 : Int) (ad : Addr) (c0 : Nat) (l : List Int) (w : World) (hr : Kd.C (Kd.int .i64) w (some ad) l.length l) (hc : l.length ≤ c0) (hl : l.length = 512) (hask : block_asked.f 3000 a0 a1 a2 l 512 (-32768) 32767 = some 0)
    (N : Nat) (hN : N ≤ 8) (pos : Nat → Nat) (val out : Nat → List Int)
    (hseq : ∀ (B : Nat) (W : World) (T : Nat → Prop), B + 1 + 1 < W.heap.size → ¬ T B ∧ ¬ T (B + 1) ∧ ¬ T (B + 1 + 1) → W.cell? ⟨B, 0, none⟩ = some (.int .u8 a0) → W.cell? ⟨B + 1, 0, none⟩ = some (.int .u8 a1) → W.cell? ⟨B + 1 + 1, 0, none⟩ = some (.int .u8 a2) →
      SeqGo Fence.wide 11 Try.prog 107 #[.pointer (some ⟨B, 0, none⟩), .pointer (some ⟨B + 1, 0, none⟩), .pointer (some ⟨B + 1 + 1, 0, none⟩)] T W.heap.size N (Gd2 (fun i => (pos i : Int)) val) W)
    (hstep : ∀ i, i < N → Steps42 l (pos i) (val i) (out i)) (hgl : ∀ i, i < N → (gather out i).length ≤ 256) :
    Calls Try.prog 42 #[.int .u8 a0, .int .u8 a1, .int .u8 a2, .slice (some ad) l.length c0] w fun e w' => ∃ v, e = .returned (.tuple #[v, .int .i64 0]) ∧ Kd.R (Kd.int .i64) 3 w' w.heap.size (fun _ => True) v (gather out N) ∧ Below w.heap.size w w' := by
  have b1 := Boxed.new w 29 (.slice (some ad) l.length c0)
  have b2 := Boxed.new (w.alloc (.cells #[.slice (some ad) l.length c0] 29)) 29 (.slice none 0 0)
  have b3 := Boxed.new ((w.alloc (.cells #[.slice (some ad) l.length c0] 29)).alloc (.cells #[.slice none 0 0] 29)) 32 (.int .i64 0)
  rw [World.size_alloc] at b2
  rw [World.size_alloc, World.size_alloc] at b3
  have hb0 : Below w.heap.size w (((w.alloc (.cells #[.slice (some ad) l.length c0] 29)).alloc (.cells #[.slice none 0 0] 29)).alloc (.cells #[.int .i64 0] 32)) := (((Below.refl _ w).alloc (Nat.le_refl _) _).alloc (by simp) _).alloc (by simp; omega) _
  have HA := Lib.hid (block_asked.calls 3000 a0 a1 a2 (some ad) c0 l 512 (-32768) 32767 0 _ (Kd.C_below hr hb0) hc hask)
  have B1 := Lib.hid ((b1.alloc (.cells #[.slice none 0 0] 29)).alloc (.cells #[.int .i64 0] 32))
  have B2 := Lib.hid (b2.alloc (.cells #[.int .i64 0] 32))
  have B3 := Lib.hid b3
  have HB0 := Lib.hid hb0
  have HR := Lib.hid hr
  have HSQ := Lib.hid hseq
  have HST := Lib.hid hstep
  have HGL := Lib.hid hgl
  have HL := Lib.hid hl
  have HC := Lib.hid hc
  clear b1 b2 b3 hb0 hr hseq hstep hgl hl hask hc
  refine (callsIn_wide (n := 12)).1 ?_
  refine callsIn_of_wp_marks Try.func42 rfl trivial ?_ rfl
  simp only [Try.ntmps42, List.size_toArray, List.length_cons, List.length_nil, Nat.reduceAdd, Nat.reduceSub, Array.replicate_succ, Array.replicate_zero, List.push_toArray, List.append_toArray, List.nil_append, List.cons_append]
  gi_wp2_with fail
  refine ⟨trivial, (callsIn_wide.2 HA.out).mono ?_⟩
  rintro e w1 ⟨rfl, hb1⟩
  have C1 := Lib.hid (Boxed_below B1.out hb1)
  have C2 := Lib.hid (Boxed_below B2.out hb1)
  have C3 := Lib.hid (Boxed_below B3.out hb1)
  have HB1 := Lib.hid (HB0.out.trans (hb1.mono (HB0.out.size)))
  have HWC := Lib.hid (windows.calls a0 a1 a2 w1)
  clear hb1 B1 B2 B3 HA
  gi_wp2_with fail
  refine ⟨trivial, (callsIn_wide.2 HWC.out).mono ?_⟩
  rintro e w2 ⟨rfl, hw2⟩
  have q1 := Boxed.new w1 5 (.int .u8 a0)
  have q2 := Boxed.new (w1.alloc (.cells #[.int .u8 a0] 5)) 5 (.int .u8 a1)
  have q3 := Boxed.new ((w1.alloc (.cells #[.int .u8 a0] 5)).alloc (.cells #[.int .u8 a1] 5)) 5 (.int .u8 a2)
  rw [World.size_alloc] at q2
  rw [World.size_alloc, World.size_alloc] at q3
  replace q1 := (q1.alloc (.cells #[.int .u8 a1] 5)).alloc (.cells #[.int .u8 a2] 5)
  replace q2 := q2.alloc (.cells #[.int .u8 a2] 5)
  rw [← hw2] at q1 q2 q3
  have hs1 : w.heap.size + 1 + 1 + 1 ≤ w1.heap.size := by have := C3.out.lt; omega
  have hs2 : w2.heap.size = w1.heap.size + 1 + 1 + 1 := by rw [hw2]; simp
  have hb2 : Below w1.heap.size w1 w2 := by rw [hw2]; exact (((Below.refl _ w1).alloc (Nat.le_refl _) _).alloc (by simp) _).alloc (by simp; omega) _
  have HSQ2 := Lib.hid (HSQ.out w1.heap.size w2 (fun k => k = w.heap.size + 1) (by omega) ⟨by omega, by omega, by omega⟩ q1.cell q2.cell q3.cell)
  have D1 := Lib.hid (Boxed_below C1.out hb2)
  have D2 := Lib.hid (Boxed_below C2.out hb2)
  have D3 := Lib.hid (Boxed_below C3.out hb2)
  have HB2 := Lib.hid (HB1.out.trans (hb2.mono HB1.out.size))
  have HS2 := Lib.hid (⟨hs1, hs2⟩ : w.heap.size + 1 + 1 + 1 ≤ w1.heap.size ∧ w2.heap.size = w1.heap.size + 1 + 1 + 1)
  clear hs1 hs2 hw2 hb2 HSQ HWC C1 C2 C3 HB0 HB1 q1 q2 q3
  gi_wp2_with fail
  refine wpIn_range_seq rfl (by omega) (gf := 107) (lb := #[.pointer (some ⟨w1.heap.size, 0, none⟩), .pointer (some ⟨w1.heap.size + 1, 0, none⟩), .pointer (some ⟨w1.heap.size + 1 + 1, 0, none⟩)]) rfl trivial (enters_of Try.func107 (by kernel_rfl) rfl)
    HSQ2.out (Nat.le_refl _) (fun i vs W h => by obtain ⟨A, c, rfl, _⟩ := h; rfl) (gd2_put _ _)
    (fun i W => (∃ v, Boxed W (w.heap.size + 1) 29 v ∧ Kd.R (Kd.int .i64) 3 W w2.heap.size (fun _ => True) v (gather out i)) ∧ Boxed W w.heap.size 29 (.slice (some ad) l.length c0) ∧ Boxed W (w.heap.size + 1 + 1) 32 (.int .i64 0) ∧ Below w.heap.size w W ∧ w2.heap.size ≤ W.heap.size)
    ?ib ?ip ?i0 ?round ?done
  case ib =>
    rintro i X Y ⟨⟨v, hv, hR⟩, h2, h3, h4, h5⟩ hb
    exact ⟨⟨v, Boxed_below hv hb, Kd.R_below hR hb⟩, Boxed_below h2 hb, Boxed_below h3 hb, h4.trans (hb.mono h4.size), Nat.le_trans h5 hb.size⟩
  case ip =>
    rintro i X k o o' ⟨⟨v, hv, hR⟩, h2, h3, h4, h5⟩ hk hl ho
    have := HS2.out
    exact ⟨⟨v, Boxed_putObj o' hv (by omega), R_putObj o' hR hl ho⟩, Boxed_putObj o' h2 (by omega), Boxed_putObj o' h3 (by omega), Below_putObj o' h4 (by omega), by simp; omega⟩
  case i0 => exact ⟨⟨_, D2.out, Kd.R_nil _ _ _ _ _⟩, D1.out, D3.out, HB2.out, Nat.le_refl _⟩
  case round =>
    rintro l' i vs W hiN hI ⟨A, c, rfl, hCv, hcv⟩
    refine ⟨?a₁, ?asg, ?bdy⟩
    case asg =>
      intro K hK
      gi_wp2_with fail
      exact hK
    case bdy =>
      rintro W2 ⟨⟨v, hv, hRv⟩, hp, he, hBw, hsz⟩ ⟨A', c', hvs, hCv2, hcv2⟩ hsW
      have hvs2 : Value.slice A (val i).length c = Value.slice A' (val i).length c' := by
        simp only [Array.mk.injEq, List.cons.injEq] at hvs
        exact hvs.2.1
      have hpc := hp.cell
      have hvc := hv.cell
      obtain ⟨hpm, hXp, ⟨z, hz1, hz2⟩, hyp, hyl⟩ := HST.out i hiN
      have HZ1 := Lib.hid hz1
      have HZ2 := Lib.hid hz2
      have HG := Lib.hid (HGL.out i hiN)
      have hL := HL.out
      have hcc := HC.out
      clear hI hCv hcv hvs hz1 hz2
      obtain ⟨w1', w2', g1, g2, g3⟩ := cut_facts hpm hXp hL hcc
      have HP := Lib.hid (⟨hpm, hXp, hyp, hyl⟩ : _ ∧ _ ∧ _ ∧ _)
      clear hpm hXp hyp hyl hL hcc
      obtain ⟨hcl, hcc2⟩ := C_cut (Kd.C_below HR.out hBw) HC.out HP.out.1 HP.out.2.1
      have hT := block_times.calls 3000 (some (ad.add (pos i))) (c0 - pos i) ((l.drop (pos i)).take (val i).length) A c (val i) 14 z W2
      rw [hcl] at hT
      have HT := Lib.hid (hT hcc2 (by have := HP.out.1; have := HC.out; omega) (by cases hvs2; exact hCv2) (by cases hvs2; exact hcv2) HZ1.out)
      have HW := Lib.hid hBw
      have HV := Lib.hid (⟨hv, hRv⟩ : _ ∧ _)
      have HE := Lib.hid (⟨hp, he⟩ : _ ∧ _)
      clear hT hcl hcc2 hBw hCv2 hcv2 hvs2 hRv
      gi_wp2_with fail
      refine ⟨trivial, (CallsIn.inRound l' (callsIn_wide.2 HT.out)).mono ?_⟩
      rintro e w3 ⟨v3, rfl, hv3, hb3⟩
      obtain ⟨A3, c3, rfl, hc3, hr3⟩ := Kd.R_reads hv3
      have HF := Lib.hid (mdct_Forward.calls A3 c3 z (out i) 0 w3 hr3 hc3 HZ2.out)
      have HB3 := Lib.hid hb3
      clear hv3 hc3 hr3 hb3
      gi_wp2_with fail
      refine ⟨trivial, (CallsIn.inRound l' (callsIn_wide.2 HF.out)).mono ?_⟩
      rintro e w4 ⟨v4, rfl, hv4, hb4⟩
      obtain ⟨A4, c4, rfl, hc4, hr4⟩ := Kd.R_reads hv4
      have hb24 : Below W2.heap.size W2 w4 := HB3.out.trans (hb4.mono HB3.out.size)
      have hbox := Boxed_below HV.out.1 hb24
      have hrow := Kd.R_below HV.out.2 hb24
      obtain ⟨A5, c5, w5, hrun, hR5, hg5⟩ := append_owns w4 (c := c4) hrow hr4 HP.out.2.2.1 ⟨by have := HG.out; omega, by have := HP.out.2.2.2; omega⟩ (Nat.le_trans hsz hb24.size)
      have HRUN := Lib.hid hrun
      have hown : ∀ k, v.ownBlock = some k → w2.heap.size ≤ k := fun k hk => own_base (Kd.own_of_R hrow) k hk
      have hbx5 : Boxed w5 (w.heap.size + 1) 29 v := hbox.kept hg5 (fun e => by have := hown _ e.symm; have := HS2.out; omega)
      have HOW := Lib.hid hown
      have hc4' := hbox.cell
      have hc5 := hbx5.cell
      have hf5 := hbx5.frozen
      have HB24 := Lib.hid hb24
      have HR5 := Lib.hid hR5
      have HG5 := Lib.hid hg5
      have HROW := Lib.hid hrow
      have HX5 := Lib.hid hbx5
      clear hb4 hr4 hc4 hv4 hown hrun hR5 hg5 hrow hbox hbx5 hb24
      gi_wp2_with (gi_at_builtin; refine wpListIn_append_run rfl _ _ _ rfl _ _ _ rfl rfl HRUN.out ?_)
      have h1 := HS2.out
      have h3 := HB24.out.size
      have hrow5 : KeepsOthers w4 w5 := KeepsOthers.of_grownBy HG5.out (fun j o ej hj => by
        obtain ⟨cells, hcl⟩ := own_typed (Kd.own_of_R HROW.out) j ej
        rw [hj] at hcl; cases hcl; rfl)
      have hb5 : Below w.heap.size w w5 := (HW.out.trans (HB24.out.mono HW.out.size)).grown HG5.out (Nat.le_trans HW.out.size h3) (fun k e => by have := HOW.out k e; omega)
      refine ⟨((KeepsOthers.of_below HB24.out).trans hrow5).trans (KeepsOthers.setCell _ _ _), ((Stays.below HB24.out hsz).trans (Stays.grown HG5.out (by omega) (fun k e => .inr (HOW.out k e)))).trans (Stays.setCell _ (.inl rfl)),
        ⟨_, HX5.out.set _, ?_⟩, ?_, ?_, hb5.setCell (by simp) _, ?_⟩
      · have := Kd.R_far (p := ⟨w.heap.size + 1, 0, none⟩) (Kd.R_bound HR5.out) (fun k hk => by have := hk.2.1; simp; omega) (.slice A5 ((gather out i).length + (out i).length) c5)
        exact Kd.R_mono this (fun _ _ => trivial)
      · exact (Below.heap_setCell _ _ _ _ (by simp)).trans ((Boxed_below HE.out.1 HB24.out).kept HG5.out (fun e => by have := HOW.out _ e.symm; omega))
      · exact (Below.heap_setCell _ _ _ _ (by simp)).trans ((Boxed_below HE.out.2 HB24.out).kept HG5.out (fun e => by have := HOW.out _ e.symm; omega))
      · have := HG5.out.size
        simp [World.setCell]
        omega
  case done =>
    rintro D W hD ⟨⟨v, hv, hRv⟩, hp, he, hBw, hsz⟩ hK
    obtain ⟨A, c, rfl⟩ := Kd.R_slice hRv
    have hvc := hv.cell
    have hec := he.cell
    have hvf := hv.frozen
    have hef := he.frozen
    have HV := Lib.hid (⟨hv, hRv⟩ : _ ∧ _)
    have HE := Lib.hid he
    have HW := Lib.hid (⟨hBw, hsz⟩ : _ ∧ _)
    have HK := Lib.hid (⟨hD, hK⟩ : _ ∧ _)
    clear hv hRv hp he hBw hsz hD hK
    gi_wp2_with fail
    have hK2 : ((W.setCell ⟨w.heap.size + 1, 0, none⟩ (.slice A (gather out N).length c)).setCell ⟨w.heap.size + 1 + 1, 0, none⟩ (.int .i64 0)).heap[D]? = some (.deferred (some [])) := by
      have h1 := HS2.out
      have h2 := HK.out.1
      exact (Below.heap_setCell _ _ _ _ (by simp; omega)).trans ((Below.heap_setCell _ _ _ _ (by simp; omega)).trans HK.out.2)
    refine ⟨by simp, .inl ⟨_, _, rfl, run_takeDeferred hK2, ?_⟩⟩
    have h1 := HS2.out
    have h2 := HK.out.1
    have h3 := (Array.getElem?_eq_some_iff.1 HK.out.2).1
    have e1 : Boxed (((W.setCell ⟨w.heap.size + 1, 0, none⟩ (.slice A (gather out N).length c)).setCell ⟨w.heap.size + 1 + 1, 0, none⟩ (.int .i64 0)).putObj D (.deferred none)) (w.heap.size + 1) 29 (.slice A (gather out N).length c) :=
      Boxed_putObj _ ((Below.heap_setCell _ _ _ _ (by simp)).trans (HV.out.1.set _)) (by omega)
    have e2 : Boxed (((W.setCell ⟨w.heap.size + 1, 0, none⟩ (.slice A (gather out N).length c)).setCell ⟨w.heap.size + 1 + 1, 0, none⟩ (.int .i64 0)).putObj D (.deferred none)) (w.heap.size + 1 + 1) 32 (.int .i64 0) := by
      have h : Boxed (W.setCell ⟨w.heap.size + 1, 0, none⟩ (.slice A (gather out N).length c)) (w.heap.size + 1 + 1) 32 (.int .i64 0) := (Below.heap_setCell _ _ _ _ (by simp)).trans HE.out
      exact Boxed_putObj _ (h.set _) (by omega)
    have hR1 := Kd.R_far (p := ⟨w.heap.size + 1, 0, none⟩) (Kd.R_bound HV.out.2) (fun k hk => by have := hk.2.1; simp; omega) (.slice A (gather out N).length c)
    have hR2 := Kd.R_far (p := ⟨w.heap.size + 1 + 1, 0, none⟩) (Kd.R_bound hR1) (fun k hk => by have := hk.2.1; simp; omega) (.int .i64 0)
    have hR3 := R_putObj (.deferred none) hR2 hK2 rfl
    have hBf : Below w.heap.size w (((W.setCell ⟨w.heap.size + 1, 0, none⟩ (.slice A (gather out N).length c)).setCell ⟨w.heap.size + 1 + 1, 0, none⟩ (.int .i64 0)).putObj D (.deferred none)) :=
      Below_putObj _ ((HW.out.1.setCell (by simp) _).setCell (by simp; omega) _) (by omega)
    exact ⟨_, results_pp rfl _ _ ⟨w.heap.size + 1, 0, none⟩ ⟨w.heap.size + 1 + 1, 0, none⟩ _ _ rfl rfl e1.cell e2.cell, _, rfl, Kd.R_mono (Kd.R_lower hR3 (by omega)) (fun _ _ => trivial), hBf⟩

end Go.Proofs.Ytpoppdaaodmicaa.Q

/- block.Analyse (42): what it answers, and the contract. -/
namespace Go.Proofs.Ytpoppdaaodmicaa.Q
open Go.RowKit Go.Shelf Go.Proofs.YtpoppdaaodmicaaW.PrintWords Go.Proofs.YtpoppdaaodmicaaW.PrintLast Go.Proofs.YtpoppdaaodmicaaW.PrintMore
set_option linter.unusedVariables false
set_option linter.unusedSimpArgs false

/-- One window's lines, of the numbers under it. -/
def lineStep (Z : Option (List Int)) : Option (List Int) := Z.bind fun z => (mdct_Forward.f z).bind fun r => if r.2 = 0 then (if 0 < r.1.length ∧ r.1.length ≤ 256 then some r.1 else none) else none
def stepOf (l : List Int) (p : Nat) (X : List Int) : Option (List Int) := if p + X.length ≤ l.length ∧ 0 < X.length then lineStep (block_times.f 3000 ((l.drop p).take X.length) X 14) else none
def gatherO (step : Nat → Option (List Int)) : Nat → Option (List Int)
  | 0 => some []
  | i + 1 => (gatherO step i).bind fun g => (step i).bind fun y => if g.length ≤ 256 then some (g ++ y) else none
def block_Analyse.f (a0 a1 a2 : Int) (l3 : List Int) : Option (List Int × Int) :=
  (block_asked.f 3000 a0 a1 a2 l3 512 (-32768) 32767).bind fun e =>
    if e = 0 then
      (if l3.length = 512 then
        (if a0 = 2 then (block_half.f a1 true).bind fun L1 => (block_half.f a2 true).bind fun L2 => (block_fall.f 3000 a2 true).bind fun L3 =>
          if (0 < L1.length ∧ 0 < L2.length ∧ 0 < L3.length) ∧ L1.length ≤ 1000 ∧ L2.length ≤ 1000 ∧ L3.length ≤ 900 then (gatherO (fun i => stepOf l3 (112 + 32 * i) ((if i = 0 then L1 else L2) ++ L3)) 8).map fun x => (x, 0) else none
        else (block_Window.f 3000 a0 a1 a2).bind fun p => if p.2 = 0 then (gatherO (fun _ => stepOf l3 0 p.1) 1).map fun x => (x, 0) else none)
      else none)
    else some ([], e)

theorem lineStep_some {Z : Option (List Int)} {Y : List Int} (h : lineStep Z = some Y) : (∃ z, Z = some z ∧ mdct_Forward.f z = some (Y, 0)) ∧ 0 < Y.length ∧ Y.length ≤ 256 := by
  cases Z with
  | none => cases h
  | some z =>
    unfold lineStep at h
    rw [Option.bind_some] at h
    cases hf : mdct_Forward.f z with
    | none => rw [hf] at h; cases h
    | some r =>
      obtain ⟨y, e⟩ := r
      rw [hf, Option.bind_some] at h
      by_cases he : e = 0
      · rw [if_pos he] at h
        by_cases hy : 0 < y.length ∧ y.length ≤ 256
        · rw [if_pos hy] at h
          obtain rfl : y = Y := Option.some.inj h
          rw [he] at hf
          exact ⟨⟨z, rfl, hf⟩, hy⟩
        · rw [if_neg hy] at h; cases h
      · rw [if_neg he] at h; cases h
theorem stepOf_some {l X Y : List Int} {p : Nat} (h : stepOf l p X = some Y) : Steps42 l p X Y := by
  unfold stepOf at h
  generalize hZ : block_times.f 3000 ((l.drop p).take X.length) X 14 = Z at h
  by_cases hc : p + X.length ≤ l.length ∧ 0 < X.length
  · rw [if_pos hc] at h
    obtain ⟨⟨z, h1, h2⟩, h3⟩ := lineStep_some h
    exact ⟨hc.1, hc.2, ⟨z, hZ.trans h1, h2⟩, h3⟩
  · rw [if_neg hc] at h; cases h
theorem gatherO_some {step : Nat → Option (List Int)} : ∀ {n : Nat} {r : List Int}, gatherO step n = some r → (∀ i, i < n → step i = some ((step i).getD [])) ∧ r = gather (fun i => (step i).getD []) n ∧ ∀ i, i < n → (gather (fun i => (step i).getD []) i).length ≤ 256
  | 0, r, h => ⟨fun i hi => by omega, (Option.some.inj h).symm, fun i hi => by omega⟩
  | n + 1, r, h => by
    rw [gatherO] at h
    cases hg : gatherO step n with
    | none => rw [hg] at h; cases h
    | some g =>
      rw [hg, Option.bind_some] at h
      obtain ⟨h1, h2, h3⟩ := gatherO_some hg
      cases hs : step n with
      | none => rw [hs] at h; cases h
      | some y =>
        rw [hs, Option.bind_some] at h
        by_cases hl : g.length ≤ 256
        · rw [if_pos hl] at h
          refine ⟨fun i hi => ?_, ?_, fun i hi => ?_⟩
          · by_cases e : i = n
            · subst e; rw [hs]; rfl
            · exact h1 i (by omega)
          · rw [← Option.some.inj h, gather, ← h2, hs]; rfl
          · by_cases e : i = n
            · subst e; rw [← h2]; exact hl
            · exact h3 i (by omega)
        · rw [if_neg hl] at h; cases h

set_option maxRecDepth 100000 in
set_option maxHeartbeats 1000000 in
theorem analyse_err (a0 a1 a2 : Int) (A0 : Option Addr) (c0 : Nat) (l : List Int) (er : Int) (w : World) (hr : Kd.C (Kd.int .i64) w A0 l.length l) (hc : l.length ≤ c0) (hask : block_asked.f 3000 a0 a1 a2 l 512 (-32768) 32767 = some er) (he : er ≠ 0) :
    Calls Try.prog 42 #[.int .u8 a0, .int .u8 a1, .int .u8 a2, .slice A0 l.length c0] w fun e w' => e = .returned (.tuple #[.slice none 0 0, .int .i64 er]) ∧ Below w.heap.size w w' := by
  have b2 := Boxed.new (w.alloc (.cells #[.slice A0 l.length c0] 29)) 29 (.slice none 0 0)
  have b3 := Boxed.new ((w.alloc (.cells #[.slice A0 l.length c0] 29)).alloc (.cells #[.slice none 0 0] 29)) 32 (.int .i64 0)
  rw [World.size_alloc] at b2
  rw [World.size_alloc, World.size_alloc] at b3
  have hb0 : Below w.heap.size w (((w.alloc (.cells #[.slice A0 l.length c0] 29)).alloc (.cells #[.slice none 0 0] 29)).alloc (.cells #[.int .i64 0] 32)) := (((Below.refl _ w).alloc (Nat.le_refl _) _).alloc (by simp) _).alloc (by simp; omega) _
  have HA := Lib.hid (block_asked.calls 3000 a0 a1 a2 A0 c0 l 512 (-32768) 32767 er _ (Kd.C_below hr hb0) hc hask)
  have B2 := Lib.hid (b2.alloc (.cells #[.int .i64 0] 32))
  have B3 := Lib.hid b3
  have HB0 := Lib.hid hb0
  have hne : (er != 0) = true := bne_iff_ne.mpr he
  clear b2 b3 hb0 hr hask hc he
  go_enter Try.func42, Try.ntmps42
  go_wp2_with fail
  refine HA.out.mono ?_
  rintro e w1 ⟨rfl, hb1⟩
  have C2 := Lib.hid (Boxed_below B2.out hb1)
  have C3 := Lib.hid (Boxed_below B3.out hb1)
  have c2 := C2.out.cell
  have c3 := C3.out.cell
  have f2 := C2.out.frozen
  have f3 := C3.out.frozen
  have HB1 := Lib.hid (HB0.out.trans (hb1.mono (HB0.out.size)))
  clear hb1 B2 B3 HA
  go_wp2_with fail
  have e1 : Boxed ((w1.setCell ⟨w.heap.size + 1, 0, none⟩ (.slice none 0 0)).setCell ⟨w.heap.size + 1 + 1, 0, none⟩ (.int .i64 er)) (w.heap.size + 1) 29 (.slice none 0 0) :=
    (Below.heap_setCell _ _ _ _ (by simp)).trans (C2.out.set _)
  have e2 : Boxed ((w1.setCell ⟨w.heap.size + 1, 0, none⟩ (.slice none 0 0)).setCell ⟨w.heap.size + 1 + 1, 0, none⟩ (.int .i64 er)) (w.heap.size + 1 + 1) 32 (.int .i64 er) := by
    have h : Boxed (w1.setCell ⟨w.heap.size + 1, 0, none⟩ (.slice none 0 0)) (w.heap.size + 1 + 1) 32 (.int .i64 0) := (Below.heap_setCell _ _ _ _ (by simp)).trans C3.out
    exact h.set _
  refine bodyPost_ret (results_pp rfl _ _ ⟨w.heap.size + 1, 0, none⟩ ⟨w.heap.size + 1 + 1, 0, none⟩ _ _ rfl rfl e1.cell e2.cell) rfl ?_
  exact ⟨rfl, (HB1.out.setCell (by simp) _).setCell (by simp; omega) _⟩

theorem block_Analyse.calls (a0 a1 a2 : Int) (A3 : Option Addr) (c3 : Nat) (l3 : List Int) (r1 : List Int) (r2 : Int) (w : World) (hr3 : Kd.C (Kd.int .i64) w A3 l3.length l3) (hc3 : l3.length ≤ c3) (h : block_Analyse.f a0 a1 a2 l3 = some (r1, r2)) :
    Calls Try.prog 42 #[.int .u8 a0, .int .u8 a1, .int .u8 a2, .slice A3 l3.length c3] w fun e w' => ∃ v0_ : Value, e = .returned (.tuple #[v0_, .int .i64 r2]) ∧ Kd.R (Kd.int .i64) 3 w' w.heap.size (fun _ => True) v0_ r1 ∧ Below w.heap.size w w' := by
  unfold block_Analyse.f at h
  obtain ⟨er, hask, h⟩ := Option.bind_eq_some_iff.1 h
  by_cases he : er = 0
  · rw [if_pos he] at h
    subst he
    by_cases hl : l3.length = 512
    · rw [if_pos hl] at h
      obtain ⟨ad, rfl, _⟩ := hr3.2.2 (by omega)
      by_cases h2 : a0 = 2
      · rw [if_pos h2] at h
        obtain ⟨L1, hL1, h⟩ := Option.bind_eq_some_iff.1 h
        obtain ⟨L2, hL2, h⟩ := Option.bind_eq_some_iff.1 h
        obtain ⟨L3, hL3, h⟩ := Option.bind_eq_some_iff.1 h
        by_cases hlen : (0 < L1.length ∧ 0 < L2.length ∧ 0 < L3.length) ∧ L1.length ≤ 1000 ∧ L2.length ≤ 1000 ∧ L3.length ≤ 900
        · rw [if_pos hlen] at h
          obtain ⟨g, hg, hg2⟩ := Option.map_eq_some_iff.1 h
          obtain ⟨g1, g2, g3⟩ := gatherO_some hg
          simp only [Prod.mk.injEq] at hg2
          obtain ⟨rfl, rfl⟩ := hg2
          subst h2
          rw [g2]
          have hpos : (fun i : Nat => 112 + 32 * (i : Int)) = fun i : Nat => ((112 + 32 * i : Nat) : Int) := by
            funext i
            omega
          refine analyse_walk 2 a1 a2 ad c3 l3 w hr3 hc3 hl hask 8 (by omega) (fun i => 112 + 32 * i) (fun i => (if i = 0 then L1 else L2) ++ L3) _ (fun B W T h1 hT c1 c2 c3' => ?_) (fun i hi => stepOf_some (g1 i hi)) g3
          have hw := windows_eight 11 (by omega) B (B + 1) (B + 1 + 1) a1 a2 L1 L2 L3 hL1 hL2 hL3 hlen T W ⟨by omega, by omega, h1⟩ hT c1 c2 c3'
          rw [hpos] at hw
          exact hw
        · rw [if_neg hlen] at h; cases h
      · rw [if_neg h2] at h
        obtain ⟨⟨L, e⟩, hL, h⟩ := Option.bind_eq_some_iff.1 h
        by_cases hp : e = 0
        · rw [if_pos hp] at h
          obtain ⟨g, hg, hg2⟩ := Option.map_eq_some_iff.1 h
          obtain ⟨g1, g2, g3⟩ := gatherO_some hg
          simp only [Prod.mk.injEq] at hg2
          obtain ⟨rfl, rfl⟩ := hg2
          rw [g2]
          rw [hp] at hL
          refine analyse_walk a0 a1 a2 ad c3 l3 w hr3 hc3 hl hask 1 (by omega) (fun _ => 0) (fun _ => L) _ (fun B W T h1 hT c1 c2 c3' => ?_) (fun i hi => stepOf_some (g1 i hi)) g3
          exact windows_one 11 (by omega) B (B + 1) (B + 1 + 1) a0 a1 a2 L hL h2 T W ⟨by omega, by omega, h1⟩ hT c1 c2 c3'
        · rw [if_neg hp] at h; cases h
    · rw [if_neg hl] at h; cases h
  · rw [if_neg he] at h
    simp only [Option.some.injEq, Prod.mk.injEq] at h
    obtain ⟨rfl, rfl⟩ := h
    exact (analyse_err a0 a1 a2 A3 c3 l3 er w hr3 hc3 hask he).mono fun e w' ⟨h1, h2⟩ => ⟨_, h1, Kd.R_nil _ _ _ _ _, h2⟩

end Go.Proofs.Ytpoppdaaodmicaa.Q
