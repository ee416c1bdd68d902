-- LapBack: the row, by hand (its parameters: samples, and a slice of structs of two).
import Derived.Test.YtpoppdaaodmicaaRows
import Derived.Test.YtpoppdaaodmicaaHead
import Derived.Test.YtpoppdaaodmicaaQ12
import Derived.Test.YtpoppdaaodmicaaPureLapBack
import Derived.WalkKit
import Derived.ProofKit
import Derived.OpenShut
import Derived.ShutString
import Derived.ChangeOld
import Derived.Below
import Derived.SizedLaws
import Derived.Deep.SlicePairs
namespace Go.Proofs.Ytpoppdaaodmicaa.lapBack
open Go.ChangeShapes Go.WideShapes Go.ChangeAt Go.RowKit
open Go.ChangeMaps (open_string shut_string)
set_option linter.unusedVariables false
theorem own : ownKnob Try.prog.godebug = none := by kernel_rfl
theorem laidOut : laidOutB Try.prog = true := by kernel_rfl
def IsRow (k : IntKind) (w : World) (a : Option Addr) (len cap : Nat) (zs : List Int) : Prop :=
  (a = none ∧ len = 0 ∧ cap = 0 ∧ zs = []) ∨
  ∃ x, a = some x ∧ len ≤ cap ∧ cap ≤ maxLen ∧ zs.length = cap ∧ (∀ i, i < zs.length → w.cell? (x.add i) = some (.int k (zs.getD i 0))) ∧ ∀ n ∈ zs, (Lit.int k n).wf = true
open Go.Proofs.YtpoppdaaodmicaaW.PrintWords in
/-- A slice of structs of two bytes, as it lies. -/
theorem pairs_of {H : Type} {enc : TypeId × Value → H} {W : World} {base : Nat} {spare : Nat → Bool} {held : Bool} {fuel : Nat} {A : Option Addr} {len cap : Nat} {x : DataW H × List MemPlace} (h : DataW.trod enc Try.prog W base spare held fuel 41 [.slice A len cap] = some x) :
    ∃ ps : List Q.S44, ps.length = len ∧ Kd.C Q.k44 W A ps.length ps ∧ ps.length ≤ cap ∧ ∀ s ∈ ps, 0 ≤ s.f0 ∧ 0 ≤ s.f1 := by
  rcases Go.Deep.open_slice_pairs Try.underlying41 Try.underlying44 (by kernel_rfl) rfl rfl (by kernel_rfl) (by kernel_rfl) h with ⟨hcs, _⟩ | ⟨a, l, c, m, n, V0, V1, D0, D1, P0, P1, hcs, _, hl, hm, hmm, _, hi⟩
  · simp at hcs
    obtain ⟨rfl, rfl, rfl⟩ := hcs
    exact ⟨[], rfl, Kd.C_nil _ _, Nat.le_refl _, fun s hs => by simp at hs⟩
  · simp at hcs
    obtain ⟨rfl, rfl, rfl⟩ := hcs
    have hlm : len ≤ m := by rw [hmm]; split <;> omega
    have each : ∀ i, i < len → ∃ q : Int × Int, V0 i = .int .u8 q.1 ∧ V1 i = .int .u8 q.2 ∧ 0 ≤ q.1 ∧ 0 ≤ q.2 := fun i hil => by
      obtain ⟨_, _, t0, t1⟩ := hi i (by omega)
      obtain ⟨n0, e0, _, w0⟩ := DataW.trod_int Try.underlying5 t0
      obtain ⟨n1, e1, _, w1⟩ := DataW.trod_int Try.underlying5 t1
      simp only [List.cons.injEq, and_true] at e0 e1
      exact ⟨(n0, n1), e0, e1, (bounds_u8 w0).1, (bounds_u8 w1).1⟩
    obtain ⟨q, hq⟩ := Go.Deep.choose_lt each
    have hlen : ((List.range len).map fun i => (⟨(q i).1, (q i).2⟩ : Q.S44)).length = len := by rw [List.length_map, List.length_range]
    refine ⟨(List.range len).map fun i => ⟨(q i).1, (q i).2⟩, hlen, ?_, by rw [hlen]; exact hl, ?_⟩
    · refine ⟨rfl, by rw [hlen]; have : maxLen = 9223372036854775807 := rfl; omega, fun _ => ⟨a, rfl, fun j p hj => ?_⟩⟩
      rw [List.getElem?_map] at hj
      obtain ⟨j', hj1, rfl⟩ := Option.map_eq_some_iff.1 hj
      obtain ⟨hj2, hj3⟩ := List.getElem?_eq_some_iff.1 hj1
      rw [List.length_range] at hj2
      rw [List.getElem_range] at hj3
      subst hj3
      obtain ⟨c0, c1, _, _⟩ := hi j (by omega)
      obtain ⟨e0, e1, _, _⟩ := hq j hj2
      rw [e0] at c0
      rw [e1] at c1
      refine ⟨_, rfl, Q.k44_mk _ _, fun i u hu => ?_⟩
      match i, hu with
      | 0, hu => exact c0.trans hu
      | 1, hu => exact c1.trans hu
      | i + 2, hu => simp at hu
    · intro s hs
      obtain ⟨i, hi', rfl⟩ := List.mem_map.1 hs
      obtain ⟨_, _, g0, g1⟩ := hq i (by simpa using hi')
      exact ⟨g0, g1⟩
theorem i16_bounds {n : Int} (h : (Lit.int .i16 n).wf = true) : -32768 ≤ n ∧ n ≤ 32767 := by
  have e1 : IntKind.i16.min = -32768 := by decide
  have e2 : IntKind.i16.max = 32767 := by decide
  simp only [Lit.wf, e1, e2, Bool.and_eq_true, decide_eq_true_eq] at h
  exact h
open Go.Proofs.YtpoppdaaodmicaaW.PrintWords in
theorem walk (a0 : Option Addr) (len0 cap0 : Nat) (z0 : List Int) (a1 : Option Addr) (cap1 : Nat) (ps : List Q.S44) (w : World) (w0 : IsRow .i16 w a0 len0 cap0 z0) (h1 : Kd.C Q.k44 w a1 ps.length ps) (hc1 : ps.length ≤ cap1) (hp : ∀ s ∈ ps, 0 ≤ s.f0 ∧ 0 ≤ s.f1) :
    Calls Try.prog 12 #[.slice a0 len0 cap0, .slice a1 ps.length cap1] w fun e w' => e = .returned (.bool true) ∧ Below w.heap.size w w' := by
  obtain ⟨l0, rfl, hr0, hm0, hw0, hc0⟩ := ReadsInt.ofRowC w0
  have hb : Q.Between (-32768) 32767 l0 := fun i hi => by
    unfold rd
    rw [show ((i : Int)).toNat = i by omega, List.getD_eq_getElem?_getD, List.getElem?_eq_getElem hi]
    exact i16_bounds (hw0 _ (List.getElem_mem hi))
  have hpa : ∀ i : Nat, 0 ≤ (Q.rd_T44 ps (i : Int)).f0 ∧ 0 ≤ (Q.rd_T44 ps (i : Int)).f1 := fun i => by
    unfold Q.rd_T44
    rw [show ((i : Int)).toNat = i by omega, List.getD_eq_getElem?_getD]
    by_cases hi : i < ps.length
    · rw [List.getElem?_eq_getElem hi]
      exact hp _ (List.getElem_mem hi)
    · rw [List.getElem?_eq_none (by omega)]
      exact ⟨Int.le_refl _, Int.le_refl _⟩
  exact Q.reedpipelaw13_LapBack.calls 9000 a0 cap0 l0 a1 cap1 ps true w (Kd.C_of_reads (d := (0 : Int)) (h1 := fun _ => rfl) hr0) hc0 h1 hc1 (Pure.back_all hb hpa (Nat.le_refl _))
set_option maxRecDepth 100000 in
theorem lifted (os : Os) (started : os.Started) (H : Type) (enc : TypeId × Value → H) :
    ReturnsInHanded {} Try.checked os 12 .any (Rows.lapBackSpec.pre6 enc Try.prog Try.f12 Rows.lapBackRow.domain false) (Rows.lapBackSpec.post enc Try.prog Try.f12 false true false false) := by
  refine returnsInHanded_of_change_sized (C := Try.checked) own started (by kernel_rfl) Try.func12
    (ChangeSpec.witness6 (enc := enc) (C := Try.checked) false ⟨#[], #[.slice none 0 0, .slice none 0 0], []⟩ 8 (by kernel_rfl) (by kernel_rfl) (by kernel_rfl) (by kernel_rfl)) ?_
  intro W base args ds gs before hval0 hW hcnd hsz0 _
  have hval : ∀ (j : Nat) t v, Try.f12.params[j]? = some t → args[j]? = some v → Value.okWide Try.prog W .any base t v := hval0
  have hW' := hW
  obtain ⟨p, q, hA0, hV, rfl, hfz, hnd⟩ := hW
  have hA : DataW.TrodAll enc Try.prog W 0 (fun _ => true) true Try.f12.params.toList args.toList ds p := hA0
  rw [Try.params12] at hA hval
  obtain ⟨v0, vs0, d0, ds0, p0, q0, hargs, rfl, rfl, h0, r0⟩ := trodAll_cons hA
  obtain ⟨v1, vs1, d1, ds1, p1, q1, rfl, rfl, rfl, h1, r1⟩ := trodAll_cons r0
  obtain ⟨rfl, rfl, rfl⟩ := trodAll_nil r1
  obtain rfl : args = #[v0, v1] := by cases args; simp_all
  obtain ⟨rfl, rfl⟩ := trodVars_none hV
  obtain ⟨a0, len0, cap0, rfl⟩ := okWide_slice Try.underlying40 (hval 0 40 v0 rfl rfl)
  have k0 := h0
  have lt0 : ∀ x ∈ p0, x.block < W.heap.size := by obtain ⟨m, hm⟩ := k0; exact DataW.trod_lt m _ _ _ hm
  obtain ⟨z0, w0⟩ : ∃ zs, IsRow .i16 W a0 len0 cap0 zs := by
    obtain ⟨fuel, hf⟩ := h0
    rcases open_ints Try.underlying40 Try.underlying25 (by kernel_rfl) hf with ⟨hcs, _⟩ | ⟨x, l, c, zs, hcs, _, hl, hm, hz, _, hcell, hwz⟩
    · simp [Value.cells] at hcs
      obtain ⟨rfl, rfl, rfl⟩ := hcs
      exact ⟨[], .inl ⟨rfl, rfl, rfl, rfl⟩⟩
    · simp [Value.cells] at hcs
      obtain ⟨rfl, rfl, rfl⟩ := hcs
      exact ⟨zs, .inr ⟨_, rfl, hl, hm, by simpa using hz, hcell, hwz⟩⟩
  obtain ⟨a1, len1, cap1, rfl⟩ := okWide_slice Try.underlying41 (hval 1 41 v1 rfl rfl)
  have k1 := h1
  have lt1 : ∀ x ∈ p1, x.block < W.heap.size := by obtain ⟨m, hm⟩ := k1; exact DataW.trod_lt m _ _ _ hm
  obtain ⟨ps, hpl, hpc, hpk, hpp⟩ : ∃ ps : List Q.S44, ps.length = len1 ∧ Go.Proofs.YtpoppdaaodmicaaW.PrintWords.Kd.C Q.k44 W a1 ps.length ps ∧ ps.length ≤ cap1 ∧ ∀ s ∈ ps, 0 ≤ s.f0 ∧ 0 ≤ s.f1 := by
    obtain ⟨fuel, hf⟩ := h1
    exact pairs_of hf
  subst hpl
  clear hA0 hval0 hsz0
  refine (walk a0 len0 cap0 z0 a1 cap1 ps W w0 hpc hpk hpp).mono fun e W' ⟨he, bel⟩ => ?_
  subst he
  exact ⟨_, rfl, _, _, _, [], _, [], hW', trodAll_mk1 (shut_bool Try.underlying4 _), (trodAll_cons_mk (Below.trod laidOut (by kernel_rfl) (of_decide_eq_true (by kernel_rfl)) k0 bel lt0) (trodAll_cons_mk (Below.trod laidOut (by kernel_rfl) (of_decide_eq_true (by kernel_rfl)) k1 bel lt1) trodAll_mk0)), rfl, bel.frame _, fun h => by cases h⟩
theorem closed : joinedFacts Try.prog 12 Try.f12 Rows.lapBackSpec Rows.lapBackRow = true := by
  unfold joinedFacts
  rw [Head.make_is, Head.enter_is, Head.lifts_is]
  kernel_rfl
theorem over : Rows.lapBackRow.holds Try.pinned (OpenSpec.ofChange Rows.lapBackSpec) :=
  OpenClaim.holds_of_wide 12 Try.f12 rfl rfl rfl rfl rfl rfl rfl ⟨rfl, rfl, rfl, rfl, rfl⟩ rfl rfl rfl rfl rfl (by kernel_rfl) Try.func12 closed
    (of_decide_eq_true (by kernel_rfl)) (by unfold Func.isWrapper; first | (rw [if_pos (by decide +kernel)]; kernel_rfl) | (rw [if_neg (by decide +kernel)]; exact ⟨rfl, rfl⟩))
    (fun os started H enc _ => lifted os started H enc)
theorem proved : Rows.LapBackSaid := over
#print axioms proved
end Go.Proofs.Ytpoppdaaodmicaa.lapBack
namespace Go.Proofs.Ytpoppdaaodmicaa
/-- The row, under a short name, for the claim. -/
theorem lapBack_holds : Rows.LapBackSaid := lapBack.proved
end Go.Proofs.Ytpoppdaaodmicaa
