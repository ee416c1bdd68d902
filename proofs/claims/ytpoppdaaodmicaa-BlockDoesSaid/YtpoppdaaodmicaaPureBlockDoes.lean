/- BlockDoes: windows are as the document says, and samples are analysed, lines synthesised so; they stay, and what is answered is new memory: any sequence, shapes, samples and lines. No condition. -/
import Derived.Test.YtpoppdaaodmicaaN2
import Derived.Test.YtpoppdaaodmicaaQ23
import Derived.OpenShut
namespace Go.Proofs.Ytpoppdaaodmicaa.Pure
open Go.RowKit Go.Proofs.Ytpoppdaaodmicaa.Q Go.Proofs.YtpoppdaaodmicaaW.PrintWords Go.Proofs.YtpoppdaaodmicaaW.PrintLast

theorem bd_l2 {z x : List Int} (hz : z.length ≤ 1000) (hx : x.length ≤ 1000) (d : Nat) : ∀ (k i : Nat) (v : List Int), v.length ≤ 1000 → i + d = v.length → d + 1100 ≤ k →
    reedpipelaw12_BlockDoes.l2 k z x z x v (i : Int) = some true := by
  induction d with
  | zero =>
    intro k i v hv hi hk
    obtain ⟨k, rfl⟩ : ∃ j, k = j + 1 := ⟨k - 1, by omega⟩
    have g1 : ¬ (i : Int) < (v.length : Int) := by omega
    rw [reedpipelaw12_BlockDoes.l2.eq_2, if_neg g1, same11 (by omega) (by omega), Option.bind_some, if_pos rfl, same11 (by omega) (by omega), Option.bind_some]
  | succ d ih =>
    intro k i v hv hi hk
    obtain ⟨k, rfl⟩ : ∃ j, k = j + 1 := ⟨k - 1, by omega⟩
    have g1 : (i : Int) < (v.length : Int) := by omega
    have g2 : (0 : Int) ≤ (i : Int) := by omega
    have e := fun y : Int => ih k (i + 1) (v.set ((i : Int)).toNat y) (by rw [List.length_set]; exact hv) (by rw [List.length_set]; omega) (by omega)
    rw [reedpipelaw12_BlockDoes.l2.eq_2, if_pos g1, if_pos g2, wsucc (by omega)]
    exact e _
theorem bd_l1 {z x v : List Int} (hz : z.length ≤ 1000) (hx : x.length ≤ 1000) (hv : v.length ≤ 1000) (d : Nat) : ∀ (k i : Nat) (u : List Int), u.length ≤ 1000 → i + d = u.length → d + 2200 ≤ k →
    reedpipelaw12_BlockDoes.l1 k z x z x u v (i : Int) = some true := by
  induction d with
  | zero =>
    intro k i u hu hi hk
    obtain ⟨k, rfl⟩ : ∃ j, k = j + 1 := ⟨k - 1, by omega⟩
    have g1 : ¬ (i : Int) < (u.length : Int) := by omega
    rw [reedpipelaw12_BlockDoes.l1.eq_2, if_neg g1]
    exact bd_l2 hz hx v.length k 0 v hv (by omega) (by omega)
  | succ d ih =>
    intro k i u hu hi hk
    obtain ⟨k, rfl⟩ : ∃ j, k = j + 1 := ⟨k - 1, by omega⟩
    have g1 : (i : Int) < (u.length : Int) := by omega
    have g2 : (0 : Int) ≤ (i : Int) := by omega
    have e := fun y : Int => ih k (i + 1) (u.set ((i : Int)).toNat y) (by rw [List.length_set]; exact hu) (by rw [List.length_set]; omega) (by omega)
    rw [reedpipelaw12_BlockDoes.l1.eq_2, if_pos g1, if_pos g2, wsucc (by omega)]
    exact e _
theorem bd_l0 {z x u v : List Int} (hz : z.length ≤ 1000) (hx : x.length ≤ 1000) (hu : u.length ≤ 1000) (hv : v.length ≤ 1000) (d : Nat) : ∀ (k i : Nat) (y : List Int), y.length ≤ 1000 → i + d = y.length → d + 3300 ≤ k →
    reedpipelaw12_BlockDoes.l0 k z x z x y u v (i : Int) = some true := by
  induction d with
  | zero =>
    intro k i y hy hi hk
    obtain ⟨k, rfl⟩ : ∃ j, k = j + 1 := ⟨k - 1, by omega⟩
    have g1 : ¬ (i : Int) < (y.length : Int) := by omega
    rw [reedpipelaw12_BlockDoes.l0.eq_2, if_neg g1]
    exact bd_l1 hz hx hv u.length k 0 u hu (by omega) (by omega)
  | succ d ih =>
    intro k i y hy hi hk
    obtain ⟨k, rfl⟩ : ∃ j, k = j + 1 := ⟨k - 1, by omega⟩
    have g1 : (i : Int) < (y.length : Int) := by omega
    have g2 : (0 : Int) ≤ (i : Int) := by omega
    have e := fun y' : Int => ih k (i + 1) (y.set ((i : Int)).toNat y') (by rw [List.length_set]; exact hy) (by rw [List.length_set]; omega) (by omega)
    rw [reedpipelaw12_BlockDoes.l0.eq_2, if_pos g1, if_pos g2, wsucc (by omega)]
    exact e _
theorem analyse_some {a0 a1 a2 : Int} (w0 : 0 ≤ a0) (w1 : 0 ≤ a1) (w2 : 0 ≤ a2) (z : List Int) : ∃ l c, block_Analyse.f a0 a1 a2 z = some (l, c) ∧ l.length ≤ 256 := by
  rcases analyse_no (a0 := a0) (a1 := a1) (a2 := a2) (l := z) with ⟨e, _, h⟩ | ⟨⟨m0, m1, m2⟩, hl, hb⟩
  · exact ⟨_, _, h, by simp⟩
  · exact ⟨_, _, analyse_yes ⟨w0, m0⟩ (by omega) (by omega) hl hb, by rw [anL_length]; omega⟩
theorem synth_some {a0 a1 a2 : Int} (w0 : 0 ≤ a0) (w1 : 0 ≤ a1) (w2 : 0 ≤ a2) (x : List Int) : ∃ l c, block_Synth.f a0 a1 a2 x = some (l, c) ∧ l.length ≤ 512 := by
  rcases synth_no (a0 := a0) (a1 := a1) (a2 := a2) (l := x) with ⟨e, _, h, _⟩ | ⟨⟨m0, m1, m2⟩, hl, hb⟩
  · exact ⟨_, _, h, by simp⟩
  · exact ⟨_, _, synth_yes ⟨w0, m0⟩ (by omega) (by omega) hl hb, by rw [snL_length]; omega⟩
theorem blockDoes_all {a0 a1 a2 : Int} (w0 : 0 ≤ a0) (w1 : 0 ≤ a1) (w2 : 0 ≤ a2) (z x : List Int) {k : Nat} (hk : 210000 ≤ k) : reedpipelaw12_BlockDoes.f k a0 a1 a2 z x = some true := by
  obtain ⟨k, rfl⟩ : ∃ j, k = j + 1 + 1 := ⟨k - 2, by omega⟩
  unfold reedpipelaw12_BlockDoes.f
  by_cases h1 : (z.length : Int) > 1000
  · rw [if_pos h1, reedpipelaw12_BlockDoes.j0.eq_2, if_pos rfl]
  by_cases h2 : (x.length : Int) > 1000
  · rw [if_neg h1, decide_eq_true h2, reedpipelaw12_BlockDoes.j0.eq_2, if_pos rfl]
  obtain ⟨y, b, e0, e0', l0⟩ := refwindow w0 w1 w2 (k := k + 1) (by omega)
  obtain ⟨u, c, e1, l1⟩ := analyse_some w0 w1 w2 z
  obtain ⟨v, e, e2, l2⟩ := synth_some w0 w1 w2 x
  have s0 : reedpiperef11_Same.f (k + 1) y y = some true := same11 (by omega) (by omega)
  have s1 : reedpiperef11_Same.f (k + 1) u u = some true := same11 (by omega) (by omega)
  have s2 : reedpiperef11_Same.f (k + 1) v v = some true := same11 (by omega) (by omega)
  have f1 : reedpiperef12_Analyse.f (k + 1) a0 a1 a2 z = some (u, c) := (refanalyse w0 w1 w2 z (by omega)).trans e1
  have f2 : reedpiperef12_Synth.f (k + 1) a0 a1 a2 x = some (v, e) := (refsynth w0 w1 w2 x (by omega)).trans e2
  have n1 : ([] : List Int).length + z.length < 17592186044416 := by rw [List.length_nil]; omega
  have n2 : ([] : List Int).length + x.length < 17592186044416 := by rw [List.length_nil]; omega
  have n3 : (e != e) = false := by simp
  have hfin := bd_l0 (z := z) (x := x) (u := u) (v := v) (by omega) (by omega) (by omega) (by omega) y.length k 0 y (by omega) (by omega) (by omega)
  rw [if_neg h1, decide_eq_false h2, reedpipelaw12_BlockDoes.j0.eq_2, if_neg (by simp), if_pos n1, Option.bind_some, if_pos n2, Option.bind_some, List.nil_append, List.nil_append, e0', Option.bind_some, e0, Option.bind_some, e1, Option.bind_some, f1, Option.bind_some, e2, Option.bind_some, f2, Option.bind_some]
  dsimp only
  rw [s0, Option.bind_some, if_pos rfl, if_pos rfl, s1, Option.bind_some, if_pos rfl, if_pos rfl, s2, Option.bind_some, if_pos rfl, n3, reedpipelaw12_BlockDoes.j1.eq_2, if_neg (by simp)]
  exact hfin
theorem BlockDoes : reedpipelaw12_BlockDoes.Pure := fun _ _ _ l3 l4 w0 w1 w2 _ _ _ _ _ _ => ⟨210000, blockDoes_all (bounds_u8 w0).1 (bounds_u8 w1).1 (bounds_u8 w2).1 l3 l4 (Nat.le_refl _)⟩

end Go.Proofs.Ytpoppdaaodmicaa.Pure
