/- MdctDoes: samples are transformed, and lines back, as the document says; they stay, and what is answered is new memory: any samples and lines. No condition. -/
import Derived.Test.YtpoppdaaodmicaaN1
import Derived.Test.YtpoppdaaodmicaaQ17
namespace Go.Proofs.Ytpoppdaaodmicaa.Pure
open Go.RowKit Go.Proofs.Ytpoppdaaodmicaa.Q Go.Proofs.YtpoppdaaodmicaaW.PrintWords Go.Proofs.YtpoppdaaodmicaaW.PrintLast

theorem mdctDoes_l1 {z x : List Int} (hz : z.length ≤ 1000) (hx : x.length ≤ 1000) (d : Nat) : ∀ (k i : Nat) (v : List Int), v.length ≤ 1000 → i + d = v.length → d + 1100 ≤ k →
    reedpipelaw11_MdctDoes.l1 k z x z x v (i : Int) = some true := by
  induction d with
  | zero =>
    intro k i v hv hi hk
    obtain ⟨k, rfl⟩ : ∃ j, k = j + 1 := ⟨k - 1, by omega⟩
    rw [reedpipelaw11_MdctDoes.l1.eq_2, if_neg (by omega), same11 (by omega) (by omega), Option.bind_some, if_pos rfl, same11 (by omega) (by omega), Option.bind_some]
  | succ d ih =>
    intro k i v hv hi hk
    obtain ⟨k, rfl⟩ : ∃ j, k = j + 1 := ⟨k - 1, by omega⟩
    rw [reedpipelaw11_MdctDoes.l1.eq_2, if_pos (by omega), if_pos (by omega), wrap_in (n := (i : Int) + 1) (by omega) (by omega)]
    exact ih k (i + 1) _ (by simpa using hv) (by rw [List.length_set]; omega) (by omega)
theorem mdctDoes_l0 {z x v : List Int} (hz : z.length ≤ 1000) (hx : x.length ≤ 1000) (hv : v.length ≤ 1000) (d : Nat) : ∀ (k i : Nat) (u : List Int), u.length ≤ 1000 → i + d = u.length → d + 2200 ≤ k →
    reedpipelaw11_MdctDoes.l0 k z x z x u v (i : Int) = some true := by
  induction d with
  | zero =>
    intro k i u hu hi hk
    obtain ⟨k, rfl⟩ : ∃ j, k = j + 1 := ⟨k - 1, by omega⟩
    rw [reedpipelaw11_MdctDoes.l0.eq_2, if_neg (by omega)]
    exact mdctDoes_l1 hz hx v.length k 0 v hv (by omega) (by omega)
  | succ d ih =>
    intro k i u hu hi hk
    obtain ⟨k, rfl⟩ : ∃ j, k = j + 1 := ⟨k - 1, by omega⟩
    rw [reedpipelaw11_MdctDoes.l0.eq_2, if_pos (by omega), if_pos (by omega), wrap_in (n := (i : Int) + 1) (by omega) (by omega)]
    exact ih k (i + 1) _ (by simpa using hu) (by rw [List.length_set]; omega) (by omega)
theorem forward_some (z : List Int) : ∃ l c, mdct_Forward.f z = some (l, c) ∧ l.length ≤ 256 := by
  rcases forward_cases z with ⟨h, _⟩ | ⟨h, _⟩ | ⟨m, s, b, hs, hl, hz, h⟩
  · exact ⟨_, _, h, by simp⟩
  · exact ⟨_, _, h, by simp⟩
  · exact ⟨_, _, h, by rw [List.length_map, List.length_range]; rcases hs with ⟨rfl, _⟩ | ⟨rfl, _⟩ <;> omega⟩
theorem inverse_some (x : List Int) : ∃ l c, mdct_Inverse.f x = some (l, c) ∧ l.length ≤ 512 := by
  rcases inverse_cases x with ⟨h, _⟩ | ⟨h, _⟩ | ⟨m, s, b, hs, hl, hz, h⟩
  · exact ⟨_, _, h, by simp⟩
  · exact ⟨_, _, h, by simp⟩
  · exact ⟨_, _, h, by rw [List.length_map, List.length_range]; rcases hs with ⟨rfl, _⟩ | ⟨rfl, _⟩ <;> omega⟩
theorem mdctDoes_all (z x : List Int) {k : Nat} (hk : 210000 ≤ k) : reedpipelaw11_MdctDoes.f k z x = some true := by
  obtain ⟨k, rfl⟩ : ∃ j, k = j + 1 + 1 := ⟨k - 2, by omega⟩
  unfold reedpipelaw11_MdctDoes.f
  by_cases h1 : (z.length : Int) > 1000
  · rw [if_pos h1, reedpipelaw11_MdctDoes.j0.eq_2, if_pos rfl]
  by_cases h2 : (x.length : Int) > 1000
  · rw [if_neg h1, decide_eq_true h2, reedpipelaw11_MdctDoes.j0.eq_2, if_pos rfl]
  obtain ⟨u, c, e1, l1⟩ := forward_some z
  obtain ⟨v, e, e2, l2⟩ := inverse_some x
  have s1 : reedpiperef11_Same.f (k + 1) u u = some true := same11 (by omega) (by omega)
  have s2 : reedpiperef11_Same.f (k + 1) v v = some true := same11 (by omega) (by omega)
  have f1 : reedpiperef11_Forward.f (k + 1) z = some (u, c) := (refforward (by omega)).trans e1
  have f2 : reedpiperef11_Inverse.f (k + 1) x = some (v, e) := (refinverse (by omega)).trans e2
  have n1 : ([] : List Int).length + z.length < 17592186044416 := by rw [List.length_nil]; omega
  have n2 : ([] : List Int).length + x.length < 17592186044416 := by rw [List.length_nil]; omega
  have n3 : (e != e) = false := by simp
  rw [if_neg h1, decide_eq_false h2, reedpipelaw11_MdctDoes.j0.eq_2, if_neg (by simp), if_pos n1, Option.bind_some, if_pos n2, Option.bind_some, List.nil_append, List.nil_append, e1, Option.bind_some, f1, Option.bind_some, e2, Option.bind_some, f2, Option.bind_some]
  dsimp only
  rw [s1, Option.bind_some, if_pos rfl, if_pos rfl, s2, Option.bind_some, if_pos rfl, n3, reedpipelaw11_MdctDoes.j1.eq_2, if_neg (by simp)]
  exact mdctDoes_l0 (by omega) (by omega) (by omega) u.length k 0 u (by omega) (by omega) (by omega)
theorem MdctDoes : reedpipelaw11_MdctDoes.Pure := fun l0 l1 _ _ _ _ _ _ => ⟨210000, mdctDoes_all l0 l1 (Nat.le_refl _)⟩

end Go.Proofs.Ytpoppdaaodmicaa.Pure
