/- Plain facts on the four halves: they rise, from above 0 to at most 2^22; squares of values as far from both ends are together 2^44, but for 2^25 at most. -/
import Derived.Test.YtpoppdaaodmicaaV1
namespace Go.Proofs.Ytpoppdaaodmicaa.Q
open Go.RowKit Go.Proofs.YtpoppdaaodmicaaW.PrintWords Go.Proofs.YtpoppdaaodmicaaW.PrintLast Go.Proofs.YtpoppdaaodmicaaW.PrintMore

def powerAt (t : List Int) (n : Nat) : Bool :=
  decide (0 < t.getD n 0) && decide (t.getD n 0 ≤ 4194304) && decide (t.getD (n - 1) 0 ≤ t.getD n 0) &&
  decide (-33554432 ≤ t.getD n 0 * t.getD n 0 + t.getD (t.length - 1 - n) 0 * t.getD (t.length - 1 - n) 0 - 17592186044416) &&
  decide (t.getD n 0 * t.getD n 0 + t.getD (t.length - 1 - n) 0 * t.getD (t.length - 1 - n) 0 - 17592186044416 ≤ 33554432)
def powerAll (t : List Int) : Bool := (List.range t.length).all (powerAt t)
theorem power_chk : powerAll Win.s256 = true ∧ powerAll Win.s32 = true ∧ powerAll Win.k256 = true ∧ powerAll Win.k32 = true := by decide +kernel
theorem power_at {t : List Int} (h : powerAll t = true) {n : Nat} (hn : n < t.length) : 0 < t.getD n 0 ∧ t.getD n 0 ≤ 4194304 ∧ t.getD (n - 1) 0 ≤ t.getD n 0 ∧
    -33554432 ≤ t.getD n 0 * t.getD n 0 + t.getD (t.length - 1 - n) 0 * t.getD (t.length - 1 - n) 0 - 17592186044416 ∧
    t.getD n 0 * t.getD n 0 + t.getD (t.length - 1 - n) 0 * t.getD (t.length - 1 - n) 0 - 17592186044416 ≤ 33554432 := by
  unfold powerAll at h
  rw [List.all_eq_true] at h
  have := h n (by simpa using hn)
  unfold powerAt at this
  simp only [Bool.and_eq_true, decide_eq_true_eq] at this
  obtain ⟨⟨⟨⟨a, b⟩, c⟩, d⟩, e⟩ := this
  exact ⟨a, b, c, d, e⟩
theorem half_power {a0 : Int} (h : a0 = 0 ∨ a0 = 1) (a1 : Bool) : powerAll (halfL a0 a1) = true := by
  obtain ⟨h1, h2, h3, h4⟩ := power_chk
  unfold halfL
  rcases h with rfl | rfl <;> cases a1 <;> simp [*]

end Go.Proofs.Ytpoppdaaodmicaa.Q
