/- WindowHalves: a window's first value is below a 16th part of its last one, which is above 9/10 of one; both shapes are unlike: of all four halves. No condition. -/
import Derived.Test.YtpoppdaaodmicaaV2
import Derived.Test.YtpoppdaaodmicaaQ15
namespace Go.Proofs.Ytpoppdaaodmicaa.Pure
open Go.RowKit Go.Proofs.Ytpoppdaaodmicaa.Q Go.Proofs.YtpoppdaaodmicaaW.PrintWords Go.Proofs.YtpoppdaaodmicaaW.PrintLast

theorem halves_j1_long {k : Nat} : reedpipelaw05_WindowHalves.j1 (k + 1) true 0 Win.s256 Win.k256 false = reedpipelaw05_WindowHalves.l0 k true 1 := by
  obtain ⟨l1, l2, l3, l4, l5, l6⟩ := win_lens
  simp only [reedpipelaw05_WindowHalves.j1]
  rw [if_neg (by decide), if_pos (by decide +kernel), if_pos (by decide +kernel), if_pos (by decide +kernel), if_neg (by decide +kernel), if_pos (by decide +kernel), if_pos (by decide +kernel), if_neg (by decide +kernel), if_neg (by decide +kernel), if_neg (by decide +kernel), if_neg (by decide +kernel), if_pos (by decide +kernel), if_pos (by decide +kernel), if_pos (by decide +kernel), if_neg (by decide +kernel)]
  rw [show wrap64 (0 + 1) = 1 by decide +kernel]
theorem halves_j1_short {k : Nat} : reedpipelaw05_WindowHalves.j1 (k + 1) true 1 Win.s32 Win.k32 false = reedpipelaw05_WindowHalves.l0 k true 2 := by
  obtain ⟨l1, l2, l3, l4, l5, l6⟩ := win_lens
  simp only [reedpipelaw05_WindowHalves.j1]
  rw [if_neg (by decide), if_pos (by decide +kernel), if_pos (by decide +kernel), if_pos (by decide +kernel), if_neg (by decide +kernel), if_pos (by decide +kernel), if_pos (by decide +kernel), if_neg (by decide +kernel), if_neg (by decide +kernel), if_neg (by decide +kernel), if_neg (by decide +kernel), if_pos (by decide +kernel), if_pos (by decide +kernel), if_pos (by decide +kernel), if_neg (by decide +kernel)]
  rw [show wrap64 (1 + 1) = 2 by decide +kernel]
theorem halves_l0 {k : Nat} (hk : 700 ≤ k) : reedpipelaw05_WindowHalves.l0 (k + 5) true 0 = some true := by
  simp only [reedpipelaw05_WindowHalves.l0]
  rw [if_pos (by decide), show ((0 : Int) == 1) = false from rfl, half_yes (.inl rfl) (by omega), half_yes (.inr rfl) (by omega)]
  simp only [Option.bind_some]
  rw [if_pos trivial, if_pos trivial, halfL_length, halfL_length, if_pos rfl, show decide (((if false = true then 32 else 256 : Nat) : Int) < 32) = false from rfl]
  rw [show halfL 0 false = Win.s256 from rfl, show halfL 1 false = Win.k256 from rfl, halves_j1_long]
  simp only [reedpipelaw05_WindowHalves.l0]
  rw [if_pos (by decide), show ((1 : Int) == 1) = true from rfl, half_yes (.inl rfl) (by omega), half_yes (.inr rfl) (by omega)]
  simp only [Option.bind_some]
  rw [if_pos trivial, if_pos trivial, halfL_length, halfL_length, if_pos rfl, show decide (((if true = true then 32 else 256 : Nat) : Int) < 32) = false from rfl]
  rw [show halfL 0 true = Win.s32 from rfl, show halfL 1 true = Win.k32 from rfl, halves_j1_short]
  simp only [reedpipelaw05_WindowHalves.l0]
  rw [if_neg (by decide)]
theorem halves_all {k : Nat} (hk : 705 ≤ k) : reedpipelaw05_WindowHalves.f k = some true := by
  obtain ⟨k, rfl⟩ : ∃ j, k = j + 5 := ⟨k - 5, by omega⟩
  unfold reedpipelaw05_WindowHalves.f
  rw [alive05 (by omega), Option.bind_some]
  exact halves_l0 (by omega)
theorem WindowHalves : reedpipelaw05_WindowHalves.Pure := ⟨705, halves_all (Nat.le_refl _)⟩

end Go.Proofs.Ytpoppdaaodmicaa.Pure
