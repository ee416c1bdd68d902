/- TrigSums: the cosine of two arcs together is the product of cosines less that of sines, to 8 of 2^-26 (it is proved to 2): any two arcs. No condition. -/
import Derived.Test.YtpoppdaaodmicaaT3
import Derived.Test.YtpoppdaaodmicaaQ8
namespace Go.Proofs.Ytpoppdaaodmicaa.Pure
open Go.RowKit Go.Proofs.Ytpoppdaaodmicaa.Q Go.Proofs.YtpoppdaaodmicaaW.PrintWords Go.Proofs.YtpoppdaaodmicaaW.PrintLast

theorem mul_small {a b : Int} (ha : -67108864 ≤ a ∧ a ≤ 67108864) (hb : -67108864 ≤ b ∧ b ≤ 67108864) : -4503599627370496 ≤ a * b ∧ a * b ≤ 4503599627370496 := by
  have h := Int.natAbs_mul a b
  have h1 : a.natAbs * b.natAbs ≤ 67108864 * 67108864 := Nat.mul_le_mul (by omega) (by omega)
  omega

theorem TrigSums : reedpipelaw04_TrigSums.Pure := by
  intro a0 a1 _ _
  refine ⟨5, ?_⟩
  unfold reedpipelaw04_TrigSums.f
  have ha : reedpipelaw04_alive.f 5 = some true := by decide +kernel
  have hn1 := Int.tmod_lt_of_pos a0 (b := 2048) (by decide)
  have hn2 := Int.lt_tmod_of_pos a0 (b := 2048) (by decide)
  have hm1 := Int.tmod_lt_of_pos a1 (b := 2048) (by decide)
  have hm2 := Int.lt_tmod_of_pos a1 (b := 2048) (by decide)
  generalize Int.tmod a0 2048 = n at *
  generalize Int.tmod a1 2048 = m at *
  rw [ha, wrap_in (n := n + m) (by omega) (by omega)]
  simp only [cos_is _ (show 1 ≤ 5 by decide), sin_is _ (show 1 ≤ 5 by decide), Option.bind_some]
  have h := Tab.sums n m
  unfold Tab.Sums at h
  have b1 := mul_small (Tab.C_max n) (Tab.C_max m)
  have b2 := mul_small (Tab.C_max (n - 512)) (Tab.C_max (m - 512))
  have b3 := Tab.C_max (n + m)
  unfold Tab.S at *
  generalize Tab.C n * Tab.C m = x at *
  generalize Tab.C (n - 512) * Tab.C (m - 512) = y at *
  generalize Tab.C (n + m) = z at *
  rw [wrap_in (n := x) (by omega) (by omega), wrap_in (n := y) (by omega) (by omega), wrap_in (n := x - y) (by omega) (by omega), wrap_in (n := z * 67108864) (by omega) (by omega), wrap_in (n := x - y - z * 67108864) (by omega) (by omega)]
  rw [if_pos trivial, if_pos (by omega), decide_eq_true (by omega)]

end Go.Proofs.Ytpoppdaaodmicaa.Pure
