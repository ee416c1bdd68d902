/- TrigCircle: the squares of cosine and sine are together 2^52, but for 2^28 at most; cosines fall from part 0 to part 1,024; of each part of a circle. No condition. -/
import Derived.Test.YtpoppdaaodmicaaT3
import Derived.Test.YtpoppdaaodmicaaQ7
namespace Go.Proofs.Ytpoppdaaodmicaa.Pure
open Go.RowKit Go.Proofs.Ytpoppdaaodmicaa.Q Go.Proofs.YtpoppdaaodmicaaW.PrintWords Go.Proofs.YtpoppdaaodmicaaW.PrintLast

theorem square_small {a : Int} (ha : -67108864 ≤ a ∧ a ≤ 67108864) : -4503599627370496 ≤ a * a ∧ a * a ≤ 4503599627370496 := by
  have h := Int.natAbs_mul a a
  have h1 : a.natAbs * a.natAbs ≤ 67108864 * 67108864 := Nat.mul_le_mul (by omega) (by omega)
  omega

theorem circle_from (d : Nat) : ∀ (k n : Nat), n + d = 2048 → 2 * d + 2 ≤ k → reedpipelaw04_TrigCircle.l0 k true (n : Int) = some true := by
  induction d with
  | zero =>
    intro k n hn hk
    obtain ⟨k, rfl⟩ : ∃ j, k = j + 1 := ⟨k - 1, by omega⟩
    simp only [reedpipelaw04_TrigCircle.l0]
    rw [if_neg (by omega)]
  | succ d ih =>
    intro k n hn hk
    obtain ⟨k, rfl⟩ : ∃ j, k = j + 1 + 1 := ⟨k - 2, by omega⟩
    have hj : ∀ x, x = Tab.C (n : Int) → reedpipelaw04_TrigCircle.j1 (k + 1) true (n : Int) x false = some true := by
      intro x hx
      subst hx
      simp only [reedpipelaw04_TrigCircle.j1]
      rw [if_neg (by simp), wrap_in (n := (n : Int) + 1) (by omega) (by omega)]
      have hi := ih k (n + 1) (by omega) (by omega)
      rw [show (((n + 1 : Nat)) : Int) = (n : Int) + 1 by omega] at hi
      by_cases h : (n : Int) < 1024
      · have hf := Tab.C_falls (m := n) (by omega)
        rw [if_pos h, cos_is _ (by omega)]
        simp only [Option.bind_some]
        rw [if_neg (by omega), hi]
      · rw [if_neg h, hi]
    have hs := Tab.squares (n : Int)
    have b1 := square_small (Tab.C_max (n : Int))
    have b2 := square_small (Tab.C_max ((n : Int) - 512))
    have hm := Tab.C_max (n : Int)
    simp only [reedpipelaw04_TrigCircle.l0]
    rw [if_pos (by omega), cos_is _ (by omega), sin_is _ (by omega)]
    simp only [Option.bind_some]
    unfold Tab.S at *
    generalize Tab.C (n : Int) * Tab.C (n : Int) = x at *
    generalize Tab.C ((n : Int) - 512) * Tab.C ((n : Int) - 512) = y at *
    rw [wrap_in (n := x) (by omega) (by omega), wrap_in (n := y) (by omega) (by omega), wrap_in (n := x + y) (by omega) (by omega), wrap_in (n := x + y - 4503599627370496) (by omega) (by omega)]
    rw [if_neg (by omega), if_neg (by omega), if_neg (by omega), decide_eq_false (by omega)]
    exact hj _ rfl

theorem circle_all (K : Nat) (hK : 4200 ≤ K) : reedpipelaw04_TrigCircle.f K = some true := by
  unfold reedpipelaw04_TrigCircle.f
  have ha : reedpipelaw04_alive.f 5 = some true := by decide +kernel
  rw [at_rounds reedpipelaw04_alive.mono (show 5 ≤ K by omega) ha]
  exact circle_from 2048 K 0 (by omega) (by omega)

theorem TrigCircle : reedpipelaw04_TrigCircle.Pure := ⟨4200, circle_all 4200 (Nat.le_refl _)⟩

end Go.Proofs.Ytpoppdaaodmicaa.Pure
