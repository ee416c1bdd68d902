/- WindowPower: values rise, from above 0 to at most 2^22; the squares of a value, and of that as far from the end, are together 2^44, but for 2^25 at most: of all four halves. No condition. -/
import Derived.Test.YtpoppdaaodmicaaV3
import Derived.Test.YtpoppdaaodmicaaQ14
namespace Go.Proofs.Ytpoppdaaodmicaa.Pure
open Go.RowKit Go.Proofs.Ytpoppdaaodmicaa.Q Go.Proofs.YtpoppdaaodmicaaW.PrintWords Go.Proofs.YtpoppdaaodmicaaW.PrintLast

theorem sq_small {a : Int} (h0 : 0 ≤ a) (ha : a ≤ 4194304) : 0 ≤ a * a ∧ a * a ≤ 17592186044416 := by
  have h := Int.natAbs_mul a a
  have h1 : a.natAbs * a.natAbs ≤ 4194304 * 4194304 := Nat.mul_le_mul (by omega) (by omega)
  have h2 := Int.mul_nonneg h0 h0
  omega
theorem power_l1 {t : List Int} (hp : powerAll t = true) (hn : t.length ≤ 256) (x2 : Int) (d : Nat) : ∀ (k i : Nat), i + d = t.length →
    reedpipelaw05_WindowPower.l1 (k + d + 1) true x2 t (i : Int) = reedpipelaw05_WindowPower.l0 k true (wrap64 (x2 + 1)) := by
  induction d with
  | zero =>
    intro k i hi
    simp only [reedpipelaw05_WindowPower.l1]
    rw [if_neg (by omega)]
  | succ d ih =>
    intro k i hi
    have e := ih k (i + 1) (by omega)
    obtain ⟨h1, h2, h3, h4, h5⟩ := power_at hp (n := i) (by omega)
    obtain ⟨g1, g2, g3, g4, g5⟩ := power_at hp (n := t.length - 1 - i) (by omega)
    rw [show k + (d + 1) + 1 = (k + d + 1) + 1 by omega, reedpipelaw05_WindowPower.l1.eq_2]
    have r1 : rd t (i : Int) = t.getD i 0 := by unfold rd; rw [show ((i : Int)).toNat = i by omega]
    have w1 : wrap64 ((t.length : Int) - 1) = (t.length : Int) - 1 := wrap_in (by omega) (by omega)
    have w2 : wrap64 ((t.length : Int) - 1 - i) = ((t.length - 1 - i : Nat) : Int) := by rw [wrap_in (by omega) (by omega)]; omega
    have r2 : rd t ((t.length - 1 - i : Nat) : Int) = t.getD (t.length - 1 - i) 0 := by unfold rd; rw [show (((t.length - 1 - i : Nat) : Int)).toNat = t.length - 1 - i by omega]
    have s1 := sq_small (Int.le_of_lt h1) h2
    have s2 := sq_small (Int.le_of_lt g1) g2
    rw [w1, w2, r1, r2, wrap_in (n := (i : Int) + 1) (by omega) (by omega), show ((i : Int) + 1) = ((i + 1 : Nat) : Int) by omega, e]
    generalize t.getD i 0 * t.getD i 0 = a at *
    generalize t.getD (t.length - 1 - i) 0 * t.getD (t.length - 1 - i) 0 = b at *
    rw [wrap_in (n := a) (by omega) (by omega), wrap_in (n := b) (by omega) (by omega), wrap_in (n := a + b) (by omega) (by omega), wrap_in (n := a + b - 17592186044416) (by omega) (by omega)]
    rw [if_pos (by omega), if_pos (by omega), if_pos (by omega), if_pos (by omega), if_neg (by omega), if_neg (by omega)]
    by_cases h0 : (i : Int) > 0
    · have w3 : wrap64 ((i : Int) - 1) = ((i - 1 : Nat) : Int) := by rw [wrap_in (by omega) (by omega)]; omega
      have r3 : rd t ((i - 1 : Nat) : Int) = t.getD (i - 1) 0 := by unfold rd; rw [show (((i - 1 : Nat) : Int)).toNat = i - 1 by omega]
      rw [w3, r3, if_pos h0, if_pos (by omega), if_pos (by omega), if_neg (by omega), if_neg (by omega), if_neg (by omega)]
    · rw [if_neg h0, if_neg (by omega), if_neg (by omega)]
theorem power_step {k : Nat} {t : List Int} {x2 want : Int} (hp : powerAll t = true) (hn : t.length ≤ 256) (hw : want = t.length) :
    reedpipelaw05_WindowPower.j1 (k + t.length + 3) true x2 t 0 want = reedpipelaw05_WindowPower.l0 k true (wrap64 (x2 + 1)) := by
  subst hw
  rw [show k + t.length + 3 = (k + t.length + 1) + 1 + 1 by omega]
  simp only [reedpipelaw05_WindowPower.j1]
  rw [if_pos trivial]
  simp only [reedpipelaw05_WindowPower.j2]
  rw [if_neg (by simp)]
  exact power_l1 hp hn x2 t.length k 0 (by omega)
theorem power_round {k : Nat} {x2 a0 : Int} {a1 : Bool} (ha : a0 = 0 ∨ a0 = 1) (h4 : x2 < 4) (e0 : (wrap64 (Int.tdiv x2 2)) % 256 = a0) (e1 : (Int.tmod x2 2 == 1) = a1) (hk : 1000 ≤ k) :
    reedpipelaw05_WindowPower.l0 (k + (halfL a0 a1).length + 4) true x2 = reedpipelaw05_WindowPower.l0 k true (wrap64 (x2 + 1)) := by
  have hl := halfL_length a0 a1
  rw [show k + (halfL a0 a1).length + 4 = (k + (halfL a0 a1).length + 3) + 1 by omega]
  rw [reedpipelaw05_WindowPower.l0.eq_2, if_pos h4, e0, e1, half_yes ha (by omega)]
  simp only [Option.bind_some]
  cases a1
  · rw [if_neg (by intro h; rw [h] at e1; simp at e1)]
    exact power_step (half_power ha _) (by rw [hl]; decide) (by rw [hl]; rfl)
  · rw [if_pos (by simpa using e1)]
    exact power_step (half_power ha _) (by rw [hl]; decide) (by rw [hl]; rfl)
theorem power_all {k : Nat} (hk : 2000 ≤ k) : reedpipelaw05_WindowPower.f k = some true := by
  unfold reedpipelaw05_WindowPower.f
  rw [alive05 (by omega)]
  simp only [Option.bind_some]
  obtain ⟨k, rfl⟩ : ∃ j, k = j + 1 + 36 + 260 + 36 + 260 := ⟨k - 593, by omega⟩
  have l := fun a b => halfL_length a b
  have s1 := power_round (k := k + 1 + 36 + 260 + 36) (x2 := 0) (a0 := 0) (a1 := false) (.inl rfl) (by decide) (by decide +kernel) (by decide) (by omega)
  have s2 := power_round (k := k + 1 + 36 + 260) (x2 := 1) (a0 := 0) (a1 := true) (.inl rfl) (by decide) (by decide +kernel) (by decide) (by omega)
  have s3 := power_round (k := k + 1 + 36) (x2 := 2) (a0 := 1) (a1 := false) (.inr rfl) (by decide) (by decide +kernel) (by decide) (by omega)
  have s4 := power_round (k := k + 1) (x2 := 3) (a0 := 1) (a1 := true) (.inr rfl) (by decide) (by decide +kernel) (by decide) (by omega)
  rw [l, if_neg (by decide), show wrap64 (0 + 1) = 1 by decide +kernel] at s1
  rw [l, if_pos rfl, show wrap64 (1 + 1) = 2 by decide +kernel] at s2
  rw [l, if_neg (by decide), show wrap64 (2 + 1) = 3 by decide +kernel] at s3
  rw [l, if_pos rfl, show wrap64 (3 + 1) = 4 by decide +kernel] at s4
  rw [show k + 1 + 36 + 260 + 36 + 260 = k + 1 + 36 + 260 + 36 + 256 + 4 by omega, s1, show k + 1 + 36 + 260 + 36 = k + 1 + 36 + 260 + 32 + 4 by omega, s2, show k + 1 + 36 + 260 = k + 1 + 36 + 256 + 4 by omega, s3, show k + 1 + 36 = k + 1 + 32 + 4 by omega, s4]
  rw [reedpipelaw05_WindowPower.l0.eq_2, if_neg (by decide)]
theorem WindowPower : reedpipelaw05_WindowPower.Pure := ⟨2000, power_all (Nat.le_refl _)⟩

end Go.Proofs.Ytpoppdaaodmicaa.Pure
