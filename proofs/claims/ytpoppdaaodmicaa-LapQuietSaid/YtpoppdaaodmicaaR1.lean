/- What rounding answers (fix.Round): rnd, of numbers up to 2^62. -/
import Derived.Test.YtpoppdaaodmicaaT3
import Derived.Test.YtpoppdaaodmicaaBWindow
namespace Go.Proofs.Ytpoppdaaodmicaa.Q
open Go.RowKit Go.Proofs.YtpoppdaaodmicaaW.PrintWords Go.Proofs.YtpoppdaaodmicaaW.PrintLast Go.Proofs.YtpoppdaaodmicaaW.PrintMore

/-- A number halved so often, rounded. -/
def rnd (b : Nat) (n : Int) : Int := (n + 2 ^ (b - 1)) / 2 ^ b
theorem and_1 (n : Int) : Go.bits .and .i64 n 1 = n % 2 := by
  have h127 : (BitVec.ofInt 64 1).toNat = 2 ^ 1 - 1 := by decide
  have key : (BitVec.ofInt 64 n &&& BitVec.ofInt 64 1).toNat = (n % ((2 ^ 64 : Nat) : Int)).toNat % 2 ^ 1 := by
    rw [BitVec.toNat_and, BitVec.toNat_ofInt, h127, Nat.and_two_pow_sub_one_eq_mod]
  show IntKind.i64.wrap ((BitVec.ofInt 64 n &&& BitVec.ofInt 64 1).toNat : Nat) = n % 2
  rw [key, IntKind.wrap_i64]
  omega
theorem pow_pos2 (b : Nat) : (0 : Int) < 2 ^ b := Int.pow_pos (by decide)
theorem pow_succ2 {b : Nat} (hb : 1 ≤ b) : (2 : Int) ^ b = 2 ^ (b - 1) * 2 := by
  obtain ⟨c, rfl⟩ : ∃ c, b = c + 1 := ⟨b - 1, by omega⟩
  rw [Int.pow_succ]; rfl
/-- The rounding, by its parts. -/
theorem rnd_parts (n p : Int) (hp : 0 < p) : (n + p) / (p * 2) = n / (p * 2) + (n / p) % 2 := by
  rw [← Int.ediv_ediv_of_nonneg (Int.le_of_lt hp), ← Int.ediv_ediv_of_nonneg (Int.le_of_lt hp), Int.add_ediv_of_dvd_right (Int.dvd_refl p), Int.ediv_self (by omega)]
  generalize n / p = m
  omega
theorem shr_nat (n : Int) {b : Nat} (hb : b ≤ 64) : shr .i64 n (b : Int) = n / 2 ^ b := by
  unfold shr
  rw [show min ((b : Int).toNat) IntKind.i64.bits = b from by simp [IntKind.bits]; omega]
theorem div_small {n p : Int} (hp : 0 < p) (h0 : -4611686018427387904 ≤ n) (h1 : n ≤ 4611686018427387904) : -4611686018427387904 ≤ n / p ∧ n / p ≤ 4611686018427387904 := by
  constructor
  · refine Int.le_ediv_of_mul_le hp ?_
    have : -4611686018427387904 * p ≤ -4611686018427387904 * 1 := Int.mul_le_mul_of_nonpos_left (by omega) (by omega)
    omega
  · refine Int.ediv_le_of_le_mul hp ?_
    have : 4611686018427387904 * 1 ≤ 4611686018427387904 * p := Int.mul_le_mul_of_nonneg_left (by omega) (by omega)
    omega
theorem rnd_is {n : Int} {b : Nat} (hb : 1 ≤ b) : rnd b n = n / 2 ^ b + (n / 2 ^ (b - 1)) % 2 := by
  unfold rnd
  rw [pow_succ2 hb]
  exact rnd_parts n _ (pow_pos2 _)
/-- The program's rounding. -/
theorem round_is {n : Int} {b k : Nat} (h0 : -4611686018427387904 ≤ n) (h1 : n ≤ 4611686018427387904) (hb : 1 ≤ b) (hb2 : b ≤ 62) (hk : 1 ≤ k) : fix_Round.f k n (b : Int) = some (rnd b n, 0) := by
  obtain ⟨k, rfl⟩ : ∃ j, k = j + 1 := ⟨k - 1, by omega⟩
  unfold fix_Round.f
  rw [if_neg (by omega), if_neg (by omega), if_neg (by omega), decide_eq_false (by omega)]
  simp only [fix_Round.j0]
  rw [if_neg (by simp), if_neg (by omega), if_pos (by omega), wrap_in (n := (b : Int) - 1) (by omega) (by omega), if_pos (by omega), and_1, shr_nat _ (by omega), show ((b : Int) - 1) = ((b - 1 : Nat) : Int) by omega, shr_nat _ (by omega), ← rnd_is hb, wrap_in]
  all_goals
    rw [rnd_is hb]
    have := div_small (pow_pos2 b) h0 h1
    omega

end Go.Proofs.Ytpoppdaaodmicaa.Q
