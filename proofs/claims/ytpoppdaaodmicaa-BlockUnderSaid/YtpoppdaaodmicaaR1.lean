/- What rounding answers: the program's (fix.Round) and the document's (Down): rnd, of numbers up to 2^62. -/
import Derived.Test.YtpoppdaaodmicaaT3
import Derived.Test.YtpoppdaaodmicaaBWindow
import Derived.Test.YtpoppdaaodmicaaBRefTrig
namespace Go.Proofs.Ytpoppdaaodmicaa.Q
open Go.RowKit Go.Proofs.YtpoppdaaodmicaaW.PrintWords Go.Proofs.YtpoppdaaodmicaaW.PrintLast Go.Proofs.YtpoppdaaodmicaaW.PrintMore

/-- A number halved so often, rounded. -/
def rnd (b : Nat) (n : Int) : Int := (n + 2 ^ (b - 1)) / 2 ^ b
theorem and_1 (n : Int) : Go.bits .and .i64 n 1 = n % 2 := by
  have h127 : (BitVec.ofInt 64 1).toNat = 2 ^ 1 - 1 := by decide
  have key : (BitVec.ofInt 64 n &&& BitVec.ofInt 64 1).toNat = (n % ((2 ^ 64 : Nat) : Int)).toNat % 2 ^ 1 := by
    rw [BitVec.toNat_and, BitVec.toNat_ofInt, h127, Nat.and_two_pow_sub_one_eq_mod]
  show IntKind.i64.wrap ((BitVec.ofInt 64 n &&& BitVec.ofInt 64 1).toNat : Nat) = n % 2
  rw [key, IntKind.wrap_i64]
  omega
theorem pow_pos2 (b : Nat) : (0 : Int) < 2 ^ b := Int.pow_pos (by decide)
theorem pow_succ2 {b : Nat} (hb : 1 ≤ b) : (2 : Int) ^ b = 2 ^ (b - 1) * 2 := by
  obtain ⟨c, rfl⟩ : ∃ c, b = c + 1 := ⟨b - 1, by omega⟩
  rw [Int.pow_succ]; rfl
theorem pow_le62 {b : Nat} (hb : b ≤ 62) : (2 : Int) ^ b ≤ 4611686018427387904 := by
  have := Nat.pow_le_pow_right (n := 2) (by decide) hb
  have e : ((2 ^ b : Nat) : Int) = (2 : Int) ^ b := by simp
  rw [← e]
  omega
/-- The rounding, by its parts. -/
theorem rnd_parts (n p : Int) (hp : 0 < p) : (n + p) / (p * 2) = n / (p * 2) + (n / p) % 2 := by
  rw [← Int.ediv_ediv_of_nonneg (Int.le_of_lt hp), ← Int.ediv_ediv_of_nonneg (Int.le_of_lt hp), Int.add_ediv_of_dvd_right (Int.dvd_refl p), Int.ediv_self (by omega)]
  generalize n / p = m
  omega
theorem shr_nat (n : Int) {b : Nat} (hb : b ≤ 64) : shr .i64 n (b : Int) = n / 2 ^ b := by
  unfold shr
  rw [show min ((b : Int).toNat) IntKind.i64.bits = b from by simp [IntKind.bits]; omega]
theorem div_small {n p : Int} (hp : 0 < p) (h0 : -4611686018427387904 ≤ n) (h1 : n ≤ 4611686018427387904) : -4611686018427387904 ≤ n / p ∧ n / p ≤ 4611686018427387904 := by
  constructor
  · refine Int.le_ediv_of_mul_le hp ?_
    have : -4611686018427387904 * p ≤ -4611686018427387904 * 1 := Int.mul_le_mul_of_nonpos_left (by omega) (by omega)
    omega
  · refine Int.ediv_le_of_le_mul hp ?_
    have : 4611686018427387904 * 1 ≤ 4611686018427387904 * p := Int.mul_le_mul_of_nonneg_left (by omega) (by omega)
    omega
theorem rnd_is {n : Int} {b : Nat} (hb : 1 ≤ b) : rnd b n = n / 2 ^ b + (n / 2 ^ (b - 1)) % 2 := by
  unfold rnd
  rw [pow_succ2 hb]
  exact rnd_parts n _ (pow_pos2 _)
/-- The program's rounding. -/
theorem round_is {n : Int} {b k : Nat} (h0 : -4611686018427387904 ≤ n) (h1 : n ≤ 4611686018427387904) (hb : 1 ≤ b) (hb2 : b ≤ 62) (hk : 1 ≤ k) : fix_Round.f k n (b : Int) = some (rnd b n, 0) := by
  obtain ⟨k, rfl⟩ : ∃ j, k = j + 1 := ⟨k - 1, by omega⟩
  unfold fix_Round.f
  rw [if_neg (by omega), if_neg (by omega), if_neg (by omega), decide_eq_false (by omega)]
  simp only [fix_Round.j0]
  rw [if_neg (by simp), if_neg (by omega), if_pos (by omega), wrap_in (n := (b : Int) - 1) (by omega) (by omega), if_pos (by omega), and_1, shr_nat _ (by omega), show ((b : Int) - 1) = ((b - 1 : Nat) : Int) by omega, shr_nat _ (by omega), ← rnd_is hb, wrap_in]
  all_goals
    rw [rnd_is hb]
    have := div_small (pow_pos2 b) h0 h1
    omega
/-- The document's rounding. -/
theorem down_is {n : Int} {b : Nat} (h0 : -4611686018427387904 ≤ n) (h1 : n ≤ 4611686018427387904) (hb : 1 ≤ b) (hb2 : b ≤ 62) : reedpiperef03_Down.f n (b : Int) = some (rnd b n) := by
  unfold reedpiperef03_Down.f
  have hp := pow_pos2 (b - 1)
  have hq := pow_pos2 b
  have hs := pow_succ2 hb
  have hl := pow_le62 (b := b - 1) (by omega)
  have hl2 := pow_le62 hb2
  have e1 : shl .i64 1 ((b : Int) - 1) = 2 ^ (b - 1) := by
    unfold shl
    rw [show min (((b : Int) - 1).toNat) IntKind.i64.bits = b - 1 from by simp [IntKind.bits]; omega, Int.one_mul, i64_w, wrap_in (by omega) (by omega)]
  have hd := div_small hq h0 h1
  have hm := Int.emod_add_mul_ediv n (2 ^ b)
  have hm0 := Int.emod_nonneg n (b := 2 ^ b) (by omega)
  have hm1 := Int.emod_lt_of_pos n hq
  have e2 : shl .i64 (n / 2 ^ b) (b : Int) = n / 2 ^ b * 2 ^ b := by
    unfold shl
    rw [show min ((b : Int).toNat) IntKind.i64.bits = b from by simp [IntKind.bits]; omega, i64_w, wrap_in]
    all_goals
      rw [Int.mul_comm]
      generalize 2 ^ b * (n / 2 ^ b) = z at *
      omega
  rw [if_neg (by omega), wrap_in (n := (b : Int) - 1) (by omega) (by omega), if_pos (by omega), if_pos (by omega), shr_nat _ (by omega), e1, e2]
  rw [wrap_in (n := n / 2 ^ b + 1) (by omega) (by omega), rnd_is hb]
  have e3 : n - n / 2 ^ b * 2 ^ b = n % 2 ^ b := by rw [Int.mul_comm]; omega
  rw [e3, wrap_in (by omega) (by omega)]
  have e4 : n / 2 ^ b = n / 2 ^ (b - 1) / 2 := by rw [hs, ← Int.ediv_ediv_of_nonneg (Int.le_of_lt hp)]
  have hm' := Int.emod_add_mul_ediv n (2 ^ (b - 1))
  have hm0' := Int.emod_nonneg n (b := 2 ^ (b - 1)) (by omega)
  have hm1' := Int.emod_lt_of_pos n hp
  have e5 : n % 2 ^ b = n % 2 ^ (b - 1) + 2 ^ (b - 1) * (n / 2 ^ (b - 1) % 2) := by
    have : 2 ^ b * (n / 2 ^ b) = 2 ^ (b - 1) * (2 * (n / 2 ^ (b - 1) / 2)) := by rw [e4, hs, Int.mul_assoc]
    have h2 : n / 2 ^ (b - 1) = 2 * (n / 2 ^ (b - 1) / 2) + n / 2 ^ (b - 1) % 2 := by omega
    have h3 : 2 ^ (b - 1) * (n / 2 ^ (b - 1)) = 2 ^ (b - 1) * (2 * (n / 2 ^ (b - 1) / 2)) + 2 ^ (b - 1) * (n / 2 ^ (b - 1) % 2) := by rw [← Int.mul_add, ← h2]
    omega
  have h01 : n / 2 ^ (b - 1) % 2 = 0 ∨ n / 2 ^ (b - 1) % 2 = 1 := by omega
  rcases h01 with h | h
  · rw [h, Int.mul_zero] at e5
    rw [if_neg (by omega), h]; simp
  · rw [h, Int.mul_one] at e5
    rw [if_pos (by omega), h]

end Go.Proofs.Ytpoppdaaodmicaa.Q
