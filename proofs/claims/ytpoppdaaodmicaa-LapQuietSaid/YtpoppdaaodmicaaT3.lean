/- What the program's Cos and Sin answer: the table's cosines, of any number of parts. -/
import Derived.Test.YtpoppdaaodmicaaT2
import Derived.Test.YtpoppdaaodmicaaBTrig
namespace Go.Proofs.Ytpoppdaaodmicaa.Q
open Go.RowKit Go.Proofs.YtpoppdaaodmicaaW.PrintWords Go.Proofs.YtpoppdaaodmicaaW.PrintLast Go.Proofs.YtpoppdaaodmicaaW.PrintMore

def quarterChk : Int → List Nat → Bool
  | _, [] => true
  | i, v :: r => (match trig_quarter.f i with | some x => decide (x = (v : Int)) | none => false) && quarterChk (i + 1) r
theorem quarterChk_all : quarterChk 0 Tab.qtab = true := by decide +kernel
theorem quarterChk_at : ∀ {l : List Nat} {i : Int}, quarterChk i l = true → ∀ (j v : Nat), l[j]? = some v → trig_quarter.f (i + j) = some (v : Int)
  | [], _, _, j, v, h => by simp at h
  | x :: l, i, h, j, v, hv => by
    simp only [quarterChk, Bool.and_eq_true] at h
    cases j with
    | zero =>
      simp only [List.getElem?_cons_zero, Option.some.injEq] at hv
      subst hv
      have h1 := h.1
      rw [show i + ((0 : Nat) : Int) = i by omega]
      cases e : trig_quarter.f i with
      | none => rw [e] at h1; simp at h1
      | some y => rw [e] at h1; simp at h1; rw [h1]
    | succ j =>
      have := quarterChk_at h.2 j v (by simpa using hv)
      rw [show i + ((j + 1 : Nat) : Int) = i + 1 + (j : Int) by omega]
      exact this
theorem quarter_is {m : Nat} (h : m ≤ 512) : trig_quarter.f (m : Int) = some (Tab.q m) := by
  have := quarterChk_at quarterChk_all m _ (Tab.get_q h)
  rw [show (0 : Int) + (m : Int) = (m : Int) by omega] at this
  exact this
theorem and_2047 (n : Int) : Go.bits .and .i64 n 2047 = n % 2048 := by
  have h127 : (BitVec.ofInt 64 2047).toNat = 2 ^ 11 - 1 := by decide
  have key : (BitVec.ofInt 64 n &&& BitVec.ofInt 64 2047).toNat = (n % ((2 ^ 64 : Nat) : Int)).toNat % 2 ^ 11 := by
    rw [BitVec.toNat_and, BitVec.toNat_ofInt, h127, Nat.and_two_pow_sub_one_eq_mod]
  show IntKind.i64.wrap ((BitVec.ofInt 64 n &&& BitVec.ofInt 64 2047).toNat : Nat) = n % 2048
  rw [key, IntKind.wrap_i64]
  omega
theorem wrap_in {n : Int} (h0 : -9223372036854775808 ≤ n) (h1 : n ≤ 9223372036854775807) : wrap64 n = n := by unfold wrap64; omega
theorem cos_j0 {k m : Nat} (hk : 1 ≤ k) (h : m ≤ 1024) : trig_Cos.j0 k (m : Int) = some (Tab.cosN m) := by
  obtain ⟨k, rfl⟩ : ∃ j, k = j + 1 := ⟨k - 1, by omega⟩
  simp only [trig_Cos.j0]
  unfold Tab.cosN
  by_cases hm : m ≤ 512
  · rw [if_neg (by omega), if_pos hm, quarter_is hm]; rfl
  · rw [if_pos (by omega), if_neg hm, wrap_in (by omega) (by omega), show (1024 - (m : Int)) = ((1024 - m : Nat) : Int) by omega, quarter_is (by omega)]
    have := Tab.q_max (i := 1024 - m) (by omega)
    have := Tab.q_nonneg (1024 - m)
    simp only [Option.bind_some]
    rw [wrap_in (by omega) (by omega)]
/-- THE PROGRAM's COSINES: the table's. -/
theorem cos_is (n : Int) {k : Nat} (hk : 1 ≤ k) : trig_Cos.f k n = some (Tab.C n) := by
  unfold trig_Cos.f
  rw [and_2047]
  unfold Tab.C
  by_cases h : n % 2048 > 1024
  · rw [if_pos h, wrap_in (by omega) (by omega), show 2048 - n % 2048 = ((2048 - (n % 2048).toNat : Nat) : Int) by omega, cos_j0 hk (by omega), if_pos (by omega)]
  · have e := cos_j0 (k := k) (m := (n % 2048).toNat) hk (by omega)
    rw [show (((n % 2048).toNat : Nat) : Int) = n % 2048 by omega] at e
    rw [if_neg h, e, if_neg (by omega)]
theorem sin_is (n : Int) {k : Nat} (hk : 1 ≤ k) : trig_Sin.f k n = some (Tab.S n) := by
  unfold trig_Sin.f
  rw [and_2047, wrap_in (by omega) (by omega), cos_is _ hk]
  show some _ = some _
  rw [Option.some.injEq]
  unfold Tab.S
  exact Tab.C_same (by omega)

end Go.Proofs.Ytpoppdaaodmicaa.Q
