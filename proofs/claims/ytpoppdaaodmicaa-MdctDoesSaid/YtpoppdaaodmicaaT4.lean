/- What the document's own Cos and Sin answer: the same cosines, of any number of parts that is an int. -/
import Derived.Test.YtpoppdaaodmicaaT3
import Derived.Test.YtpoppdaaodmicaaBRefTrig
namespace Go.Proofs.Ytpoppdaaodmicaa.Q
open Go.RowKit Go.Proofs.YtpoppdaaodmicaaW.PrintWords Go.Proofs.YtpoppdaaodmicaaW.PrintLast Go.Proofs.YtpoppdaaodmicaaW.PrintMore

def refq (k : Nat) (i : Int) : Option Int :=
  if i ≤ 256 then (reedpiperef04_cosine.f k i).bind fun t => (reedpiperef03_Down.f t 4).bind fun u => some u
  else (reedpiperef04_sine.f k (wrap64 (512 - i))).bind fun t => (reedpiperef03_Down.f t 4).bind fun u => some u
def refqChk : Int → List Nat → Bool
  | _, [] => true
  | i, v :: r => (match refq 9 i with | some x => decide (x = (v : Int)) | none => false) && refqChk (i + 1) r
theorem refqChk_all : refqChk 0 Tab.qtab = true := by decide +kernel
theorem refqChk_at : ∀ {l : List Nat} {i : Int}, refqChk i l = true → ∀ (j v : Nat), l[j]? = some v → refq 9 (i + j) = some (v : Int)
  | [], _, _, j, v, h => by simp at h
  | x :: l, i, h, j, v, hv => by
    simp only [refqChk, Bool.and_eq_true] at h
    cases j with
    | zero =>
      simp only [List.getElem?_cons_zero, Option.some.injEq] at hv
      subst hv
      have h1 := h.1
      rw [show i + ((0 : Nat) : Int) = i by omega]
      cases e : refq 9 i with
      | none => rw [e] at h1; simp at h1
      | some y => rw [e] at h1; simp at h1; rw [h1]
    | succ j =>
      have := refqChk_at h.2 j v (by simpa using hv)
      rw [show i + ((j + 1 : Nat) : Int) = i + 1 + (j : Int) by omega]
      exact this
theorem refq_mono (i : Int) (k : Nat) : LeO (refq k i) (refq (k + 1) i) := by
  unfold refq
  refine LeO.ite (LeO.bind (reedpiperef04_cosine.mono _ _) (fun _ => LeO.refl _)) (LeO.bind (reedpiperef04_sine.mono _ _) (fun _ => LeO.refl _))
theorem refq_is {m k : Nat} (h : m ≤ 512) (hk : 9 ≤ k) : refq k (m : Int) = some (Tab.q m) := by
  have := refqChk_at refqChk_all m _ (Tab.get_q h)
  rw [show (0 : Int) + (m : Int) = (m : Int) by omega] at this
  exact at_rounds (refq_mono _) hk this
theorem ref_j1 {m k : Nat} (h : m ≤ 512) (hk : 10 ≤ k) : reedpiperef04_Cos.j1 k (m : Int) = some (Tab.q m) := by
  obtain ⟨k, rfl⟩ : ∃ j, k = j + 1 := ⟨k - 1, by omega⟩
  have := refq_is h (show 9 ≤ k by omega)
  unfold refq at this
  simp only [reedpiperef04_Cos.j1]
  rw [if_neg (by omega)]
  exact this
theorem ref_j0 {m k : Nat} (h : m ≤ 512) (hk : 11 ≤ k) : reedpiperef04_Cos.j0 k (m : Int) = some (Tab.q m) := by
  obtain ⟨k, rfl⟩ : ∃ j, k = j + 1 := ⟨k - 1, by omega⟩
  simp only [reedpiperef04_Cos.j0]
  rw [if_neg (by omega)]
  exact ref_j1 h (by omega)
theorem ref_small {m k : Nat} (h : m ≤ 512) (hk : 12 ≤ k) : reedpiperef04_Cos.f k (m : Int) = some (Tab.q m) := by
  obtain ⟨k, rfl⟩ : ∃ j, k = j + 1 := ⟨k - 1, by omega⟩
  simp only [reedpiperef04_Cos.f]
  rw [show Int.tmod (m : Int) 2048 = (m : Int) from Int.tmod_eq_of_lt (by omega) (by omega), if_neg (by omega)]
  exact ref_j0 h (by omega)
theorem ref_j1' {m k : Nat} (h : m ≤ 1024) (hk : 13 ≤ k) : reedpiperef04_Cos.j1 k (m : Int) = some (Tab.cosN m) := by
  unfold Tab.cosN
  by_cases hm : m ≤ 512
  · rw [if_pos hm]; exact ref_j1 hm (by omega)
  · obtain ⟨k, rfl⟩ : ∃ j, k = j + 1 := ⟨k - 1, by omega⟩
    rw [if_neg hm]
    simp only [reedpiperef04_Cos.j1]
    have := Tab.q_max (i := 1024 - m) (by omega)
    have := Tab.q_nonneg (1024 - m)
    rw [if_pos (by omega), wrap_in (by omega) (by omega), show (1024 - (m : Int)) = ((1024 - m : Nat) : Int) by omega, ref_small (by omega) (by omega)]
    simp only [Option.bind_some]
    rw [wrap_in (by omega) (by omega)]
theorem ref_j0' {n : Int} {k : Nat} (h0 : 0 ≤ n) (h1 : n < 2048) (hk : 14 ≤ k) : reedpiperef04_Cos.j0 k n = some (Tab.C n) := by
  obtain ⟨k, rfl⟩ : ∃ j, k = j + 1 := ⟨k - 1, by omega⟩
  simp only [reedpiperef04_Cos.j0]
  unfold Tab.C
  by_cases h : n > 1024
  · rw [if_pos h, wrap_in (by omega) (by omega), show 2048 - n = ((2048 - (n % 2048).toNat : Nat) : Int) by omega, ref_j1' (by omega) (by omega), if_pos (by omega)]
  · have e := ref_j1' (k := k) (m := (n % 2048).toNat) (by omega) (by omega)
    rw [show (((n % 2048).toNat : Nat) : Int) = n by omega] at e
    rw [if_neg h, e, if_neg (by omega)]
/-- THE DOCUMENT's COSINES: the table's. -/
theorem refcos_is (n : Int) {k : Nat} (hk : 15 ≤ k) : reedpiperef04_Cos.f k n = some (Tab.C n) := by
  obtain ⟨k, rfl⟩ : ∃ j, k = j + 1 := ⟨k - 1, by omega⟩
  simp only [reedpiperef04_Cos.f]
  have h1 := Int.tmod_lt_of_pos n (b := 2048) (by decide)
  have h2 := Int.lt_tmod_of_pos n (b := 2048) (by decide)
  have h3 : n - Int.tmod n 2048 = 2048 * Int.tdiv n 2048 := by have := Int.mul_tdiv_add_tmod n 2048; omega
  generalize Int.tmod n 2048 = r at *
  generalize Int.tdiv n 2048 = d at *
  by_cases h : r < 0
  · rw [if_pos h, wrap_in (by omega) (by omega), ref_j0' (by omega) (by omega) (by omega), Tab.C_same (n := r + 2048) (n' := n) (by omega)]
  · rw [if_neg h, ref_j0' (by omega) (by omega) (by omega), Tab.C_same (n := r) (n' := n) (by omega)]
theorem refsin_is (n : Int) {k : Nat} (hk : 15 ≤ k) : reedpiperef04_Sin.f k n = some (Tab.S n) := by
  unfold reedpiperef04_Sin.f
  have h1 := Int.tmod_lt_of_pos n (b := 2048) (by decide)
  have h2 := Int.lt_tmod_of_pos n (b := 2048) (by decide)
  have h3 : n - Int.tmod n 2048 = 2048 * Int.tdiv n 2048 := by have := Int.mul_tdiv_add_tmod n 2048; omega
  generalize Int.tmod n 2048 = r at *
  generalize Int.tdiv n 2048 = d at *
  rw [wrap_in (by omega) (by omega), refcos_is _ hk]
  show some _ = some _
  rw [Option.some.injEq]
  unfold Tab.S
  exact Tab.C_same (by omega)

end Go.Proofs.Ytpoppdaaodmicaa.Q
