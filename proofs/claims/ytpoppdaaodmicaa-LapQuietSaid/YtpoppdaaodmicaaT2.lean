/- Plain facts on cosines of any number of parts, out of the table: even, by circles, by half a circle; sums of two arcs; squares; the fall. No Go in it. -/
import Derived.Test.YtpoppdaaodmicaaT1
namespace Go.Proofs.Ytpoppdaaodmicaa.Tab

theorem falls_at : ∀ {l : List Nat}, falls l = true → ∀ (i a b : Nat), l[i]? = some a → l[i + 1]? = some b → b < a
  | [], _, i, a, b, h, _ => by simp at h
  | [_], _, i, a, b, _, h => by simp at h
  | x :: y :: l, h, i, a, b, ha, hb => by
    simp only [falls, Bool.and_eq_true, Nat.blt_eq] at h
    cases i with
    | zero => simp at ha hb; omega
    | succ i => exact falls_at h.2 i a b (by simpa using ha) (by simpa using hb)

/-! ### the numbers -/
def q (i : Nat) : Int := (qtab.getD i 0 : Nat)
def cosN (m : Nat) : Int := if m ≤ 512 then q m else -q (1024 - m)
/-- The cosine of any number of parts. -/
def C (n : Int) : Int := cosN (if (n % 2048).toNat > 1024 then 2048 - (n % 2048).toNat else (n % 2048).toNat)
def S (n : Int) : Int := C (n - 512)

theorem get_q {i : Nat} (h : i ≤ 512) : qtab[i]? = some (qtab.getD i 0) := by
  rw [List.getElem?_eq_getElem (by rw [lens.1]; omega), List.getD_eq_getElem?_getD, List.getElem?_eq_getElem (by rw [lens.1]; omega)]; rfl
theorem q_dec {i : Nat} (h : i < 512) : q (i + 1) < q i := by
  have := falls_at checkF i _ _ (get_q (i := i) (by omega)) (get_q (i := i + 1) (by omega))
  unfold q; omega
theorem q_le {i j : Nat} (h : i ≤ j) (hj : j ≤ 512) : q j ≤ q i := by
  induction j with
  | zero => obtain rfl : i = 0 := by omega
            exact Int.le_refl _
  | succ j ih =>
    rcases Nat.lt_or_ge i (j + 1) with h1 | h1
    · exact Int.le_trans (Int.le_of_lt (q_dec (by omega))) (ih (by omega) (by omega))
    · obtain rfl : i = j + 1 := by omega
      exact Int.le_refl _
theorem q_zero : q 0 = 67108864 := by unfold q; rw [q_ends.1]; rfl
theorem q_nonneg (i : Nat) : 0 ≤ q i := by unfold q; omega
theorem q_max {i : Nat} (h : i ≤ 512) : q i ≤ 67108864 := by rw [← q_zero]; exact q_le (Nat.zero_le _) h
/-- What C is: of whatever number of parts that comes to m by circles, or over. -/
theorem C_of {n : Int} {m : Nat} (hm : m ≤ 1024) (h : (n - m) % 2048 = 0 ∨ (n + m) % 2048 = 0) : C n = cosN m := by
  unfold C
  congr 1
  split <;> omega
theorem C_to (n : Int) : ∃ m : Nat, m ≤ 1024 ∧ ((n - m) % 2048 = 0 ∨ (n + m) % 2048 = 0) := by
  by_cases h : n % 2048 > 1024
  · exact ⟨(2048 - n % 2048).toNat, by omega, .inr (by omega)⟩
  · exact ⟨(n % 2048).toNat, by omega, .inl (by omega)⟩
theorem C_circle (n k : Int) : C (n + 2048 * k) = C n := by
  obtain ⟨m, hm, h⟩ := C_to n
  rw [C_of hm h, C_of hm (by omega)]
theorem C_same {n n' : Int} (h : (n - n') % 2048 = 0) : C n = C n' := by
  have := C_circle n' ((n - n') / 2048)
  rw [← this]; congr 1; omega
theorem C_max (n : Int) : -67108864 ≤ C n ∧ C n ≤ 67108864 := by
  obtain ⟨m, hm, h⟩ := C_to n
  rw [C_of hm h]
  unfold cosN
  split
  · have := q_max (i := m) (by omega); have := q_nonneg m; omega
  · have := q_max (i := 1024 - m) (by omega); have := q_nonneg (1024 - m); omega
/-! ### sums of two arcs -/
end Go.Proofs.Ytpoppdaaodmicaa.Tab
