/- Plain facts on cosines of any number of parts, out of the table: even, by circles, by half a circle; sums of two arcs; squares; the fall. No Go in it. -/
import Derived.Test.YtpoppdaaodmicaaT1
namespace Go.Proofs.Ytpoppdaaodmicaa.Tab

theorem rowS_at {c s : Nat} : ∀ {A B D : List Nat}, rowS c s A B D = true → ∀ (j a b d : Nat), A[j]? = some a → B[j]? = some b → D[j]? = some d →
    s * b + 67108864 * d ≤ c * a + 9007199388958720 ∧ c * a + 9007199120523264 ≤ s * b + 67108864 * d
  | [], _, _, _, j, a, b, d, h, _, _ => by simp at h
  | _ :: _, [], _, _, j, a, b, d, _, h, _ => by simp at h
  | _ :: _, _ :: _, [], _, j, a, b, d, _, _, h => by simp at h
  | a0 :: A, b0 :: B, d0 :: D, h, j, a, b, d, ha, hb, hd => by
    simp only [rowS, Bool.and_eq_true, Nat.ble_eq] at h
    cases j with
    | zero =>
      simp only [List.getElem?_cons_zero, Option.some.injEq] at ha hb hd
      subst ha; subst hb; subst hd
      exact h.1
    | succ j => exact rowS_at h.2 j a b d (by simpa using ha) (by simpa using hb) (by simpa using hd)
theorem rowsS_at {A B : List Nat} : ∀ {cs ss ds : List Nat}, rowsS A B cs ss ds = true → ∀ (i j c s a b d : Nat), cs[i]? = some c → ss[i]? = some s → A[j]? = some a → B[j]? = some b → ds[i + j]? = some d →
    s * b + 67108864 * d ≤ c * a + 9007199388958720 ∧ c * a + 9007199120523264 ≤ s * b + 67108864 * d
  | [], _, _, _, i, j, c, s, a, b, d, h, _, _, _, _ => by simp at h
  | _ :: _, [], _, _, i, j, c, s, a, b, d, _, h, _, _, _ => by simp at h
  | _ :: _, _ :: _, [], _, i, j, c, s, a, b, d, _, _, _, _, h => by simp at h
  | c0 :: cs, s0 :: ss, d0 :: ds, h, i, j, c, s, a, b, d, hc, hs, ha, hb, hd => by
    simp only [rowsS, Bool.and_eq_true] at h
    cases i with
    | zero =>
      simp only [List.getElem?_cons_zero, Option.some.injEq] at hc hs
      subst hc; subst hs
      exact rowS_at h.1 j a b d ha hb (by simpa using hd)
    | succ i => exact rowsS_at h.2 i j c s a b d (by simpa using hc) (by simpa using hs) ha hb (by rw [show i + 1 + j = (i + j) + 1 by omega] at hd; simpa using hd)
theorem rowD_at {c s : Nat} : ∀ {A B D : List Nat}, rowD c s A B D = true → ∀ (j a b d : Nat), A[j]? = some a → B[j]? = some b → D[j]? = some d →
    c * a + s * b ≤ 67108864 * d + 134217728 ∧ 67108864 * d ≤ c * a + s * b + 134217728
  | [], _, _, _, j, a, b, d, h, _, _ => by simp at h
  | _ :: _, [], _, _, j, a, b, d, _, h, _ => by simp at h
  | _ :: _, _ :: _, [], _, j, a, b, d, _, _, h => by simp at h
  | a0 :: A, b0 :: B, d0 :: D, h, j, a, b, d, ha, hb, hd => by
    simp only [rowD, Bool.and_eq_true, Nat.ble_eq] at h
    cases j with
    | zero =>
      simp only [List.getElem?_cons_zero, Option.some.injEq] at ha hb hd
      subst ha; subst hb; subst hd
      exact h.1
    | succ j => exact rowD_at h.2 j a b d (by simpa using ha) (by simpa using hb) (by simpa using hd)
theorem rowsD_at {D : List Nat} : ∀ {cs ss : List Nat}, rowsD D cs ss = true → ∀ (i j c s a b d : Nat), cs[i]? = some c → ss[i]? = some s → cs[i + j]? = some a → ss[i + j]? = some b → D[j]? = some d →
    c * a + s * b ≤ 67108864 * d + 134217728 ∧ 67108864 * d ≤ c * a + s * b + 134217728
  | [], _, _, i, j, c, s, a, b, d, h, _, _, _, _ => by simp at h
  | _ :: _, [], _, i, j, c, s, a, b, d, _, h, _, _, _ => by simp at h
  | c0 :: cs, s0 :: ss, h, i, j, c, s, a, b, d, hc, hs, ha, hb, hd => by
    simp only [rowsD, Bool.and_eq_true] at h
    cases i with
    | zero =>
      simp only [List.getElem?_cons_zero, Option.some.injEq] at hc hs
      subst hc; subst hs
      exact rowD_at h.1 j a b d (by simpa using ha) (by simpa using hb) hd
    | succ i => exact rowsD_at h.2 i j c s a b d (by simpa using hc) (by simpa using hs) (by rw [show i + 1 + j = (i + j) + 1 by omega] at ha; simpa using ha) (by rw [show i + 1 + j = (i + j) + 1 by omega] at hb; simpa using hb) hd
theorem falls_at : ∀ {l : List Nat}, falls l = true → ∀ (i a b : Nat), l[i]? = some a → l[i + 1]? = some b → b < a
  | [], _, i, a, b, h, _ => by simp at h
  | [_], _, i, a, b, _, h => by simp at h
  | x :: y :: l, h, i, a, b, ha, hb => by
    simp only [falls, Bool.and_eq_true, Nat.blt_eq] at h
    cases i with
    | zero => simp at ha hb; omega
    | succ i => exact falls_at h.2 i a b (by simpa using ha) (by simpa using hb)

/-! ### the numbers -/
def q (i : Nat) : Int := (qtab.getD i 0 : Nat)
def cosN (m : Nat) : Int := if m ≤ 512 then q m else -q (1024 - m)
/-- The cosine of any number of parts. -/
def C (n : Int) : Int := cosN (if (n % 2048).toNat > 1024 then 2048 - (n % 2048).toNat else (n % 2048).toNat)
def S (n : Int) : Int := C (n - 512)

theorem get_q {i : Nat} (h : i ≤ 512) : qtab[i]? = some (qtab.getD i 0) := by
  rw [List.getElem?_eq_getElem (by rw [lens.1]; omega), List.getD_eq_getElem?_getD, List.getElem?_eq_getElem (by rw [lens.1]; omega)]; rfl
theorem get_s {i : Nat} (h : i ≤ 512) : stab[i]? = some (qtab.getD (512 - i) 0) := by
  rw [stab_is, List.getElem?_reverse (by rw [lens.1]; omega), lens.1, show 513 - 1 - i = 512 - i by omega]
  exact get_q (by omega)
theorem q_dec {i : Nat} (h : i < 512) : q (i + 1) < q i := by
  have := falls_at checkF i _ _ (get_q (i := i) (by omega)) (get_q (i := i + 1) (by omega))
  unfold q; omega
theorem q_le {i j : Nat} (h : i ≤ j) (hj : j ≤ 512) : q j ≤ q i := by
  induction j with
  | zero => obtain rfl : i = 0 := by omega
            exact Int.le_refl _
  | succ j ih =>
    rcases Nat.lt_or_ge i (j + 1) with h1 | h1
    · exact Int.le_trans (Int.le_of_lt (q_dec (by omega))) (ih (by omega) (by omega))
    · obtain rfl : i = j + 1 := by omega
      exact Int.le_refl _
theorem q_zero : q 0 = 67108864 := by unfold q; rw [q_ends.1]; rfl
theorem q_512 : q 512 = 0 := by unfold q; rw [q_ends.2]; rfl
theorem q_nonneg (i : Nat) : 0 ≤ q i := by unfold q; omega
theorem q_max {i : Nat} (h : i ≤ 512) : q i ≤ 67108864 := by rw [← q_zero]; exact q_le (Nat.zero_le _) h
theorem get_f {i : Nat} (h : i ≤ 1024) : ∃ d, ftab[i]? = some d ∧ (d : Int) = cosN i + 134217728 := by
  rw [ftab_is]
  rcases Nat.lt_or_ge i 513 with h1 | h1
  · refine ⟨qtab.getD i 0 + 134217728, ?_, ?_⟩
    · rw [List.getElem?_append_left (by rw [List.length_map, lens.1]; omega), List.getElem?_map, get_q (by omega)]; rfl
    · unfold cosN; rw [if_pos (by omega)]; unfold q; omega
  · have h2 : 1024 - i ≤ 512 := by omega
    refine ⟨134217728 - qtab.getD (1024 - i) 0, ?_, ?_⟩
    · rw [List.getElem?_append_right (by rw [List.length_map, lens.1]; omega), List.length_map, lens.1, List.getElem?_map, ← List.drop_one, List.getElem?_drop, ← stab_is, get_s (by omega)]
      rw [show 512 - (1 + (i - 513)) = 1024 - i by omega, Option.map_some]
    · have := q_max h2
      unfold cosN; rw [if_neg (by omega)]
      unfold q at *; omega
theorem cosN_flip {m : Nat} (h : m ≤ 1024) : cosN (1024 - m) = -cosN m := by
  unfold cosN
  rcases Nat.lt_trichotomy m 512 with h1 | h1 | h1
  · rw [if_neg (by omega), if_pos (by omega), show 1024 - (1024 - m) = m by omega]
  · subst h1; rw [if_pos (by omega), q_512]; rfl
  · rw [if_pos (by omega), if_neg (by omega), Int.neg_neg]
/-- What C is: of whatever number of parts that comes to m by circles, or over. -/
theorem C_of {n : Int} {m : Nat} (hm : m ≤ 1024) (h : (n - m) % 2048 = 0 ∨ (n + m) % 2048 = 0) : C n = cosN m := by
  unfold C
  congr 1
  split <;> omega
theorem C_to (n : Int) : ∃ m : Nat, m ≤ 1024 ∧ ((n - m) % 2048 = 0 ∨ (n + m) % 2048 = 0) := by
  by_cases h : n % 2048 > 1024
  · exact ⟨(2048 - n % 2048).toNat, by omega, .inr (by omega)⟩
  · exact ⟨(n % 2048).toNat, by omega, .inl (by omega)⟩
theorem C_even (n : Int) : C (-n) = C n := by
  obtain ⟨m, hm, h⟩ := C_to n
  rw [C_of hm h, C_of hm (by omega)]
theorem C_circle (n k : Int) : C (n + 2048 * k) = C n := by
  obtain ⟨m, hm, h⟩ := C_to n
  rw [C_of hm h, C_of hm (by omega)]
theorem C_same {n n' : Int} (h : (n - n') % 2048 = 0) : C n = C n' := by
  have := C_circle n' ((n - n') / 2048)
  rw [← this]; congr 1; omega
theorem C_half (n : Int) : C (n + 1024) = -C n := by
  obtain ⟨m, hm, h⟩ := C_to n
  rw [C_of hm h, C_of (m := 1024 - m) (by omega) (by omega), cosN_flip hm]
theorem C_nat {m : Nat} (h : m ≤ 1024) : C (m : Int) = cosN m := C_of h (.inl (by omega))
theorem C_max (n : Int) : -67108864 ≤ C n ∧ C n ≤ 67108864 := by
  obtain ⟨m, hm, h⟩ := C_to n
  rw [C_of hm h]
  unfold cosN
  split
  · have := q_max (i := m) (by omega); have := q_nonneg m; omega
  · have := q_max (i := 1024 - m) (by omega); have := q_nonneg (1024 - m); omega
theorem S_half (n : Int) : S (n + 1024) = -S n := by
  unfold S; rw [show n + 1024 - 512 = (n - 512) + 1024 by omega, C_half]
theorem S_odd (n : Int) : S (-n) = -S n := by
  unfold S
  rw [← C_half, show -n - 512 = -(n - 512 + 1024) by omega, C_even]
theorem S_nat {m : Nat} (h : m ≤ 512) : S (m : Int) = q (512 - m) := by
  unfold S
  rw [show ((m : Int) - 512) = -((512 - m : Nat) : Int) by omega, C_even, C_nat (by omega)]
  unfold cosN; rw [if_pos (by omega)]
theorem C_small {m : Nat} (h : m ≤ 512) : C (m : Int) = q m := by rw [C_nat (by omega)]; unfold cosN; rw [if_pos h]

/-! ### sums of two arcs -/
/-- The theorem of sums holds here, to 2 of 2^-26. -/
def Sums (n m : Int) : Prop := -134217728 ≤ C n * C m - S n * S m - 67108864 * C (n + m) ∧ C n * C m - S n * S m - 67108864 * C (n + m) ≤ 134217728
theorem Sums.comm {n m : Int} (h : Sums n m) : Sums m n := by
  unfold Sums at *
  rw [Int.mul_comm (C m), Int.mul_comm (S m), Int.add_comm m]; exact h
theorem Sums.neg {n m : Int} (h : Sums n m) : Sums (-n) (-m) := by
  unfold Sums at *
  rw [C_even, C_even, S_odd, S_odd, Int.neg_mul_neg, show -n + -m = -(n + m) by omega, C_even]; exact h
theorem Sums.half {n m : Int} (h : Sums n m) : Sums (n + 1024) m := by
  unfold Sums at *
  rw [C_half, S_half, show n + 1024 + m = (n + m) + 1024 by omega, C_half, Int.neg_mul, Int.neg_mul]
  omega
theorem Sums.circle {n m : Int} (h : Sums n m) (k : Int) : Sums (n + 2048 * k) m := by
  unfold Sums S at *
  rw [C_circle, show n + 2048 * k - 512 = (n - 512) + 2048 * k by omega, C_circle, show n + 2048 * k + m = (n + m) + 2048 * k by omega, C_circle]; exact h
theorem Sums.plus {a b : Nat} (ha : a ≤ 512) (hb : b ≤ 512) : Sums a b := by
  obtain ⟨d, hd, he⟩ := get_f (i := a + b) (by omega)
  have h := rowsS_at checkS a b _ _ _ _ d (get_q ha) (get_s ha) (get_q hb) (get_s hb) hd
  unfold Sums
  rw [C_small ha, C_small hb, S_nat ha, S_nat hb, show ((a : Int) + b) = ((a + b : Nat) : Int) by omega, C_nat (by omega)]
  unfold q
  have e1 : ((qtab.getD a 0 : Nat) : Int) * ((qtab.getD b 0 : Nat) : Int) = ((qtab.getD a 0 * qtab.getD b 0 : Nat) : Int) := by simp
  have e2 : ((qtab.getD (512 - a) 0 : Nat) : Int) * ((qtab.getD (512 - b) 0 : Nat) : Int) = ((qtab.getD (512 - a) 0 * qtab.getD (512 - b) 0 : Nat) : Int) := by simp
  rw [e1, e2]
  omega
theorem Sums.minus {a b : Nat} (hb : b ≤ a) (ha : a ≤ 512) : Sums a (-b) := by
  have h := rowsD_at checkD b (a - b) _ _ _ _ _ (get_q (i := b) (by omega)) (get_s (i := b) (by omega)) (get_q (i := b + (a - b)) (by omega)) (get_s (i := b + (a - b)) (by omega)) (get_q (i := a - b) (by omega))
  rw [show b + (a - b) = a by omega] at h
  unfold Sums
  rw [C_even, S_odd, C_small ha, C_small (by omega), S_nat ha, S_nat (by omega), show ((a : Int) + -b) = ((a - b : Nat) : Int) by omega, C_small (by omega)]
  unfold q
  have e1 : ((qtab.getD a 0 : Nat) : Int) * ((qtab.getD b 0 : Nat) : Int) = ((qtab.getD b 0 * qtab.getD a 0 : Nat) : Int) := by rw [Int.mul_comm]; simp
  have e2 : ((qtab.getD (512 - a) 0 : Nat) : Int) * -((qtab.getD (512 - b) 0 : Nat) : Int) = -((qtab.getD (512 - b) 0 * qtab.getD (512 - a) 0 : Nat) : Int) := by rw [Int.mul_neg, Int.mul_comm]; simp
  rw [e1, e2]
  omega
/-- An arc is a small one, by half circles. -/
theorem to_small (n : Int) : ∃ (k : Int) (r : Nat), r ≤ 512 ∧ (n = r + 2048 * k ∨ n = r + 1024 + 2048 * k ∨ n = -r + 2048 * k ∨ n = -r + 1024 + 2048 * k) := by
  by_cases h1 : n % 2048 ≤ 512
  · exact ⟨n / 2048, (n % 2048).toNat, by omega, .inl (by omega)⟩
  by_cases h2 : n % 2048 ≤ 1024
  · exact ⟨n / 2048, (1024 - n % 2048).toNat, by omega, .inr (.inr (.inr (by omega)))⟩
  by_cases h3 : n % 2048 ≤ 1536
  · exact ⟨n / 2048, (n % 2048 - 1024).toNat, by omega, .inr (.inl (by omega))⟩
  · exact ⟨n / 2048 + 1, (2048 - n % 2048).toNat, by omega, .inr (.inr (.inl (by omega)))⟩
theorem Sums.small {a b : Nat} (ha : a ≤ 512) (hb : b ≤ 512) : Sums a b ∧ Sums a (-b) ∧ Sums (-a) b ∧ Sums (-a) (-b) := by
  have hm : Sums a (-b) := by
    rcases Nat.le_total b a with h | h
    · exact Sums.minus h ha
    · have := (Sums.minus h hb).comm.neg
      rwa [Int.neg_neg] at this
  refine ⟨Sums.plus ha hb, hm, ?_, (Sums.plus ha hb).neg⟩
  have := hm.neg
  rwa [Int.neg_neg] at this
theorem Sums.left {n m : Int} (h : ∀ r : Nat, r ≤ 512 → Sums r m ∧ Sums (-r) m) : Sums n m := by
  obtain ⟨k, r, hr, e⟩ := to_small n
  obtain ⟨h1, h2⟩ := h r hr
  rcases e with e | e | e | e <;> rw [e]
  · exact h1.circle k
  · exact h1.half.circle k
  · exact h2.circle k
  · exact h2.half.circle k
/-- THE THEOREM OF SUMS: any two arcs, to 2 of 2^-26. -/
theorem sums (n m : Int) : Sums n m :=
  Sums.left fun _ hr => ⟨(Sums.left fun _ ht => ⟨(Sums.small ht hr).1, (Sums.small ht hr).2.2.1⟩).comm, (Sums.left fun _ ht => ⟨(Sums.small ht hr).2.1, (Sums.small ht hr).2.2.2⟩).comm⟩
end Go.Proofs.Ytpoppdaaodmicaa.Tab
