/- BlockPower: where one window's second half, and the next one's first half, with the one's shape as was, are both long, or both short there, squares of values over one place are together 2^44, but for 2^25 at most. No condition. -/
import Derived.Test.YtpoppdaaodmicaaK3
import Derived.Test.YtpoppdaaodmicaaQ21
namespace Go.Proofs.Ytpoppdaaodmicaa.Pure
open Go.RowKit Go.Proofs.Ytpoppdaaodmicaa.Q Go.Proofs.YtpoppdaaodmicaaW.PrintWords Go.Proofs.YtpoppdaaodmicaaW.PrintLast

theorem sq_in {a : Int} (h : 0 ≤ a ∧ a ≤ 4194304) : 0 ≤ a * a ∧ a * a ≤ 17592186044416 := by
  have h1 := Int.natAbs_mul a a
  have h2 : a.natAbs * a.natAbs ≤ 4194304 * 4194304 := Nat.mul_le_mul (by omega) (by omega)
  have h3 := Int.mul_nonneg h.1 h.1
  omega
theorem power12_l1 {a0 a1 m b0 b2 : Int} (hp : pairAll (secondL a0 m) (firstL b0 m) = true) (x2 : Int) (d : Nat) : ∀ (k i : Nat), i + d = 256 →
    reedpipelaw12_BlockPower.l1 (k + d + 1) true x2 (winL a0 a1 m) (winL b0 m b2) (i : Int) = reedpipelaw12_BlockPower.l0 k true (wrap64 (x2 + 1)) := by
  induction d with
  | zero =>
    intro k i hi
    rw [reedpipelaw12_BlockPower.l1.eq_2, if_neg (by omega)]
  | succ d ih =>
    intro k i hi
    have e := ih k (i + 1) (by omega)
    rw [show (((i + 1 : Nat)) : Int) = (i : Int) + 1 by omega] at e
    have hi256 : i < 256 := by omega
    have c0 : (i : Int) < 256 := by omega
    have c1 : (0 : Int) ≤ ((256 + i : Nat) : Int) := by omega
    have c2 : ((256 + i : Nat) : Int) < ((winL a0 a1 m).length : Int) := by rw [winL_length]; omega
    have c3 : (0 : Int) ≤ (i : Int) := by omega
    have c4 : (i : Int) < ((winL b0 m b2).length : Int) := by rw [winL_length]; omega
    have w1 : wrap64 (256 + (i : Int)) = ((256 + i : Nat) : Int) := by rw [wrap_in (by omega) (by omega)]; omega
    have w2 : wrap64 ((i : Int) + 1) = (i : Int) + 1 := wrap_in (by omega) (by omega)
    have hkd : k + (d + 1) + 1 = (k + d + 1) + 1 := by omega
    obtain ⟨h1, h2, h3, h4⟩ := pair_at hp (n := i) hi256
    have s1 := sq_in h1
    have s2 := sq_in h2
    have r1 := rd_win_second (a0 := a0) (a1 := a1) (a2 := m) i
    have r2 := rd_win_first (a0 := b0) (a1 := m) (a2 := b2) (n := i) hi256
    rw [hkd, reedpipelaw12_BlockPower.l1.eq_2, w1, w2, if_pos c0, if_pos c1, if_pos c2, if_pos c3, if_pos c4, r1, r2]
    clear ih w1 w2 c0 c1 c2 c3 c4 r1 r2 h1 h2
    generalize (secondL a0 m).getD i 0 * (secondL a0 m).getD i 0 = u at *
    generalize (firstL b0 m).getD i 0 * (firstL b0 m).getD i 0 = v at *
    have w3 : wrap64 u = u := wrap_in (by omega) (by omega)
    have w4 : wrap64 v = v := wrap_in (by omega) (by omega)
    have w5 : wrap64 (u + v) = u + v := wrap_in (by omega) (by omega)
    have w6 : wrap64 (u + v - 17592186044416) = u + v - 17592186044416 := wrap_in (by omega) (by omega)
    rw [w3, w4, w5, w6, if_neg (by omega), if_neg (by omega)]
    exact e
theorem power12_j2 {x3 x4 x2 : Int} (h3 : x3 = 0 ∨ x3 = 1 ∨ x3 = 3) (h4 : x4 = 0 ∨ x4 = 1 ∨ x4 = 3) (hx : 0 ≤ x2 ∧ x2 < 72) {k : Nat} (hk : 1000 ≤ k) (hgo : ∀ j, k ≤ j + 300 → reedpipelaw12_BlockPower.l0 j true (x2 + 1) = some true) :
    reedpipelaw12_BlockPower.j2 k true x2 x3 x4 = some true := by
  obtain ⟨k, rfl⟩ : ∃ j, k = j + 256 + 1 + 1 + 1 := ⟨k - 259, by omega⟩
  have w1 : wrap64 (x2 + 1) = x2 + 1 := wrap_in (by omega) (by omega)
  rw [reedpipelaw12_BlockPower.j2.eq_2]
  by_cases h : ((x3 == 1) != (x4 == 3)) = true
  · rw [if_pos h, w1]
    exact hgo _ (by omega)
  · rw [if_neg h]
    have hab : x3 = 1 ↔ x4 = 3 := by
      have h' : (x3 == 1) = (x4 == 3) := by simpa using h
      constructor
      · intro e; rw [e] at h'; simpa using h'.symm
      · intro e; rw [e] at h'; simpa using h'
    have t1 : wrap64 (Int.tdiv x2 9) = Int.tdiv x2 9 := by rw [Int.tdiv_eq_ediv_of_nonneg (by omega)]; exact wrap_in (by omega) (by omega)
    have t2 : wrap64 (Int.tdiv x2 18) = Int.tdiv x2 18 := by rw [Int.tdiv_eq_ediv_of_nonneg (by omega)]; exact wrap_in (by omega) (by omega)
    have t3 : wrap64 (Int.tdiv x2 36) = Int.tdiv x2 36 := by rw [Int.tdiv_eq_ediv_of_nonneg (by omega)]; exact wrap_in (by omega) (by omega)
    have hb : ∀ y : Int, 0 ≤ y → (Int.tmod y 2 % 256 = 0 ∨ Int.tmod y 2 % 256 = 1) := by intro y hy; rw [Int.tmod_eq_emod_of_nonneg hy]; omega
    have b1 := hb (Int.tdiv x2 9) (by rw [Int.tdiv_eq_ediv_of_nonneg (by omega)]; omega)
    have b2 := hb (Int.tdiv x2 18) (by rw [Int.tdiv_eq_ediv_of_nonneg (by omega)]; omega)
    have b3 := hb (Int.tdiv x2 36) (by rw [Int.tdiv_eq_ediv_of_nonneg (by omega)]; omega)
    rw [t1, t2, t3]
    generalize Int.tmod (Int.tdiv x2 9) 2 % 256 = was at *
    generalize Int.tmod (Int.tdiv x2 18) 2 % 256 = mid at *
    generalize Int.tmod (Int.tdiv x2 36) 2 % 256 = shape at *
    have l1 : ((winL x3 was mid).length : Int) = 512 := by rw [winL_length]; rfl
    have l2 : (((winL x4 mid shape).length : Int) != 512) = false := by rw [winL_length]; rfl
    rw [window_yes h3 b1 b2 (by omega), Option.bind_some, window_yes h4 b2 b3 (by omega), Option.bind_some, if_pos rfl, if_pos rfl]
    dsimp only
    rw [if_pos l1, l2, reedpipelaw12_BlockPower.j3.eq_2, if_neg (by simp)]
    have e := power12_l1 (a1 := was) (b2 := shape) (pair_all b2 hab) x2 256 k 0 (by omega)
    rw [w1] at e
    exact e.trans (hgo k (by omega))
theorem power12_l0 (d : Nat) : ∀ (k i : Nat), i + d = 72 → d * 310 + 1100 ≤ k → reedpipelaw12_BlockPower.l0 k true (i : Int) = some true := by
  induction d with
  | zero =>
    intro k i hi hk
    obtain ⟨k, rfl⟩ : ∃ j, k = j + 1 := ⟨k - 1, by omega⟩
    rw [reedpipelaw12_BlockPower.l0.eq_2, if_neg (by omega)]
  | succ d ih =>
    intro k i hi hk
    rw [Nat.add_mul, Nat.one_mul] at hk
    obtain ⟨k, rfl⟩ : ∃ j, k = j + 1 + 1 := ⟨k - 2, by omega⟩
    have hgo : ∀ j, k ≤ j + 300 → reedpipelaw12_BlockPower.l0 j true ((i : Int) + 1) = some true := fun j hj => by
      have h5 : d * 310 + 1100 ≤ j := by
        clear ih
        generalize d * 310 = D at *
        omega
      have := ih j (i + 1) (by omega) h5
      rwa [show (((i + 1 : Nat)) : Int) = (i : Int) + 1 by omega] at this
    have t1 : wrap64 (Int.tdiv (i : Int) 3) = Int.tdiv (i : Int) 3 := by rw [Int.tdiv_eq_ediv_of_nonneg (by omega)]; exact wrap_in (by omega) (by omega)
    have hb : ∀ y : Int, 0 ≤ y → (Int.tmod y 3 % 256 = 0 ∨ Int.tmod y 3 % 256 = 1 ∨ Int.tmod y 3 % 256 = 2) := by intro y hy; rw [Int.tmod_eq_emod_of_nonneg hy]; omega
    have b1 := hb (i : Int) (by omega)
    have b2 := hb (Int.tdiv (i : Int) 3) (by rw [Int.tdiv_eq_ediv_of_nonneg (by omega)]; omega)
    rw [reedpipelaw12_BlockPower.l0.eq_2, if_pos (by omega), t1]
    generalize Int.tmod (Int.tdiv (i : Int) 3) 3 % 256 = two at *
    have hj1 : ∀ one : Int, (one = 0 ∨ one = 1 ∨ one = 3) → reedpipelaw12_BlockPower.j1 (k + 1) true (i : Int) one two = some true := by
      intro one h1
      rw [reedpipelaw12_BlockPower.j1.eq_2]
      by_cases h2 : two = 2
      · rw [if_pos h2]
        exact power12_j2 h1 (.inr (.inr rfl)) (by omega) (by omega) hgo
      · rw [if_neg h2]
        exact power12_j2 h1 (by omega) (by omega) (by omega) hgo
    by_cases h1 : Int.tmod (i : Int) 3 % 256 = 2
    · rw [if_pos h1]
      exact hj1 3 (.inr (.inr rfl))
    · rw [if_neg h1]
      exact hj1 _ (by omega)
theorem power12_all {k : Nat} (hk : 30000 ≤ k) : reedpipelaw12_BlockPower.f k = some true := by
  unfold reedpipelaw12_BlockPower.f
  rw [alive12 (by omega), Option.bind_some]
  exact power12_l0 72 k 0 (by omega) (by omega)
theorem BlockPower : reedpipelaw12_BlockPower.Pure := ⟨30000, power12_all (Nat.le_refl _)⟩

end Go.Proofs.Ytpoppdaaodmicaa.Pure
