/- Plain facts on sums of numbers times cosines: what Forward and Inverse answer, without wraps; sums of two; folding; noughts. -/
import Derived.Test.YtpoppdaaodmicaaBMdct
import Derived.Test.YtpoppdaaodmicaaR1
namespace Go.Proofs.Ytpoppdaaodmicaa.Q
open Go.RowKit Go.Proofs.YtpoppdaaodmicaaW.PrintWords Go.Proofs.YtpoppdaaodmicaaW.PrintLast Go.Proofs.YtpoppdaaodmicaaW.PrintMore

set_option linter.unusedSimpArgs false
/-- A sum of numbers times cosines, from an arc on, each by so much. -/
def dot (b : Int) : List Int → Int → Int
  | [], _ => 0
  | x :: r, a => x * Tab.C a + dot b r (a + b)
/-- All numbers of a list are so great at most. -/
def AllIn (X : Int) (l : List Int) : Prop := ∀ x ∈ l, -X ≤ x ∧ x ≤ X

theorem mul_C {X x : Int} (hX : -X ≤ x ∧ x ≤ X) (a : Int) : -(X * 67108864) ≤ x * Tab.C a ∧ x * Tab.C a ≤ X * 67108864 := by
  have hC := Tab.C_max a
  have h := Int.natAbs_mul x (Tab.C a)
  have h1 : x.natAbs * (Tab.C a).natAbs ≤ X.natAbs * 67108864 := Nat.mul_le_mul (by omega) (by omega)
  omega
theorem dot_bound {X : Int} (b : Int) : ∀ {l : List Int}, AllIn X l → ∀ a, -((l.length : Int) * (X * 67108864)) ≤ dot b l a ∧ dot b l a ≤ (l.length : Int) * (X * 67108864)
  | [], _, a => by simp [dot]
  | x :: r, h, a => by
    have h1 := mul_C (h x (by simp)) a
    have h2 := dot_bound b (l := r) (fun y hy => h y (by simp [hy])) (a + b)
    have e : ((x :: r).length : Int) * (X * 67108864) = (r.length : Int) * (X * 67108864) + X * 67108864 := by
      rw [List.length_cons, show (((r.length + 1 : Nat)) : Int) = (r.length : Int) + 1 by omega, Int.add_mul, Int.one_mul]
    rw [e, dot]
    generalize (r.length : Int) * (X * 67108864) = z at *
    omega
theorem dotW_eq {X : Int} (hX : 0 ≤ X) {b : Int} (hb : -1048576 ≤ b ∧ b ≤ 1048576) {l : List Int} (a s : Int) (h : AllIn X l) (ha0 : -1152921504606846976 + (l.length : Int) * 1048576 ≤ a) (ha1 : a + (l.length : Int) * 1048576 ≤ 1152921504606846976)
    (hs0 : -4611686018427387904 + (l.length : Int) * (X * 67108864) ≤ s) (hs1 : s + (l.length : Int) * (X * 67108864) ≤ 4611686018427387904) : dotW b l a s = s + dot b l a := by
  induction l generalizing a s with
  | nil => simp [dot, dotW]
  | cons x r ih =>
    have h1 := mul_C (h x (by simp)) a
    have e : ((x :: r).length : Int) * (X * 67108864) = (r.length : Int) * (X * 67108864) + X * 67108864 := by
      rw [List.length_cons, show (((r.length + 1 : Nat)) : Int) = (r.length : Int) + 1 by omega, Int.add_mul, Int.one_mul]
    have e2 : ((x :: r).length : Int) = (r.length : Int) + 1 := by simp
    rw [e] at hs0 hs1
    rw [e2] at ha0 ha1
    have hz : 0 ≤ (r.length : Int) * (X * 67108864) := Int.mul_nonneg (by omega) (by omega)
    rw [dotW, dot]
    replace ih := fun a s => ih a s (fun y hy => h y (by simp [hy]))
    generalize (r.length : Int) * (X * 67108864) = z at *
    rw [wrap_in (n := x * Tab.C a) (by omega) (by omega), wrap_in (n := s + x * Tab.C a) (by omega) (by omega), wrap_in (n := a + b) (by omega) (by omega), ih (a + b) (s + x * Tab.C a) (by omega) (by omega) (by omega) (by omega)]
    omega
theorem rndV_is {s : Int} {b : Nat} (h0 : -4611686018427387904 ≤ s) (h1 : s ≤ 4611686018427387904) (hb : 1 ≤ b) (hb2 : b ≤ 62) : rndV s (b : Int) = rnd b s := by
  unfold rndV
  rw [round_is h0 h1 hb hb2 (Nat.le_refl 1)]
  rfl

/-! ### the same sums by other arcs; sums of lists -/
theorem dot_same {b b' : Int} : ∀ {l : List Int} {a a' : Int}, (∀ i : Nat, Tab.C (a + i * b) = Tab.C (a' + i * b')) → dot b l a = dot b' l a'
  | [], _, _, _ => rfl
  | x :: r, a, a', h => by
    have h0 := h 0
    simp only [Int.natCast_zero, Int.zero_mul, Int.add_zero] at h0
    rw [dot, dot, h0, dot_same (b := b) (b' := b') (fun i => by
      have := h (i + 1)
      rw [show a + b + (i : Int) * b = a + ((i + 1 : Nat) : Int) * b by rw [show (((i + 1 : Nat)) : Int) = (i : Int) + 1 by omega, Int.add_mul]; omega, show a' + b' + (i : Int) * b' = a' + ((i + 1 : Nat) : Int) * b' by rw [show (((i + 1 : Nat)) : Int) = (i : Int) + 1 by omega, Int.add_mul]; omega]
      exact this)]
theorem dot_minus {b b' : Int} : ∀ {l : List Int} {a a' : Int}, (∀ i : Nat, Tab.C (a + i * b) = -Tab.C (a' + i * b')) → dot b l a = -dot b' l a'
  | [], _, _, _ => rfl
  | x :: r, a, a', h => by
    have h0 := h 0
    simp only [Int.natCast_zero, Int.zero_mul, Int.add_zero] at h0
    rw [dot, dot, h0, dot_minus (b := b) (b' := b') (fun i => by
      have := h (i + 1)
      rw [show a + b + (i : Int) * b = a + ((i + 1 : Nat) : Int) * b by rw [show (((i + 1 : Nat)) : Int) = (i : Int) + 1 by omega, Int.add_mul]; omega, show a' + b' + (i : Int) * b' = a' + ((i + 1 : Nat) : Int) * b' by rw [show (((i + 1 : Nat)) : Int) = (i : Int) + 1 by omega, Int.add_mul]; omega]
      exact this), Int.mul_neg]
    omega
theorem dot_neg (b : Int) : ∀ (l : List Int) (a : Int), dot b (l.map (- ·)) a = -dot b l a
  | [], _ => rfl
  | x :: r, a => by rw [List.map_cons, dot, dot, dot_neg b r, Int.neg_mul]; omega
theorem dot_zeros (b : Int) : ∀ (n : Nat) (a : Int), dot b (List.replicate n 0) a = 0
  | 0, _ => rfl
  | n + 1, a => by rw [List.replicate_succ, dot, dot_zeros b n]; omega
theorem dot_add (b : Int) : ∀ (l m : List Int) (a : Int), l.length = m.length → dot b (List.zipWith (· + ·) l m) a = dot b l a + dot b m a
  | [], [], _, _ => rfl
  | x :: r, y :: t, a, h => by
    rw [List.zipWith_cons_cons, dot, dot, dot, dot_add b r t _ (by simpa using h), Int.add_mul]; omega
  | [], _ :: _, _, h => by simp at h
  | _ :: _, [], _, h => by simp at h
theorem dot_set (b : Int) : ∀ (l : List Int) (i : Nat) (v a : Int), i < l.length → dot b (l.set i v) a = dot b l a + (v - l.getD i 0) * Tab.C (a + i * b)
  | [], i, _, _, h => by simp at h
  | x :: r, 0, v, a, _ => by
    simp only [List.set_cons_zero, dot, List.getD_cons_zero, Int.natCast_zero, Int.zero_mul, Int.add_zero]
    rw [Int.sub_mul]; omega
  | x :: r, i + 1, v, a, h => by
    rw [List.set_cons_succ, dot, dot, dot_set b r i v (a + b) (by simpa using h), List.getD_cons_succ, show a + b + (i : Int) * b = a + ((i + 1 : Nat) : Int) * b by rw [show (((i + 1 : Nat)) : Int) = (i : Int) + 1 by omega, Int.add_mul]; omega]
    omega

/-! ### Inverse's numbers, Forward's lines -/
/-- One of what lines come back to. -/
def backAt (m : Nat) (s : Int) (b : Nat) (x : List Int) (n : Nat) : Int := rnd b (dot (2 * ((2 * (n : Int) + 1 + (m : Int)) * s)) x ((2 * (n : Int) + 1 + (m : Int)) * s))
def lineAt (m : Nat) (s : Int) (z : List Int) (k : Nat) : Int := rnd 33 (dot (2 * ((2 * (k : Int) + 1) * s)) z ((1 + (m : Int)) * ((2 * (k : Int) + 1) * s)))
theorem allIn_of_any {X : Int} {l : List Int} (h : l.any (oddB X) = false) : AllIn X l := by
  intro x hx
  rw [List.any_eq_false] at h
  have := h x hx
  unfold oddB at this
  simp only [Bool.or_eq_true, decide_eq_true_eq] at this
  omega
theorem any_of_allIn {X : Int} {l : List Int} (h : AllIn X l) : l.any (oddB X) = false := by
  rw [List.any_eq_false]
  intro x hx
  have := h x hx
  unfold oddB
  simp only [Bool.or_eq_true, decide_eq_true_eq]
  omega
/-- How a window may be: 256 lines, or 32. -/
def Sized (m : Nat) (s : Int) (b : Nat) : Prop := (m = 256 ∧ s = 1 ∧ b = 26) ∨ (m = 32 ∧ s = 8 ∧ b = 23)
theorem dot_le {b a : Int} {l : List Int} (h : AllIn 268435455 l) (hl : l.length ≤ 256) : -4611686018427387904 ≤ dot b l a ∧ dot b l a ≤ 4611686018427387904 := by
  have := dot_bound b h a
  omega
theorem back_is {m b : Nat} {s : Int} (hs : Sized m s b) {x : List Int} (hl : x.length = m) (hx : AllIn 268435455 x) : backW m s b x = (List.range (2 * m)).map (backAt m s b x) := by
  unfold backW
  refine List.map_congr_left fun n hn => ?_
  have hn' : n < 2 * m := by simpa using hn
  unfold backAt
  have hd := dot_le (b := 2 * ((2 * (n : Int) + 1 + (m : Int)) * s)) (a := (2 * (n : Int) + 1 + (m : Int)) * s) hx (by rcases hs with ⟨rfl, _⟩ | ⟨rfl, _⟩ <;> omega)
  have e : dotW (2 * ((2 * (n : Int) + 1 + (m : Int)) * s)) x ((2 * (n : Int) + 1 + (m : Int)) * s) 0 = 0 + dot (2 * ((2 * (n : Int) + 1 + (m : Int)) * s)) x ((2 * (n : Int) + 1 + (m : Int)) * s) := by
    rcases hs with ⟨rfl, rfl, rfl⟩ | ⟨rfl, rfl, rfl⟩
    · exact dotW_eq (X := 268435455) (by omega) (by omega) _ _ hx (by omega) (by omega) (by omega) (by omega)
    · exact dotW_eq (X := 268435455) (by omega) (by omega) _ _ hx (by omega) (by omega) (by omega) (by omega)
  rw [e, Int.zero_add]
  rcases hs with ⟨rfl, rfl, rfl⟩ | ⟨rfl, rfl, rfl⟩ <;> exact rndV_is hd.1 hd.2 (by omega) (by omega)
theorem lines_is {m b : Nat} {s : Int} (hs : Sized m s b) {z : List Int} (hl : z.length = 2 * m) (hz : AllIn 8388608 z) : linesW m s z = (List.range m).map (lineAt m s z) := by
  unfold linesW
  refine List.map_congr_left fun k hk => ?_
  have hk' : k < m := by simpa using hk
  unfold lineAt
  have hd := dot_bound (2 * ((2 * (k : Int) + 1) * s)) hz ((1 + (m : Int)) * ((2 * (k : Int) + 1) * s))
  have e : dotW (2 * ((2 * (k : Int) + 1) * s)) z ((1 + (m : Int)) * ((2 * (k : Int) + 1) * s)) 0 = 0 + dot (2 * ((2 * (k : Int) + 1) * s)) z ((1 + (m : Int)) * ((2 * (k : Int) + 1) * s)) := by
    rcases hs with ⟨rfl, rfl, rfl⟩ | ⟨rfl, rfl, rfl⟩
    · exact dotW_eq (X := 8388608) (by omega) (by omega) _ _ hz (by omega) (by omega) (by omega) (by omega)
    · exact dotW_eq (X := 8388608) (by omega) (by omega) _ _ hz (by omega) (by omega) (by omega) (by omega)
  rw [e, Int.zero_add]
  rcases hs with ⟨rfl, rfl, rfl⟩ | ⟨rfl, rfl, rfl⟩ <;> exact rndV_is (b := 33) (by omega) (by omega) (by omega) (by omega)
theorem inverse_cases (x : List Int) : (mdct_Inverse.f x = some ([], 4) ∧ x.length ≠ 256 ∧ x.length ≠ 32) ∨ (mdct_Inverse.f x = some ([], 2) ∧ (x.length = 256 ∨ x.length = 32) ∧ ¬ AllIn 268435455 x) ∨
    ∃ m s b, Sized m s b ∧ x.length = m ∧ AllIn 268435455 x ∧ mdct_Inverse.f x = some ((List.range (2 * m)).map (backAt m s b x), 0) := by
  unfold mdct_Inverse.f
  by_cases h1 : x.length = 256
  · rw [if_pos h1]
    by_cases h2 : x.any (oddB 268435455) = true
    · rw [if_pos h2]
      exact .inr (.inl ⟨rfl, .inl h1, fun h => by rw [any_of_allIn h] at h2; cases h2⟩)
    · rw [if_neg h2]
      have hx := allIn_of_any (Bool.eq_false_iff.mpr h2)
      exact .inr (.inr ⟨256, 1, 26, .inl ⟨rfl, rfl, rfl⟩, h1, hx, by rw [show (26 : Int) = ((26 : Nat) : Int) from rfl, back_is (.inl ⟨rfl, rfl, rfl⟩) h1 hx]⟩)
  · rw [if_neg h1]
    by_cases h3 : x.length = 32
    · rw [if_pos h3]
      by_cases h2 : x.any (oddB 268435455) = true
      · rw [if_pos h2]
        exact .inr (.inl ⟨rfl, .inr h3, fun h => by rw [any_of_allIn h] at h2; cases h2⟩)
      · rw [if_neg h2]
        have hx := allIn_of_any (Bool.eq_false_iff.mpr h2)
        exact .inr (.inr ⟨32, 8, 23, .inr ⟨rfl, rfl, rfl⟩, h3, hx, by rw [show (23 : Int) = ((23 : Nat) : Int) from rfl, back_is (.inr ⟨rfl, rfl, rfl⟩) h3 hx]⟩)
    · rw [if_neg h3]
      exact .inl ⟨rfl, h1, h3⟩
theorem inverse_yes {m b : Nat} {s : Int} (hs : Sized m s b) {x : List Int} (hl : x.length = m) (hx : AllIn 268435455 x) : mdct_Inverse.f x = some ((List.range (2 * m)).map (backAt m s b x), 0) := by
  rcases inverse_cases x with ⟨_, h1, h2⟩ | ⟨_, _, h⟩ | ⟨m', s', b', hs', hl', hx', h⟩
  · rcases hs with ⟨rfl, _⟩ | ⟨rfl, _⟩
    · exact absurd hl h1
    · exact absurd hl h2
  · exact absurd hx h
  · obtain rfl : m' = m := by omega
    rcases hs with ⟨rfl, rfl, rfl⟩ | ⟨rfl, rfl, rfl⟩ <;> rcases hs' with ⟨h1, rfl, rfl⟩ | ⟨h1, rfl, rfl⟩
    · exact h
    · omega
    · omega
    · exact h
theorem forward_cases (z : List Int) : (mdct_Forward.f z = some ([], 4) ∧ z.length ≠ 512 ∧ z.length ≠ 64) ∨ (mdct_Forward.f z = some ([], 2) ∧ (z.length = 512 ∨ z.length = 64) ∧ ¬ AllIn 8388608 z) ∨
    ∃ m s b, Sized m s b ∧ z.length = 2 * m ∧ AllIn 8388608 z ∧ mdct_Forward.f z = some ((List.range m).map (lineAt m s z), 0) := by
  unfold mdct_Forward.f
  by_cases h1 : z.length = 512
  · rw [if_pos h1]
    by_cases h2 : z.any (oddB 8388608) = true
    · rw [if_pos h2]
      exact .inr (.inl ⟨rfl, .inl h1, fun h => by rw [any_of_allIn h] at h2; cases h2⟩)
    · rw [if_neg h2]
      have hx := allIn_of_any (Bool.eq_false_iff.mpr h2)
      exact .inr (.inr ⟨256, 1, 26, .inl ⟨rfl, rfl, rfl⟩, h1, hx, by rw [lines_is (m := 256) (.inl ⟨rfl, rfl, rfl⟩) h1 hx]⟩)
  · rw [if_neg h1]
    by_cases h3 : z.length = 64
    · rw [if_pos h3]
      by_cases h2 : z.any (oddB 8388608) = true
      · rw [if_pos h2]
        exact .inr (.inl ⟨rfl, .inr h3, fun h => by rw [any_of_allIn h] at h2; cases h2⟩)
      · rw [if_neg h2]
        have hx := allIn_of_any (Bool.eq_false_iff.mpr h2)
        exact .inr (.inr ⟨32, 8, 23, .inr ⟨rfl, rfl, rfl⟩, h3, hx, by rw [lines_is (m := 32) (.inr ⟨rfl, rfl, rfl⟩) h3 hx]⟩)
    · rw [if_neg h3]
      exact .inl ⟨rfl, h1, h3⟩
theorem forward_yes {m b : Nat} {s : Int} (hs : Sized m s b) {z : List Int} (hl : z.length = 2 * m) (hz : AllIn 8388608 z) : mdct_Forward.f z = some ((List.range m).map (lineAt m s z), 0) := by
  rcases forward_cases z with ⟨_, h1, h2⟩ | ⟨_, _, h⟩ | ⟨m', s', b', hs', hl', hx', h⟩
  · rcases hs with ⟨rfl, _⟩ | ⟨rfl, _⟩
    · exact absurd hl h1
    · exact absurd hl h2
  · exact absurd hz h
  · obtain rfl : m' = m := by omega
    rcases hs with ⟨rfl, rfl, rfl⟩ | ⟨rfl, rfl, rfl⟩ <;> rcases hs' with ⟨h1, rfl, rfl⟩ | ⟨h1, rfl, rfl⟩
    · exact h
    · omega
    · omega
    · exact h
theorem rd_map_range {f : Nat → Int} {n i : Nat} (h : i < n) : rd ((List.range n).map f) (i : Int) = f i := by
  unfold rd
  rw [show ((i : Int)).toNat = i by omega, List.getD_eq_getElem?_getD, List.getElem?_map, List.getElem?_range h]; rfl

/-! ### folding -/
/-- The second half is the same forward and backward. -/
theorem back_second {m b : Nat} {s : Int} (hs : Sized m s b) (x : List Int) {n : Nat} (hn : n < m) : backAt m s b x (m + n) = backAt m s b x (2 * m - 1 - n) := by
  unfold backAt
  congr 1
  refine dot_same fun i => ?_
  have e2 : (((2 * m - 1 - n : Nat)) : Int) = 2 * (m : Int) - 1 - n := by omega
  have e1 : (((m + n : Nat)) : Int) = (m : Int) + n := by omega
  rw [e1, e2]
  rcases hs with ⟨rfl, rfl, rfl⟩ | ⟨rfl, rfl, rfl⟩
  · rw [← Tab.C_even]
    refine Tab.C_same ?_
    have : ∀ t : Int, -((2 * (((256 : Nat) : Int) + t) + 1 + ((256 : Nat) : Int)) * 1 + i * (2 * ((2 * (((256 : Nat) : Int) + t) + 1 + ((256 : Nat) : Int)) * 1))) - ((2 * (2 * ((256 : Nat) : Int) - 1 - t) + 1 + ((256 : Nat) : Int)) * 1 + i * (2 * ((2 * (2 * ((256 : Nat) : Int) - 1 - t) + 1 + ((256 : Nat) : Int)) * 1))) = 2048 * (-1 - 2 * (i : Int)) := by
      intro t
      simp only [Int.mul_add, Int.mul_sub, Int.mul_one, Int.add_mul, Int.sub_mul]
      omega
    rw [this]
    omega
  · rw [← Tab.C_even]
    refine Tab.C_same ?_
    have : ∀ t : Int, -((2 * (((32 : Nat) : Int) + t) + 1 + ((32 : Nat) : Int)) * 8 + i * (2 * ((2 * (((32 : Nat) : Int) + t) + 1 + ((32 : Nat) : Int)) * 8))) - ((2 * (2 * ((32 : Nat) : Int) - 1 - t) + 1 + ((32 : Nat) : Int)) * 8 + i * (2 * ((2 * (2 * ((32 : Nat) : Int) - 1 - t) + 1 + ((32 : Nat) : Int)) * 8))) = 2048 * (-1 - 2 * (i : Int)) := by
      intro t
      simp only [Int.mul_add, Int.mul_sub, Int.mul_one, Int.add_mul, Int.sub_mul]
      omega
    rw [this]
    omega
/-- In the first half two that are as far from its ends are the same, but for the sign. -/
theorem dot_first {m b : Nat} {s : Int} (hs : Sized m s b) (x : List Int) {n : Nat} (hn : n < m) :
    dot (2 * ((2 * (((m - 1 - n : Nat)) : Int) + 1 + (m : Int)) * s)) x ((2 * (((m - 1 - n : Nat)) : Int) + 1 + (m : Int)) * s) = -dot (2 * ((2 * (n : Int) + 1 + (m : Int)) * s)) x ((2 * (n : Int) + 1 + (m : Int)) * s) := by
  refine dot_minus fun i => ?_
  have e2 : (((m - 1 - n : Nat)) : Int) = (m : Int) - 1 - n := by omega
  rw [e2]
  rcases hs with ⟨rfl, rfl, rfl⟩ | ⟨rfl, rfl, rfl⟩
  · rw [← Tab.C_half, ← Tab.C_even]
    refine Tab.C_same ?_
    have : ∀ t : Int, -((2 * (((256 : Nat) : Int) - 1 - t) + 1 + ((256 : Nat) : Int)) * 1 + i * (2 * ((2 * (((256 : Nat) : Int) - 1 - t) + 1 + ((256 : Nat) : Int)) * 1))) - ((2 * t + 1 + ((256 : Nat) : Int)) * 1 + i * (2 * ((2 * t + 1 + ((256 : Nat) : Int)) * 1)) + 1024) = 2048 * (-1 - (i : Int)) := by
      intro t
      simp only [Int.mul_add, Int.mul_sub, Int.mul_one, Int.add_mul, Int.sub_mul]
      omega
    rw [this]
    omega
  · rw [← Tab.C_half, ← Tab.C_even]
    refine Tab.C_same ?_
    have : ∀ t : Int, -((2 * (((32 : Nat) : Int) - 1 - t) + 1 + ((32 : Nat) : Int)) * 8 + i * (2 * ((2 * (((32 : Nat) : Int) - 1 - t) + 1 + ((32 : Nat) : Int)) * 8))) - ((2 * t + 1 + ((32 : Nat) : Int)) * 8 + i * (2 * ((2 * t + 1 + ((32 : Nat) : Int)) * 8)) + 1024) = 2048 * (-1 - (i : Int)) := by
      intro t
      simp only [Int.mul_add, Int.mul_sub, Int.mul_one, Int.add_mul, Int.sub_mul]
      omega
    rw [this]
    omega
theorem pow_half {b : Nat} (hb : 1 ≤ b) : ∃ p : Int, 0 < p ∧ (2 : Int) ^ (b - 1) = p ∧ (2 : Int) ^ b = p * 2 := ⟨_, pow_pos2 (b - 1), rfl, pow_succ2 hb⟩
theorem rnd_neg {b : Nat} (hb : 1 ≤ b) (n : Int) : rnd b n + rnd b (-n) = 0 ∨ rnd b n + rnd b (-n) = 1 := by
  obtain ⟨p, hp, e1, e2⟩ := pow_half hb
  unfold rnd
  rw [e1, e2]
  have h1 := Int.emod_add_mul_ediv (n + p) (p * 2)
  have h2 := Int.emod_nonneg (n + p) (b := p * 2) (by omega)
  have h3 := Int.emod_lt_of_pos (n + p) (b := p * 2) (by omega)
  have g1 := Int.emod_add_mul_ediv (-n + p) (p * 2)
  have g2 := Int.emod_nonneg (-n + p) (b := p * 2) (by omega)
  have g3 := Int.emod_lt_of_pos (-n + p) (b := p * 2) (by omega)
  generalize (n + p) / (p * 2) = u at *
  generalize (-n + p) / (p * 2) = v at *
  have e : p * 2 * u + p * 2 * v = p * 2 * (u + v) := (Int.mul_add _ _ _).symm
  have hlt : p * 2 * (u + v) < p * 2 * 2 := by omega
  have hgt : p * 2 * (-1) < p * 2 * (u + v) := by omega
  have a1 := Int.lt_of_mul_lt_mul_left hlt (by omega)
  have a2 := Int.lt_of_mul_lt_mul_left hgt (by omega)
  omega
/-- In the first half two that are as far from its ends are together 0 or 1. -/
theorem back_first {m b : Nat} {s : Int} (hs : Sized m s b) (x : List Int) {n : Nat} (hn : n < m) : backAt m s b x n + backAt m s b x (m - 1 - n) = 0 ∨ backAt m s b x n + backAt m s b x (m - 1 - n) = 1 := by
  unfold backAt
  rw [dot_first hs x hn]
  exact rnd_neg (by rcases hs with ⟨_, _, rfl⟩ | ⟨_, _, rfl⟩ <;> omega) _
/-- Rounding two, and their sum. -/
theorem rnd_add {b : Nat} (hb : 1 ≤ b) (n m : Int) : -1 ≤ rnd b n + rnd b m - rnd b (n + m) ∧ rnd b n + rnd b m - rnd b (n + m) ≤ 1 := by
  obtain ⟨p, hp, e1, e2⟩ := pow_half hb
  unfold rnd
  rw [e1, e2]
  have h1 := Int.emod_add_mul_ediv (n + p) (p * 2)
  have h2 := Int.emod_nonneg (n + p) (b := p * 2) (by omega)
  have h3 := Int.emod_lt_of_pos (n + p) (b := p * 2) (by omega)
  have g1 := Int.emod_add_mul_ediv (m + p) (p * 2)
  have g2 := Int.emod_nonneg (m + p) (b := p * 2) (by omega)
  have g3 := Int.emod_lt_of_pos (m + p) (b := p * 2) (by omega)
  have f1 := Int.emod_add_mul_ediv (n + m + p) (p * 2)
  have f2 := Int.emod_nonneg (n + m + p) (b := p * 2) (by omega)
  have f3 := Int.emod_lt_of_pos (n + m + p) (b := p * 2) (by omega)
  generalize (n + p) / (p * 2) = u at *
  generalize (m + p) / (p * 2) = v at *
  generalize (n + m + p) / (p * 2) = t at *
  have e : p * 2 * u + p * 2 * v - p * 2 * t = p * 2 * (u + v - t) := by rw [Int.mul_sub, Int.mul_add]
  have hlt : p * 2 * (u + v - t) < p * 2 * 2 := by omega
  have hgt : p * 2 * (-2) < p * 2 * (u + v - t) := by omega
  have a1 := Int.lt_of_mul_lt_mul_left hlt (by omega)
  have a2 := Int.lt_of_mul_lt_mul_left hgt (by omega)
  omega

end Go.Proofs.Ytpoppdaaodmicaa.Q
