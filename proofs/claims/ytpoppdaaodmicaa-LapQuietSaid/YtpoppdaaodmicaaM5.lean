/- Plain facts on sums of numbers times cosines: what Forward and Inverse answer, without wraps; sums of two; folding; noughts. -/
import Derived.Test.YtpoppdaaodmicaaBMdct
import Derived.Test.YtpoppdaaodmicaaR1
namespace Go.Proofs.Ytpoppdaaodmicaa.Q
open Go.RowKit Go.Proofs.YtpoppdaaodmicaaW.PrintWords Go.Proofs.YtpoppdaaodmicaaW.PrintLast Go.Proofs.YtpoppdaaodmicaaW.PrintMore

set_option linter.unusedSimpArgs false
/-- A sum of numbers times cosines, from an arc on, each by so much. -/
def dot (b : Int) : List Int → Int → Int
  | [], _ => 0
  | x :: r, a => x * Tab.C a + dot b r (a + b)
/-- All numbers of a list are so great at most. -/
def AllIn (X : Int) (l : List Int) : Prop := ∀ x ∈ l, -X ≤ x ∧ x ≤ X

theorem mul_C {X x : Int} (hX : -X ≤ x ∧ x ≤ X) (a : Int) : -(X * 67108864) ≤ x * Tab.C a ∧ x * Tab.C a ≤ X * 67108864 := by
  have hC := Tab.C_max a
  have h := Int.natAbs_mul x (Tab.C a)
  have h1 : x.natAbs * (Tab.C a).natAbs ≤ X.natAbs * 67108864 := Nat.mul_le_mul (by omega) (by omega)
  omega
theorem dot_bound {X : Int} (b : Int) : ∀ {l : List Int}, AllIn X l → ∀ a, -((l.length : Int) * (X * 67108864)) ≤ dot b l a ∧ dot b l a ≤ (l.length : Int) * (X * 67108864)
  | [], _, a => by simp [dot]
  | x :: r, h, a => by
    have h1 := mul_C (h x (by simp)) a
    have h2 := dot_bound b (l := r) (fun y hy => h y (by simp [hy])) (a + b)
    have e : ((x :: r).length : Int) * (X * 67108864) = (r.length : Int) * (X * 67108864) + X * 67108864 := by
      rw [List.length_cons, show (((r.length + 1 : Nat)) : Int) = (r.length : Int) + 1 by omega, Int.add_mul, Int.one_mul]
    rw [e, dot]
    generalize (r.length : Int) * (X * 67108864) = z at *
    omega
theorem dotW_eq {X : Int} (hX : 0 ≤ X) {b : Int} (hb : -1048576 ≤ b ∧ b ≤ 1048576) {l : List Int} (a s : Int) (h : AllIn X l) (ha0 : -1152921504606846976 + (l.length : Int) * 1048576 ≤ a) (ha1 : a + (l.length : Int) * 1048576 ≤ 1152921504606846976)
    (hs0 : -4611686018427387904 + (l.length : Int) * (X * 67108864) ≤ s) (hs1 : s + (l.length : Int) * (X * 67108864) ≤ 4611686018427387904) : dotW b l a s = s + dot b l a := by
  induction l generalizing a s with
  | nil => simp [dot, dotW]
  | cons x r ih =>
    have h1 := mul_C (h x (by simp)) a
    have e : ((x :: r).length : Int) * (X * 67108864) = (r.length : Int) * (X * 67108864) + X * 67108864 := by
      rw [List.length_cons, show (((r.length + 1 : Nat)) : Int) = (r.length : Int) + 1 by omega, Int.add_mul, Int.one_mul]
    have e2 : ((x :: r).length : Int) = (r.length : Int) + 1 := by simp
    rw [e] at hs0 hs1
    rw [e2] at ha0 ha1
    have hz : 0 ≤ (r.length : Int) * (X * 67108864) := Int.mul_nonneg (by omega) (by omega)
    rw [dotW, dot]
    replace ih := fun a s => ih a s (fun y hy => h y (by simp [hy]))
    generalize (r.length : Int) * (X * 67108864) = z at *
    rw [wrap_in (n := x * Tab.C a) (by omega) (by omega), wrap_in (n := s + x * Tab.C a) (by omega) (by omega), wrap_in (n := a + b) (by omega) (by omega), ih (a + b) (s + x * Tab.C a) (by omega) (by omega) (by omega) (by omega)]
    omega
theorem rndV_is {s : Int} {b : Nat} (h0 : -4611686018427387904 ≤ s) (h1 : s ≤ 4611686018427387904) (hb : 1 ≤ b) (hb2 : b ≤ 62) : rndV s (b : Int) = rnd b s := by
  unfold rndV
  rw [round_is h0 h1 hb hb2 (Nat.le_refl 1)]
  rfl

/-! ### the same sums by other arcs; sums of lists -/
theorem dot_zeros (b : Int) : ∀ (n : Nat) (a : Int), dot b (List.replicate n 0) a = 0
  | 0, _ => rfl
  | n + 1, a => by rw [List.replicate_succ, dot, dot_zeros b n]; omega
/-! ### Inverse's numbers, Forward's lines -/
/-- One of what lines come back to. -/
def backAt (m : Nat) (s : Int) (b : Nat) (x : List Int) (n : Nat) : Int := rnd b (dot (2 * ((2 * (n : Int) + 1 + (m : Int)) * s)) x ((2 * (n : Int) + 1 + (m : Int)) * s))
theorem allIn_of_any {X : Int} {l : List Int} (h : l.any (oddB X) = false) : AllIn X l := by
  intro x hx
  rw [List.any_eq_false] at h
  have := h x hx
  unfold oddB at this
  simp only [Bool.or_eq_true, decide_eq_true_eq] at this
  omega
theorem any_of_allIn {X : Int} {l : List Int} (h : AllIn X l) : l.any (oddB X) = false := by
  rw [List.any_eq_false]
  intro x hx
  have := h x hx
  unfold oddB
  simp only [Bool.or_eq_true, decide_eq_true_eq]
  omega
/-- How a window may be: 256 lines, or 32. -/
def Sized (m : Nat) (s : Int) (b : Nat) : Prop := (m = 256 ∧ s = 1 ∧ b = 26) ∨ (m = 32 ∧ s = 8 ∧ b = 23)
theorem dot_le {b a : Int} {l : List Int} (h : AllIn 268435455 l) (hl : l.length ≤ 256) : -4611686018427387904 ≤ dot b l a ∧ dot b l a ≤ 4611686018427387904 := by
  have := dot_bound b h a
  omega
theorem back_is {m b : Nat} {s : Int} (hs : Sized m s b) {x : List Int} (hl : x.length = m) (hx : AllIn 268435455 x) : backW m s b x = (List.range (2 * m)).map (backAt m s b x) := by
  unfold backW
  refine List.map_congr_left fun n hn => ?_
  have hn' : n < 2 * m := by simpa using hn
  unfold backAt
  have hd := dot_le (b := 2 * ((2 * (n : Int) + 1 + (m : Int)) * s)) (a := (2 * (n : Int) + 1 + (m : Int)) * s) hx (by rcases hs with ⟨rfl, _⟩ | ⟨rfl, _⟩ <;> omega)
  have e : dotW (2 * ((2 * (n : Int) + 1 + (m : Int)) * s)) x ((2 * (n : Int) + 1 + (m : Int)) * s) 0 = 0 + dot (2 * ((2 * (n : Int) + 1 + (m : Int)) * s)) x ((2 * (n : Int) + 1 + (m : Int)) * s) := by
    rcases hs with ⟨rfl, rfl, rfl⟩ | ⟨rfl, rfl, rfl⟩
    · exact dotW_eq (X := 268435455) (by omega) (by omega) _ _ hx (by omega) (by omega) (by omega) (by omega)
    · exact dotW_eq (X := 268435455) (by omega) (by omega) _ _ hx (by omega) (by omega) (by omega) (by omega)
  rw [e, Int.zero_add]
  rcases hs with ⟨rfl, rfl, rfl⟩ | ⟨rfl, rfl, rfl⟩ <;> exact rndV_is hd.1 hd.2 (by omega) (by omega)
theorem inverse_cases (x : List Int) : (mdct_Inverse.f x = some ([], 4) ∧ x.length ≠ 256 ∧ x.length ≠ 32) ∨ (mdct_Inverse.f x = some ([], 2) ∧ (x.length = 256 ∨ x.length = 32) ∧ ¬ AllIn 268435455 x) ∨
    ∃ m s b, Sized m s b ∧ x.length = m ∧ AllIn 268435455 x ∧ mdct_Inverse.f x = some ((List.range (2 * m)).map (backAt m s b x), 0) := by
  unfold mdct_Inverse.f
  by_cases h1 : x.length = 256
  · rw [if_pos h1]
    by_cases h2 : x.any (oddB 268435455) = true
    · rw [if_pos h2]
      exact .inr (.inl ⟨rfl, .inl h1, fun h => by rw [any_of_allIn h] at h2; cases h2⟩)
    · rw [if_neg h2]
      have hx := allIn_of_any (Bool.eq_false_iff.mpr h2)
      exact .inr (.inr ⟨256, 1, 26, .inl ⟨rfl, rfl, rfl⟩, h1, hx, by rw [show (26 : Int) = ((26 : Nat) : Int) from rfl, back_is (.inl ⟨rfl, rfl, rfl⟩) h1 hx]⟩)
  · rw [if_neg h1]
    by_cases h3 : x.length = 32
    · rw [if_pos h3]
      by_cases h2 : x.any (oddB 268435455) = true
      · rw [if_pos h2]
        exact .inr (.inl ⟨rfl, .inr h3, fun h => by rw [any_of_allIn h] at h2; cases h2⟩)
      · rw [if_neg h2]
        have hx := allIn_of_any (Bool.eq_false_iff.mpr h2)
        exact .inr (.inr ⟨32, 8, 23, .inr ⟨rfl, rfl, rfl⟩, h3, hx, by rw [show (23 : Int) = ((23 : Nat) : Int) from rfl, back_is (.inr ⟨rfl, rfl, rfl⟩) h3 hx]⟩)
    · rw [if_neg h3]
      exact .inl ⟨rfl, h1, h3⟩
theorem inverse_yes {m b : Nat} {s : Int} (hs : Sized m s b) {x : List Int} (hl : x.length = m) (hx : AllIn 268435455 x) : mdct_Inverse.f x = some ((List.range (2 * m)).map (backAt m s b x), 0) := by
  rcases inverse_cases x with ⟨_, h1, h2⟩ | ⟨_, _, h⟩ | ⟨m', s', b', hs', hl', hx', h⟩
  · rcases hs with ⟨rfl, _⟩ | ⟨rfl, _⟩
    · exact absurd hl h1
    · exact absurd hl h2
  · exact absurd hx h
  · obtain rfl : m' = m := by omega
    rcases hs with ⟨rfl, rfl, rfl⟩ | ⟨rfl, rfl, rfl⟩ <;> rcases hs' with ⟨h1, rfl, rfl⟩ | ⟨h1, rfl, rfl⟩
    · exact h
    · omega
    · omega
    · exact h
theorem rd_map_range {f : Nat → Int} {n i : Nat} (h : i < n) : rd ((List.range n).map f) (i : Int) = f i := by
  unfold rd
  rw [show ((i : Int)).toNat = i by omega, List.getD_eq_getElem?_getD, List.getElem?_map, List.getElem?_range h]; rfl

/-! ### folding -/
theorem pow_half {b : Nat} (hb : 1 ≤ b) : ∃ p : Int, 0 < p ∧ (2 : Int) ^ (b - 1) = p ∧ (2 : Int) ^ b = p * 2 := ⟨_, pow_pos2 (b - 1), rfl, pow_succ2 hb⟩
end Go.Proofs.Ytpoppdaaodmicaa.Q
