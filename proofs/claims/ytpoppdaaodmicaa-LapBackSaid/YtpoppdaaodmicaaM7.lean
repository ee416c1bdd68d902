/- Plain facts on sums: forward and back, samples come to themselves, less or and their mirror. -/
import Derived.Test.YtpoppdaaodmicaaM6a
namespace Go.Proofs.Ytpoppdaaodmicaa.Q
open Go.RowKit Go.Proofs.YtpoppdaaodmicaaW.PrintWords Go.Proofs.YtpoppdaaodmicaaW.PrintLast Go.Proofs.YtpoppdaaodmicaaW.PrintMore

/-! ### finite sums -/
def sm : Nat → (Nat → Int) → Int
  | 0, _ => 0
  | n + 1, f => sm n f + f n
theorem sm_congr {f g : Nat → Int} : ∀ {n : Nat}, (∀ i, i < n → f i = g i) → sm n f = sm n g
  | 0, _ => rfl
  | n + 1, h => by rw [sm, sm, sm_congr (fun i hi => h i (by omega)), h n (by omega)]
theorem sm_add (f g : Nat → Int) : ∀ n : Nat, sm n (fun i => f i + g i) = sm n f + sm n g
  | 0 => rfl
  | n + 1 => by rw [sm, sm, sm, sm_add f g n]; omega
theorem sm_mul (c : Int) (f : Nat → Int) : ∀ n : Nat, sm n (fun i => c * f i) = c * sm n f
  | 0 => by simp [sm]
  | n + 1 => by rw [sm, sm, sm_mul c f n, Int.mul_add]
theorem sm_neg (f : Nat → Int) : ∀ n : Nat, sm n (fun i => -f i) = -sm n f
  | 0 => by simp [sm]
  | n + 1 => by rw [sm, sm, sm_neg f n]; omega
theorem sm_zero : ∀ n : Nat, sm n (fun _ => 0) = 0
  | 0 => rfl
  | n + 1 => by rw [sm, sm_zero n]; rfl
theorem sm_head (f : Nat → Int) : ∀ n : Nat, sm (n + 1) f = f 0 + sm n (fun i => f (i + 1))
  | 0 => by simp [sm]
  | n + 1 => by rw [sm, sm_head f n, sm]; omega
theorem sm_append (f : Nat → Int) (n : Nat) : ∀ m : Nat, sm (n + m) f = sm n f + sm m (fun i => f (n + i))
  | 0 => by simp [sm]
  | m + 1 => by rw [show n + (m + 1) = n + m + 1 by omega, sm, sm_append f n m, sm]; omega
theorem sm_swap (f : Nat → Nat → Int) (m : Nat) : ∀ n : Nat, sm n (fun i => sm m (f i)) = sm m (fun j => sm n (fun i => f i j))
  | 0 => by rw [sm]; exact (sm_zero m).symm
  | n + 1 => by
    rw [sm, sm_swap f m n, ← sm_add]
    exact sm_congr fun i _ => rfl
theorem sm_bound {f : Nat → Int} {B : Int} : ∀ {n : Nat}, (∀ i, i < n → -B ≤ f i ∧ f i ≤ B) → -((n : Int) * B) ≤ sm n f ∧ sm n f ≤ (n : Int) * B
  | 0, _ => by simp [sm]
  | n + 1, h => by
    have h1 := sm_bound (n := n) (fun i hi => h i (by omega))
    have h2 := h n (by omega)
    rw [sm, show (((n + 1 : Nat)) : Int) = (n : Int) + 1 by omega, Int.add_mul, Int.one_mul]
    generalize (n : Int) * B = z at *
    omega
theorem sm_nought {f : Nat → Int} {n : Nat} (h : ∀ i, i < n → f i = 0) : sm n f = 0 := (sm_congr h).trans (sm_zero n)
theorem sm_one {f : Nat → Int} {a : Nat} : ∀ {n : Nat}, a < n → (∀ i, i < n → i ≠ a → f i = 0) → sm n f = f a
  | 0, h, _ => by omega
  | n + 1, h, h0 => by
    rw [sm]
    by_cases e : a = n
    · subst e
      rw [sm_nought (fun i hi => h0 i (by omega) (by omega))]; omega
    · rw [sm_one (n := n) (by omega) (fun i hi hne => h0 i (by omega) hne), h0 n (by omega) (by omega)]; omega
theorem sm_turn (f : Nat → Int) : ∀ n : Nat, sm n (fun i => f (n - 1 - i)) = sm n f
  | 0 => rfl
  | n + 1 => by
    rw [sm_head, sm, show n + 1 - 1 - 0 = n by omega]
    have : sm n (fun i => f (n + 1 - 1 - (i + 1))) = sm n f := by
      rw [← sm_turn f n]
      exact sm_congr fun i hi => by rw [show n + 1 - 1 - (i + 1) = n - 1 - i by omega]
    omega
/-- A sum of terms whose sign turns behind h of them. -/
theorem sm_waves {f : Nat → Int} {h : Nat} (hf : ∀ i, f (i + h) = -f i) : ∀ q : Nat, sm (2 * h * q) f = 0
  | 0 => rfl
  | q + 1 => by
    rw [show 2 * h * (q + 1) = 2 * h * q + (h + h) by rw [Nat.mul_add]; omega, sm_append, sm_waves hf q, sm_append]
    have e : sm h (fun i => f (2 * h * q + (h + i))) = -sm h (fun i => f (2 * h * q + i)) := by
      rw [← sm_neg]
      exact sm_congr fun i _ => by rw [← hf, show 2 * h * q + i + h = 2 * h * q + (h + i) by omega]
    omega
theorem dot_sm (b : Int) : ∀ (l : List Int) (a : Int), dot b l a = sm l.length (fun i => rd l (i : Int) * Tab.C (a + i * b))
  | [], _ => rfl
  | x :: r, a => by
    rw [dot, dot_sm b r, List.length_cons, sm_head]
    congr 1
    · rw [show ((0 : Nat) : Int) * b = 0 by simp, Int.add_zero]; rfl
    · refine sm_congr fun i _ => ?_
      rw [show a + b + (i : Int) * b = a + ((i + 1 : Nat) : Int) * b by rw [show (((i + 1 : Nat)) : Int) = (i : Int) + 1 by omega, Int.add_mul]; omega]
      rfl

/-! ### cosines of one line over all lines -/
/-- The arc of place n and line k. -/
def arcAt (m : Nat) (s : Int) (n k : Nat) : Int := (2 * (n : Int) + 1 + (m : Int)) * ((2 * (k : Int) + 1) * s)
/-- A sum of cosines of odd multiples. -/
def zs (m : Nat) (s j : Int) : Int := sm m (fun k => Tab.C (2 * j * ((2 * (k : Int) + 1) * s)))
theorem zs_odd {m : Nat} {s j : Int} (o : Int) (h : 4 * j * ((m : Int) * s) = 1024 * (2 * o + 1)) : zs m s j = 0 := by
  have e : zs m s j = -zs m s j := by
    unfold zs
    rw [← sm_neg]
    refine ((sm_turn _ m).symm).trans (sm_congr fun k hk => ?_)
    rw [← Tab.C_half, ← Tab.C_even]
    refine Tab.C_same ?_
    have e1 : (((m - 1 - k : Nat)) : Int) = (m : Int) - 1 - k := by omega
    rw [e1]
    have e2 : 2 * j * ((2 * ((m : Int) - 1 - k) + 1) * s) + 2 * j * ((2 * (k : Int) + 1) * s) = 4 * j * ((m : Int) * s) := by
      rw [← Int.mul_add, ← Int.add_mul, show 2 * ((m : Int) - 1 - k) + 1 + (2 * (k : Int) + 1) = 2 * (m : Int) by omega, Int.mul_assoc 2 (m : Int) s, ← Int.mul_assoc (2 * j) 2, Int.mul_comm (2 * j) 2, ← Int.mul_assoc 2 2 j]; rfl
    omega
  omega
theorem zs_even {m : Nat} {s j : Int} (h q : Nat) (o : Int) (hm : m = 2 * h * q) (h1 : 4 * j * ((h : Int) * s) = 1024 * (2 * o + 1)) : zs m s j = 0 := by
  unfold zs
  rw [hm]
  refine sm_waves (fun k => ?_) q
  rw [← Tab.C_half]
  refine Tab.C_same ?_
  have e1 : (((k + h : Nat)) : Int) = (k : Int) + h := by omega
  rw [e1]
  have e2 : 2 * j * ((2 * ((k : Int) + h) + 1) * s) = 2 * j * ((2 * (k : Int) + 1) * s) + 4 * j * ((h : Int) * s) := by
    rw [show 2 * ((k : Int) + h) + 1 = (2 * (k : Int) + 1) + 2 * (h : Int) by omega, Int.add_mul, Int.mul_add, Int.mul_assoc 2 (h : Int) s, ← Int.mul_assoc (2 * j) 2 ((h : Int) * s), Int.mul_comm (2 * j) 2, ← Int.mul_assoc 2 2 j]
    rfl
  rw [e2]
  omega
theorem zs_circle {m : Nat} {s j : Int} (hs : (m = 256 ∧ s = 1) ∨ (m = 32 ∧ s = 8)) (hj : j % (2 * (m : Int)) ≠ 0) : zs m s j = 0 := by
  rcases hs with ⟨rfl, rfl⟩ | ⟨rfl, rfl⟩
  · have hj' : j % 512 ≠ 0 := by omega
    clear hj
    by_cases h : j % 2 = 1
    · exact zs_odd (j / 2) (by omega)
    have g0 : j % 2 = 0 := by omega
    clear h
    by_cases h : j % 4 = 2
    · exact zs_even 128 1 (j / 4) (by omega) (by omega)
    have g1 : j % 4 = 0 := by omega
    clear h g0
    by_cases h : j % 8 = 4
    · exact zs_even 64 2 (j / 8) (by omega) (by omega)
    have g2 : j % 8 = 0 := by omega
    clear h g1
    by_cases h : j % 16 = 8
    · exact zs_even 32 4 (j / 16) (by omega) (by omega)
    have g3 : j % 16 = 0 := by omega
    clear h g2
    by_cases h : j % 32 = 16
    · exact zs_even 16 8 (j / 32) (by omega) (by omega)
    have g4 : j % 32 = 0 := by omega
    clear h g3
    by_cases h : j % 64 = 32
    · exact zs_even 8 16 (j / 64) (by omega) (by omega)
    have g5 : j % 64 = 0 := by omega
    clear h g4
    by_cases h : j % 128 = 64
    · exact zs_even 4 32 (j / 128) (by omega) (by omega)
    have g6 : j % 128 = 0 := by omega
    clear h g5
    by_cases h : j % 256 = 128
    · exact zs_even 2 64 (j / 256) (by omega) (by omega)
    have g7 : j % 256 = 0 := by omega
    clear h g6
    by_cases h : j % 512 = 256
    · exact zs_even 1 128 (j / 512) (by omega) (by omega)
    have g8 : j % 512 = 0 := by omega
    clear h g7
    omega
  · have hj' : j % 64 ≠ 0 := by omega
    clear hj
    by_cases h : j % 2 = 1
    · exact zs_odd (j / 2) (by omega)
    have g0 : j % 2 = 0 := by omega
    clear h
    by_cases h : j % 4 = 2
    · exact zs_even 16 1 (j / 4) (by omega) (by omega)
    have g1 : j % 4 = 0 := by omega
    clear h g0
    by_cases h : j % 8 = 4
    · exact zs_even 8 2 (j / 8) (by omega) (by omega)
    have g2 : j % 8 = 0 := by omega
    clear h g1
    by_cases h : j % 16 = 8
    · exact zs_even 4 4 (j / 16) (by omega) (by omega)
    have g3 : j % 16 = 0 := by omega
    clear h g2
    by_cases h : j % 32 = 16
    · exact zs_even 2 8 (j / 32) (by omega) (by omega)
    have g4 : j % 32 = 0 := by omega
    clear h g3
    by_cases h : j % 64 = 32
    · exact zs_even 1 16 (j / 64) (by omega) (by omega)
    have g5 : j % 64 = 0 := by omega
    clear h g4
    omega
theorem C_zero : Tab.C 0 = 67108864 := by
  have := Tab.C_small (m := 0) (by omega)
  rw [Tab.q_zero] at this
  exact this
theorem sm_const (c : Int) : ∀ n : Nat, sm n (fun _ => c) = (n : Int) * c
  | 0 => by simp [sm]
  | n + 1 => by rw [sm, sm_const c n, show (((n + 1 : Nat)) : Int) = (n : Int) + 1 by omega, Int.add_mul, Int.one_mul]
theorem zs_zero (m : Nat) (s : Int) : zs m s 0 = (m : Int) * 67108864 := by
  unfold zs
  rw [← sm_const]
  refine sm_congr fun k _ => ?_
  rw [show (2 : Int) * 0 * ((2 * (k : Int) + 1) * s) = 0 by simp, C_zero]
theorem zs_minus {m : Nat} {s : Int} (hs : (m = 256 ∧ s = 1) ∨ (m = 32 ∧ s = 8)) : zs m s (2 * (m : Int)) = -((m : Int) * 67108864) := by
  unfold zs
  rw [← Int.mul_neg, ← sm_const]
  refine sm_congr fun k _ => ?_
  rw [← C_zero, ← Tab.C_half]
  refine Tab.C_same ?_
  rcases hs with ⟨rfl, rfl⟩ | ⟨rfl, rfl⟩ <;> omega
theorem zs_plus {m : Nat} {s : Int} (hs : (m = 256 ∧ s = 1) ∨ (m = 32 ∧ s = 8)) : zs m s (4 * (m : Int)) = (m : Int) * 67108864 := by
  unfold zs
  rw [← sm_const]
  refine sm_congr fun k _ => ?_
  rw [← C_zero]
  refine Tab.C_same ?_
  rcases hs with ⟨rfl, rfl⟩ | ⟨rfl, rfl⟩ <;> omega

/-! ### two cosines multiplied -/
theorem C_times (n m : Int) : -268435456 ≤ 2 * (Tab.C n * Tab.C m) - 67108864 * (Tab.C (n - m) + Tab.C (n + m)) ∧ 2 * (Tab.C n * Tab.C m) - 67108864 * (Tab.C (n - m) + Tab.C (n + m)) ≤ 268435456 := by
  have h1 := Tab.sums n m
  have h2 := Tab.sums n (-m)
  unfold Tab.Sums at h1 h2
  rw [Tab.C_even, Tab.S_odd, Int.mul_neg] at h2
  rw [show n + -m = n - m by omega] at h2
  generalize Tab.C n * Tab.C m = u at *
  generalize Tab.S n * Tab.S m = v at *
  omega
/-- All lines' cosines of two places multiplied. -/
def pair (m : Nat) (s : Int) (i n : Nat) : Int := sm m (fun k => Tab.C (arcAt m s i k) * Tab.C (arcAt m s n k))
theorem pair_near (m : Nat) (s : Int) (i n : Nat) : -((m : Int) * 268435456) ≤ 2 * pair m s i n - 67108864 * (zs m s ((i : Int) - n) + zs m s ((i : Int) + n + 1 + m)) ∧ 2 * pair m s i n - 67108864 * (zs m s ((i : Int) - n) + zs m s ((i : Int) + n + 1 + m)) ≤ (m : Int) * 268435456 := by
  have e : 2 * pair m s i n - 67108864 * (zs m s ((i : Int) - n) + zs m s ((i : Int) + n + 1 + m)) = sm m (fun k => 2 * (Tab.C (arcAt m s i k) * Tab.C (arcAt m s n k)) + -67108864 * (Tab.C (arcAt m s i k - arcAt m s n k) + Tab.C (arcAt m s i k + arcAt m s n k))) := by
    rw [sm_add, sm_mul, sm_mul, sm_add]
    have e1 : ∀ k : Nat, arcAt m s i k - arcAt m s n k = 2 * ((i : Int) - n) * ((2 * (k : Int) + 1) * s) := by
      intro k
      unfold arcAt
      rw [← Int.sub_mul]
      congr 1
      omega
    have e2 : ∀ k : Nat, arcAt m s i k + arcAt m s n k = 2 * ((i : Int) + n + 1 + m) * ((2 * (k : Int) + 1) * s) := by
      intro k
      unfold arcAt
      rw [← Int.add_mul]
      congr 1
      omega
    simp only [e1, e2]
    show 2 * pair m s i n - 67108864 * (zs m s ((i : Int) - n) + zs m s ((i : Int) + n + 1 + m)) = 2 * pair m s i n + -67108864 * (zs m s ((i : Int) - n) + zs m s ((i : Int) + n + 1 + m))
    omega
  rw [e]
  refine sm_bound fun k _ => ?_
  have h := C_times (arcAt m s i k) (arcAt m s n k)
  omega
theorem mul_in {X Y x y : Int} (hx : -X ≤ x ∧ x ≤ X) (hy : -Y ≤ y ∧ y ≤ Y) : -(X * Y) ≤ x * y ∧ x * y ≤ X * Y := by
  have h := Int.natAbs_mul x y
  have h1 : x.natAbs * y.natAbs ≤ X.natAbs * Y.natAbs := Nat.mul_le_mul (by omega) (by omega)
  have h2 := Int.natAbs_mul X Y
  have h3 : 0 ≤ X * Y := Int.mul_nonneg (by omega) (by omega)
  omega

/-! ### forward and back -/
/-- What comes back at a place: the sample less its mirror (first half), or and its mirror (second half). -/
def folded (m : Nat) (z : List Int) (n : Nat) : Int := if n < m then rd z (n : Int) - rd z ((m - 1 - n : Nat) : Int) else rd z (n : Int) + rd z ((3 * m - 1 - n : Nat) : Int)
theorem zs_fold {m : Nat} {s : Int} (hs : (m = 256 ∧ s = 1) ∨ (m = 32 ∧ s = 8)) (z : List Int) {n : Nat} (hn : n < 2 * m) :
    sm (2 * m) (fun i => rd z (i : Int) * (zs m s ((i : Int) - n) + zs m s ((i : Int) + n + 1 + m))) = (m : Int) * 67108864 * folded m z n := by
  have e : ∀ i : Nat, rd z (i : Int) * (zs m s ((i : Int) - n) + zs m s ((i : Int) + n + 1 + m)) = rd z (i : Int) * zs m s ((i : Int) - n) + rd z (i : Int) * zs m s ((i : Int) + n + 1 + m) := fun i => Int.mul_add _ _ _
  simp only [e]
  rw [sm_add]
  have h1 : sm (2 * m) (fun i => rd z (i : Int) * zs m s ((i : Int) - n)) = rd z (n : Int) * ((m : Int) * 67108864) := by
    rw [sm_one (a := n) hn, Int.sub_self, zs_zero]
    intro i hi hne
    rw [zs_circle hs, Int.mul_zero]
    rcases hs with ⟨rfl, rfl⟩ | ⟨rfl, rfl⟩ <;> omega
  rw [h1]
  unfold folded
  by_cases hlt : n < m
  · rw [if_pos hlt, sm_one (a := m - 1 - n) (by omega), show ((m - 1 - n : Nat) : Int) + n + 1 + m = 2 * (m : Int) by omega, zs_minus hs]
    · generalize rd z (n : Int) = u
      generalize rd z ((m - 1 - n : Nat) : Int) = v
      rw [Int.mul_neg, Int.mul_sub, Int.mul_comm u, Int.mul_comm v]
      omega
    · intro i hi hne
      rw [zs_circle hs, Int.mul_zero]
      rcases hs with ⟨rfl, rfl⟩ | ⟨rfl, rfl⟩ <;> omega
  · rw [if_neg hlt, sm_one (a := 3 * m - 1 - n) (by omega), show ((3 * m - 1 - n : Nat) : Int) + n + 1 + m = 4 * (m : Int) by omega, zs_plus hs]
    · generalize rd z (n : Int) = u
      generalize rd z ((3 * m - 1 - n : Nat) : Int) = v
      rw [Int.mul_add, Int.mul_comm u, Int.mul_comm v]
    · intro i hi hne
      rw [zs_circle hs, Int.mul_zero]
      rcases hs with ⟨rfl, rfl⟩ | ⟨rfl, rfl⟩ <;> omega
/-- A line's sum ahead of rounding. -/
def lineSum (m : Nat) (s : Int) (z : List Int) (k : Nat) : Int := sm (2 * m) (fun i => rd z (i : Int) * Tab.C (arcAt m s i k))
theorem lineAt_sum {m : Nat} {s : Int} {z : List Int} (hl : z.length = 2 * m) (k : Nat) : lineAt m s z k = rnd 33 (lineSum m s z k) := by
  unfold lineAt lineSum
  rw [dot_sm, hl]
  congr 1
  refine sm_congr fun i _ => ?_
  congr 2
  unfold arcAt
  rw [← Int.mul_assoc (i : Int) 2, ← Int.add_mul]
  congr 1
  omega
theorem backAt_sum {m b : Nat} {s : Int} {x : List Int} (hl : x.length = m) (n : Nat) : backAt m s b x n = rnd b (sm m (fun k => rd x (k : Int) * Tab.C (arcAt m s n k))) := by
  unfold backAt
  rw [dot_sm, hl]
  congr 1
  refine sm_congr fun k _ => ?_
  congr 2
  unfold arcAt
  generalize 2 * (n : Int) + 1 + (m : Int) = a
  rw [← Int.mul_assoc 2 a s, Int.mul_comm 2 a, Int.mul_assoc a 2 s, ← Int.mul_assoc (k : Int) a, Int.mul_comm (k : Int) a, Int.mul_assoc a (k : Int), ← Int.mul_add, ← Int.mul_assoc (k : Int) 2 s, Int.mul_comm (k : Int) 2, Int.add_mul, Int.one_mul, Int.add_comm s]
/-- The lines' sums, times cosines again, are the place and its mirror. -/
theorem there_near {m : Nat} {s : Int} (hs : (m = 256 ∧ s = 1) ∨ (m = 32 ∧ s = 8)) {z : List Int} (hl : z.length = 2 * m) (hz : AllIn 8388608 z) {n : Nat} (hn : n < 2 * m) :
    -(((2 * m : Nat) : Int) * (8388608 * ((m : Int) * 268435456))) ≤ 2 * sm m (fun k => lineSum m s z k * Tab.C (arcAt m s n k)) - 67108864 * ((m : Int) * 67108864 * folded m z n) ∧
    2 * sm m (fun k => lineSum m s z k * Tab.C (arcAt m s n k)) - 67108864 * ((m : Int) * 67108864 * folded m z n) ≤ ((2 * m : Nat) : Int) * (8388608 * ((m : Int) * 268435456)) := by
  have e1 : sm m (fun k => lineSum m s z k * Tab.C (arcAt m s n k)) = sm (2 * m) (fun i => rd z (i : Int) * pair m s i n) := by
    have a : ∀ k : Nat, lineSum m s z k * Tab.C (arcAt m s n k) = sm (2 * m) (fun i => rd z (i : Int) * (Tab.C (arcAt m s i k) * Tab.C (arcAt m s n k))) := by
      intro k
      unfold lineSum
      rw [Int.mul_comm, ← sm_mul]
      refine sm_congr fun i _ => ?_
      rw [Int.mul_comm, Int.mul_assoc]
    simp only [a]
    rw [sm_swap (fun k i => rd z (i : Int) * (Tab.C (arcAt m s i k) * Tab.C (arcAt m s n k)))]
    refine sm_congr fun i _ => ?_
    rw [sm_mul]
    rfl
  rw [e1, ← zs_fold hs z hn, ← sm_mul, ← sm_mul]
  have e2 : sm (2 * m) (fun i => 2 * (rd z (i : Int) * pair m s i n)) - sm (2 * m) (fun i => 67108864 * (rd z (i : Int) * (zs m s ((i : Int) - n) + zs m s ((i : Int) + n + 1 + m))))
      = sm (2 * m) (fun i => rd z (i : Int) * (2 * pair m s i n - 67108864 * (zs m s ((i : Int) - n) + zs m s ((i : Int) + n + 1 + m)))) := by
    rw [Int.sub_eq_add_neg, ← sm_neg, ← sm_add]
    refine sm_congr fun i _ => ?_
    generalize zs m s ((i : Int) - n) + zs m s ((i : Int) + n + 1 + m) = u
    rw [Int.mul_sub, ← Int.mul_assoc (rd z (i : Int)) 2, ← Int.mul_assoc (rd z (i : Int)) 67108864, Int.mul_comm (rd z (i : Int)) 2, Int.mul_comm (rd z (i : Int)) 67108864, Int.mul_assoc, Int.mul_assoc]
    omega
  rw [e2]
  refine sm_bound fun i hi => ?_
  refine mul_in ?_ (pair_near m s i n)
  refine hz _ ?_
  unfold rd
  rw [show ((i : Int)).toNat = i by omega, List.getD_eq_getElem?_getD, List.getElem?_eq_getElem (by omega)]
  exact List.getElem_mem (by omega)
theorem rnd_near33 (n : Int) : -4294967296 ≤ 8589934592 * rnd 33 n - n ∧ 8589934592 * rnd 33 n - n ≤ 4294967296 := by
  unfold rnd
  rw [show (2 : Int) ^ (33 - 1) = 4294967296 from rfl, show (2 : Int) ^ 33 = 8589934592 from rfl]
  omega
/-- Rounded lines, times cosines again. -/
theorem lines_near {m : Nat} {s : Int} {z : List Int} (n : Nat) :
    -((m : Int) * (4294967296 * 67108864)) ≤ 8589934592 * sm m (fun k => rnd 33 (lineSum m s z k) * Tab.C (arcAt m s n k)) - sm m (fun k => lineSum m s z k * Tab.C (arcAt m s n k)) ∧
    8589934592 * sm m (fun k => rnd 33 (lineSum m s z k) * Tab.C (arcAt m s n k)) - sm m (fun k => lineSum m s z k * Tab.C (arcAt m s n k)) ≤ (m : Int) * (4294967296 * 67108864) := by
  have e : 8589934592 * sm m (fun k => rnd 33 (lineSum m s z k) * Tab.C (arcAt m s n k)) - sm m (fun k => lineSum m s z k * Tab.C (arcAt m s n k)) = sm m (fun k => (8589934592 * rnd 33 (lineSum m s z k) - lineSum m s z k) * Tab.C (arcAt m s n k)) := by
    rw [← sm_mul, Int.sub_eq_add_neg, ← sm_neg, ← sm_add]
    refine sm_congr fun k _ => ?_
    rw [Int.sub_mul, Int.mul_assoc]
    omega
  rw [e]
  exact sm_bound fun k _ => mul_in (rnd_near33 _) (Tab.C_max _)
/-- How far off what comes back may be. -/
def offMax (m : Nat) : Int := if m = 256 then 384 else 160
theorem back_near {m b : Nat} {s : Int} (hs : Sized m s b) {z : List Int} (hl : z.length = 2 * m) (hz : AllIn 8388608 z) {n : Nat} (hn : n < 2 * m) :
    -offMax m ≤ backAt m s b ((List.range m).map (lineAt m s z)) n - folded m z n ∧ backAt m s b ((List.range m).map (lineAt m s z)) n - folded m z n ≤ offMax m := by
  have hs' : (m = 256 ∧ s = 1) ∨ (m = 32 ∧ s = 8) := by
    rcases hs with ⟨h1, h2, _⟩ | ⟨h1, h2, _⟩
    · exact .inl ⟨h1, h2⟩
    · exact .inr ⟨h1, h2⟩
  have h1 := there_near hs' hl hz hn
  have h2 := lines_near (m := m) (s := s) (z := z) n
  have e : backAt m s b ((List.range m).map (lineAt m s z)) n = rnd b (sm m (fun k => rnd 33 (lineSum m s z k) * Tab.C (arcAt m s n k))) := by
    rw [backAt_sum (by rw [List.length_map, List.length_range])]
    congr 1
    refine sm_congr fun k hk => ?_
    rw [rd_map_range hk, lineAt_sum hl]
  rw [e]
  clear e hz hl
  generalize sm m (fun k => rnd 33 (lineSum m s z k) * Tab.C (arcAt m s n k)) = B at *
  generalize sm m (fun k => lineSum m s z k * Tab.C (arcAt m s n k)) = L at *
  generalize folded m z n = F at *
  unfold offMax rnd
  rcases hs with ⟨rfl, rfl, rfl⟩ | ⟨rfl, rfl, rfl⟩
  · rw [show (2 : Int) ^ (26 - 1) = 33554432 from rfl, show (2 : Int) ^ 26 = 67108864 from rfl, if_pos rfl]
    omega
  · rw [show (2 : Int) ^ (23 - 1) = 4194304 from rfl, show (2 : Int) ^ 23 = 8388608 from rfl, if_neg (by decide)]
    omega

end Go.Proofs.Ytpoppdaaodmicaa.Q
