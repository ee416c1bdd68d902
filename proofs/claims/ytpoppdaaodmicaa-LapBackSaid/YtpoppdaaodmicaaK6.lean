/- What analysing and synthesising bring back: two frames' overlapped halves are together 16 times their samples, to 36 at most. -/
import Derived.Test.YtpoppdaaodmicaaK5
namespace Go.Proofs.Ytpoppdaaodmicaa.Q
open Go.RowKit Go.Proofs.YtpoppdaaodmicaaW.PrintWords Go.Proofs.YtpoppdaaodmicaaW.PrintLast Go.Proofs.YtpoppdaaodmicaaW.PrintMore

/-! ### the reckoning -/
theorem rnd14_near (x : Int) : -8192 ≤ 16384 * rnd 14 x - x ∧ 16384 * rnd 14 x - x ≤ 8192 := by
  unfold rnd
  rw [show (2 : Int) ^ (14 - 1) = 8192 from rfl, show (2 : Int) ^ 14 = 16384 from rfl]
  omega
theorem rnd26_near (x : Int) : -33554432 ≤ 67108864 * rnd 26 x - x ∧ 67108864 * rnd 26 x - x ≤ 33554432 := by
  unfold rnd
  rw [show (2 : Int) ^ (26 - 1) = 33554432 from rfl, show (2 : Int) ^ 26 = 67108864 from rfl]
  omega
theorem sq_nonneg (x : Int) : 0 ≤ x * x := by
  rw [← Int.natAbs_mul_self]
  exact Int.natCast_nonneg _
theorem sum_small {u v : Int} (hp : u * u + v * v ≤ 17592219598848) : u + v ≤ 6000000 := by
  by_cases h : u + v ≤ 6000000
  · exact h
  · exfalso
    have h1 := sq_nonneg (u - v)
    have h2 : 6000000 * 6000000 ≤ (u + v) * (u + v) := Int.mul_le_mul (by omega) (by omega) (by omega) (by omega)
    have e1 : (u + v) * (u + v) = u * u + v * v + 2 * (u * v) := by
      rw [Int.add_mul, Int.mul_add, Int.mul_add, Int.mul_comm v u]
      omega
    have e2 : (u - v) * (u - v) = u * u + v * v - 2 * (u * v) := by
      rw [Int.sub_mul, Int.mul_sub, Int.mul_sub, Int.mul_comm v u]
      omega
    omega
theorem mul_le_of {e C u : Int} (he : -C ≤ e ∧ e ≤ C) (hu : 0 ≤ u) : -(C * u) ≤ e * u ∧ e * u ≤ C * u := by
  have h1 := Int.mul_le_mul_of_nonneg_right he.1 hu
  have h2 := Int.mul_le_mul_of_nonneg_right he.2 hu
  rw [Int.neg_mul] at h1
  exact ⟨h1, h2⟩
theorem pair_off {u v s s' bA bB : Int} (hu : 0 ≤ u) (hv : 0 ≤ v) (hp : -33554432 ≤ u * u + v * v - 17592186044416 ∧ u * u + v * v - 17592186044416 ≤ 33554432) (hs : -32768 ≤ s ∧ s ≤ 32767)
    (hA : -384 ≤ bA - (rnd 14 (s * u) + rnd 14 (s' * v)) ∧ bA - (rnd 14 (s * u) + rnd 14 (s' * v)) ≤ 384) (hB : -384 ≤ bB - (rnd 14 (s * v) - rnd 14 (s' * u)) ∧ bB - (rnd 14 (s * v) - rnd 14 (s' * u)) ≤ 384) :
    -36 ≤ rnd 26 (bA * u) + rnd 26 (bB * v) - 16 * s ∧ rnd 26 (bA * u) + rnd 26 (bB * v) - 16 * s ≤ 36 := by
  have huv := sum_small (u := u) (v := v) (by omega)
  have a1 := rnd14_near (s * u)
  have a2 := rnd14_near (s' * v)
  have a3 := rnd14_near (s * v)
  have a4 := rnd14_near (s' * u)
  have r1 := rnd26_near (bA * u)
  have r2 := rnd26_near (bB * v)
  have hEA : -6307840 ≤ 16384 * bA - (s * u + s' * v) ∧ 16384 * bA - (s * u + s' * v) ≤ 6307840 := by omega
  have hEB : -6307840 ≤ 16384 * bB - (s * v - s' * u) ∧ 16384 * bB - (s * v - s' * u) ≤ 6307840 := by omega
  have hU := mul_le_of hEA hu
  have hV := mul_le_of hEB hv
  have eU : (16384 * bA - (s * u + s' * v)) * u = 16384 * (bA * u) - (s * (u * u) + s' * (u * v)) := by
    rw [Int.sub_mul, Int.add_mul, Int.mul_assoc, Int.mul_assoc, Int.mul_assoc, Int.mul_comm v u]
  have eV : (16384 * bB - (s * v - s' * u)) * v = 16384 * (bB * v) - (s * (v * v) - s' * (u * v)) := by
    rw [Int.sub_mul, Int.sub_mul, Int.mul_assoc, Int.mul_assoc, Int.mul_assoc]
  have hD := mul_in' (X := 32768) (Y := 33554432) (x := s) (y := u * u + v * v - 17592186044416) (by omega) (by omega)
  have eD : s * (u * u + v * v - 17592186044416) = s * (u * u) + s * (v * v) - 17592186044416 * s := by
    rw [Int.mul_sub, Int.mul_add, Int.mul_comm s 17592186044416]
  rw [eU] at hU
  rw [eV] at hV
  rw [eD] at hD
  clear eU eV eD hEA hEB a1 a2 a3 a4 hA hB hp
  generalize s * (u * u) = p1 at *
  generalize s * (v * v) = p2 at *
  generalize s' * (u * v) = p3 at *
  generalize rnd 26 (bA * u) = X at *
  generalize rnd 26 (bB * v) = Y at *
  generalize bA * u = q1 at *
  generalize bB * v = q2 at *
  omega
theorem rnd26_nought (b : Int) : rnd 26 (b * 0) = 0 := by rw [Int.mul_zero, rnd_zero (by omega)]
/-- A window's value is one there, and none as far from its half's other end: falling. -/
theorem flat_fall {s s' bA : Int} (hs : -32768 ≤ s ∧ s ≤ 32767) (hA : -384 ≤ bA - (rnd 14 (s * 4194304) + rnd 14 (s' * 0)) ∧ bA - (rnd 14 (s * 4194304) + rnd 14 (s' * 0)) ≤ 384) :
    -36 ≤ rnd 26 (bA * 4194304) - 16 * s ∧ rnd 26 (bA * 4194304) - 16 * s ≤ 36 := by
  have h := pair_off (u := 4194304) (v := 0) (s := s) (s' := s') (bA := bA) (bB := rnd 14 (s * 0) - rnd 14 (s' * 4194304)) (by decide) (by decide) (by decide) hs hA (by omega)
  rw [rnd26_nought, Int.add_zero] at h
  exact h
theorem flat_rise {s s' bB : Int} (hs : -32768 ≤ s ∧ s ≤ 32767) (hB : -384 ≤ bB - (rnd 14 (s * 4194304) - rnd 14 (s' * 0)) ∧ bB - (rnd 14 (s * 4194304) - rnd 14 (s' * 0)) ≤ 384) :
    -36 ≤ rnd 26 (bB * 4194304) - 16 * s ∧ rnd 26 (bB * 4194304) - 16 * s ≤ 36 := by
  have h := pair_off (u := 0) (v := 4194304) (s := s) (s' := s') (bA := rnd 14 (s * 0) + rnd 14 (s' * 4194304)) (bB := bB) (by decide) (by decide) (by decide) hs (by omega) hB
  rw [rnd26_nought, Int.zero_add] at h
  exact h
/-! ### one window there and back -/
theorem gather_cut {out : Nat → List Int} {m : Nat} (h : ∀ i, (out i).length = m) : ∀ {N i : Nat}, i < N → ((gather out N).drop (m * i)).take m = out i
  | 0, _, hi => by omega
  | N + 1, i, hi => by
    have hl : (gather out N).length = m * N := by rw [gather_length h N, Nat.mul_comm]
    rw [gather]
    by_cases e : i = N
    · subst e
      rw [List.drop_left' hl, List.take_of_length_le (by rw [h]; exact Nat.le_refl _)]
    · have hi' : i < N := by omega
      have h1 : m * i + m ≤ m * N := by
        have := Nat.mul_le_mul_left m (show i + 1 ≤ N by omega)
        rw [Nat.mul_add, Nat.mul_one] at this
        exact this
      rw [List.drop_append_of_le_length (by omega), List.take_append_of_le_length (by rw [List.length_drop]; omega), gather_cut h hi']
theorem an_cut {a0 a1 a2 : Int} {l : List Int} {i : Nat} (hi : i < anN a0) : ((anL a0 a1 a2 l).drop (anM a0 * i)).take (anM a0) = anLine a0 a1 a2 l i := gather_cut (anLine_length a0 a1 a2 l) hi
/-- What a window's lines come back to. -/
def bkAt (a0 a1 a2 : Int) (l : List Int) (i n : Nat) : Int := backAt (anM a0) (anS a0) (anB a0) (anLine a0 a1 a2 l i) n
theorem snAt_an {a0 a1 a2 : Int} {l : List Int} {i : Nat} (hi : i < anN a0) (n : Nat) : snAt a0 a1 a2 (anL a0 a1 a2 l) i n = rnd 26 (bkAt a0 a1 a2 l i n * rd (anWin a0 a1 a2 i) (n : Int)) := by
  unfold snAt bkAt
  rw [an_cut hi]
theorem bk_near {a0 a1 a2 : Int} (h1 : a1 = 0 ∨ a1 = 1) (h2 : a2 = 0 ∨ a2 = 1) {l : List Int} (hl : l.length = 512) (hb : Between (-32768) 32767 l) {i n : Nat} (hi : i < anN a0) (hn : n < 2 * anM a0) :
    -384 ≤ bkAt a0 a1 a2 l i n - folded (anM a0) (zL l (anPos a0 i) (anWin a0 a1 a2 i)) n ∧ bkAt a0 a1 a2 l i n - folded (anM a0) (zL l (anPos a0 i) (anWin a0 a1 a2 i)) n ≤ 384 := by
  have hz : (zL l (anPos a0 i) (anWin a0 a1 a2 i)).length = 2 * anM a0 := by unfold zL; rw [List.length_map, List.length_range, anWin_length]
  have := back_near (an_sized a0) hz (zL_in hb (anWin_in h1 h2 i) (by rw [anWin_length]; have := an_pos_le hi; omega)) hn
  have ho : offMax (anM a0) ≤ 384 := by unfold offMax; split <;> decide
  unfold bkAt anLine
  omega
theorem rd_zL {a0 a1 a2 : Int} {l : List Int} {i n : Nat} (hn : n < 2 * anM a0) : rd (zL l (anPos a0 i) (anWin a0 a1 a2 i)) (n : Int) = rnd 14 (rd l ((anPos a0 i + n : Nat) : Int) * rd (anWin a0 a1 a2 i) (n : Int)) := by
  unfold zL
  rw [rd_map_range (by rw [anWin_length]; exact hn)]
  rfl
/-- A falling place: values u there, u' as far from the half's other end. -/
theorem bk_fall {a0 a1 a2 : Int} (h1 : a1 = 0 ∨ a1 = 1) (h2 : a2 = 0 ∨ a2 = 1) {l : List Int} (hl : l.length = 512) (hb : Between (-32768) 32767 l) {i n n' P P' : Nat} {u u' : Int} (hi : i < anN a0) (hn : anM a0 ≤ n ∧ n < 2 * anM a0) (hn' : n' = 3 * anM a0 - 1 - n)
    (hP : P = anPos a0 i + n) (hP' : P' = anPos a0 i + n') (hu : rd (anWin a0 a1 a2 i) (n : Int) = u) (hu' : rd (anWin a0 a1 a2 i) (n' : Int) = u') :
    -384 ≤ bkAt a0 a1 a2 l i n - (rnd 14 (rd l (P : Int) * u) + rnd 14 (rd l (P' : Int) * u')) ∧ bkAt a0 a1 a2 l i n - (rnd 14 (rd l (P : Int) * u) + rnd 14 (rd l (P' : Int) * u')) ≤ 384 := by
  have h := bk_near h1 h2 hl hb hi hn.2
  unfold folded at h
  rw [if_neg (by omega), ← hn', rd_zL hn.2, rd_zL (by omega), hu, hu', ← hP, ← hP'] at h
  exact h
/-- A rising place. -/
theorem bk_rise {a0 a1 a2 : Int} (h1 : a1 = 0 ∨ a1 = 1) (h2 : a2 = 0 ∨ a2 = 1) {l : List Int} (hl : l.length = 512) (hb : Between (-32768) 32767 l) {i n n' P P' : Nat} {v v' : Int} (hi : i < anN a0) (hn : n < anM a0) (hn' : n' = anM a0 - 1 - n)
    (hP : P = anPos a0 i + n) (hP' : P' = anPos a0 i + n') (hv : rd (anWin a0 a1 a2 i) (n : Int) = v) (hv' : rd (anWin a0 a1 a2 i) (n' : Int) = v') :
    -384 ≤ bkAt a0 a1 a2 l i n - (rnd 14 (rd l (P : Int) * v) - rnd 14 (rd l (P' : Int) * v')) ∧ bkAt a0 a1 a2 l i n - (rnd 14 (rd l (P : Int) * v) - rnd 14 (rd l (P' : Int) * v')) ≤ 384 := by
  have hm := anM_le a0
  have h := bk_near h1 h2 hl hb hi (n := n) (by omega)
  unfold folded at h
  rw [if_pos hn, ← hn', rd_zL (by omega), rd_zL (by omega), hv, hv', ← hP, ← hP'] at h
  exact h
/-! ### the windows' values -/
/-- A short half's value. -/
def hv (a : Int) (j : Nat) : Int := (halfL a true).getD j 0
theorem half32 (a : Int) : (halfL a true).length = 32 := by rw [halfL_length]; rfl
theorem hv_nonneg {a : Int} (h : a = 0 ∨ a = 1) {j : Nat} (hj : j < 32) : 0 ≤ hv a j := Int.le_of_lt (power_at (half_power h true) (by rw [half32]; exact hj)).1
theorem hv_power {a : Int} (h : a = 0 ∨ a = 1) {j : Nat} (hj : j < 32) : -33554432 ≤ hv a (31 - j) * hv a (31 - j) + hv a j * hv a j - 17592186044416 ∧ hv a (31 - j) * hv a (31 - j) + hv a j * hv a j - 17592186044416 ≤ 33554432 := by
  obtain ⟨_, _, _, h1, h2⟩ := power_at (half_power h true) (n := j) (by rw [half32]; exact hj)
  rw [half32, show 32 - 1 - j = 31 - j by omega] at h1 h2
  unfold hv
  omega
theorem getD_rev {l : List Int} {m j : Nat} (hl : l.length = m) (hj : j < m) : l.reverse.getD j 0 = l.getD (m - 1 - j) 0 := by
  rw [List.getD_eq_getElem?_getD, List.getD_eq_getElem?_getD, List.getElem?_reverse (by omega), hl]
theorem rd_getD (l : List Int) (n : Nat) : rd l (n : Int) = l.getD n 0 := by unfold rd; rw [show ((n : Int)).toNat = n by omega]
theorem getD_left {l m : List Int} {n : Nat} (h : n < l.length) : (l ++ m).getD n 0 = l.getD n 0 := by
  rw [List.getD_eq_getElem?_getD, List.getElem?_append_left h, ← List.getD_eq_getElem?_getD]
theorem getD_right {l m : List Int} {n k : Nat} (h : n = l.length + k) : (l ++ m).getD n 0 = m.getD k 0 := by
  rw [List.getD_eq_getElem?_getD, List.getElem?_append_right (by omega), show n - l.length = k by omega, ← List.getD_eq_getElem?_getD]
theorem getD_rep {n j : Nat} (v : Int) (h : j < n) : (List.replicate n v).getD j 0 = v := by
  rw [List.getD_eq_getElem?_getD, List.getElem?_replicate, if_pos h]; rfl
theorem first3 (m : Int) {n : Nat} (hn : n < 256) : (firstL 3 m).getD n 0 = if n < 112 then 0 else if n < 144 then hv m (n - 112) else 4194304 := by
  have e := half32 m
  unfold firstL
  rw [if_pos rfl]
  by_cases h1 : n < 112
  · rw [if_pos h1, getD_left (by rw [List.length_replicate]; exact h1), getD_rep _ h1]
  · rw [if_neg h1, getD_right (k := n - 112) (by rw [List.length_replicate]; omega)]
    by_cases h2 : n < 144
    · rw [if_pos h2, getD_left (by rw [e]; omega)]; rfl
    · rw [if_neg h2, getD_right (k := n - 144) (by rw [e]; omega), getD_rep _ (by omega)]
theorem second1 (m : Int) {n : Nat} (hn : n < 256) : (secondL 1 m).getD n 0 = if n < 112 then 4194304 else if n < 144 then hv m (143 - n) else 0 := by
  have e := half32 m
  unfold secondL
  rw [if_pos rfl]
  by_cases h1 : n < 112
  · rw [if_pos h1, getD_left (by rw [List.length_replicate]; exact h1), getD_rep _ h1]
  · rw [if_neg h1, getD_right (k := n - 112) (by rw [List.length_replicate]; omega)]
    by_cases h2 : n < 144
    · rw [if_pos h2, getD_left (by rw [List.length_reverse, e]; omega), getD_rev e (by omega), show 32 - 1 - (n - 112) = 143 - n by omega]; rfl
    · rw [if_neg h2, getD_right (k := n - 144) (by rw [List.length_reverse, e]; omega), getD_rep _ (by omega)]
theorem lit_rise (i : Nat) (a1 a2 : Int) {j : Nat} (hj : j < 32) : rd (litL i a1 a2) (j : Int) = hv (if i = 0 then a1 else a2) j := by
  rw [rd_getD]
  unfold litL hv
  by_cases h : i = 0
  · rw [if_pos h, if_pos h, getD_left (by rw [half32]; exact hj)]
  · rw [if_neg h, if_neg h, getD_left (by rw [half32]; exact hj)]
theorem lit_fall (i : Nat) (a1 a2 : Int) {j : Nat} (hj : j < 32) : rd (litL i a1 a2) ((32 + j : Nat) : Int) = hv a2 (31 - j) := by
  rw [rd_getD]
  unfold litL
  rw [getD_right (k := j) (by split <;> rw [half32]), getD_rev (half32 a2) hj]
  rfl
/-! ### Shorts: two windows over one place -/
theorem sm_two {f : Nat → Int} {a b n : Nat} (ha : a < n) (hb : b < n) (hab : a ≠ b) (h : ∀ i, i < n → i ≠ a → i ≠ b → f i = 0) : sm n f = f a + f b := by
  have e : sm n f = sm n (fun i => (if i = a then f i else 0) + (if i = b then f i else 0)) := sm_congr fun i hi => by
    by_cases h1 : i = a
    · rw [if_pos h1, if_neg (by omega), Int.add_zero]
    · rw [if_neg h1, Int.zero_add]
      by_cases h2 : i = b
      · rw [if_pos h2]
      · rw [if_neg h2, h i hi h1 h2]
  rw [e, sm_add, sm_one (a := a) ha (fun i _ hne => if_neg hne), sm_one (a := b) hb (fun i _ hne => if_neg hne), if_pos rfl, if_pos rfl]
theorem an2 : anN 2 = 8 ∧ anM 2 = 32 ∧ (∀ i, anPos 2 i = 112 + 32 * i) ∧ (∀ a1 a2 i, anWin 2 a1 a2 i = litL i a1 a2) := ⟨rfl, rfl, fun _ => rfl, fun _ _ _ => rfl⟩
theorem an_long {a0 : Int} (h : a0 ≠ 2) : anN a0 = 1 ∧ anM a0 = 256 ∧ (∀ i, anPos a0 i = 0) ∧ (∀ a1 a2 i, anWin a0 a1 a2 i = winL a0 a1 a2) := by
  unfold anN anM anPos anWin
  rw [if_neg h, if_neg h]
  exact ⟨rfl, rfl, fun _ => if_neg h, fun _ _ _ => if_neg h⟩
/-- What comes out of a frame's own lines. -/
def outAt (a0 a1 a2 : Int) (l : List Int) (n : Nat) : Int := rd (snL a0 a1 a2 (anL a0 a1 a2 l)) (n : Int)
theorem out_sum {a0 a1 a2 : Int} (h1 : a1 = 0 ∨ a1 = 1) (h2 : a2 = 0 ∨ a2 = 1) {l : List Int} (hl : l.length = 512) (hb : Between (-32768) 32767 l) (n : Nat) : outAt a0 a1 a2 l n = sm (anN a0) (bearAt a0 a1 a2 (anL a0 a1 a2 l) n) := snL_rd h1 h2 (anL_length a0 a1 a2 l) (anL_in h1 h2 hl hb) n
theorem out_long {a0 a1 a2 : Int} (h1 : a1 = 0 ∨ a1 = 1) (h2 : a2 = 0 ∨ a2 = 1) {l : List Int} (hl : l.length = 512) (hb : Between (-32768) 32767 l) (h : a0 ≠ 2) {n : Nat} (hn : n < 512) : outAt a0 a1 a2 l n = rnd 26 (bkAt a0 a1 a2 l 0 n * rd (winL a0 a1 a2) (n : Int)) := by
  obtain ⟨e1, e2, e3, e4⟩ := an_long h
  rw [out_sum h1 h2 hl hb, e1, sm_one (a := 0) (by omega) (fun i hi hne => by omega)]
  unfold bearAt
  rw [e3, e2, if_pos (by omega), Nat.sub_zero, snAt_an (by omega), e4]
theorem bear_short {a1 a2 : Int} {l : List Int} {i n : Nat} (hi : i < 8) (h : 112 + 32 * i ≤ n ∧ n < 112 + 32 * i + 64) : bearAt 2 a1 a2 (anL 2 a1 a2 l) n i = rnd 26 (bkAt 2 a1 a2 l i (n - (112 + 32 * i)) * rd (litL i a1 a2) ((n - (112 + 32 * i) : Nat) : Int)) := by
  unfold bearAt
  rw [an2.2.2.1, if_pos (by rw [an2.2.1]; omega), snAt_an (by rw [an2.1]; exact hi), an2.2.2.2]
theorem bear_short_no {a1 a2 : Int} {l : List Int} {i n : Nat} (h : ¬ (112 + 32 * i ≤ n ∧ n < 112 + 32 * i + 64)) : bearAt 2 a1 a2 (anL 2 a1 a2 l) n i = 0 := by
  unfold bearAt
  rw [an2.2.2.1, if_neg (by rw [an2.2.1]; omega)]
/-- Two short windows over one place. -/
theorem short_inner {a1 a2 : Int} (h1 : a1 = 0 ∨ a1 = 1) (h2 : a2 = 0 ∨ a2 = 1) {l : List Int} (hl : l.length = 512) (hb : Between (-32768) 32767 l) {P : Nat} (hP : 144 ≤ P ∧ P < 368) : -36 ≤ outAt 2 a1 a2 l P - 16 * rd l (P : Int) ∧ outAt 2 a1 a2 l P - 16 * rd l (P : Int) ≤ 36 := by
  obtain ⟨i, j, hi, hj, e⟩ : ∃ i j, i < 7 ∧ j < 32 ∧ P = 144 + 32 * i + j := ⟨(P - 144) / 32, (P - 144) % 32, by omega, by omega, by omega⟩
  have hN : anN 2 = 8 := rfl
  have hM : anM 2 = 32 := rfl
  rw [out_sum h1 h2 hl hb, hN, sm_two (a := i) (b := i + 1) (by omega) (by omega) (by omega) (fun k hk hne hne' => bear_short_no (by omega)),
    bear_short (by omega) (by omega), bear_short (by omega) (by omega), show P - (112 + 32 * i) = 32 + j by omega, show P - (112 + 32 * (i + 1)) = j by omega,
    lit_fall i a1 a2 hj, lit_rise (i + 1) a1 a2 hj, if_neg (by omega)]
  have hsn := hb P (by omega)
  refine pair_off (s := rd l (P : Int)) (s' := rd l ((175 + 32 * i - j : Nat) : Int)) (hv_nonneg h2 (by omega)) (hv_nonneg h2 hj) (hv_power h2 hj) hsn ?_ ?_
  · refine bk_fall (a0 := 2) h1 h2 hl hb (n' := 32 + (31 - j)) (by omega) (by omega) (by omega) (by rw [an2.2.2.1]; omega) (by rw [an2.2.2.1]; omega) (lit_fall i a1 a2 hj) ?_
    rw [an2.2.2.2, lit_fall i a1 a2 (by omega), show 31 - (31 - j) = j by omega]
  · refine bk_rise (a0 := 2) h1 h2 hl hb (n' := 31 - j) (by omega) (by omega) (by omega) (by rw [an2.2.2.1]; omega) (by rw [an2.2.2.1]; omega) ?_ ?_
    · rw [an2.2.2.2, lit_rise _ a1 a2 hj, if_neg (by omega)]
    · rw [an2.2.2.2, lit_rise _ a1 a2 (by omega), if_neg (by omega)]
/-! ### short starts -/
theorem rise_low {a0 a1 a2 : Int} (h1 : a1 = 0 ∨ a1 = 1) (h2 : a2 = 0 ∨ a2 = 1) {l : List Int} (hl : l.length = 512) (hb : Between (-32768) 32767 l) (h : a0 = 2 ∨ a0 = 3) {n : Nat} (hn : n < 112) : outAt a0 a1 a2 l n = 0 := by
  rcases h with rfl | rfl
  · rw [out_sum h1 h2 hl hb]
    exact sm_nought fun i hi => bear_short_no (by omega)
  · rw [out_long h1 h2 hl hb (by decide) (by omega), rd_win_first (by omega), first3 a1 (by omega), if_pos hn, rnd26_nought]
theorem rise_mid {a0 a1 a2 : Int} (h1 : a1 = 0 ∨ a1 = 1) (h2 : a2 = 0 ∨ a2 = 1) {l : List Int} (hl : l.length = 512) (hb : Between (-32768) 32767 l) (h : a0 = 2 ∨ a0 = 3) {j : Nat} (hj : j < 32) : ∃ bB, outAt a0 a1 a2 l (112 + j) = rnd 26 (bB * hv a1 j) ∧
    -384 ≤ bB - (rnd 14 (rd l ((112 + j : Nat) : Int) * hv a1 j) - rnd 14 (rd l ((143 - j : Nat) : Int) * hv a1 (31 - j))) ∧ bB - (rnd 14 (rd l ((112 + j : Nat) : Int) * hv a1 j) - rnd 14 (rd l ((143 - j : Nat) : Int) * hv a1 (31 - j))) ≤ 384 := by
  rcases h with rfl | rfl
  · have hN : anN 2 = 8 := rfl
    have hM : anM 2 = 32 := rfl
    refine ⟨bkAt 2 a1 a2 l 0 j, ?_, ?_⟩
    · rw [out_sum h1 h2 hl hb, hN, sm_one (a := 0) (by omega) (fun i hi hne => bear_short_no (by omega)), bear_short (by omega) (by omega), show 112 + j - (112 + 32 * 0) = j by omega, lit_rise 0 a1 a2 hj, if_pos rfl]
    · refine bk_rise (a0 := 2) h1 h2 hl hb (n' := 31 - j) (by omega) (by omega) (by omega) (by rw [an2.2.2.1]) (by rw [an2.2.2.1]; omega) ?_ ?_
      · rw [an2.2.2.2, lit_rise _ a1 a2 hj, if_pos rfl]
      · rw [an2.2.2.2, lit_rise _ a1 a2 (by omega), if_pos rfl]
  · obtain ⟨e1, e2, e3, e4⟩ := an_long (a0 := 3) (by decide)
    have f1 : rd (winL 3 a1 a2) ((112 + j : Nat) : Int) = hv a1 j := by rw [rd_win_first (by omega), first3 a1 (by omega), if_neg (by omega), if_pos (by omega), show 112 + j - 112 = j by omega]
    refine ⟨bkAt 3 a1 a2 l 0 (112 + j), ?_, ?_⟩
    · rw [out_long h1 h2 hl hb (by decide) (by omega), f1]
    · refine bk_rise (a0 := 3) h1 h2 hl hb (n' := 143 - j) (by omega) (by omega) (by omega) (by rw [e3]; omega) (by rw [e3]; omega) (by rw [e4, f1]) ?_
      rw [e4, rd_win_first (by omega), first3 a1 (by omega), if_neg (by omega), if_pos (by omega), show 143 - j - 112 = 31 - j by omega]
theorem rise_high {a0 a1 a2 : Int} (h1 : a1 = 0 ∨ a1 = 1) (h2 : a2 = 0 ∨ a2 = 1) {l : List Int} (hl : l.length = 512) (hb : Between (-32768) 32767 l) (h : a0 = 2 ∨ a0 = 3) {n : Nat} (hn : 144 ≤ n ∧ n < 256) : -36 ≤ outAt a0 a1 a2 l n - 16 * rd l (n : Int) ∧ outAt a0 a1 a2 l n - 16 * rd l (n : Int) ≤ 36 := by
  rcases h with rfl | rfl
  · exact short_inner h1 h2 hl hb (by omega)
  · obtain ⟨e1, e2, e3, e4⟩ := an_long (a0 := 3) (by decide)
    have f1 : rd (winL 3 a1 a2) (n : Int) = 4194304 := by rw [rd_win_first (by omega), first3 a1 (by omega), if_neg (by omega), if_neg (by omega)]
    rw [out_long h1 h2 hl hb (by decide) (by omega), f1]
    refine flat_rise (s' := rd l ((255 - n : Nat) : Int)) (hb n (by omega)) ?_
    refine bk_rise (a0 := 3) h1 h2 hl hb (n' := 255 - n) (by omega) (by omega) (by omega) (by rw [e3]; omega) (by rw [e3]; omega) (by rw [e4, f1]) ?_
    rw [e4, rd_win_first (by omega), first3 a1 (by omega), if_pos (by omega)]
/-! ### short ends -/
theorem fall_high {a0 a1 a2 : Int} (h1 : a1 = 0 ∨ a1 = 1) (h2 : a2 = 0 ∨ a2 = 1) {l : List Int} (hl : l.length = 512) (hb : Between (-32768) 32767 l) (h : a0 = 2 ∨ a0 = 1) {n : Nat} (hn : 144 ≤ n ∧ n < 256) : outAt a0 a1 a2 l (256 + n) = 0 := by
  rcases h with rfl | rfl
  · rw [out_sum h1 h2 hl hb]
    exact sm_nought fun i hi => bear_short_no (by have : anN 2 = 8 := rfl; omega)
  · rw [out_long h1 h2 hl hb (by decide) (by omega), rd_win_second, second1 a2 (by omega), if_neg (by omega), if_neg (by omega), rnd26_nought]
theorem fall_mid {a0 a1 a2 : Int} (h1 : a1 = 0 ∨ a1 = 1) (h2 : a2 = 0 ∨ a2 = 1) {l : List Int} (hl : l.length = 512) (hb : Between (-32768) 32767 l) (h : a0 = 2 ∨ a0 = 1) {j : Nat} (hj : j < 32) : ∃ bA, outAt a0 a1 a2 l (256 + (112 + j)) = rnd 26 (bA * hv a2 (31 - j)) ∧
    -384 ≤ bA - (rnd 14 (rd l ((256 + (112 + j) : Nat) : Int) * hv a2 (31 - j)) + rnd 14 (rd l ((256 + (143 - j) : Nat) : Int) * hv a2 j)) ∧ bA - (rnd 14 (rd l ((256 + (112 + j) : Nat) : Int) * hv a2 (31 - j)) + rnd 14 (rd l ((256 + (143 - j) : Nat) : Int) * hv a2 j)) ≤ 384 := by
  rcases h with rfl | rfl
  · have hN : anN 2 = 8 := rfl
    have hM : anM 2 = 32 := rfl
    refine ⟨bkAt 2 a1 a2 l 7 (32 + j), ?_, ?_⟩
    · rw [out_sum h1 h2 hl hb, hN, sm_one (a := 7) (by omega) (fun i hi hne => bear_short_no (by omega)), bear_short (by omega) (by omega), show 256 + (112 + j) - (112 + 32 * 7) = 32 + j by omega, lit_fall 7 a1 a2 hj]
    · refine bk_fall (a0 := 2) h1 h2 hl hb (n' := 32 + (31 - j)) (by omega) (by omega) (by omega) (by rw [an2.2.2.1]; omega) (by rw [an2.2.2.1]; omega) (lit_fall 7 a1 a2 hj) ?_
      rw [an2.2.2.2, lit_fall 7 a1 a2 (by omega), show 31 - (31 - j) = j by omega]
  · obtain ⟨e1, e2, e3, e4⟩ := an_long (a0 := 1) (by decide)
    have f1 : rd (winL 1 a1 a2) ((256 + (112 + j) : Nat) : Int) = hv a2 (31 - j) := by rw [rd_win_second, second1 a2 (by omega), if_neg (by omega), if_pos (by omega), show 143 - (112 + j) = 31 - j by omega]
    refine ⟨bkAt 1 a1 a2 l 0 (256 + (112 + j)), ?_, ?_⟩
    · rw [out_long h1 h2 hl hb (by decide) (by omega), f1]
    · refine bk_fall (a0 := 1) h1 h2 hl hb (n' := 256 + (143 - j)) (by omega) (by omega) (by omega) (by rw [e3]; omega) (by rw [e3]; omega) (by rw [e4, f1]) ?_
      rw [e4, rd_win_second, second1 a2 (by omega), if_neg (by omega), if_pos (by omega), show 143 - (143 - j) = j by omega]
theorem fall_low {a0 a1 a2 : Int} (h1 : a1 = 0 ∨ a1 = 1) (h2 : a2 = 0 ∨ a2 = 1) {l : List Int} (hl : l.length = 512) (hb : Between (-32768) 32767 l) (h : a0 = 2 ∨ a0 = 1) {n : Nat} (hn : n < 112) : -36 ≤ outAt a0 a1 a2 l (256 + n) - 16 * rd l ((256 + n : Nat) : Int) ∧ outAt a0 a1 a2 l (256 + n) - 16 * rd l ((256 + n : Nat) : Int) ≤ 36 := by
  rcases h with rfl | rfl
  · exact short_inner h1 h2 hl hb (by omega)
  · obtain ⟨e1, e2, e3, e4⟩ := an_long (a0 := 1) (by decide)
    have f1 : rd (winL 1 a1 a2) ((256 + n : Nat) : Int) = 4194304 := by rw [rd_win_second, second1 a2 (by omega), if_pos hn]
    rw [out_long h1 h2 hl hb (by decide) (by omega), f1]
    refine flat_fall (s' := rd l ((256 + (255 - n) : Nat) : Int)) (hb (256 + n) (by omega)) ?_
    refine bk_fall (a0 := 1) h1 h2 hl hb (n' := 256 + (255 - n)) (by omega) (by omega) (by omega) (by rw [e3]; omega) (by rw [e3]; omega) (by rw [e4, f1]) ?_
    rw [e4, rd_win_second, second1 a2 (by omega), if_neg (by omega), if_neg (by omega)]
/-! ### two frames -/
theorem second_rev {a0 b0 m : Int} (hab : a0 = 1 ↔ b0 = 3) {n : Nat} (hn : n < 256) : (secondL a0 m).getD n 0 = (firstL b0 m).getD (255 - n) 0 := by
  by_cases h : a0 = 1
  · have hb := hab.1 h
    subst h
    subst hb
    rw [second1 m hn, first3 m (by omega)]
    by_cases h1 : n < 112
    · rw [if_pos h1, if_neg (by omega), if_neg (by omega)]
    · rw [if_neg h1]
      by_cases h2 : n < 144
      · rw [if_pos h2, if_neg (by omega), if_pos (by omega), show 255 - n - 112 = 143 - n by omega]
      · rw [if_neg h2, if_pos (by omega)]
  · have hb : b0 ≠ 3 := fun e => h (hab.2 e)
    unfold secondL firstL
    rw [if_neg h, if_neg hb, getD_rev (m := 256) (by rw [halfL_length]; rfl) hn]
/-- Frames that may follow one another: what is overlapped is 16 times its samples, but for 36 at most. -/
theorem overlap {a b w1 m w2 : Int} (hw1 : w1 = 0 ∨ w1 = 1) (hm : m = 0 ∨ m = 1) (hw2 : w2 = 0 ∨ w2 = 1) (ha : a = 0 ∨ a = 1 ∨ a = 2 ∨ a = 3) (hb : b = 0 ∨ b = 1 ∨ b = 2 ∨ b = 3) (hab : (a = 0 ∨ a = 3) ↔ (b = 0 ∨ b = 1))
    {l1 l2 : List Int} (hl1 : l1.length = 512) (hl2 : l2.length = 512) (hb1 : Between (-32768) 32767 l1) (hb2 : Between (-32768) 32767 l2) (he : ∀ n : Nat, n < 256 → rd l1 ((256 + n : Nat) : Int) = rd l2 (n : Int)) {n : Nat} (hn : n < 256) :
    -36 ≤ outAt a w1 m l1 (256 + n) + outAt b m w2 l2 n - 16 * rd l2 (n : Int) ∧ outAt a w1 m l1 (256 + n) + outAt b m w2 l2 n - 16 * rd l2 (n : Int) ≤ 36 := by
  by_cases hA : a = 2 ∨ a = 1
  · have hB : b = 2 ∨ b = 3 := by omega
    have s1 := he n hn
    by_cases c1 : n < 112
    · have h := fall_low hw1 hm hl1 hb1 hA c1
      rw [rise_low hm hw2 hl2 hb2 hB c1, Int.add_zero, ← s1]
      exact h
    · by_cases c2 : n < 144
      · obtain ⟨j, hj, rfl⟩ : ∃ j, j < 32 ∧ n = 112 + j := ⟨n - 112, by omega, by omega⟩
        obtain ⟨bA, eA, hA1⟩ := fall_mid hw1 hm hl1 hb1 hA hj
        obtain ⟨bB, eB, hB1⟩ := rise_mid hm hw2 hl2 hb2 hB hj
        have s2 := he (143 - j) (by omega)
        rw [s1, s2] at hA1
        rw [eA, eB]
        exact pair_off (hv_nonneg hm (by omega)) (hv_nonneg hm hj) (hv_power hm hj) (hb2 (112 + j) (by omega)) hA1 hB1
      · have h := rise_high hm hw2 hl2 hb2 hB (n := n) (by omega)
        rw [fall_high hw1 hm hl1 hb1 hA (by omega), Int.zero_add]
        exact h
  · by_cases hB : b = 2
    · exfalso; omega
    · have hAB : a = 1 ↔ b = 3 := by omega
      have g2 : a ≠ 2 := by omega
      obtain ⟨p1, p2, p3⟩ := pair_at (pair_all hm hAB) hn
      obtain ⟨e1, e2, e3, e4⟩ := an_long g2
      obtain ⟨f1, f2, f3, f4⟩ := an_long hB
      rw [out_long hw1 hm hl1 hb1 g2 (by omega), out_long hm hw2 hl2 hb2 hB (by omega), rd_win_second, rd_win_first hn]
      refine pair_off (s' := rd l2 ((255 - n : Nat) : Int)) p1.1 p2.1 p3 (hb2 n (by omega)) ?_ ?_
      · have h := bk_fall (a0 := a) hw1 hm hl1 hb1 (i := 0) (n := 256 + n) (n' := 256 + (255 - n)) (u := (secondL a m).getD n 0) (u' := (firstL b m).getD n 0) (by omega) (by omega) (by omega) rfl rfl (by rw [e4, rd_win_second]) (by rw [e4, rd_win_second, second_rev hAB (by omega), show 255 - (255 - n) = n by omega])
        rw [e3, Nat.zero_add, Nat.zero_add, he n hn, he (255 - n) (by omega)] at h
        exact h
      · have h := bk_rise (a0 := b) hm hw2 hl2 hb2 (i := 0) (n := n) (n' := 255 - n) (v := (firstL b m).getD n 0) (v' := (secondL a m).getD n 0) (by omega) (by omega) (by omega) rfl rfl (by rw [f4, rd_win_first hn]) (by rw [f4, rd_win_first (by omega), ← second_rev hAB hn])
        rw [f3, Nat.zero_add, Nat.zero_add] at h
        exact h

end Go.Proofs.Ytpoppdaaodmicaa.Q
