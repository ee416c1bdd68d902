/- Of Shorts each window's lines hang on its own 64 samples alone, and each window's numbers on its own lines: told of lists. -/
import Derived.Test.YtpoppdaaodmicaaK6
namespace Go.Proofs.Ytpoppdaaodmicaa.Q
open Go.RowKit Go.Proofs.YtpoppdaaodmicaaW.PrintWords Go.Proofs.YtpoppdaaodmicaaW.PrintLast Go.Proofs.YtpoppdaaodmicaaW.PrintMore

/-- Of a list, j numbers from a place on; the others noughts. -/
def cpL (N : Nat) (l : List Int) (p j : Nat) : List Int := (List.range N).map fun n : Nat => if p ≤ n ∧ n < p + j then rd l (n : Int) else 0
theorem cpL_length (N : Nat) (l : List Int) (p j : Nat) : (cpL N l p j).length = N := by unfold cpL; rw [List.length_map, List.length_range]
theorem cpL_zero (N : Nat) (l : List Int) (p : Nat) : cpL N l p 0 = List.replicate N 0 := by
  unfold cpL
  exact map_const fun n _ => if_neg (by omega)
theorem range_map_set {f g : Nat → Int} {N n : Nat} {v : Int} (hv : g n = v) (h : ∀ i, i < N → i ≠ n → g i = f i) : ((List.range N).map f).set n v = (List.range N).map g := by
  apply List.ext_getElem
  · rw [List.length_set, List.length_map, List.length_map]
  · intro i h1 h2
    have hi : i < N := by rw [List.length_map, List.length_range] at h2; exact h2
    rw [List.getElem_set, List.getElem_map, List.getElem_map, List.getElem_range]
    by_cases e : n = i
    · subst e; rw [if_pos rfl, hv]
    · rw [if_neg e, h i hi (fun e' => e e'.symm)]
theorem cpL_set {N p j : Nat} (l : List Int) : (cpL N l p j).set (p + j) (rd l ((p + j : Nat) : Int)) = cpL N l p (j + 1) := by
  unfold cpL
  refine range_map_set ?_ (fun i hi hne => ?_)
  · rw [if_pos (by omega)]
  · by_cases c : p ≤ i ∧ i < p + j
    · rw [if_pos c, if_pos (by omega)]
    · rw [if_neg c, if_neg (by omega)]
theorem rd_cpL {N p j n : Nat} (l : List Int) (hn : n < N) : rd (cpL N l p j) (n : Int) = if p ≤ n ∧ n < p + j then rd l (n : Int) else 0 := by
  unfold cpL
  rw [rd_map_range hn]
theorem between_cp {X Y : Int} (hX : X ≤ 0) (hY : 0 ≤ Y) {l : List Int} {N p j : Nat} (hb : Between X Y l) (hl : p + j ≤ l.length) : Between X Y (cpL N l p j) := by
  intro n hn
  rw [cpL_length] at hn
  rw [rd_cpL l hn]
  by_cases c : p ≤ n ∧ n < p + j
  · rw [if_pos c]; exact hb n (by omega)
  · rw [if_neg c]; exact ⟨hX, hY⟩
/-- A window's own 64 samples alone. -/
theorem own_line {a1 a2 : Int} {l : List Int} {i : Nat} (hi : i < 8) : anLine 2 a1 a2 (cpL 512 l (112 + 32 * i) 64) i = anLine 2 a1 a2 l i := by
  unfold anLine
  have hz : zL (cpL 512 l (112 + 32 * i) 64) (anPos 2 i) (anWin 2 a1 a2 i) = zL l (anPos 2 i) (anWin 2 a1 a2 i) := by
    unfold zL
    refine List.map_congr_left fun k hk => ?_
    have hk' : k < 64 := by
      have := anWin_length 2 a1 a2 i
      rw [show anM 2 = 32 from rfl] at this
      rw [List.mem_range, this] at hk
      exact hk
    unfold zAt
    rw [an2.2.2.1, rd_cpL l (by omega), if_pos (by omega)]
  rw [hz]
theorem anL_rd {a1 a2 : Int} {l : List Int} {i k : Nat} (hi : i < 8) (hk : k < 32) : rd (anL 2 a1 a2 l) ((32 * i + k : Nat) : Int) = rd (anLine 2 a1 a2 l i) (k : Int) := by
  have h := an_cut (a0 := 2) (a1 := a1) (a2 := a2) (l := l) (i := i) (by rw [an2.1]; exact hi)
  rw [an2.2.1] at h
  rw [← h, rd_cut hk]
theorem own_lines {a1 a2 : Int} {l : List Int} {i n : Nat} (hi : i < 8) (hn : 32 * i ≤ n ∧ n < 32 * i + 32) : rd (anL 2 a1 a2 l) (n : Int) = rd (anL 2 a1 a2 (cpL 512 l (112 + 32 * i) 64)) (n : Int) := by
  obtain ⟨k, hk, rfl⟩ : ∃ k, k < 32 ∧ n = 32 * i + k := ⟨n - 32 * i, by omega, by omega⟩
  rw [anL_rd hi hk, anL_rd hi hk, own_line hi]
/-- A window's own lines alone. -/
theorem cut_cp (l : List Int) {i : Nat} (hl : l.length = 256) (hi : i < 8) : ((cpL 256 l (32 * i) 32).drop (32 * i)).take 32 = (l.drop (32 * i)).take 32 := by
  apply List.ext_getElem
  · rw [List.length_take, List.length_take, List.length_drop, List.length_drop, cpL_length, hl]
  · intro n h1 h2
    have hn : n < 32 := by rw [List.length_take] at h2; omega
    have e : ∀ {x : List Int} (h : n < x.length), x[n] = rd x (n : Int) := fun h => by
      unfold rd
      rw [show ((n : Int)).toNat = n by omega, List.getD_eq_getElem?_getD, List.getElem?_eq_getElem h]; rfl
    rw [e, e, rd_cut hn, rd_cut hn, rd_cpL l (by omega), if_pos (by omega)]
theorem cut_cp_no (l : List Int) {i w : Nat} (hi : i < 8) (h : i ≠ w) : ((cpL 256 l (32 * w) 32).drop (32 * i)).take 32 = List.replicate 32 0 := by
  apply List.ext_getElem
  · rw [List.length_take, List.length_drop, cpL_length, List.length_replicate]; omega
  · intro n h1 h2
    have hn : n < 32 := by rw [List.length_replicate] at h2; exact h2
    have e : ∀ {x : List Int} (h : n < x.length), x[n] = rd x (n : Int) := fun h => by
      unfold rd
      rw [show ((n : Int)).toNat = n by omega, List.getD_eq_getElem?_getD, List.getElem?_eq_getElem h]; rfl
    rw [e, rd_cut hn, rd_cpL l (by omega), if_neg (by omega), List.getElem_replicate]
theorem own_numbers {a1 a2 : Int} (h1 : a1 = 0 ∨ a1 = 1) (h2 : a2 = 0 ∨ a2 = 1) {l : List Int} (hl : l.length = 256) (hb : AllIn 268435455 l) {w : Nat} (hw : w < 8) (n : Nat) :
    rd (snL 2 a1 a2 (cpL 256 l (32 * w) 32)) (n : Int) = bearAt 2 a1 a2 l n w := by
  have hb' : AllIn 268435455 (cpL 256 l (32 * w) 32) := between_all (between_cp (by decide) (by decide) (all_between hb) (by omega))
  rw [snL_rd h1 h2 (cpL_length _ _ _ _) hb', an2.1, sm_one (a := w) hw]
  · unfold bearAt snAt
    rw [an2.2.1, cut_cp l hl hw]
  · intro i hi hne
    unfold bearAt
    split
    · unfold snAt
      rw [an2.2.1, cut_cp_no l hi hne, back_nought (by unfold anB; rw [if_pos rfl]; omega), Int.zero_mul, rnd_zero (by omega)]
    · rfl
theorem bear_in {a1 a2 : Int} (h1 : a1 = 0 ∨ a1 = 1) (h2 : a2 = 0 ∨ a2 = 1) {l : List Int} (hl : l.length = 256) (hb : AllIn 268435455 l) {w : Nat} (hw : w < 8) (n : Nat) : -68719476736 ≤ bearAt 2 a1 a2 l n w ∧ bearAt 2 a1 a2 l n w ≤ 68719476736 := by
  unfold bearAt
  split
  · exact snAt_bound h1 h2 hl hb (by rw [an2.1]; exact hw) _
  · exact ⟨by decide, by decide⟩
theorem bear_no {a1 a2 : Int} {x : List Int} {i n : Nat} (h : ¬ (112 + 32 * i ≤ n ∧ n < 176 + 32 * i)) : bearAt 2 a1 a2 x n i = 0 := by
  unfold bearAt
  rw [an2.2.2.1, if_neg (by rw [an2.2.1]; omega)]
/-- Sums of what windows bear: all of w windows, and of one more for the first n numbers. -/
def sumL (a1 a2 : Int) (l : List Int) (w n : Nat) : List Int := (List.range 512).map fun i : Nat => sm w (bearAt 2 a1 a2 l i) + (if i < n then bearAt 2 a1 a2 l i w else 0)
theorem sumL_length (a1 a2 : Int) (l : List Int) (w n : Nat) : (sumL a1 a2 l w n).length = 512 := by unfold sumL; rw [List.length_map, List.length_range]
theorem sumL_zero (a1 a2 : Int) (l : List Int) : sumL a1 a2 l 0 0 = List.replicate 512 0 := by
  unfold sumL
  exact map_const fun n _ => by rw [if_neg (by omega)]; rfl
theorem sumL_next (a1 a2 : Int) (l : List Int) (w : Nat) : sumL a1 a2 l w 512 = sumL a1 a2 l (w + 1) 0 := by
  unfold sumL
  refine List.map_congr_left fun i hi => ?_
  rw [if_pos (by simpa using hi), if_neg (by omega), Int.add_zero]
  rfl
theorem rd_sumL (a1 a2 : Int) (l : List Int) (w n : Nat) {i : Nat} (hi : i < 512) : rd (sumL a1 a2 l w n) (i : Int) = sm w (bearAt 2 a1 a2 l i) + (if i < n then bearAt 2 a1 a2 l i w else 0) := by
  unfold sumL
  rw [rd_map_range hi]
theorem sumL_set {a1 a2 : Int} (h1 : a1 = 0 ∨ a1 = 1) (h2 : a2 = 0 ∨ a2 = 1) {l : List Int} (hl : l.length = 256) (hb : AllIn 268435455 l) {w n : Nat} (hw : w < 8) (hn : n < 512) :
    (sumL a1 a2 l w n).set n (wrap64 (rd (sumL a1 a2 l w n) (n : Int) + bearAt 2 a1 a2 l n w)) = sumL a1 a2 l w (n + 1) := by
  have e := rd_sumL a1 a2 l w n hn
  rw [if_neg (by omega), Int.add_zero] at e
  have b1 : -((w : Int) * 68719476736) ≤ sm w (bearAt 2 a1 a2 l n) ∧ sm w (bearAt 2 a1 a2 l n) ≤ (w : Int) * 68719476736 := sm_bound fun i hi => bear_in h1 h2 hl hb (by omega) n
  have b2 := bear_in h1 h2 hl hb hw n
  rw [e, wrap_in (by omega) (by omega)]
  unfold sumL
  refine range_map_set ?_ (fun i hi hne => ?_)
  · rw [if_pos (by omega)]
  · by_cases c : i < n
    · rw [if_pos c, if_pos (by omega)]
    · rw [if_neg c, if_neg (by omega)]

end Go.Proofs.Ytpoppdaaodmicaa.Q
