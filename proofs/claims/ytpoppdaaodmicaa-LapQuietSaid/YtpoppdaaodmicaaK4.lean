/- Plain facts on block.Synth: which errors, and whose numbers. -/
import Derived.Test.YtpoppdaaodmicaaK2
import Derived.Test.YtpoppdaaodmicaaBSynth
namespace Go.Proofs.Ytpoppdaaodmicaa.Q
open Go.RowKit Go.Proofs.YtpoppdaaodmicaaW.PrintWords Go.Proofs.YtpoppdaaodmicaaW.PrintLast Go.Proofs.YtpoppdaaodmicaaW.PrintMore

theorem between_all {X : Int} {l : List Int} (h : Between (-X) X l) : AllIn X l := by
  intro x hx
  obtain ⟨n, hn, rfl⟩ := List.getElem_of_mem hx
  have := h n hn
  unfold rd at this
  rw [show ((n : Int)).toNat = n by omega, List.getD_eq_getElem?_getD, List.getElem?_eq_getElem hn] at this
  exact this
theorem all_between {X : Int} {l : List Int} (h : AllIn X l) : Between (-X) X l := by
  intro n hn
  unfold rd
  rw [show ((n : Int)).toNat = n by omega, List.getD_eq_getElem?_getD, List.getElem?_eq_getElem hn]
  exact h _ (List.getElem_mem hn)
theorem all_cut {X : Int} {l : List Int} (h : AllIn X l) (o m : Nat) : AllIn X ((l.drop o).take m) := fun x hx => h x (List.mem_of_mem_drop (List.mem_of_mem_take hx))
/-- A window's numbers ahead of their window. -/
def bkL (a0 : Int) (l : List Int) (i : Nat) : List Int := (List.range (2 * anM a0)).map (backAt (anM a0) (anS a0) (anB a0) ((l.drop (anM a0 * i)).take (anM a0)))
/-- A window's numbers. -/
def snOut (a0 a1 a2 : Int) (l : List Int) (i : Nat) : List Int := timesL 26 (bkL a0 l i) (anWin a0 a1 a2 i)
def snAt (a0 a1 a2 : Int) (l : List Int) (i n : Nat) : Int := rnd 26 (backAt (anM a0) (anS a0) (anB a0) ((l.drop (anM a0 * i)).take (anM a0)) n * rd (anWin a0 a1 a2 i) (n : Int))
theorem bkL_length (a0 : Int) (l : List Int) (i : Nat) : (bkL a0 l i).length = 2 * anM a0 := by unfold bkL; rw [List.length_map, List.length_range]
theorem snOut_length (a0 a1 a2 : Int) (l : List Int) (i : Nat) : (snOut a0 a1 a2 l i).length = 2 * anM a0 := by unfold snOut timesL; rw [List.length_map, List.length_range, bkL_length]
theorem rd_snOut {a0 a1 a2 : Int} {l : List Int} {i n : Nat} (hn : n < 2 * anM a0) : rd (snOut a0 a1 a2 l i) (n : Int) = snAt a0 a1 a2 l i n := by
  unfold snOut timesL
  rw [rd_map_range (by rw [bkL_length]; exact hn)]
  unfold snAt bkL
  rw [rd_map_range hn]
theorem an_len {a0 : Int} {l : List Int} (hl : l.length = 256) {i : Nat} (hi : i < anN a0) : ((l.drop (anM a0 * i)).take (anM a0)).length = anM a0 := by
  rw [List.length_take, List.length_drop]
  unfold anN at hi
  unfold anM
  by_cases h : a0 = 2
  · rw [if_pos h] at hi ⊢; omega
  · rw [if_neg h] at hi ⊢; omega
theorem prod_big {x y : Int} (hx : -1099511627776 ≤ x ∧ x ≤ 1099511627776) (hy : 0 ≤ y ∧ y ≤ 4194304) : -4611686018427387904 ≤ x * y ∧ x * y ≤ 4611686018427387904 := by
  have := mul_in' (X := 1099511627776) (Y := 4194304) (x := x) (y := y) (by omega) (by omega)
  omega
theorem snAt_bound {a0 a1 a2 : Int} (h1 : a1 = 0 ∨ a1 = 1) (h2 : a2 = 0 ∨ a2 = 1) {l : List Int} (hl : l.length = 256) (hb : AllIn 268435455 l) {i : Nat} (hi : i < anN a0) (n : Nat) : -68719476736 ≤ snAt a0 a1 a2 l i n ∧ snAt a0 a1 a2 l i n ≤ 68719476736 := by
  have hB := back_bound (an_sized a0) (an_len hl hi) (all_cut hb _ _) n
  have := prod_big hB (anWin_in (a0 := a0) h1 h2 i n)
  unfold snAt rnd
  rw [show (2 : Int) ^ (26 - 1) = 33554432 from rfl, show (2 : Int) ^ 26 = 67108864 from rfl]
  omega
theorem anM_le (a0 : Int) : 32 ≤ anM a0 ∧ anM a0 ≤ 256 := by unfold anM; split <;> omega
theorem synOut_is {a0 a1 a2 : Int} (h1 : a1 = 0 ∨ a1 = 1) (h2 : a2 = 0 ∨ a2 = 1) {l : List Int} (hl : l.length = 256) (hb : AllIn 268435455 l) {i : Nat} (hi : i < anN a0) : synOut l (anM a0 * i) (anWin a0 a1 a2 i) = some (snOut a0 a1 a2 l i) := by
  have hm := anM_le a0
  have hX := anWin_length a0 a1 a2 i
  have hcl := an_len (a0 := a0) hl hi
  have h2m : (anWin a0 a1 a2 i).length / 2 = anM a0 := by omega
  have hpos : anM a0 * i + anM a0 ≤ l.length := by
    unfold anN at hi
    unfold anM
    by_cases h : a0 = 2
    · rw [if_pos h] at hi ⊢; omega
    · rw [if_neg h] at hi ⊢; omega
  have hI := inverse_yes (an_sized a0) hcl (all_cut hb _ _)
  have hlen : ((List.range (2 * anM a0)).map (backAt (anM a0) (anS a0) (anB a0) ((l.drop (anM a0 * i)).take (anM a0)))).length = 2 * anM a0 := by rw [List.length_map, List.length_range]
  have hT := times_is (b := 26) (by omega) (l := bkL a0 l i) (v := anWin a0 a1 a2 i) (by rw [bkL_length]; omega) (by rw [bkL_length]; omega) (fun n hn => by
    rw [bkL_length] at hn
    unfold bkL
    rw [rd_map_range hn]
    exact prod_big (back_bound (an_sized a0) hcl (all_cut hb _ _) n) (anWin_in (a0 := a0) h1 h2 i n)) (k := 3000) (by omega)
  rw [show ((26 : Nat) : Int) = 26 from rfl] at hT
  unfold synOut
  rw [if_pos (by omega), h2m, hI]
  unfold synOf
  rw [Option.bind_some, if_pos rfl]
  exact hT
def snL (a0 a1 a2 : Int) (l : List Int) : List Int := accL (anPos a0) (snOut a0 a1 a2 l) (anN a0)
theorem gatherS_is {pos : Nat → Nat} {step : Nat → Option (List Int)} {out : Nat → List Int} : ∀ {n : Nat}, (∀ i, i < n → step i = some (out i)) → (∀ i, i < n → pos i + (out i).length ≤ 512) → gatherS pos step n = some (accL pos out n)
  | 0, _, _ => rfl
  | n + 1, h, hg => by
    rw [gatherS, gatherS_is (fun i hi => h i (by omega)) (fun i hi => hg i (by omega)), Option.bind_some, h n (by omega), Option.bind_some, if_pos (hg n (by omega)), accL]
theorem synth_yes {a0 a1 a2 : Int} (h0 : 0 ≤ a0 ∧ a0 ≤ 3) (h1 : a1 = 0 ∨ a1 = 1) (h2 : a2 = 0 ∨ a2 = 1) {l : List Int} (hl : l.length = 256) (hb : AllIn 268435455 l) : block_Synth.f a0 a1 a2 l = some (snL a0 a1 a2 l, 0) := by
  have hask : block_asked.f 3000 a0 a1 a2 l 256 (-268435455) 268435455 = some 0 := by
    rcases asked_cases a0 a1 a2 l (many := 256) (low := -268435455) (high := 268435455) (by omega) (k := 3000) (by omega) with ⟨_, h | ⟨_, h⟩⟩ | ⟨_, _, h⟩ | ⟨h, _⟩
    · exact absurd (show MayBe a0 a1 a2 by unfold MayBe; omega) h
    · exact absurd (all_between hb) h
    · exact absurd hl h
    · exact h
  have hg : ∀ i, i < anN a0 → anPos a0 i + (snOut a0 a1 a2 l i).length ≤ 512 := fun i hi => by rw [snOut_length]; exact an_pos_le hi
  have hst : ∀ i, i < anN a0 → synOut l (anM a0 * i) (anWin a0 a1 a2 i) = some (snOut a0 a1 a2 l i) := fun i hi => synOut_is h1 h2 hl hb hi
  unfold block_Synth.f
  rw [hask, Option.bind_some, if_pos rfl, if_pos hl]
  by_cases h : a0 = 2
  · have e1 : anN a0 = 8 := by unfold anN; rw [if_pos h]
    have e2 : anM a0 = 32 := by unfold anM; rw [if_pos h]
    have e3 : anPos a0 = fun i => 112 + 32 * i := by funext i; unfold anPos; rw [if_pos h]
    rw [if_pos h, bhalf_yes h1, Option.bind_some, bhalf_yes h2, Option.bind_some, fall_yes h2 (by omega), Option.bind_some, if_pos (by rw [List.length_reverse, halfL_length, halfL_length]; decide)]
    rw [e1] at hst hg
    rw [e3] at hg
    rw [gatherS_is (out := snOut a0 a1 a2 l) (fun i hi => ?_) hg]
    · unfold snL; rw [e1, e3]; rfl
    · have := hst i hi
      rw [e2] at this
      unfold anWin litL at this
      rw [if_pos h] at this
      exact this
  · have e1 : anN a0 = 1 := by unfold anN; rw [if_neg h]
    have e3 : anPos a0 = fun _ => 0 := by funext i; unfold anPos; rw [if_neg h]
    rw [if_neg h, window_yes (by omega) h1 h2 (by omega), Option.bind_some, if_pos rfl]
    rw [e1] at hst hg
    rw [e3] at hg
    rw [gatherS_is (out := snOut a0 a1 a2 l) (fun i hi => ?_) hg]
    · unfold snL; rw [e1, e3]; rfl
    · have := hst i hi
      obtain rfl : i = 0 := by omega
      unfold anWin at this
      rw [Nat.mul_zero, if_neg h] at this
      exact this
theorem synth_no {a0 a1 a2 : Int} {l : List Int} : (∃ e, e ≠ 0 ∧ block_Synth.f a0 a1 a2 l = some ([], e) ∧ (¬ MayBe a0 a1 a2 → e = 2) ∧ (MayBe a0 a1 a2 → l.length ≠ 256 → e = 4)) ∨ (MayBe a0 a1 a2 ∧ l.length = 256 ∧ AllIn 268435455 l) := by
  unfold block_Synth.f
  rcases asked_cases a0 a1 a2 l (many := 256) (low := -268435455) (high := 268435455) (by omega) (k := 3000) (by omega) with ⟨h, h'⟩ | ⟨h, h', h''⟩ | ⟨_, h, h', h''⟩
  · refine .inl ⟨2, by decide, ?_, fun _ => rfl, fun g1 g2 => ?_⟩
    · rw [show ((256 : Nat) : Int) = 256 from rfl] at h
      rw [h, Option.bind_some, if_neg (by decide)]
    · rcases h' with h' | ⟨h', _⟩
      · exact absurd g1 h'
      · exact absurd h' g2
  · refine .inl ⟨4, by decide, ?_, fun g => absurd h' g, fun _ _ => rfl⟩
    rw [show ((256 : Nat) : Int) = 256 from rfl] at h
    rw [h, Option.bind_some, if_neg (by decide)]
  · exact .inr ⟨h, h', between_all h''⟩
/-! ### the numbers, one by one -/
theorem rd_set_eq {l : List Int} {i : Nat} (h : i < l.length) (v : Int) (n : Nat) : rd (l.set i v) (n : Int) = if n = i then v else rd l (n : Int) := by
  unfold rd
  rw [show ((n : Int)).toNat = n by omega, List.getD_eq_getElem?_getD, List.getElem?_set, List.getD_eq_getElem?_getD]
  by_cases e : i = n
  · rw [if_pos e, if_pos h, if_pos e.symm]; rfl
  · rw [if_neg e, if_neg (fun h => e h.symm)]
theorem addAt_rd {acc x : List Int} {p : Nat} {Y : Int} (hY : 0 ≤ Y ∧ Y ≤ 1152921504606846976) (ha : ∀ n : Nat, -Y ≤ rd acc (n : Int) ∧ rd acc (n : Int) ≤ Y) (hx : ∀ n : Nat, -1152921504606846976 ≤ rd x (n : Int) ∧ rd x (n : Int) ≤ 1152921504606846976) :
    ∀ j : Nat, p + j ≤ acc.length → ∀ n : Nat, rd (addAt acc p x j) (n : Int) = rd acc (n : Int) + (if p ≤ n ∧ n < p + j then rd x ((n - p : Nat) : Int) else 0)
  | 0, _, n => by rw [addAt, if_neg (by omega), Int.add_zero]
  | j + 1, h, n => by
    have hj : p + j ≤ acc.length := by omega
    have ih := fun n => addAt_rd hY ha hx j hj n
    rw [addAt, rd_set_eq (i := p + j) (by rw [addAt_length]; omega)]
    by_cases e : n = p + j
    · subst e
      have h1 := ih (p + j)
      rw [if_neg (by omega), Int.add_zero] at h1
      have h2 := ha (p + j)
      have h3 := hx j
      rw [if_pos rfl, h1, if_pos (by omega), show p + j - p = j by omega, wrap_in (by omega) (by omega)]
    · rw [if_neg e, ih n]
      by_cases h4 : p ≤ n ∧ n < p + j
      · rw [if_pos h4, if_pos (by omega)]
      · rw [if_neg h4, if_neg (by omega)]

end Go.Proofs.Ytpoppdaaodmicaa.Q
