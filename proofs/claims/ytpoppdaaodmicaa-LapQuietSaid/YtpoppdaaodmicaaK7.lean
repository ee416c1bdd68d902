/- Plain facts on lap.Check and lap.Next: which errors, and whose samples. -/
import Derived.Test.YtpoppdaaodmicaaK5
import Derived.Test.YtpoppdaaodmicaaBNext
import Derived.Test.YtpoppdaaodmicaaQ34
namespace Go.Proofs.Ytpoppdaaodmicaa.Q
open Go.RowKit Go.Proofs.YtpoppdaaodmicaaW.PrintWords Go.Proofs.YtpoppdaaodmicaaW.PrintLast Go.Proofs.YtpoppdaaodmicaaW.PrintMore

theorem clip16 (x : Int) : fix_Clip.f x 16 = some (mn (mx x (-32768)) 32767, 0) := by
  unfold fix_Clip.f
  rw [if_neg (by decide), if_neg (by decide), if_pos (by decide +kernel), show wrap64 ((shl .i64 1 (wrap64 (16 - 1))) - 1) = 32767 by decide +kernel, show wrap64 (wrap64 (-32767) - 1) = -32768 by decide +kernel]
theorem pcmL_map (out : Nat → Int) : ∀ n, pcmL out n = (List.range n).map out
  | 0 => rfl
  | n + 1 => by rw [pcmL, pcmL_map out n, List.range_succ, List.map_append]; rfl
/-- A sum's sample. -/
def smp (x : Int) : Int := mn (mx (rnd 4 x) (-32768)) 32767
theorem rnd4 (x : Int) : rnd 4 x = (x + 8) / 16 := rfl
theorem sampleOf_is {x : Int} (h : -4611686018427387904 ≤ x ∧ x ≤ 4611686018427387904) : sampleOf x = some (smp x) := by
  unfold sampleOf
  rw [show (4 : Int) = ((4 : Nat) : Int) from rfl, round_is h.1 h.2 (by omega) (by omega) (by omega), Option.bind_some, clip16]
  rfl
/-! ### what may be -/
theorem farB_is : farB = oddB 1099511627776 := rfl
theorem check_cases (l : List Int) (s k : Int) : lap_Check.f l s k = some 8 ∨ (lap_Check.f l s k = some 0 ∧ l.length = 256 ∧ AllIn 1099511627776 l ∧ s ≤ 3 ∧ k ≤ 1) := by
  unfold lap_Check.f
  by_cases hl : l.length = 256
  · rw [if_pos hl]
    by_cases ha : l.any farB = true
    · rw [if_pos ha]; exact .inl rfl
    · rw [if_neg ha]
      by_cases hs : s > 3
      · rw [if_pos hs]; exact .inl rfl
      · rw [if_neg hs]
        by_cases hk : k > 1
        · rw [if_pos hk]; exact .inl rfl
        · rw [if_neg hk]
          exact .inr ⟨rfl, hl, allIn_of_any (by rw [← farB_is]; exact Bool.eq_false_iff.mpr ha), by omega, by omega⟩
  · rw [if_neg hl]; exact .inl rfl
theorem check_yes {l : List Int} {s k : Int} (hl : l.length = 256) (ha : AllIn 1099511627776 l) (hs : s ≤ 3) (hk : k ≤ 1) : lap_Check.f l s k = some 0 := by
  unfold lap_Check.f
  rw [if_pos hl, if_neg (by rw [farB_is, any_of_allIn ha]; decide), if_neg (by omega), if_neg (by omega)]
/-! ### the samples -/
/-- A frame's sample, of what overlapped and what comes. -/
def lapAt (l : List Int) (a1 k a2 : Int) (x : List Int) (i : Nat) : Int := smp (rd l (i : Int) + rd (snL a1 k a2 x) (i : Int))
theorem rd_in {X : Int} (hX : 0 ≤ X) {l : List Int} (h : AllIn X l) (n : Nat) : -X ≤ rd l (n : Int) ∧ rd l (n : Int) ≤ X := by
  unfold rd
  rw [show ((n : Int)).toNat = n by omega, List.getD_eq_getElem?_getD]
  by_cases hn : n < l.length
  · rw [List.getElem?_eq_getElem hn]
    exact h _ (List.getElem_mem hn)
  · rw [List.getElem?_eq_none (by omega)]
    exact ⟨by show -X ≤ 0; omega, hX⟩
theorem lap_next_yes {l x : List Int} {s k a1 a2 : Int} (hck : lap_Check.f l s k = some 0) (h1 : 0 ≤ a1 ∧ a1 ≤ 3) (hk : k = 0 ∨ k = 1) (h2 : a2 = 0 ∨ a2 = 1) (hx : x.length = 256) (hb : AllIn 268435455 x) :
    lap_Next.f l s k a1 a2 x = some ((snL a1 k a2 x).drop 256, a1, a2, (List.range 256).map (lapAt l a1 k a2 x), 0) := by
  obtain ⟨hl, ha⟩ : l.length = 256 ∧ AllIn 1099511627776 l := by
    rcases check_cases l s k with h | ⟨_, h, h', _⟩
    · rw [hck] at h; cases h
    · exact ⟨h, h'⟩
  have hs := synth_yes h1 hk h2 hx hb
  have hlen := snL_length a1 k a2 x
  have hat : ∀ i : Nat, sampleAt l (snL a1 k a2 x) i = some (lapAt l a1 k a2 x i) := fun i => by
    have i1 := rd_in (by decide) ha i
    have i2 := snL_bound hk h2 hx hb (a0 := a1) i
    unfold sampleAt
    rw [wrap_in (by omega) (by omega), sampleOf_is (by omega)]
    rfl
  unfold lap_Next.f
  rw [hck, Option.bind_some, if_pos rfl, hs, Option.bind_some, if_pos rfl]
  dsimp only
  rw [if_pos (by omega), if_pos (by rw [List.all_eq_true]; intro i _; rw [hat]; rfl), pcmL_map, hl]
  congr 5
  refine List.map_congr_left fun i _ => ?_
  rw [hat]; rfl
theorem lap_next_bad {l x : List Int} {s k a1 a2 e : Int} (hck : lap_Check.f l s k = some e) (he : e ≠ 0) : lap_Next.f l s k a1 a2 x = some ([], 0, 0, [], e) := by
  unfold lap_Next.f
  rw [hck, Option.bind_some, if_neg he]
theorem lap_next_err {l x : List Int} {s k a1 a2 e : Int} {y : List Int} (hck : lap_Check.f l s k = some 0) (hs : block_Synth.f a1 k a2 x = some (y, e)) (he : e ≠ 0) : lap_Next.f l s k a1 a2 x = some ([], 0, 0, [], e) := by
  unfold lap_Next.f
  rw [hck, Option.bind_some, if_pos rfl, hs, Option.bind_some, if_neg he]
/-- What may be lapped. -/
def LapMay (l : List Int) (s k a1 a2 : Int) (x : List Int) : Prop := (l.length = 256 ∧ AllIn 1099511627776 l ∧ s ≤ 3 ∧ k ≤ 1) ∧ MayBe a1 k a2 ∧ x.length = 256 ∧ AllIn 268435455 x
theorem lap_next_cases (l x : List Int) (s k a1 a2 : Int) : (∃ e, e ≠ 0 ∧ lap_Next.f l s k a1 a2 x = some ([], 0, 0, [], e)) ∨ (lap_Check.f l s k = some 0 ∧ LapMay l s k a1 a2 x) := by
  rcases check_cases l s k with h | ⟨h, h'⟩
  · exact .inl ⟨8, by decide, lap_next_bad h (by decide)⟩
  · rcases synth_no (a0 := a1) (a1 := k) (a2 := a2) (l := x) with ⟨e, he, hs, _⟩ | hm
    · exact .inl ⟨e, he, lap_next_err h hs he⟩
    · exact .inr ⟨h, h', hm⟩
theorem new_is : lap_New.f = some (List.replicate 256 0, 0, 0) := by
  unfold lap_New.f
  rw [if_pos (by decide)]
theorem new_check {n : Nat} (hn : n = 256) {s k : Int} (hs : s ≤ 3) (hk : k ≤ 1) : lap_Check.f (List.replicate n 0) s k = some 0 := check_yes (by rw [List.length_replicate]; exact hn) (allIn_zeros (by decide) n) hs hk
/-- Lines of silence. -/
theorem quiet_next {l : List Int} {s k a1 a2 : Int} (hck : lap_Check.f l s k = some 0) (h1 : 0 ≤ a1 ∧ a1 ≤ 3) (hk : k = 0 ∨ k = 1) (h2 : a2 = 0 ∨ a2 = 1) {n : Nat} (hn : n = 256) :
    lap_Next.f l s k a1 a2 (List.replicate n 0) = some (List.replicate n 0, a1, a2, (List.range n).map (fun i : Nat => smp (rd l (i : Int))), 0) := by
  rw [lap_next_yes hck h1 hk h2 (by rw [List.length_replicate]; exact hn) (allIn_zeros (by decide) n), snL_zeros hk h2 hn, List.drop_replicate, show 512 - 256 = n by omega, ← hn]
  congr 5
  refine List.map_congr_left fun i _ => ?_
  unfold lapAt
  rw [snL_zeros hk h2 hn, rd_zeros, Int.add_zero]
theorem smp_zero : smp 0 = 0 := by decide
/-! ### alive -/
theorem loud_chk : (smp (snAt 0 0 0 ((List.replicate 256 0).set 3 16777216) 0 255) != 0) = true := by decide +kernel
theorem alive13_l0 {n : Nat} (hn : n = 256) {y : List Int} (hy : y.length = n) {n0 : Nat} (h0 : n0 < n) (hl : (rd y (n0 : Int) != 0) = true) (s k' : Int) (d : Nat) : ∀ (k i : Nat) (b : Bool), i + d = n → d + 1 ≤ k → (b = true ∨ i ≤ n0) →
    reedpipelaw13_alive.l0 k (List.replicate n 0) y b (i : Int) (List.replicate n 0) s k' = some true := by
  induction d with
  | zero =>
    intro k i b hi hk hb
    obtain ⟨k, rfl⟩ : ∃ j, k = j + 1 := ⟨k - 1, by omega⟩
    have : b = true := by rcases hb with hb | hb; exact hb; omega
    rw [reedpipelaw13_alive.l0.eq_2, if_neg (by omega), this]
  | succ d ih =>
    intro k i b hi hk hb
    obtain ⟨k, rfl⟩ : ∃ j, k = j + 1 := ⟨k - 1, by omega⟩
    rw [reedpipelaw13_alive.l0.eq_2, if_pos (by omega), if_pos (by omega), List.length_replicate, if_pos (by omega), rd_zeros, if_pos rfl, if_pos (by omega), if_pos rfl, wrap_in (by omega) (by omega)]
    by_cases hbt : b = true
    · rw [if_pos hbt]
      exact ih k (i + 1) true (by omega) (by omega) (.inl rfl)
    · rw [if_neg hbt, if_pos (by omega)]
      refine ih k (i + 1) _ (by omega) (by omega) ?_
      by_cases e : i = n0
      · subst e; exact .inl hl
      · right
        rcases hb with hb | hb
        · exact absurd hb hbt
        · omega
theorem alive13 {k : Nat} (hk : 300 ≤ k) : reedpipelaw13_alive.f k = some true := by
  obtain ⟨k, rfl⟩ : ∃ j, k = j + 1 := ⟨k - 1, by omega⟩
  obtain ⟨n, hn⟩ : ∃ n : Nat, n = 256 := ⟨256, rfl⟩
  have hc := new_check hn (s := 0) (k := 0) (by decide) (by decide)
  have hq := quiet_next hc (a1 := 0) (a2 := 0) (by decide) (.inl rfl) (.inl rfl) hn
  have hset : ((List.replicate n (0 : Int)).set 3 16777216).length = 256 := by rw [List.length_set, List.length_replicate]; exact hn
  have hall : AllIn 268435455 ((List.replicate n (0 : Int)).set 3 16777216) := by
    intro x hx
    rcases List.mem_or_eq_of_mem_set hx with h | h
    · rw [(List.mem_replicate.1 h).2]; decide
    · rw [h]; decide
  have hy := lap_next_yes hc (a1 := 0) (a2 := 0) (by decide) (.inl rfl) (.inl rfl) hset hall
  have hP : (List.range n).map (fun i : Nat => smp (rd (List.replicate n 0) (i : Int))) = List.replicate n 0 := map_const fun i _ => by rw [rd_zeros]; exact smp_zero
  rw [hP] at hq
  have hloud : (rd ((List.range 256).map (lapAt (List.replicate n 0) 0 0 0 ((List.replicate n 0).set 3 16777216))) ((255 : Nat) : Int) != 0) = true := by
    rw [rd_map_range (by omega)]
    unfold lapAt
    rw [rd_zeros, Int.zero_add, snL_rd (.inl rfl) (.inl rfl) hset hall, show anN 0 = 1 from rfl, sm_one (a := 0) (by omega) (fun i hi hne => by omega)]
    unfold bearAt
    rw [if_pos (by decide), hn]
    exact loud_chk
  have hlen : ((List.range 256).map (lapAt (List.replicate n 0) 0 0 0 ((List.replicate n 0).set 3 16777216))).length = n := by rw [List.length_map, List.length_range, hn]
  generalize (List.range 256).map (lapAt (List.replicate n 0) 0 0 0 ((List.replicate n 0).set 3 16777216)) = Y at hy hloud hlen
  unfold reedpipelaw13_alive.f
  rw [if_pos (by decide), Option.bind_some, new_is, Option.bind_some, ← hn]
  dsimp only
  rw [hq, Option.bind_some, List.length_replicate, if_pos (by omega)]
  dsimp only
  rw [show ((3 : Int)).toNat = 3 from rfl, hy, Option.bind_some, if_pos rfl]
  dsimp only
  rw [if_pos rfl, if_pos (by omega), if_pos (by omega), show ((n : Int) != 256) = false by rw [bne_eq_false_iff_eq]; omega, reedpipelaw13_alive.j0.eq_2, if_neg (by decide)]
  exact alive13_l0 hn hlen (by omega) hloud 0 0 n k 0 false (by omega) (by omega) (.inr (by omega))

end Go.Proofs.Ytpoppdaaodmicaa.Q
