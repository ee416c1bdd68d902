/- BlockShorts: of Shorts each window's lines hang on its own 64 samples alone, and each window's numbers on its own lines: any shapes, samples, lines, and window. No condition. -/
import Derived.Test.YtpoppdaaodmicaaK8
import Derived.Test.YtpoppdaaodmicaaQ25
import Derived.OpenShut
namespace Go.Proofs.Ytpoppdaaodmicaa.Pure
open Go.RowKit Go.Proofs.Ytpoppdaaodmicaa.Q Go.Proofs.YtpoppdaaodmicaaW.PrintWords Go.Proofs.YtpoppdaaodmicaaW.PrintLast

section
variable {a0 a1 : Int} {L l : List Int} {w : Nat}
/-! ### lines -/
theorem sw32 (hw : w < 8) : wrap64 (32 * (w : Int)) = 32 * (w : Int) := wrap_in (by omega) (by omega)
theorem sw64 (hw : w < 8) : wrap64 (32 * (w : Int) + 32) = 32 * (w : Int) + 32 := wrap_in (by omega) (by omega)
theorem sw112 (hw : w < 8) : wrap64 (112 + 32 * (w : Int)) = 112 + 32 * (w : Int) := wrap_in (by omega) (by omega)
theorem sw176 (hw : w < 8) : wrap64 (176 + 32 * (w : Int)) = 176 + 32 * (w : Int) := wrap_in (by omega) (by omega)
theorem sw1 {n : Nat} (hn : n < 1000) : wrap64 ((n : Int) + 1) = ((n + 1 : Nat) : Int) := by rw [wrap_in (by omega) (by omega)]; omega
theorem sw112j {j : Nat} (hw : w < 8) (hj : j < 64) : wrap64 (112 + 32 * (w : Int) + (j : Int)) = ((112 + 32 * w + j : Nat) : Int) := by rw [wrap_in (by omega) (by omega)]; omega
theorem swj {j : Nat} (hw : w < 8) (hj : j < 32) : wrap64 (((32 * w + j : Nat) : Int) + 1) = ((32 * w + (j + 1) : Nat) : Int) := by rw [wrap_in (by omega) (by omega)]; omega
theorem shorts_l5 {x : List Int} (hx : x.length = 512) (d : Nat) : ∀ (k i : Nat), i + d = 512 → d + 1 ≤ k → reedpipelaw12_BlockShorts.l5 k true x x (i : Int) = some true := by
  induction d with
  | zero =>
    intro k i hi hk
    obtain ⟨k, rfl⟩ : ∃ j, k = j + 1 := ⟨k - 1, by omega⟩
    rw [reedpipelaw12_BlockShorts.l5.eq_2, if_neg (by omega)]
  | succ d ih =>
    intro k i hi hk
    obtain ⟨k, rfl⟩ : ∃ j, k = j + 1 := ⟨k - 1, by omega⟩
    rw [reedpipelaw12_BlockShorts.l5.eq_2, if_pos (by omega), if_pos (by omega), if_pos (by omega), if_pos (by omega), if_pos rfl, wrap_in (by omega) (by omega)]
    exact ih k (i + 1) (by omega) (by omega)
theorem sum_all (h1 : a0 = 0 ∨ a0 = 1) (h2 : a1 = 0 ∨ a1 = 1) (hl : l.length = 256) (hb : AllIn 268435455 l) : sumL a0 a1 l 8 0 = snL 2 a0 a1 l := by
  apply List.ext_getElem
  · rw [sumL_length, snL_length]
  · intro n g1 g2
    rw [sumL_length] at g1
    have e := rd_sumL a0 a1 l 8 0 g1
    have h := snL_rd h1 h2 hl hb (a0 := 2) n
    rw [an2.1] at h
    rw [if_neg (by omega), Int.add_zero, ← h] at e
    unfold rd at e
    rw [show ((n : Int)).toNat = n by omega, List.getD_eq_getElem?_getD, List.getD_eq_getElem?_getD, List.getElem?_eq_getElem g2, List.getElem?_eq_getElem (by rw [sumL_length]; exact g1)] at e
    exact e
theorem shorts_l4 (h1 : a0 = 0 ∨ a0 = 1) (h2 : a1 = 0 ∨ a1 = 1) (hl : l.length = 256) (hb : AllIn 268435455 l) (hw : w < 8) {x y : List Int} (hy : y.length = 512) (hyr : ∀ n : Nat, rd y (n : Int) = bearAt 2 a0 a1 l n w) {K : Nat}
    (hnext : ∀ k, K ≤ k → reedpipelaw12_BlockShorts.l2 k a0 a1 l true x (sumL a0 a1 l (w + 1) 0) ((w + 1 : Nat) : Int) = some true) (d : Nat) : ∀ (k n : Nat), n + d = 512 → d + 1 + K ≤ k →
    reedpipelaw12_BlockShorts.l4 k a0 a1 l true x (sumL a0 a1 l w n) (w : Int) y (n : Int) = some true := by
  induction d with
  | zero =>
    intro k n hi hk
    obtain ⟨k, rfl⟩ : ∃ j, k = j + 1 := ⟨k - 1, by omega⟩
    obtain rfl : n = 512 := by omega
    rw [reedpipelaw12_BlockShorts.l4.eq_2, if_neg (by decide), sumL_next, sw1 (by omega)]
    exact hnext k (by omega)
  | succ d ih =>
    intro k n hi hk
    obtain ⟨k, rfl⟩ : ∃ j, k = j + 1 := ⟨k - 1, by omega⟩
    have e := ih k (n + 1) (by omega) (by omega)
    have hs := sumL_length a0 a1 l w n
    have hset := sumL_set h1 h2 hl hb hw (n := n) (by omega)
    rw [← hset] at e
    have g1 : (n : Int) < 512 := by omega
    have g2 : (0 : Int) ≤ (n : Int) := by omega
    have g3 : (n : Int) < (y.length : Int) := by omega
    have g4 : (n : Int) < ((sumL a0 a1 l w n).length : Int) := by omega
    have hz : ¬ (112 + 32 * w ≤ n ∧ n < 176 + 32 * w) → bearAt 2 a0 a1 l n w = 0 := fun h => bear_no h
    have z1 : (n : Int) < 112 + 32 * (w : Int) → rd y (n : Int) = 0 := fun h => (hyr n).trans (hz (by omega))
    have z2 : (n : Int) ≥ 176 + 32 * (w : Int) → rd y (n : Int) = 0 := fun h => (hyr n).trans (hz (by omega))
    rw [← hyr n] at e
    have g5 := sw1 (n := n) (by omega)
    have q2 := sw112 hw
    have q3 := sw176 hw
    rw [reedpipelaw12_BlockShorts.l4.eq_2, if_pos g1, sw32 hw, q2, q3, Int.toNat_natCast, g5]
    by_cases c1 : (n : Int) < 112 + 32 * (w : Int)
    · rw [if_pos c1, if_pos g2, if_pos g3, if_pos (z1 c1), if_pos g4]
      exact e
    · rw [if_neg c1]
      by_cases c2 : (n : Int) ≥ 176 + 32 * (w : Int)
      · rw [if_pos c2, if_pos g2, if_pos g3, if_pos (z2 c2), if_pos g4]
        exact e
      · rw [if_neg c2, if_pos g2, if_pos g4, if_pos g3]
        exact e
theorem shorts_l3 (h1 : a0 = 0 ∨ a0 = 1) (h2 : a1 = 0 ∨ a1 = 1) (hl : l.length = 256) (hb : AllIn 268435455 l) (hw : w < 8) {x : List Int} {K : Nat}
    (hnext : ∀ k, K ≤ k → reedpipelaw12_BlockShorts.l2 k a0 a1 l true x (sumL a0 a1 l (w + 1) 0) ((w + 1 : Nat) : Int) = some true) (d : Nat) : ∀ (k j : Nat), j + d = 32 → d + 516 + K ≤ k →
    reedpipelaw12_BlockShorts.l3 k a0 a1 l true x (sumL a0 a1 l w 0) (w : Int) (cpL 256 l (32 * w) j) ((32 * w + j : Nat) : Int) = some true := by
  induction d with
  | zero =>
    intro k j hi hk
    obtain ⟨k, rfl⟩ : ∃ j, k = j + 1 + 1 := ⟨k - 2, by omega⟩
    obtain rfl : j = 32 := by omega
    have hb' : AllIn 268435455 (cpL 256 l (32 * w) 32) := between_all (between_cp (by decide) (by decide) (all_between hb) (by omega))
    have hy := snL_length 2 a0 a1 (cpL 256 l (32 * w) 32)
    have hyr := fun n => own_numbers h1 h2 hl hb hw n
    have g0 : ¬ ((32 * w + 32 : Nat) : Int) < 32 * (w : Int) + 32 := by omega
    rw [reedpipelaw12_BlockShorts.l3.eq_2, sw32 hw, sw64 hw, if_neg g0, synth_yes (by decide) h1 h2 (cpL_length _ _ _ _) hb', Option.bind_some, if_pos rfl]
    dsimp only
    generalize snL 2 a0 a1 (cpL 256 l (32 * w) 32) = y at hy hyr
    rw [show ((y.length : Int) != 512) = false by rw [bne_eq_false_iff_eq]; omega, reedpipelaw12_BlockShorts.j7.eq_2, if_neg (by decide)]
    exact shorts_l4 h1 h2 hl hb hw hy hyr hnext 512 k 0 (by omega) (by omega)
  | succ d ih =>
    intro k j hi hk
    obtain ⟨k, rfl⟩ : ∃ j, k = j + 1 := ⟨k - 1, by omega⟩
    have e := ih k (j + 1) (by omega) (by omega)
    have hs := cpL_length 256 l (32 * w) j
    have hset := cpL_set (N := 256) (p := 32 * w) (j := j) l
    have g1 : ((32 * w + j : Nat) : Int) < 32 * (w : Int) + 32 := by omega
    have g2 : (0 : Int) ≤ ((32 * w + j : Nat) : Int) := by omega
    have g3 : ((32 * w + j : Nat) : Int) < (l.length : Int) := by omega
    have g4 : ((32 * w + j : Nat) : Int) < ((cpL 256 l (32 * w) j).length : Int) := by omega
    have g5 := swj hw (j := j) (by omega)
    rw [reedpipelaw12_BlockShorts.l3.eq_2, sw32 hw, sw64 hw, if_pos g1, if_pos g2, if_pos g3, if_pos g4, g5, Int.toNat_natCast, hset]
    exact e
theorem shorts_l2 (h1 : a0 = 0 ∨ a0 = 1) (h2 : a1 = 0 ∨ a1 = 1) (hl : l.length = 256) (hb : AllIn 268435455 l) (d : Nat) : ∀ (w : Nat), w + d = 8 → ∀ k, 600 + d * 600 ≤ k → reedpipelaw12_BlockShorts.l2 k a0 a1 l true (snL 2 a0 a1 l) (sumL a0 a1 l w 0) (w : Int) = some true := by
  induction d with
  | zero =>
    intro w hi k hk
    obtain ⟨k, rfl⟩ : ∃ j, k = j + 1 := ⟨k - 1, by omega⟩
    obtain rfl : w = 8 := by omega
    rw [reedpipelaw12_BlockShorts.l2.eq_2, if_neg (by omega), sum_all h1 h2 hl hb]
    exact shorts_l5 (snL_length _ _ _ _) 512 k 0 (by omega) (by omega)
  | succ d ih =>
    intro w hi k hk
    obtain ⟨k, rfl⟩ : ∃ j, k = j + 1 := ⟨k - 1, by omega⟩
    have hw : w < 8 := by omega
    have g1 : (w : Int) < 8 := by omega
    have q0 : 32 * (w : Int) = ((32 * w + 0 : Nat) : Int) := by omega
    rw [reedpipelaw12_BlockShorts.l2.eq_2, if_pos g1, if_pos (by decide), ← cpL_zero 256 l (32 * w), sw32 hw, q0]
    exact shorts_l3 h1 h2 hl hb hw (fun k hk => ih (w + 1) (by omega) k hk) 32 k 0 (by omega) (by omega)
theorem shorts_j4 (w0 : 0 ≤ a0) (w1 : 0 ≤ a1) {k : Nat} (hk : 6000 ≤ k) : reedpipelaw12_BlockShorts.j4 k a0 a1 l true = some true := by
  obtain ⟨k, rfl⟩ : ∃ j, k = j + 1 := ⟨k - 1, by omega⟩
  rw [reedpipelaw12_BlockShorts.j4.eq_2]
  rcases synth_no (a0 := 2) (a1 := a0) (a2 := a1) (l := l) with ⟨e, he, h, _⟩ | ⟨⟨_, m1, m2⟩, hl, hb⟩
  · rw [h, Option.bind_some, if_neg he]
  · have h1 : a0 = 0 ∨ a0 = 1 := by omega
    have h2 : a1 = 0 ∨ a1 = 1 := by omega
    rw [synth_yes (by decide) h1 h2 hl hb, Option.bind_some, if_pos rfl, if_pos (by decide), ← sumL_zero a0 a1 l]
    dsimp only
    exact shorts_l2 h1 h2 hl hb 8 0 (by omega) k (by omega)
/-! ### samples -/
theorem shorts_l1 (w0 : 0 ≤ a0) (w1 : 0 ≤ a1) (hw : w < 8) {X Y : List Int} (b1 : X.length = 256) (b2 : Y.length = 256) (hXY : ∀ n : Nat, 32 * w ≤ n ∧ n < 32 * w + 32 → rd X (n : Int) = rd Y (n : Int)) (d : Nat) : ∀ (k j : Nat), j + d = 32 → d + 6001 ≤ k →
    reedpipelaw12_BlockShorts.l1 k a0 a1 l (w : Int) true X Y ((32 * w + j : Nat) : Int) = some true := by
  induction d with
  | zero =>
    intro k j hi hk
    obtain ⟨k, rfl⟩ : ∃ j, k = j + 1 := ⟨k - 1, by omega⟩
    have g0 : ¬ ((32 * w + j : Nat) : Int) < 32 * (w : Int) + 32 := by omega
    rw [reedpipelaw12_BlockShorts.l1.eq_2, sw32 hw, sw64 hw, if_neg g0]
    exact shorts_j4 w0 w1 (by omega)
  | succ d ih =>
    intro k j hi hk
    obtain ⟨k, rfl⟩ : ∃ j, k = j + 1 := ⟨k - 1, by omega⟩
    have g1 : ((32 * w + j : Nat) : Int) < 32 * (w : Int) + 32 := by omega
    have g2 : (0 : Int) ≤ ((32 * w + j : Nat) : Int) := by omega
    have g3 : ((32 * w + j : Nat) : Int) < (X.length : Int) := by omega
    have g4 : ((32 * w + j : Nat) : Int) < (Y.length : Int) := by omega
    have e := ih k (j + 1) (by omega) (by omega)
    have g6 := hXY (32 * w + j) (by omega)
    have g5 := swj hw (j := j) (by omega)
    rw [reedpipelaw12_BlockShorts.l1.eq_2, sw32 hw, sw64 hw, if_pos g1, if_pos g2, if_pos g3, if_pos g4, if_pos g6, g5]
    exact e
theorem shorts_l0 (h1 : a0 = 0 ∨ a0 = 1) (h2 : a1 = 0 ∨ a1 = 1) (hL : L.length = 512) (hb : Between (-32768) 32767 L) (hw : w < 8) (d : Nat) : ∀ (k j : Nat), j + d = 64 → d + 6100 ≤ k →
    reedpipelaw12_BlockShorts.l0 k a0 a1 L l (w : Int) true (anL 2 a0 a1 L) (cpL 512 L (112 + 32 * w) j) (j : Int) = some true := by
  induction d with
  | zero =>
    intro k j hi hk
    obtain ⟨k, rfl⟩ : ∃ j, k = j + 1 + 1 := ⟨k - 2, by omega⟩
    obtain rfl : j = 64 := by omega
    have hb' : Between (-32768) 32767 (cpL 512 L (112 + 32 * w) 64) := between_cp (by decide) (by decide) hb (by omega)
    have b1 := anL_length 2 a0 a1 L
    have b2 := anL_length 2 a0 a1 (cpL 512 L (112 + 32 * w) 64)
    have hXY := fun (n : Nat) hn => own_lines (a1 := a0) (a2 := a1) (l := L) (n := n) hw hn
    rw [reedpipelaw12_BlockShorts.l0.eq_2, if_neg (by omega), analyse_yes (by decide) h1 h2 (cpL_length _ _ _ _) hb', Option.bind_some, if_pos rfl]
    dsimp only
    generalize anL 2 a0 a1 L = X at b1 hXY
    generalize anL 2 a0 a1 (cpL 512 L (112 + 32 * w) 64) = Y at b2 hXY
    rw [if_pos (by omega), show ((Y.length : Int) != 256) = false by rw [bne_eq_false_iff_eq]; omega, reedpipelaw12_BlockShorts.j2.eq_2, if_neg (by decide), sw32 hw, show 32 * (w : Int) = ((32 * w + 0 : Nat) : Int) by omega]
    exact shorts_l1 (by omega) (by omega) hw b1 b2 hXY 32 k 0 (by omega) (by omega)
  | succ d ih =>
    intro k j hi hk
    obtain ⟨k, rfl⟩ : ∃ j, k = j + 1 := ⟨k - 1, by omega⟩
    have e := ih k (j + 1) (by omega) (by omega)
    have hs := cpL_length 512 L (112 + 32 * w) j
    have hset := cpL_set (N := 512) (p := 112 + 32 * w) (j := j) L
    have g1 : (j : Int) < 64 := by omega
    have g2 : (0 : Int) ≤ ((112 + 32 * w + j : Nat) : Int) := by omega
    have g3 : ((112 + 32 * w + j : Nat) : Int) < (L.length : Int) := by omega
    have g4 : ((112 + 32 * w + j : Nat) : Int) < ((cpL 512 L (112 + 32 * w) j).length : Int) := by omega
    have q3 := sw112j hw (j := j) (by omega)
    have q4 := sw1 (n := j) (by omega)
    rw [reedpipelaw12_BlockShorts.l0.eq_2, if_pos g1, sw32 hw, sw112 hw, q3, if_pos g2, if_pos g3, if_pos g4, q4, Int.toNat_natCast, hset]
    exact e
theorem shorts_all (w0 : 0 ≤ a0) (w1 : 0 ≤ a1) (L l : List Int) (a4 : Int) {k : Nat} (hk : 7000 ≤ k) : reedpipelaw12_BlockShorts.f k a0 a1 L l a4 = some true := by
  have ht : reedpipelaw12_BlockShorts.j0 k a0 a1 L l a4 true true = some true := by
    obtain ⟨k, rfl⟩ : ∃ j, k = j + 1 := ⟨k - 1, by omega⟩
    rw [reedpipelaw12_BlockShorts.j0.eq_2, if_pos rfl]
  unfold reedpipelaw12_BlockShorts.f
  rw [alive12 (by omega), Option.bind_some]
  by_cases g1 : (L.length : Int) > 1000
  · rw [if_pos g1, ht]
  rw [if_neg g1]
  by_cases g2 : (l.length : Int) > 1000
  · rw [if_pos g2, ht]
  rw [if_neg g2, if_pos rfl]
  by_cases g3 : a4 < 0
  · rw [if_pos g3, ht]
  rw [if_neg g3]
  by_cases g4 : a4 > 7
  · rw [decide_eq_true g4, ht]
  rw [decide_eq_false g4]
  obtain ⟨w, rfl⟩ : ∃ w : Nat, a4 = w := ⟨a4.toNat, by omega⟩
  obtain ⟨k, rfl⟩ : ∃ j, k = j + 1 := ⟨k - 1, by omega⟩
  rw [reedpipelaw12_BlockShorts.j0.eq_2, if_neg (by decide)]
  rcases analyse_no (a0 := 2) (a1 := a0) (a2 := a1) (l := L) with ⟨e, he, h⟩ | ⟨⟨_, m1, m2⟩, hL, hb⟩
  · rw [h, Option.bind_some, if_neg he]
    exact shorts_j4 w0 w1 (by omega)
  · have h1 : a0 = 0 ∨ a0 = 1 := by omega
    have h2 : a1 = 0 ∨ a1 = 1 := by omega
    rw [analyse_yes (by decide) h1 h2 hL hb, Option.bind_some, if_pos rfl, if_pos (by decide), ← cpL_zero 512 L (112 + 32 * w)]
    dsimp only
    exact shorts_l0 h1 h2 hL hb (by omega) 64 k 0 (by omega) (by omega)
end
theorem BlockShorts : reedpipelaw12_BlockShorts.Pure := fun _ _ l2 l3 a4 w0 w1 _ _ _ _ _ _ _ => ⟨7000, shorts_all (bounds_u8 w0).1 (bounds_u8 w1).1 l2 l3 a4 (Nat.le_refl _)⟩

end Go.Proofs.Ytpoppdaaodmicaa.Pure
