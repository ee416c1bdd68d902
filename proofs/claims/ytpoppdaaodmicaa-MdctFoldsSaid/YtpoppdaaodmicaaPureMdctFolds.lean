/- MdctFolds: in what comes back the second half is the same forward and backward, and two numbers of the first half that are as far from its ends are together 0 or 1: any lines. No condition. -/
import Derived.Test.YtpoppdaaodmicaaM6
import Derived.Test.YtpoppdaaodmicaaQ19
namespace Go.Proofs.Ytpoppdaaodmicaa.Pure
open Go.RowKit Go.Proofs.Ytpoppdaaodmicaa.Q Go.Proofs.YtpoppdaaodmicaaW.PrintWords Go.Proofs.YtpoppdaaodmicaaW.PrintLast

theorem folds_w {m i : Nat} (hm : m ≤ 256) (hi : i < m) : wrap64 ((m : Int) - 1) = (m : Int) - 1 ∧ wrap64 ((m : Int) - 1 - i) = ((m - 1 - i : Nat) : Int) ∧ wrap64 ((m : Int) + i) = ((m + i : Nat) : Int) ∧ wrap64 (2 * (m : Int)) = 2 * (m : Int) ∧ wrap64 (2 * (m : Int) - 1) = 2 * (m : Int) - 1 ∧ wrap64 (2 * (m : Int) - 1 - i) = ((2 * m - 1 - i : Nat) : Int) := by
  refine ⟨wrap_in (by omega) (by omega), ?_, ?_, wrap_in (by omega) (by omega), wrap_in (by omega) (by omega), ?_⟩
  · rw [wrap_in (by omega) (by omega)]; omega
  · rw [wrap_in (by omega) (by omega)]; omega
  · rw [wrap_in (by omega) (by omega)]; omega
theorem folds_l0 {m b : Nat} {s : Int} (hs : Sized m s b) {x : List Int} (hl : x.length = m) (hx : AllIn 268435455 x) (d : Nat) : ∀ (k i : Nat), i + d = m → d + 1 ≤ k →
    reedpipelaw11_MdctFolds.l0 k true ((List.range (2 * m)).map (backAt m s b x)) (m : Int) (i : Int) = some true := by
  have hm : m ≤ 256 := by rcases hs with ⟨rfl, _⟩ | ⟨rfl, _⟩ <;> omega
  induction d with
  | zero =>
    intro k i hi hk
    obtain ⟨k, rfl⟩ : ∃ j, k = j + 1 := ⟨k - 1, by omega⟩
    rw [reedpipelaw11_MdctFolds.l0.eq_2, if_neg (by omega)]
  | succ d ih =>
    intro k i hi hk
    obtain ⟨k, rfl⟩ : ∃ j, k = j + 1 := ⟨k - 1, by omega⟩
    have him : i < m := by omega
    have g1 : i < 2 * m := by omega
    have g2 : m - 1 - i < 2 * m := by omega
    have g3 : m + i < 2 * m := by omega
    have g4 : 2 * m - 1 - i < 2 * m := by omega
    have g5 : i + 1 + d = m := by omega
    have g6 : d + 1 ≤ k := by omega
    have c0 : ((i + 1 : Nat) : Int) = (i : Int) + 1 := by omega
    have c1 : (0 : Int) ≤ (i : Int) := by omega
    have c2 : (i : Int) < ((2 * m : Nat) : Int) := by omega
    have c3 : ((m - 1 - i : Nat) : Int) < ((2 * m : Nat) : Int) := by omega
    have c4 : ((m + i : Nat) : Int) < ((2 * m : Nat) : Int) := by omega
    have c5 : ((2 * m - 1 - i : Nat) : Int) < ((2 * m : Nat) : Int) := by omega
    have c6 : (i : Int) < (m : Int) := by omega
    have c7 : wrap64 ((i : Int) + 1) = (i : Int) + 1 := wrap_in (by omega) (by omega)
    rw [reedpipelaw11_MdctFolds.l0.eq_2, List.length_map, List.length_range]
    obtain ⟨w1, w2, w3, w4, w5, w6⟩ := folds_w hm him
    have hi := ih k (i + 1) g5 g6
    rw [c0] at hi
    rw [w1, w2, w3, w4, w5, w6, c7]
    have h1 := back_second hs x him
    have h2 := back_first hs x him
    have b1 := back_bound hs hl hx i
    have b2 := back_bound hs hl hx (m - 1 - i)
    have r1 : rd ((List.range (2 * m)).map (backAt m s b x)) (i : Int) = backAt m s b x i := rd_map_range g1
    have r2 : rd ((List.range (2 * m)).map (backAt m s b x)) ((m - 1 - i : Nat) : Int) = backAt m s b x (m - 1 - i) := rd_map_range g2
    have r3 : rd ((List.range (2 * m)).map (backAt m s b x)) ((m + i : Nat) : Int) = backAt m s b x (m + i) := rd_map_range g3
    have r4 : rd ((List.range (2 * m)).map (backAt m s b x)) ((2 * m - 1 - i : Nat) : Int) = backAt m s b x (2 * m - 1 - i) := rd_map_range g4
    generalize List.map (backAt m s b x) (List.range (2 * m)) = z at r1 r2 r3 r4 hi ⊢
    rw [r1, r2, r3, r4, h1]
    clear r1 r2 r3 r4 h1 ih
    generalize backAt m s b x i = u at *
    generalize backAt m s b x (m - 1 - i) = v at *
    have c8 : wrap64 (u + v) = u + v := wrap_in (by omega) (by omega)
    rw [if_pos c6, if_pos c1, if_pos c2, if_pos (Int.natCast_nonneg _), if_pos c3, if_pos (Int.natCast_nonneg _), if_pos c4, if_pos (Int.natCast_nonneg _), if_pos c5, if_pos rfl, c8, hi]
    split
    · rfl
    · split
      · rfl
      · omega
theorem folds_all (x : List Int) {k : Nat} (hk : 1000 ≤ k) : reedpipelaw11_MdctFolds.f k x = some true := by
  unfold reedpipelaw11_MdctFolds.f
  rw [alive11 (by omega)]
  simp only [Option.bind_some]
  obtain ⟨k, rfl⟩ : ∃ j, k = j + 1 := ⟨k - 1, by omega⟩
  by_cases h : (x.length : Int) > 1000
  · rw [if_pos h, reedpipelaw11_MdctFolds.j0.eq_2, if_pos rfl]
  · rw [if_neg h, show (!true) = false from rfl, reedpipelaw11_MdctFolds.j0.eq_2, if_neg (by simp)]
    rcases inverse_cases x with ⟨h1, _⟩ | ⟨h1, _⟩ | ⟨m, s, b, hs, hl, hx, h1⟩
    · rw [h1]; rfl
    · rw [h1]; rfl
    · have hm : m ≤ 256 := by rcases hs with ⟨rfl, _⟩ | ⟨rfl, _⟩ <;> omega
      have hz : ((List.range (2 * m)).map (backAt m s b x)).length = 2 * m := by rw [List.length_map, List.length_range]
      have hf := folds_l0 hs hl hx m k 0 (by omega) (by omega)
      generalize List.map (backAt m s b x) (List.range (2 * m)) = z at h1 hz hf
      have hc : ((z, (0 : Int)).1.length : Int) = wrap64 (2 * (x.length : Int)) := by
        show (z.length : Int) = _
        rw [wrap_in (by omega) (by omega)]; omega
      rw [h1, Option.bind_some, if_pos rfl, if_pos hc, hl]
      exact hf
theorem MdctFolds : reedpipelaw11_MdctFolds.Pure := fun l0 _ _ _ => ⟨1000, folds_all l0 (Nat.le_refl _)⟩

end Go.Proofs.Ytpoppdaaodmicaa.Pure
