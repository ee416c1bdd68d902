/- MdctBack: samples that are transformed, and back, come in the first half to themselves less those as far from its other end, in the second half to themselves and those as far from its other end, to 512 at most: any samples. No condition. -/
import Derived.Test.YtpoppdaaodmicaaM7
import Derived.Test.YtpoppdaaodmicaaQ18
namespace Go.Proofs.Ytpoppdaaodmicaa.Pure
open Go.RowKit Go.Proofs.Ytpoppdaaodmicaa.Q Go.Proofs.YtpoppdaaodmicaaW.PrintWords Go.Proofs.YtpoppdaaodmicaaW.PrintLast

theorem mdctBack_w {m i : Nat} (hm : m ≤ 256) (hi : i < m) : wrap64 ((m : Int) - 1) = (m : Int) - 1 ∧ wrap64 ((m : Int) - 1 - i) = ((m - 1 - i : Nat) : Int) ∧ wrap64 ((m : Int) + i) = ((m + i : Nat) : Int) ∧ wrap64 (2 * (m : Int)) = 2 * (m : Int) ∧ wrap64 (2 * (m : Int) - 1) = 2 * (m : Int) - 1 ∧ wrap64 (2 * (m : Int) - 1 - i) = ((2 * m - 1 - i : Nat) : Int) ∧ wrap64 ((i : Int) + 1) = (i : Int) + 1 := by
  refine ⟨wrap_in (by omega) (by omega), ?_, ?_, wrap_in (by omega) (by omega), wrap_in (by omega) (by omega), ?_, wrap_in (by omega) (by omega)⟩
  · rw [wrap_in (by omega) (by omega)]; omega
  · rw [wrap_in (by omega) (by omega)]; omega
  · rw [wrap_in (by omega) (by omega)]; omega
theorem mdctBack_l0 {m : Nat} (hm : m ≤ 256) {y z : List Int} (hz : z.length = 2 * m) (hy : y.length = 2 * m) (hB : ∀ i : Nat, i < 2 * m → -8388608 ≤ rd z (i : Int) ∧ rd z (i : Int) ≤ 8388608)
    (hN : ∀ n : Nat, n < 2 * m → -512 ≤ rd y (n : Int) - folded m z n ∧ rd y (n : Int) - folded m z n ≤ 512) (d : Nat) : ∀ (k i : Nat), i + d = m → d + 1 ≤ k →
    reedpipelaw11_MdctBack.l0 k z true y (m : Int) (i : Int) = some true := by
  induction d with
  | zero =>
    intro k i hi hk
    obtain ⟨k, rfl⟩ : ∃ j, k = j + 1 := ⟨k - 1, by omega⟩
    rw [reedpipelaw11_MdctBack.l0.eq_2, if_neg (by omega)]
  | succ d ih =>
    intro k i hi hk
    obtain ⟨k, rfl⟩ : ∃ j, k = j + 1 := ⟨k - 1, by omega⟩
    have e := ih k (i + 1) (by omega) (by omega)
    rw [show (((i + 1 : Nat)) : Int) = (i : Int) + 1 by omega] at e
    have b1 := hB i (by omega)
    have b2 := hB (m - 1 - i) (by omega)
    have b3 := hB (m + i) (by omega)
    have b4 := hB (2 * m - 1 - i) (by omega)
    have n1 := hN i (by omega)
    have n2 := hN (m + i) (by omega)
    have f1 : folded m z i = rd z (i : Int) - rd z ((m - 1 - i : Nat) : Int) := by unfold folded; rw [if_pos (by omega)]
    have f2 : folded m z (m + i) = rd z ((m + i : Nat) : Int) + rd z ((2 * m - 1 - i : Nat) : Int) := by unfold folded; rw [if_neg (by omega), show 3 * m - 1 - (m + i) = 2 * m - 1 - i by omega]
    rw [f1] at n1
    rw [f2] at n2
    have c0 : i < m := by omega
    have c1 : (0 : Int) ≤ (i : Int) := by omega
    have c2 : (i : Int) < (y.length : Int) := by omega
    have c3 : (i : Int) < (z.length : Int) := by omega
    have c4 : ((m - 1 - i : Nat) : Int) < (z.length : Int) := by omega
    have c5 : ((m + i : Nat) : Int) < (y.length : Int) := by omega
    have c6 : ((m + i : Nat) : Int) < (z.length : Int) := by omega
    have c7 : ((2 * m - 1 - i : Nat) : Int) < (z.length : Int) := by omega
    obtain ⟨w1, w2, w3, w4, w5, w6, w7⟩ := mdctBack_w hm c0
    rw [reedpipelaw11_MdctBack.l0.eq_2, w1, w2, w3, w4, w5, w6, w7, if_pos (Int.ofNat_lt.mpr c0), if_pos c1, if_pos c2, if_pos c3, if_pos (Int.natCast_nonneg _), if_pos c4, if_pos (Int.natCast_nonneg _), if_pos c5, if_pos c6, if_pos (Int.natCast_nonneg _), if_pos c7]
    clear hB hN f1 f2 ih c0 c1 c2 c3 c4 c5 c6 c7 w1 w2 w3 w4 w5 w6 w7
    generalize rd z (i : Int) = z1 at *
    generalize rd z ((m - 1 - i : Nat) : Int) = z2 at *
    generalize rd z ((m + i : Nat) : Int) = z3 at *
    generalize rd z ((2 * m - 1 - i : Nat) : Int) = z4 at *
    generalize rd y (i : Int) = y1 at *
    generalize rd y ((m + i : Nat) : Int) = y2 at *
    rw [wrap_in (n := z1 - z2) (by omega) (by omega), wrap_in (n := z3 + z4) (by omega) (by omega), wrap_in (n := y1 - (z1 - z2)) (by omega) (by omega), wrap_in (n := y2 - (z3 + z4)) (by omega) (by omega), if_neg (by omega), if_neg (by omega), if_neg (by omega), if_neg (by omega)]
    exact e
theorem mdctBack_all (z : List Int) {k : Nat} (hk : 1000 ≤ k) : reedpipelaw11_MdctBack.f k z = some true := by
  unfold reedpipelaw11_MdctBack.f
  rw [alive11 (by omega), Option.bind_some]
  obtain ⟨k, rfl⟩ : ∃ j, k = j + 1 + 1 := ⟨k - 2, by omega⟩
  by_cases h : (z.length : Int) > 1000
  · rw [if_pos h, reedpipelaw11_MdctBack.j0.eq_2, if_pos rfl]
  · rw [if_neg h, show (!true) = false from rfl, reedpipelaw11_MdctBack.j0.eq_2, if_neg (by simp)]
    rcases forward_cases z with ⟨h1, _⟩ | ⟨h1, _⟩ | ⟨m, s, b, hs, hl, hz, h1⟩
    · rw [h1, Option.bind_some, if_neg (by decide), if_pos rfl]; rfl
    · rw [h1, Option.bind_some, if_neg (by decide), if_pos rfl]; rfl
    · have hm : m ≤ 256 := by rcases hs with ⟨rfl, _⟩ | ⟨rfl, _⟩ <;> omega
      have hx : AllIn 268435455 ((List.range m).map (lineAt m s z)) := by
        intro x hx
        obtain ⟨i, _, rfl⟩ := List.mem_map.1 hx
        have := line_bound hs hl hz i
        omega
      have h2 := inverse_yes hs (x := (List.range m).map (lineAt m s z)) (by rw [List.length_map, List.length_range]) hx
      have hn : ∀ n : Nat, n < 2 * m → -512 ≤ rd ((List.range (2 * m)).map (backAt m s b ((List.range m).map (lineAt m s z)))) (n : Int) - folded m z n ∧ rd ((List.range (2 * m)).map (backAt m s b ((List.range m).map (lineAt m s z)))) (n : Int) - folded m z n ≤ 512 := by
        intro n hn
        have e := back_near hs hl hz hn
        rw [rd_map_range hn]
        unfold offMax at e
        split at e <;> omega
      have hy : ((List.range (2 * m)).map (backAt m s b ((List.range m).map (lineAt m s z)))).length = 2 * m := by rw [List.length_map, List.length_range]
      have hB : ∀ i : Nat, i < 2 * m → -8388608 ≤ rd z (i : Int) ∧ rd z (i : Int) ≤ 8388608 := by
        intro i hi
        refine hz _ ?_
        unfold rd
        rw [show ((i : Int)).toNat = i by omega, List.getD_eq_getElem?_getD, List.getElem?_eq_getElem (by omega)]
        exact List.getElem_mem (by omega)
      rw [h1, Option.bind_some, if_pos rfl, h2, Option.bind_some, if_pos rfl]
      generalize (List.range (2 * m)).map (backAt m s b ((List.range m).map (lineAt m s z))) = y at hn hy ⊢
      have hw : wrap64 ((z.length : Int) / 2) = (m : Int) := by rw [wrap_in (by omega) (by omega)]; omega
      have hne : ((y.length : Int) != (z.length : Int)) = false := by rw [bne_eq_false_iff_eq]; omega
      rw [hne, reedpipelaw11_MdctBack.j1.eq_2, if_neg (by simp), hw]
      exact mdctBack_l0 hm hl hy hB hn m k 0 (by omega) (by omega)
theorem MdctBack : reedpipelaw11_MdctBack.Pure := fun l0 _ _ _ => ⟨1000, mdctBack_all l0 (Nat.le_refl _)⟩

end Go.Proofs.Ytpoppdaaodmicaa.Pure
