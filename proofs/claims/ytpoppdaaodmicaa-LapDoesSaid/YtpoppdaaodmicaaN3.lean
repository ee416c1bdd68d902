/- The document's lapped frames (layer 13) are the program's. -/
import Derived.Test.YtpoppdaaodmicaaBSynthJ
import Derived.Test.YtpoppdaaodmicaaN2
import Derived.Test.YtpoppdaaodmicaaQ58
import Derived.Test.YtpoppdaaodmicaaQ59
import Derived.Test.YtpoppdaaodmicaaQ60
import Derived.Test.YtpoppdaaodmicaaQ61
namespace Go.Proofs.Ytpoppdaaodmicaa.Q
open Go.RowKit Go.Proofs.YtpoppdaaodmicaaW.PrintWords Go.Proofs.YtpoppdaaodmicaaW.PrintLast Go.Proofs.YtpoppdaaodmicaaW.PrintMore

theorem refmay_l0 {l : List Int} (hl : l.length = 256) (s m : Int) (d : Nat) : ∀ (k i : Nat), i + d = 256 → d + 1 ≤ k →
    (reedpiperef13_May.l0 k (i : Int) l s m = some true ∧ ∀ j : Nat, i ≤ j → j < 256 → -1099511627776 ≤ rd l (j : Int) ∧ rd l (j : Int) ≤ 1099511627776) ∨ (reedpiperef13_May.l0 k (i : Int) l s m = some false ∧ ¬ AllIn 1099511627776 l) := by
  induction d with
  | zero =>
    intro k i hi hk
    obtain ⟨k, rfl⟩ : ∃ j, k = j + 1 := ⟨k - 1, by omega⟩
    have g1 : ¬ (i : Int) < 256 := by omega
    rw [reedpiperef13_May.l0.eq_2, if_neg g1]
    exact .inl ⟨rfl, fun j h1 h2 => by omega⟩
  | succ d ih =>
    intro k i hi hk
    obtain ⟨k, rfl⟩ : ∃ j, k = j + 1 := ⟨k - 1, by omega⟩
    have e := ih k (i + 1) (by omega) (by omega)
    have g1 : (i : Int) < 256 := by omega
    have g2 : (0 : Int) ≤ (i : Int) := by omega
    have g3 : (i : Int) < (l.length : Int) := by omega
    have n1 : i < 100000 := by omega
    have hil : i < l.length := by omega
    rw [reedpiperef13_May.l0.eq_2, if_pos g1, if_pos g2, if_pos g3, wsucc n1]
    by_cases c1 : rd l (i : Int) < -1099511627776
    · rw [if_pos c1]
      exact .inr ⟨rfl, fun h => Int.not_le.mpr c1 (all_between h i hil).1⟩
    · rw [if_neg c1]
      by_cases c2 : rd l (i : Int) > 1099511627776
      · rw [if_pos c2]
        exact .inr ⟨rfl, fun h => Int.not_le.mpr c2 (all_between h i hil).2⟩
      · rw [if_neg c2]
        rcases e with ⟨e, h⟩ | ⟨e, h⟩
        · refine .inl ⟨e, fun j h1 h2 => ?_⟩
          by_cases hj : j = i
          · subst hj; exact ⟨Int.not_lt.mp c1, Int.not_lt.mp c2⟩
          · exact h j (by omega) h2
        · exact .inr ⟨e, h⟩
theorem refmay_is (l : List Int) (s m : Int) {k : Nat} (hk : 300 ≤ k) : (lap_Check.f l s m = some 0 ∧ reedpiperef13_May.f k l s m = some true) ∨ (lap_Check.f l s m = some 8 ∧ reedpiperef13_May.f k l s m = some false) := by
  obtain ⟨k, rfl⟩ : ∃ j, k = j + 1 := ⟨k - 1, by omega⟩
  have hbad : reedpiperef13_May.j0 (k + 1) true l s m = some false := by rw [reedpiperef13_May.j0.eq_2, if_pos rfl]
  unfold reedpiperef13_May.f
  by_cases hl : l.length = 256
  · rw [if_pos (by omega)]
    by_cases hs : s > 3
    · rw [if_pos hs, hbad]
      exact .inr ⟨check_no (fun h => by omega), rfl⟩
    · rw [if_neg hs]
      by_cases hm : m > 1
      · rw [decide_eq_true hm, hbad]
        exact .inr ⟨check_no (fun h => by omega), rfl⟩
      · rw [decide_eq_false hm, reedpiperef13_May.j0.eq_2, if_neg (by decide)]
        rcases refmay_l0 hl s m 256 k 0 (by omega) (by omega) with ⟨e, h⟩ | ⟨e, h⟩
        · exact .inl ⟨check_yes hl (between_all (fun i hi => h i (by omega) (by omega))) (by omega) (by omega), e⟩
        · exact .inr ⟨check_no (fun h' => h h'.2.1), e⟩
  · rw [if_neg (by omega), hbad]
    exact .inr ⟨check_no (fun h => hl h.1), rfl⟩
theorem refcheck_is (l : List Int) (s m : Int) {k : Nat} (hk : 300 ≤ k) : reedpiperef13_Check.f k l s m = lap_Check.f l s m := by
  unfold reedpiperef13_Check.f
  rcases refmay_is l s m hk with ⟨h1, h2⟩ | ⟨h1, h2⟩
  · rw [h1, h2, Option.bind_some, if_pos rfl]
  · rw [h1, h2, Option.bind_some, if_neg (by decide)]
theorem kept16 (x : Int) : reedpiperef03_Kept.f x 16 = some (mn (mx x (-32768)) 32767) := by
  unfold reedpiperef03_Kept.f
  rw [if_pos (by decide +kernel), show wrap64 (-(shl .i64 1 (wrap64 (16 - 1)))) = -32768 by decide +kernel, show wrap64 ((wrap64 (-(-32768))) - 1) = 32767 by decide +kernel]
theorem refdone_l0 {l y : List Int} (hl : l.length = 256) (hy : y.length = 512) (hlb : ∀ n : Nat, -1099511627776 ≤ rd l (n : Int) ∧ rd l (n : Int) ≤ 1099511627776) (hyb : ∀ n : Nat, -549755813888 ≤ rd y (n : Int) ∧ rd y (n : Int) ≤ 549755813888) (a1 a2 s m : Int) (d : Nat) : ∀ (k i : Nat), i + d = 256 → d + 1 ≤ k →
    reedpiperef13_Done.l0 k a1 a2 y (((List.range 256).map fun n : Nat => smp (rd l (n : Int) + rd y (n : Int))).take i) (i : Int) l s m = some (y.drop 256, a1, a2, (List.range 256).map fun n : Nat => smp (rd l (n : Int) + rd y (n : Int))) := by
  induction d with
  | zero =>
    intro k i hi hk
    obtain ⟨k, rfl⟩ : ∃ j, k = j + 1 := ⟨k - 1, by omega⟩
    have g1 : ¬ (i : Int) < 256 := by omega
    have g2 : (256 : Int) ≤ (y.length : Int) := by omega
    have g3 : ([] : List Int).length + (y.drop 256).length < 17592186044416 := by rw [List.length_nil, List.length_drop]; omega
    rw [reedpiperef13_Done.l0.eq_2, if_neg g1, if_pos g2, Option.bind_some, if_pos g3, List.nil_append, List.take_of_length_le (by rw [List.length_map, List.length_range]; omega)]
  | succ d ih =>
    intro k i hi hk
    obtain ⟨k, rfl⟩ : ∃ j, k = j + 1 := ⟨k - 1, by omega⟩
    have e := ih k (i + 1) (by omega) (by omega)
    have hz : ((List.range 256).map fun n : Nat => smp (rd l (n : Int) + rd y (n : Int)))[i]? = some (smp (rd l (i : Int) + rd y (i : Int))) := by
      rw [List.getElem?_map, List.getElem?_range (by omega)]; rfl
    have g1 : (i : Int) < 256 := by omega
    have g2 : (0 : Int) ≤ (i : Int) := by omega
    have g3 : (i : Int) < (l.length : Int) := by omega
    have g4 : (i : Int) < (y.length : Int) := by omega
    have g5 : (((List.range 256).map fun n : Nat => smp (rd l (n : Int) + rd y (n : Int))).take i).length < 17592186044416 := by rw [List.length_take, List.length_map, List.length_range]; omega
    have n1 : i < 100000 := by omega
    have b1 := hlb i
    have b2 := hyb i
    have hd := down_is (n := rd l (i : Int) + rd y (i : Int)) (b := 4) (by omega) (by omega) (by omega) (by omega)
    have hw : wrap64 (rd l (i : Int) + rd y (i : Int)) = rd l (i : Int) + rd y (i : Int) := wrap_in (by omega) (by omega)
    rw [← take_add hz] at e
    rw [show ((4 : Nat) : Int) = 4 from rfl] at hd
    rw [reedpiperef13_Done.l0.eq_2, if_pos g1, if_pos g2, if_pos g3, if_pos g4, hw, hd, Option.bind_some, kept16, Option.bind_some, if_pos g5, wsucc n1]
    exact e
theorem refnext {l x : List Int} {s m a1 a2 : Int} (w1 : 0 ≤ a1) (wm : 0 ≤ m) (w2 : 0 ≤ a2) {k : Nat} (hk : 201000 ≤ k) : reedpiperef13_Next.f k l s m a1 a2 x = lap_Next.f l s m a1 a2 x := by
  unfold reedpiperef13_Next.f
  rcases refmay_is l s m (k := k) (by omega) with ⟨h1, h2⟩ | ⟨h1, h2⟩
  · rw [h2, Option.bind_some, if_pos rfl, refsynth w1 wm w2 x hk]
    rcases synth_no (a0 := a1) (a1 := m) (a2 := a2) (l := x) with ⟨e, he, hs, _⟩ | ⟨⟨m0, m1, m2⟩, hx, hb⟩
    · rw [lap_next_err h1 hs he, hs, Option.bind_some, if_neg he]
    · have c1 : m = 0 ∨ m = 1 := by omega
      have c2 : a2 = 0 ∨ a2 = 1 := by omega
      obtain ⟨hl, ha⟩ : l.length = 256 ∧ AllIn 1099511627776 l := by
        rcases check_cases l s m with h | ⟨_, h, h', _⟩
        · rw [h1] at h; cases h
        · exact ⟨h, h'⟩
      have hd := refdone_l0 hl (snL_length a1 m a2 x) (rd_in (by decide) ha) (snL_bound c1 c2 hx hb (a0 := a1)) a1 a2 s m 256 k 0 (by omega) (by omega)
      rw [lap_next_yes h1 ⟨w1, m0⟩ c1 c2 hx hb, synth_yes ⟨w1, m0⟩ c1 c2 hx hb, Option.bind_some, if_pos rfl]
      unfold reedpiperef13_Done.f
      rw [refnumbers_is ⟨w1, m0⟩ c1 c2 hx hb (by omega), Option.bind_some]
      rw [List.take_zero] at hd
      rw [show (0 : Int) = ((0 : Nat) : Int) from rfl, hd, Option.bind_some]
      rfl
  · rw [h2, Option.bind_some, if_neg (by decide), lap_next_bad h1 (by decide)]
theorem same13 {l : List Int} (hl : l.length ≤ 2000) (s m : Int) {k : Nat} (hk : l.length + 1 ≤ k) : reedpiperef13_Same.f k l s m l s m = some true := by
  unfold reedpiperef13_Same.f
  rw [same11 hl hk, Option.bind_some, if_pos rfl, if_pos rfl, show (m == m) = true from beq_self_eq_true m]
theorem refnew_is : reedpiperef13_New.f = some (List.replicate 256 0, 0, 0) := by
  unfold reedpiperef13_New.f
  rw [if_pos (by decide)]

end Go.Proofs.Ytpoppdaaodmicaa.Q
