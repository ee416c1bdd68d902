/- The document's own transform, and back: the same lists as the program's. -/
import Derived.Test.YtpoppdaaodmicaaM7
import Derived.Test.YtpoppdaaodmicaaT4
import Derived.Test.YtpoppdaaodmicaaQ48
import Derived.Test.YtpoppdaaodmicaaQ49
import Derived.Test.YtpoppdaaodmicaaQ50
namespace Go.Proofs.Ytpoppdaaodmicaa.Q
open Go.RowKit Go.Proofs.YtpoppdaaodmicaaW.PrintWords Go.Proofs.YtpoppdaaodmicaaW.PrintLast Go.Proofs.YtpoppdaaodmicaaW.PrintMore

theorem sized_ms {m b : Nat} {s : Int} (hs : Sized m s b) : (m = 256 ∧ s = 1) ∨ (m = 32 ∧ s = 8) := by
  rcases hs with ⟨h1, h2, _⟩ | ⟨h1, h2, _⟩
  · exact .inl ⟨h1, h2⟩
  · exact .inr ⟨h1, h2⟩
/-! ### two lists that are one -/
theorem same11_from {l : List Int} (hl : l.length ≤ 2000) (d : Nat) : ∀ (k i : Nat), i + d = l.length → d + 1 ≤ k → reedpiperef11_Same.l0 k l l (i : Int) = some true := by
  induction d with
  | zero =>
    intro k i hi hk
    obtain ⟨k, rfl⟩ : ∃ j, k = j + 1 := ⟨k - 1, by omega⟩
    rw [reedpiperef11_Same.l0.eq_2, if_neg (by omega)]
  | succ d ih =>
    intro k i hi hk
    obtain ⟨k, rfl⟩ : ∃ j, k = j + 1 := ⟨k - 1, by omega⟩
    rw [reedpiperef11_Same.l0.eq_2, if_pos (by omega), if_pos (by omega), if_pos (by omega), if_pos rfl, wrap_in (by omega) (by omega)]
    exact ih k (i + 1) (by omega) (by omega)
theorem same11 {l : List Int} (hl : l.length ≤ 2000) {k : Nat} (hk : l.length + 1 ≤ k) : reedpiperef11_Same.f k l l = some true := by
  unfold reedpiperef11_Same.f
  rw [if_pos rfl]
  exact same11_from hl l.length k 0 (by omega) hk
/-! ### are all so great at most -/
theorem in11_from {l : List Int} {X : Int} (hX : 0 ≤ X ∧ X ≤ 1073741824) (hl : l.length ≤ 2000) (d : Nat) : ∀ (k i : Nat), i + d = l.length → d + 1 ≤ k →
    (reedpiperef11_in.l0 k l X (i : Int) = some true ∧ ∀ j : Nat, i ≤ j → j < l.length → -X ≤ rd l (j : Int) ∧ rd l (j : Int) ≤ X) ∨ (reedpiperef11_in.l0 k l X (i : Int) = some false ∧ ∃ j : Nat, j < l.length ∧ ¬ (-X ≤ rd l (j : Int) ∧ rd l (j : Int) ≤ X)) := by
  induction d with
  | zero =>
    intro k i hi hk
    obtain ⟨k, rfl⟩ : ∃ j, k = j + 1 := ⟨k - 1, by omega⟩
    rw [reedpiperef11_in.l0.eq_2, if_neg (by omega)]
    exact .inl ⟨rfl, fun j _ _ => by omega⟩
  | succ d ih =>
    intro k i hi hk
    obtain ⟨k, rfl⟩ : ∃ j, k = j + 1 := ⟨k - 1, by omega⟩
    have hil : i < l.length := by omega
    have e := ih k (i + 1) (by omega) (by omega)
    rw [reedpiperef11_in.l0.eq_2, if_pos (by omega), if_pos (by omega), wrap_in (n := -X) (by omega) (by omega), wrap_in (n := (i : Int) + 1) (by omega) (by omega)]
    rw [show (((i + 1 : Nat)) : Int) = (i : Int) + 1 by omega] at e
    by_cases h1 : rd l (i : Int) < -X
    · rw [if_pos h1]; exact .inr ⟨rfl, i, hil, by omega⟩
    · rw [if_neg h1]
      by_cases h2 : rd l (i : Int) > X
      · rw [if_pos h2]; exact .inr ⟨rfl, i, hil, by omega⟩
      · rw [if_neg h2]
        rcases e with ⟨e1, e2⟩ | e
        · refine .inl ⟨e1, fun j h3 h4 => ?_⟩
          by_cases h5 : j = i
          · subst h5; omega
          · exact e2 j (by omega) h4
        · exact .inr e
theorem rd_mem {l : List Int} {j : Nat} (h : j < l.length) : rd l (j : Int) ∈ l := by
  unfold rd
  rw [show ((j : Int)).toNat = j by omega, List.getD_eq_getElem?_getD, List.getElem?_eq_getElem h]
  exact List.getElem_mem h
theorem in11 {l : List Int} {X : Int} (hX : 0 ≤ X ∧ X ≤ 1073741824) (hl : l.length ≤ 2000) {k : Nat} (hk : l.length + 1 ≤ k) :
    (reedpiperef11_in.f k l X = some true ∧ AllIn X l) ∨ (reedpiperef11_in.f k l X = some false ∧ ¬ AllIn X l) := by
  unfold reedpiperef11_in.f
  rcases in11_from hX hl l.length k 0 (by omega) hk with ⟨h1, h2⟩ | ⟨h1, j, h2, h3⟩
  · refine .inl ⟨h1, fun x hx => ?_⟩
    obtain ⟨j, hj, rfl⟩ := List.getElem_of_mem hx
    have e := h2 j (by omega) hj
    unfold rd at e
    rw [show ((j : Int)).toNat = j by omega, List.getD_eq_getElem?_getD, List.getElem?_eq_getElem hj] at e
    exact e
  · exact .inr ⟨h1, fun h => h3 (h _ (rd_mem h2))⟩
/-! ### the table of cosines -/
def tableL : List Int := (List.range 2048).map (fun n : Nat => Tab.C (n : Int))
theorem tableL_length : tableL.length = 2048 := by unfold tableL; rw [List.length_map, List.length_range]
theorem rd_table {t : Int} (h0 : 0 ≤ t) (h1 : t < 2048) : rd tableL t = Tab.C t := by
  obtain ⟨n, rfl⟩ : ∃ n : Nat, t = n := ⟨t.toNat, by omega⟩
  exact rd_map_range (f := fun n : Nat => Tab.C (n : Int)) (by omega)
theorem table_l0 (d : Nat) : ∀ (k i : Nat), i + d = 2048 → d + 20 ≤ k → reedpiperef04_Table.l0 k ((List.range i).map (fun n : Nat => Tab.C (n : Int))) (i : Int) = some tableL := by
  induction d with
  | zero =>
    intro k i hi hk
    obtain ⟨k, rfl⟩ : ∃ j, k = j + 1 := ⟨k - 1, by omega⟩
    obtain rfl : i = 2048 := by omega
    rw [reedpiperef04_Table.l0.eq_2, if_neg (by omega)]
    rfl
  | succ d ih =>
    intro k i hi hk
    obtain ⟨k, rfl⟩ : ∃ j, k = j + 1 := ⟨k - 1, by omega⟩
    have e := ih k (i + 1) (by omega) (by omega)
    rw [show (((i + 1 : Nat)) : Int) = (i : Int) + 1 by omega, List.range_succ, List.map_append] at e
    rw [reedpiperef04_Table.l0.eq_2, if_pos (by omega), refcos_is _ (by omega), Option.bind_some, if_pos (by rw [List.length_map, List.length_range]; omega), wrap_in (by omega) (by omega)]
    exact e
theorem table_is {k : Nat} (hk : 2100 ≤ k) : reedpiperef04_Table.f k = some tableL := by
  unfold reedpiperef04_Table.f
  exact table_l0 2048 k 0 (by omega) (by omega)
/-! ### the arc -/
theorem arc_bound {m n k : Nat} {s : Int} (hs : (m = 256 ∧ s = 1) ∨ (m = 32 ∧ s = 8)) (hn : n < 2 * m) (hk : k < m) : 0 ≤ (2 * (n : Int) + 1 + (m : Int)) * (2 * (k : Int) + 1) ∧ (2 * (n : Int) + 1 + (m : Int)) * (2 * (k : Int) + 1) ≤ 1280 * 512 := by
  refine ⟨Int.mul_nonneg (by omega) (by omega), Int.mul_le_mul ?_ ?_ (by omega) (by omega)⟩ <;> rcases hs with ⟨rfl, _⟩ | ⟨rfl, _⟩ <;> omega
theorem arc_is {m n k : Nat} {s : Int} (hs : (m = 256 ∧ s = 1) ∨ (m = 32 ∧ s = 8)) (hn : n < 2 * m) (hk : k < m) : reedpiperef11_arc.f (n : Int) (k : Int) (m : Int) = some (arcAt m s n k % 2048) := by
  have hb := arc_bound hs hn hk
  have hm : m ≤ 256 := by rcases hs with ⟨rfl, _⟩ | ⟨rfl, _⟩ <;> omega
  have ea : arcAt m s n k = (2 * (n : Int) + 1 + (m : Int)) * (2 * (k : Int) + 1) * s := by unfold arcAt; rw [Int.mul_assoc]
  have e1 : wrap64 (2 * (n : Int)) = 2 * (n : Int) := wrap_in (by omega) (by omega)
  have e2 : wrap64 (2 * (n : Int) + 1) = 2 * (n : Int) + 1 := wrap_in (by omega) (by omega)
  have e3 : wrap64 (2 * (n : Int) + 1 + (m : Int)) = 2 * (n : Int) + 1 + (m : Int) := wrap_in (by omega) (by omega)
  have e4 : wrap64 (2 * (k : Int)) = 2 * (k : Int) := wrap_in (by omega) (by omega)
  have e5 : wrap64 (2 * (k : Int) + 1) = 2 * (k : Int) + 1 := wrap_in (by omega) (by omega)
  unfold reedpiperef11_arc.f
  rw [e1, e2, e3, e4, e5, ea]
  clear e1 e2 e3 e4 e5 ea
  generalize (2 * (n : Int) + 1 + (m : Int)) * (2 * (k : Int) + 1) = p at *
  have e6 : wrap64 p = p := wrap_in (by omega) (by omega)
  rw [e6]
  rcases hs with ⟨rfl, rfl⟩ | ⟨rfl, rfl⟩
  · rw [if_neg (by decide), wrap_in (n := p * 1) (by omega) (by omega), Int.tmod_eq_emod_of_nonneg (by omega)]
  · rw [if_pos (by decide), wrap_in (n := p * 8) (by omega) (by omega), Int.tmod_eq_emod_of_nonneg (by omega)]
/-! ### lines -/
theorem sm_le {z : List Int} {X : Int} (hz : AllIn X z) (g : Nat → Int) {i : Nat} (hi : i ≤ z.length) : -((i : Int) * (X * 67108864)) ≤ sm i (fun i => rd z (i : Int) * Tab.C (g i)) ∧ sm i (fun i => rd z (i : Int) * Tab.C (g i)) ≤ (i : Int) * (X * 67108864) :=
  sm_bound fun j hj => mul_C (hz _ (rd_mem (by omega))) _
theorem reflines_l1 {m : Nat} {s : Int} (hs : (m = 256 ∧ s = 1) ∨ (m = 32 ∧ s = 8)) {z : List Int} (hl : z.length = 2 * m) (hz : AllIn 8388608 z) {t : Nat} (ht : t < m) {acc : List Int} (hacc : acc.length ≤ 1000) (d : Nat) : ∀ (k i : Nat), i + d = 2 * m →
    reedpiperef11_Lines.l1 (k + d + 1) z (m : Int) tableL acc (t : Int) (sm i (fun i => rd z (i : Int) * Tab.C (arcAt m s i t))) (i : Int) = reedpiperef11_Lines.l0 k z (m : Int) tableL (acc ++ [lineAt m s z t]) ((t : Int) + 1) := by
  have hm : m ≤ 256 := by rcases hs with ⟨rfl, _⟩ | ⟨rfl, _⟩ <;> omega
  induction d with
  | zero =>
    intro k i hi
    have c0 : ¬ (i : Int) < 2 * (m : Int) := by omega
    have c1 : wrap64 (2 * (m : Int)) = 2 * (m : Int) := wrap_in (by omega) (by omega)
    have c2 : wrap64 ((t : Int) + 1) = (t : Int) + 1 := wrap_in (by omega) (by omega)
    obtain rfl : i = 2 * m := by omega
    have hb := sm_le hz (fun i => arcAt m s i t) (i := 2 * m) (by omega)
    have hd := down_is (n := sm (2 * m) (fun i => rd z (i : Int) * Tab.C (arcAt m s i t))) (b := 33) (by omega) (by omega) (by omega) (by omega)
    rw [show ((33 : Nat) : Int) = 33 from rfl] at hd
    rw [lineAt_sum hl, show k + 0 + 1 = k + 1 by omega, reedpiperef11_Lines.l1.eq_2, c1, if_neg c0, hd, Option.bind_some, if_pos (by omega), c2]
    rfl
  | succ d ih =>
    intro k i hi
    have e := ih k (i + 1) (by omega)
    have c0 : (i : Int) < 2 * (m : Int) := by omega
    have c3 : (0 : Int) ≤ (i : Int) := by omega
    have c4 : (i : Int) < (z.length : Int) := by omega
    have c1 : wrap64 (2 * (m : Int)) = 2 * (m : Int) := wrap_in (by omega) (by omega)
    have c2 : wrap64 ((i : Int) + 1) = (i : Int) + 1 := wrap_in (by omega) (by omega)
    have ha := arc_is hs (n := i) (k := t) (by omega) ht
    have hb := sm_le hz (fun i => arcAt m s i t) (i := i) (by omega)
    have hx := mul_C (hz _ (rd_mem (l := z) (j := i) (by omega))) (arcAt m s i t)
    have hT : rd tableL (arcAt m s i t % 2048) = Tab.C (arcAt m s i t) := by
      rw [rd_table (by omega) (by omega)]
      exact Tab.C_same (by omega)
    rw [show (((i + 1 : Nat)) : Int) = (i : Int) + 1 by omega, sm] at e
    rw [show k + (d + 1) + 1 = (k + d + 1) + 1 by omega, reedpiperef11_Lines.l1.eq_2, c1, if_pos c0, if_pos c3, if_pos c4, ha, Option.bind_some, if_pos (by omega), if_pos (by rw [tableL_length]; omega), hT, c2]
    clear ha hT c0 c1 c2 c3 c4 ih
    generalize sm i (fun i => rd z (i : Int) * Tab.C (arcAt m s i t)) = u at *
    generalize rd z (i : Int) * Tab.C (arcAt m s i t) = v at *
    have w1 : wrap64 v = v := wrap_in (by omega) (by omega)
    have w2 : wrap64 (u + v) = u + v := wrap_in (by omega) (by omega)
    rw [w1, w2]
    exact e
theorem reflines_l0 {m : Nat} {s : Int} (hs : (m = 256 ∧ s = 1) ∨ (m = 32 ∧ s = 8)) {z : List Int} (hl : z.length = 2 * m) (hz : AllIn 8388608 z) (d : Nat) : ∀ (k t : Nat), t + d = m → d * (2 * m + 2) + 1 ≤ k →
    reedpiperef11_Lines.l0 k z (m : Int) tableL ((List.range t).map (lineAt m s z)) (t : Int) = some ((List.range m).map (lineAt m s z)) := by
  have hm : m ≤ 256 := by rcases hs with ⟨rfl, _⟩ | ⟨rfl, _⟩ <;> omega
  induction d with
  | zero =>
    intro k t ht hk
    obtain ⟨k, rfl⟩ : ∃ j, k = j + 1 := ⟨k - 1, by omega⟩
    obtain rfl : t = m := by omega
    rw [reedpiperef11_Lines.l0.eq_2, if_neg (by omega)]
  | succ d ih =>
    intro k t ht hk
    rw [Nat.add_mul, Nat.one_mul] at hk
    obtain ⟨k, rfl⟩ : ∃ j, k = j + 2 * m + 1 + 1 := ⟨k - 2 * m - 2, by omega⟩
    have e := ih k (t + 1) (by omega) (by omega)
    have h1 := reflines_l1 hs hl hz (t := t) (by omega) (acc := (List.range t).map (lineAt m s z)) (by rw [List.length_map, List.length_range]; omega) (2 * m) k 0 (by omega)
    rw [show (((t + 1 : Nat)) : Int) = (t : Int) + 1 by omega, List.range_succ, List.map_append] at e
    rw [reedpiperef11_Lines.l0.eq_2, if_pos (by omega)]
    exact h1.trans e
theorem reflines_is {m b : Nat} {s : Int} (hs : Sized m s b) {z : List Int} (hl : z.length = 2 * m) (hz : AllIn 8388608 z) {k : Nat} (hk : 200000 ≤ k) : reedpiperef11_Lines.f k z = some ((List.range m).map (lineAt m s z)) := by
  have hm : m ≤ 256 := by rcases hs with ⟨rfl, _⟩ | ⟨rfl, _⟩ <;> omega
  have hs' : (m = 256 ∧ s = 1) ∨ (m = 32 ∧ s = 8) := sized_ms hs
  have hw : wrap64 ((z.length : Int) / 2) = (m : Int) := by rw [wrap_in (by omega) (by omega)]; omega
  unfold reedpiperef11_Lines.f
  rw [table_is (by omega), Option.bind_some, hw]
  refine reflines_l0 hs' hl hz m k 0 (by omega) ?_
  have := Nat.mul_le_mul hm (show 2 * m + 2 ≤ 514 by omega)
  omega
/-! ### back -/
theorem refback_l1 {m b : Nat} {s : Int} (hs : Sized m s b) {x : List Int} (hl : x.length = m) (hx : AllIn 268435455 x) {n : Nat} (hn : n < 2 * m) {acc : List Int} (hacc : acc.length ≤ 1000) (d : Nat) : ∀ (k i : Nat), i + d = m →
    reedpiperef11_Back.l1 (k + d + 1) x (m : Int) (b : Int) tableL acc (n : Int) (sm i (fun i => rd x (i : Int) * Tab.C (arcAt m s n i))) (i : Int) = reedpiperef11_Back.l0 k x (m : Int) (b : Int) tableL (acc ++ [backAt m s b x n]) ((n : Int) + 1) := by
  have hm : m ≤ 256 ∧ 1 ≤ b ∧ b ≤ 62 := by rcases hs with ⟨rfl, _, rfl⟩ | ⟨rfl, _, rfl⟩ <;> omega
  have hs' : (m = 256 ∧ s = 1) ∨ (m = 32 ∧ s = 8) := sized_ms hs
  induction d with
  | zero =>
    intro k i hi
    have c0 : ¬ (i : Int) < (m : Int) := by omega
    have c2 : wrap64 ((n : Int) + 1) = (n : Int) + 1 := wrap_in (by omega) (by omega)
    obtain rfl : i = m := by omega
    have hb := sm_le hx (fun k => arcAt i s n k) (i := i) (by omega)
    have hd := down_is (n := sm i (fun k => rd x (k : Int) * Tab.C (arcAt i s n k))) (b := b) (by omega) (by omega) hm.2.1 hm.2.2
    rw [backAt_sum hl, show k + 0 + 1 = k + 1 by omega, reedpiperef11_Back.l1.eq_2, if_neg c0, hd, Option.bind_some, if_pos (by omega), c2]
  | succ d ih =>
    intro k i hi
    have e := ih k (i + 1) (by omega)
    have c0 : (i : Int) < (m : Int) := by omega
    have c3 : (0 : Int) ≤ (i : Int) := by omega
    have c4 : (i : Int) < (x.length : Int) := by omega
    have c2 : wrap64 ((i : Int) + 1) = (i : Int) + 1 := wrap_in (by omega) (by omega)
    have ha := arc_is hs' (n := n) (k := i) hn (by omega)
    have hb := sm_le hx (fun k => arcAt m s n k) (i := i) (by omega)
    have hv := mul_C (hx _ (rd_mem (l := x) (j := i) (by omega))) (arcAt m s n i)
    have hT : rd tableL (arcAt m s n i % 2048) = Tab.C (arcAt m s n i) := by
      rw [rd_table (by omega) (by omega)]
      exact Tab.C_same (by omega)
    rw [show (((i + 1 : Nat)) : Int) = (i : Int) + 1 by omega, sm] at e
    rw [show k + (d + 1) + 1 = (k + d + 1) + 1 by omega, reedpiperef11_Back.l1.eq_2, if_pos c0, if_pos c3, if_pos c4, ha, Option.bind_some, if_pos (by omega), if_pos (by rw [tableL_length]; omega), hT, c2]
    clear ha hT c0 c2 c3 c4 ih
    generalize sm i (fun i => rd x (i : Int) * Tab.C (arcAt m s n i)) = u at *
    generalize rd x (i : Int) * Tab.C (arcAt m s n i) = v at *
    have w1 : wrap64 v = v := wrap_in (by omega) (by omega)
    have w2 : wrap64 (u + v) = u + v := wrap_in (by omega) (by omega)
    rw [w1, w2]
    exact e
theorem refback_l0 {m b : Nat} {s : Int} (hs : Sized m s b) {x : List Int} (hl : x.length = m) (hx : AllIn 268435455 x) (d : Nat) : ∀ (k n : Nat), n + d = 2 * m → d * (m + 2) + 1 ≤ k →
    reedpiperef11_Back.l0 k x (m : Int) (b : Int) tableL ((List.range n).map (backAt m s b x)) (n : Int) = some ((List.range (2 * m)).map (backAt m s b x)) := by
  have hm : m ≤ 256 := by rcases hs with ⟨rfl, _⟩ | ⟨rfl, _⟩ <;> omega
  have c1 : wrap64 (2 * (m : Int)) = 2 * (m : Int) := wrap_in (by omega) (by omega)
  induction d with
  | zero =>
    intro k n hn hk
    obtain ⟨k, rfl⟩ : ∃ j, k = j + 1 := ⟨k - 1, by omega⟩
    obtain rfl : n = 2 * m := by omega
    rw [reedpiperef11_Back.l0.eq_2, c1, if_neg (by omega)]
  | succ d ih =>
    intro k n hn hk
    rw [Nat.add_mul, Nat.one_mul] at hk
    obtain ⟨k, rfl⟩ : ∃ j, k = j + m + 1 + 1 := ⟨k - m - 2, by omega⟩
    have e := ih k (n + 1) (by omega) (by omega)
    have h1 := refback_l1 hs hl hx (n := n) (by omega) (acc := (List.range n).map (backAt m s b x)) (by rw [List.length_map, List.length_range]; omega) m k 0 (by omega)
    rw [show (((n + 1 : Nat)) : Int) = (n : Int) + 1 by omega, List.range_succ, List.map_append] at e
    rw [reedpiperef11_Back.l0.eq_2, c1, if_pos (by omega)]
    exact h1.trans e
theorem refback_is {m b : Nat} {s : Int} (hs : Sized m s b) {x : List Int} (hl : x.length = m) (hx : AllIn 268435455 x) {k : Nat} (hk : 200000 ≤ k) : reedpiperef11_Back.f k x = some ((List.range (2 * m)).map (backAt m s b x)) := by
  have hm : m ≤ 256 := by rcases hs with ⟨rfl, _⟩ | ⟨rfl, _⟩ <;> omega
  have hk2 : 2 * m * (m + 2) ≤ 512 * 258 := Nat.mul_le_mul (by omega) (by omega)
  have h0 := refback_l0 hs hl hx (2 * m) (k - 1) 0 (by omega) (by omega)
  obtain ⟨k, rfl⟩ : ∃ j, k = j + 1 := ⟨k - 1, by omega⟩
  rw [show k + 1 - 1 = k by omega] at h0
  unfold reedpiperef11_Back.f
  rw [hl]
  rcases hs with ⟨rfl, rfl, rfl⟩ | ⟨rfl, rfl, rfl⟩
  · rw [if_neg (by decide), reedpiperef11_Back.j0.eq_2, table_is (by omega), Option.bind_some]
    exact h0
  · rw [if_pos (by decide), reedpiperef11_Back.j0.eq_2, table_is (by omega), Option.bind_some]
    exact h0
theorem refforward {z : List Int} {k : Nat} (hk : 200100 ≤ k) : reedpiperef11_Forward.f k z = mdct_Forward.f z := by
  obtain ⟨k, rfl⟩ : ∃ j, k = j + 1 := ⟨k - 1, by omega⟩
  have hne : ∀ {l : Nat}, l ≠ 64 → ((l : Int) != 64) = true := fun h => by simp; omega
  unfold reedpiperef11_Forward.f
  rcases forward_cases z with ⟨h, h1, h2⟩ | ⟨h, h1, h2⟩ | ⟨m, s, b, hs, hl, hz, h⟩
  · rw [h, if_neg (by omega), hne h2, reedpiperef11_Forward.j0.eq_2, if_pos rfl]
  · have hj : reedpiperef11_Forward.j0 (k + 1) z false = some ([], 2) := by
      rw [reedpiperef11_Forward.j0.eq_2, if_neg (by simp)]
      rcases in11 (l := z) (X := 8388608) (by omega) (by omega) (k := k) (by omega) with ⟨e, e2⟩ | ⟨e, _⟩
      · exact absurd e2 h2
      · rw [e, Option.bind_some, if_neg (by simp)]
    rw [h]
    rcases h1 with h1 | h1
    · rw [if_pos (by omega), hj]
    · rw [if_neg (by omega), h1, show (((64 : Nat) : Int) != 64) = false from rfl, hj]
  · have hj : reedpiperef11_Forward.j0 (k + 1) z false = mdct_Forward.f z := by
      rw [reedpiperef11_Forward.j0.eq_2, if_neg (by simp), h]
      rcases in11 (l := z) (X := 8388608) (by omega) (by rcases hs with ⟨rfl, _⟩ | ⟨rfl, _⟩ <;> omega) (k := k) (by rcases hs with ⟨rfl, _⟩ | ⟨rfl, _⟩ <;> omega) with ⟨e, _⟩ | ⟨_, e⟩
      · rw [e, Option.bind_some, if_pos rfl, reflines_is hs hl hz (by omega), Option.bind_some]
      · exact absurd hz e
    rw [← hj, hl]
    rcases hs with ⟨rfl, _⟩ | ⟨rfl, _⟩
    · rw [if_pos (by decide)]
    · rw [if_neg (by decide)]; rfl
theorem refinverse {x : List Int} {k : Nat} (hk : 200100 ≤ k) : reedpiperef11_Inverse.f k x = mdct_Inverse.f x := by
  obtain ⟨k, rfl⟩ : ∃ j, k = j + 1 := ⟨k - 1, by omega⟩
  have hne : ∀ {l : Nat}, l ≠ 32 → ((l : Int) != 32) = true := fun h => by simp; omega
  unfold reedpiperef11_Inverse.f
  rcases inverse_cases x with ⟨h, h1, h2⟩ | ⟨h, h1, h2⟩ | ⟨m, s, b, hs, hl, hx, h⟩
  · rw [h, if_neg (by omega), hne h2, reedpiperef11_Inverse.j0.eq_2, if_pos rfl]
  · have hj : reedpiperef11_Inverse.j0 (k + 1) x false = some ([], 2) := by
      rw [reedpiperef11_Inverse.j0.eq_2, if_neg (by simp)]
      rcases in11 (l := x) (X := 268435455) (by omega) (by omega) (k := k) (by omega) with ⟨e, e2⟩ | ⟨e, _⟩
      · exact absurd e2 h2
      · rw [e, Option.bind_some, if_neg (by simp)]
    rw [h]
    rcases h1 with h1 | h1
    · rw [if_pos (by omega), hj]
    · rw [if_neg (by omega), h1, show (((32 : Nat) : Int) != 32) = false from rfl, hj]
  · have hj : reedpiperef11_Inverse.j0 (k + 1) x false = mdct_Inverse.f x := by
      rw [reedpiperef11_Inverse.j0.eq_2, if_neg (by simp), h]
      rcases in11 (l := x) (X := 268435455) (by omega) (by rcases hs with ⟨rfl, _⟩ | ⟨rfl, _⟩ <;> omega) (k := k) (by rcases hs with ⟨rfl, _⟩ | ⟨rfl, _⟩ <;> omega) with ⟨e, _⟩ | ⟨_, e⟩
      · rw [e, Option.bind_some, if_pos rfl, refback_is hs hl hx (by omega), Option.bind_some]
      · exact absurd hx e
    rw [← hj, hl]
    rcases hs with ⟨rfl, _⟩ | ⟨rfl, _⟩
    · rw [if_pos (by decide)]
    · rw [if_neg (by decide)]; rfl

end Go.Proofs.Ytpoppdaaodmicaa.Q
