/- The document's windows, lines and numbers (layer 12) are the program's. -/
import Derived.Test.YtpoppdaaodmicaaBSynthJ
import Derived.Test.YtpoppdaaodmicaaBRefTrigJ
import Derived.Test.YtpoppdaaodmicaaV4
import Derived.Test.YtpoppdaaodmicaaQ55
import Derived.Test.YtpoppdaaodmicaaQ56
import Derived.Test.YtpoppdaaodmicaaQ57
namespace Go.Proofs.Ytpoppdaaodmicaa.Q
open Go.RowKit Go.Proofs.YtpoppdaaodmicaaW.PrintWords Go.Proofs.YtpoppdaaodmicaaW.PrintLast Go.Proofs.YtpoppdaaodmicaaW.PrintMore

theorem wnat {a b : Nat} (h : a + b < 100000) : wrap64 ((a : Int) + (b : Int)) = ((a + b : Nat) : Int) := by rw [wrap_in (by omega) (by omega)]; omega
theorem wsucc {a : Nat} (h : a < 100000) : wrap64 ((a : Int) + 1) = ((a + 1 : Nat) : Int) := by rw [wrap_in (by omega) (by omega)]; omega
theorem refsame_l0 (v : Int) {n : Nat} (hn : n ≤ 1000) (d : Nat) : ∀ (k i : Nat), i + d = n → d + 1 ≤ k → reedpiperef12_same.l0 k v (n : Int) (List.replicate i v) (i : Int) = some (List.replicate n v) := by
  induction d with
  | zero =>
    intro k i hi hk
    obtain ⟨k, rfl⟩ : ∃ j, k = j + 1 := ⟨k - 1, by omega⟩
    obtain rfl : i = n := by omega
    rw [reedpiperef12_same.l0.eq_2, if_neg (by omega)]
  | succ d ih =>
    intro k i hi hk
    obtain ⟨k, rfl⟩ : ∃ j, k = j + 1 := ⟨k - 1, by omega⟩
    have e := ih k (i + 1) (by omega) (by omega)
    have g1 : (i : Int) < (n : Int) := by omega
    have g2 : i < 17592186044416 := by omega
    rw [List.replicate_succ'] at e
    rw [reedpiperef12_same.l0.eq_2, if_pos g1, List.length_replicate, if_pos g2, wsucc (by omega)]
    exact e
theorem refsame_is (v : Int) {n : Nat} (hn : n ≤ 1000) {k : Nat} (hk : n + 1 ≤ k) : reedpiperef12_same.f k v (n : Int) = some (List.replicate n v) := by
  unfold reedpiperef12_same.f
  exact refsame_l0 v hn n k 0 (by omega) hk
theorem refrev_l0 {l : List Int} (hl : l.length ≤ 1000) (d : Nat) : ∀ (k j : Nat), j + d = l.length → d + 1 ≤ k → reedpiperef12_back.l0 k l (l.reverse.take j) ((l.length : Int) - 1 - (j : Int)) = some l.reverse := by
  induction d with
  | zero =>
    intro k j hi hk
    obtain ⟨k, rfl⟩ : ∃ j, k = j + 1 := ⟨k - 1, by omega⟩
    have g1 : ¬ ((l.length : Int) - 1 - (j : Int)) ≥ 0 := by omega
    rw [reedpiperef12_back.l0.eq_2, if_neg g1, List.take_of_length_le (by rw [List.length_reverse]; omega)]
  | succ d ih =>
    intro k j hi hk
    obtain ⟨k, rfl⟩ : ∃ j, k = j + 1 := ⟨k - 1, by omega⟩
    have e := ih k (j + 1) (by omega) (by omega)
    obtain ⟨m, hm, hml⟩ : ∃ m : Nat, m = l.length - 1 - j ∧ m < l.length := ⟨_, rfl, by omega⟩
    have ei : (l.length : Int) - 1 - (j : Int) = (m : Int) := by omega
    have e2 : (l.length : Int) - 1 - ((j + 1 : Nat) : Int) = (m : Int) - 1 := by omega
    have hr : l.reverse[j]? = some (rd l (m : Int)) := by
      rw [List.getElem?_reverse (by omega), ← hm]
      unfold rd
      rw [show ((m : Int)).toNat = m by omega, List.getD_eq_getElem?_getD, List.getElem?_eq_getElem hml]; rfl
    have g1 : (m : Int) ≥ 0 := by omega
    have g2 : (m : Int) < (l.length : Int) := by omega
    have g3 : (l.reverse.take j).length < 17592186044416 := by rw [List.length_take, List.length_reverse]; omega
    have q : wrap64 ((m : Int) - 1) = (m : Int) - 1 := wrap_in (by omega) (by omega)
    rw [e2] at e
    rw [ei, reedpiperef12_back.l0.eq_2, if_pos g1, if_pos g1, if_pos g2, if_pos g3, q, take_add hr]
    exact e
theorem refrev_is {l : List Int} (hl : l.length ≤ 1000) {k : Nat} (hk : l.length + 1 ≤ k) : reedpiperef12_back.f k l = some l.reverse := by
  have h := refrev_l0 hl l.length k 0 (by omega) hk
  unfold reedpiperef12_back.f
  rw [wrap_in (by omega) (by omega)]
  rw [List.take_zero, show (l.length : Int) - 1 - ((0 : Nat) : Int) = (l.length : Int) - 1 by omega] at h
  exact h
theorem half256 (a : Int) : (halfL a false).length = 256 := by rw [halfL_length]; rfl
theorem half32' (a : Int) : (halfL a true).length = 32 := by rw [halfL_length]; rfl
theorem revL (a : Int) (b : Bool) {k : Nat} (hk : 300 ≤ k) : reedpiperef12_back.f k (halfL a b) = some (halfL a b).reverse := by
  have hl := halfL_length a b
  have : (halfL a b).length ≤ 256 := by rw [hl]; split <;> omega
  exact refrev_is (by omega) (by omega)
theorem refvalues_is {a0 a1 a2 : Int} (h0 : a0 = 0 ∨ a0 = 1 ∨ a0 = 3) (h1 : a1 = 0 ∨ a1 = 1) (h2 : a2 = 0 ∨ a2 = 1) {k : Nat} (hk : 1000 ≤ k) : reedpiperef12_Values.f k a0 a1 a2 = some (winL a0 a1 a2) := by
  have s1 : reedpiperef12_same.f k 0 112 = some (List.replicate 112 0) := refsame_is (n := 112) 0 (by omega) (by omega)
  have s2 : reedpiperef12_same.f k 4194304 112 = some (List.replicate 112 4194304) := refsame_is (n := 112) 4194304 (by omega) (by omega)
  have l1 := half256 a1
  have l2 := half32' a1
  have l3 := half256 a2
  have l4 := half32' a2
  have r1 := revL a2 false (k := k) (by omega)
  have r2 := revL a2 true (k := k) (by omega)
  have v1 := values_is h1 (a1 := false) (k := k) (by omega)
  have v2 := values_is h1 (a1 := true) (k := k) (by omega)
  have v3 := values_is h2 (a1 := false) (k := k) (by omega)
  have v4 := values_is h2 (a1 := true) (k := k) (by omega)
  unfold winL firstL secondL
  generalize halfL a1 false = A at *
  generalize halfL a1 true = B at *
  generalize halfL a2 false = C at *
  generalize halfL a2 true = D at *
  obtain ⟨n, hn⟩ : ∃ n : Nat, n = 112 := ⟨_, rfl⟩
  rw [← hn] at s1 s2 ⊢
  unfold reedpiperef12_Values.f
  rcases h0 with rfl | rfl | rfl
  · rw [if_neg (by decide), if_neg (by decide), if_neg (by decide), v1, Option.bind_some, if_pos (by simp only [List.length_nil]; omega), Option.bind_some, if_pos rfl, v3, Option.bind_some, r1, Option.bind_some, if_pos (by simp only [List.length_append, List.length_nil, List.length_reverse]; omega), List.nil_append]
  · rw [if_neg (by decide), if_neg (by decide), if_pos rfl, v1, Option.bind_some, if_pos (by simp only [List.length_nil]; omega), Option.bind_some, if_neg (by decide), s2, Option.bind_some, if_pos (by simp only [List.length_append, List.length_nil, List.length_replicate]; omega), Option.bind_some, v4, Option.bind_some, r2, Option.bind_some,
      if_pos (by simp only [List.length_append, List.length_nil, List.length_replicate, List.length_reverse]; omega), Option.bind_some, s1, Option.bind_some, if_pos (by simp only [List.length_append, List.length_nil, List.length_replicate, List.length_reverse]; omega), List.nil_append, List.append_assoc, List.append_assoc]
  · rw [if_pos rfl, if_pos rfl, if_neg (by decide), s1, Option.bind_some, if_pos (by simp only [List.length_nil, List.length_replicate]; omega), Option.bind_some, v2, Option.bind_some, if_pos (by simp only [List.length_append, List.length_nil, List.length_replicate]; omega), Option.bind_some, s2, Option.bind_some,
      if_pos (by simp only [List.length_append, List.length_nil, List.length_replicate]; omega), Option.bind_some, v3, Option.bind_some, r1, Option.bind_some, if_pos (by simp only [List.length_append, List.length_nil, List.length_replicate, List.length_reverse]; omega), List.nil_append]
    simp only [List.append_assoc]
theorem reflittle_is {a1 a2 : Int} (h1 : a1 = 0 ∨ a1 = 1) (h2 : a2 = 0 ∨ a2 = 1) (i : Nat) {k : Nat} (hk : 1000 ≤ k) : reedpiperef12_Little.f k (i : Int) a1 a2 = some (litL i a1 a2) := by
  have l2 := half32' a1
  have l4 := half32' a2
  have r2 := revL a2 true (k := k) (by omega)
  have v2 := values_is h1 (a1 := true) (k := k) (by omega)
  have v4 := values_is h2 (a1 := true) (k := k) (by omega)
  unfold litL
  generalize halfL a1 true = B at *
  generalize halfL a2 true = D at *
  unfold reedpiperef12_Little.f
  by_cases h : i = 0
  · rw [if_pos (by omega), if_pos h, v2, Option.bind_some, if_pos (by simp only [List.length_nil]; omega), Option.bind_some, v4, Option.bind_some, r2, Option.bind_some, if_pos (by simp only [List.length_append, List.length_nil, List.length_reverse]; omega), List.nil_append]
  · rw [if_neg (by omega), if_neg h, v4, Option.bind_some, if_pos (by simp only [List.length_nil]; omega), Option.bind_some, Option.bind_some, r2, Option.bind_some, if_pos (by simp only [List.length_append, List.length_nil, List.length_reverse]; omega), List.nil_append]
theorem refput_l0 {acc y v : List Int} {p : Nat} (hp : p + y.length ≤ acc.length) (ha : acc.length ≤ 1000) (hv : y.length ≤ v.length) (hx : ∀ i : Nat, i < y.length → -4611686018427387904 ≤ rd y (i : Int) * rd v (i : Int) ∧ rd y (i : Int) * rd v (i : Int) ≤ 4611686018427387904) (d : Nat) : ∀ (k i : Nat), i + d = y.length → d + 1 ≤ k →
    reedpiperef12_put.l0 k (addAt acc p (timesL 26 y v) i) (p : Int) y v (i : Int) = some (addAt acc p (timesL 26 y v) y.length) := by
  induction d with
  | zero =>
    intro k i hi hk
    obtain ⟨k, rfl⟩ : ∃ j, k = j + 1 := ⟨k - 1, by omega⟩
    obtain rfl : i = y.length := by omega
    have g1 : ¬ (y.length : Int) < (y.length : Int) := by omega
    rw [reedpiperef12_put.l0.eq_2, if_neg g1]
  | succ d ih =>
    intro k i hi hk
    obtain ⟨k, rfl⟩ : ∃ j, k = j + 1 := ⟨k - 1, by omega⟩
    have e := ih k (i + 1) (by omega) (by omega)
    have hr : rd (timesL 26 y v) (i : Int) = rnd 26 (rd y (i : Int) * rd v (i : Int)) := by unfold timesL; rw [rd_map_range (by omega)]
    have hal := addAt_length acc p (timesL 26 y v) i
    have g1 : (i : Int) < (y.length : Int) := by omega
    have g2 : (0 : Int) ≤ (i : Int) := by omega
    have g3 : (0 : Int) ≤ ((p + i : Nat) : Int) := by omega
    have g4 : ((p + i : Nat) : Int) < ((addAt acc p (timesL 26 y v) i).length : Int) := by omega
    have g5 : (i : Int) < (v.length : Int) := by omega
    have n1 : p + i < 100000 := by omega
    have n2 : i < 100000 := by omega
    have hxi := hx i (by omega)
    have hd := down_is (n := rd y (i : Int) * rd v (i : Int)) (b := 26) hxi.1 hxi.2 (by omega) (by omega)
    have hw : wrap64 (rd y (i : Int) * rd v (i : Int)) = rd y (i : Int) * rd v (i : Int) := wrap_in (by omega) (by omega)
    rw [addAt, hr] at e
    rw [show ((26 : Nat) : Int) = 26 from rfl] at hd
    rw [reedpiperef12_put.l0.eq_2, if_pos g1, wnat n1, if_pos g3, if_pos g4, if_pos g2, if_pos g5, hw, hd, Option.bind_some, wsucc n2, Int.toNat_natCast]
    exact e
theorem refput_is {acc y v : List Int} {p : Nat} (hp : p + y.length ≤ acc.length) (ha : acc.length ≤ 1000) (hv : y.length ≤ v.length) (hx : ∀ i : Nat, i < y.length → -4611686018427387904 ≤ rd y (i : Int) * rd v (i : Int) ∧ rd y (i : Int) * rd v (i : Int) ≤ 4611686018427387904) {k : Nat} (hk : y.length + 1 ≤ k) :
    reedpiperef12_put.f k acc (p : Int) y v = some (addAt acc p (timesL 26 y v) y.length) := by
  have h := refput_l0 hp ha hv hx y.length k 0 (by omega) hk
  unfold reedpiperef12_put.f
  exact h
theorem refnum_is {a0 a1 a2 : Int} (h1 : a1 = 0 ∨ a1 = 1) (h2 : a2 = 0 ∨ a2 = 1) {l : List Int} (hl : l.length = 256) (hb : AllIn 268435455 l) {i : Nat} (hi : i < anN a0) {k : Nat} (hk : 200000 ≤ k) :
    reedpiperef11_Back.f k ((l.drop (anM a0 * i)).take (anM a0)) = some (bkL a0 l i) ∧ reedpiperef12_put.f k (accL (anPos a0) (snOut a0 a1 a2 l) i) ((anPos a0 i : Nat) : Int) (bkL a0 l i) (anWin a0 a1 a2 i) = some (accL (anPos a0) (snOut a0 a1 a2 l) (i + 1)) := by
  have hcl := an_len (a0 := a0) hl hi
  have hw := anWin_length a0 a1 a2 i
  have hbk := bkL_length a0 l i
  have hp := an_pos_le hi
  have hm := anM_le a0
  refine ⟨refback_is (an_sized a0) hcl (all_cut hb _ _) hk, ?_⟩
  rw [refput_is (by rw [accL_length, hbk]; exact hp) (by rw [accL_length]; omega) (by omega) (fun n hn => by
    rw [hbk] at hn
    unfold bkL
    rw [rd_map_range hn]
    exact prod_big (back_bound (an_sized a0) hcl (all_cut hb _ _) n) (anWin_in (a0 := a0) h1 h2 i n)) (by omega), accL]
  have hs : (snOut a0 a1 a2 l i).length = (bkL a0 l i).length := by rw [snOut_length, hbk]
  rw [hs]
  rfl
theorem refnumbers_l0 {a1 a2 : Int} (h1 : a1 = 0 ∨ a1 = 1) (h2 : a2 = 0 ∨ a2 = 1) {l : List Int} (hl : l.length = 256) (hb : AllIn 268435455 l) (d : Nat) : ∀ (k i : Nat), i + d = 8 → d + 200001 ≤ k →
    reedpiperef12_Numbers.l0 k a1 a2 l (accL (anPos 2) (snOut 2 a1 a2 l) i) (i : Int) = some (snL 2 a1 a2 l) := by
  induction d with
  | zero =>
    intro k i hi hk
    obtain ⟨k, rfl⟩ : ∃ j, k = j + 1 := ⟨k - 1, by omega⟩
    obtain rfl : i = 8 := by omega
    rw [reedpiperef12_Numbers.l0.eq_2, if_neg (by decide)]
    rfl
  | succ d ih =>
    intro k i hi hk
    obtain ⟨k, rfl⟩ : ∃ j, k = j + 1 := ⟨k - 1, by omega⟩
    have e := ih k (i + 1) (by omega) (by omega)
    obtain ⟨f1, f2⟩ := refnum_is (a0 := 2) h1 h2 hl hb (i := i) (by show i < 8; omega) (k := k) (by omega)
    have f0 := reflittle_is h1 h2 i (k := k) (by omega)
    have g1 : (i : Int) < 8 := by omega
    have g2 : (0 : Int) ≤ ((32 * i : Nat) : Int) := by omega
    have g3 : ((32 * i : Nat) : Int) ≤ ((32 * i + 32 : Nat) : Int) := by omega
    have g4 : ((32 * i + 32 : Nat) : Int) ≤ (l.length : Int) := by omega
    have n1 : i < 100000 := by omega
    have ec : (l.take (32 * i + 32)).drop (32 * i) = (l.drop (32 * i)).take 32 := by rw [List.drop_take, show 32 * i + 32 - 32 * i = 32 by omega]
    have q1 : wrap64 (32 * (i : Int)) = ((32 * i : Nat) : Int) := by rw [wrap_in (by omega) (by omega)]; omega
    have q3 : wrap64 (112 + ((32 * i : Nat) : Int)) = ((anPos 2 i : Nat) : Int) := by rw [wrap_in (by omega) (by omega)]; show _ = ((112 + 32 * i : Nat) : Int); omega
    have q2 : wrap64 (((32 * i : Nat) : Int) + 32) = ((32 * i + 32 : Nat) : Int) := by rw [wrap_in (by omega) (by omega)]; omega
    rw [show anM 2 = 32 from rfl, ← ec] at f1
    rw [show anWin 2 a1 a2 i = litL i a1 a2 from rfl] at f2
    rw [reedpiperef12_Numbers.l0.eq_2, if_pos g1, q1, q2, q3, if_pos g2, if_pos g3, if_pos g4, Int.toNat_natCast, Int.toNat_natCast, f1, Option.bind_some, f0, Option.bind_some, f2, Option.bind_some, wsucc n1]
    exact e
theorem refnumbers_is {a0 a1 a2 : Int} (h0 : 0 ≤ a0 ∧ a0 ≤ 3) (h1 : a1 = 0 ∨ a1 = 1) (h2 : a2 = 0 ∨ a2 = 1) {l : List Int} (hl : l.length = 256) (hb : AllIn 268435455 l) {k : Nat} (hk : 200100 ≤ k) : reedpiperef12_Numbers.f k a0 a1 a2 l = some (snL a0 a1 a2 l) := by
  unfold reedpiperef12_Numbers.f
  rw [if_pos (by decide), Option.bind_some]
  by_cases h : a0 = 2
  · subst h
    rw [if_pos rfl]
    exact refnumbers_l0 h1 h2 hl hb 8 k 0 (by omega) (by omega)
  · have e1 : anN a0 = 1 := by unfold anN; rw [if_neg h]
    obtain ⟨f1, f2⟩ := refnum_is (a0 := a0) h1 h2 hl hb (i := 0) (by omega) (k := k) (by omega)
    have e2 : anPos a0 0 = 0 := by unfold anPos; rw [if_neg h]
    have e3 : anWin a0 a1 a2 0 = winL a0 a1 a2 := by unfold anWin; rw [if_neg h]
    have e4 : anM a0 = 256 := by unfold anM; rw [if_neg h]
    rw [e4, Nat.mul_zero, List.drop_zero, List.take_of_length_le (by omega)] at f1
    rw [e2, e3] at f2
    rw [if_neg h, f1, Option.bind_some, refvalues_is (by omega) h1 h2 (by omega), Option.bind_some]
    rw [show (((0 : Nat)) : Int) = 0 from rfl] at f2
    rw [show List.replicate 512 0 = accL (anPos a0) (snOut a0 a1 a2 l) 0 from rfl, f2, Option.bind_some]
    unfold snL
    rw [e1]
theorem refasked_l0 {l : List Int} (hl : l.length ≤ 1000) (low high : Int) (d : Nat) : ∀ (k i : Nat), i + d = l.length → d + 1 ≤ k →
    (reedpiperef12_asked.l0 k l (l.length : Int) low high (i : Int) = some 0 ∧ ∀ j : Nat, i ≤ j → j < l.length → low ≤ rd l (j : Int) ∧ rd l (j : Int) ≤ high) ∨ (reedpiperef12_asked.l0 k l (l.length : Int) low high (i : Int) = some 2 ∧ ¬ Between low high l) := by
  induction d with
  | zero =>
    intro k i hi hk
    obtain ⟨k, rfl⟩ : ∃ j, k = j + 1 := ⟨k - 1, by omega⟩
    have g1 : ¬ (i : Int) < (l.length : Int) := by omega
    rw [reedpiperef12_asked.l0.eq_2, if_neg g1]
    exact .inl ⟨rfl, fun j h1 h2 => by omega⟩
  | succ d ih =>
    intro k i hi hk
    obtain ⟨k, rfl⟩ : ∃ j, k = j + 1 := ⟨k - 1, by omega⟩
    have e := ih k (i + 1) (by omega) (by omega)
    have g1 : (i : Int) < (l.length : Int) := by omega
    have g2 : (0 : Int) ≤ (i : Int) := by omega
    have n1 : i < 100000 := by omega
    have hil : i < l.length := by omega
    rw [reedpiperef12_asked.l0.eq_2, if_pos g1, if_pos g2, if_pos g1, wsucc n1]
    by_cases c1 : rd l (i : Int) < low
    · rw [if_pos c1]
      exact .inr ⟨rfl, fun h => Int.not_le.mpr c1 (h i hil).1⟩
    · rw [if_neg c1]
      by_cases c2 : rd l (i : Int) > high
      · rw [if_pos c2]
        exact .inr ⟨rfl, fun h => Int.not_le.mpr c2 (h i hil).2⟩
      · rw [if_neg c2]
        rcases e with ⟨e, h⟩ | ⟨e, h⟩
        · refine .inl ⟨e, fun j h1 h2 => ?_⟩
          by_cases hj : j = i
          · subst hj; exact ⟨Int.not_lt.mp c1, Int.not_lt.mp c2⟩
          · exact h j (by omega) h2
        · exact .inr ⟨e, h⟩
theorem refasked_is {a0 a1 a2 : Int} {l : List Int} {many : Nat} (hm : 0 < many ∧ many ≤ 1000) {low high : Int} {k : Nat} (hk : 1100 ≤ k) : reedpiperef12_asked.f k a0 a1 a2 l (many : Int) low high = block_asked.f 3000 a0 a1 a2 l (many : Int) low high := by
  obtain ⟨k, rfl⟩ : ∃ j, k = j + 1 := ⟨k - 1, by omega⟩
  have hbad : reedpiperef12_asked.j0 (k + 1) l (many : Int) low high true = some 2 := by rw [reedpiperef12_asked.j0.eq_2, if_pos rfl]
  have hno : ¬ MayBe a0 a1 a2 → reedpiperef12_asked.f (k + 1) a0 a1 a2 l (many : Int) low high = some 2 := fun h => by
    unfold reedpiperef12_asked.f
    by_cases c0 : a0 > 3
    · rw [if_pos c0, hbad]
    · rw [if_neg c0]
      by_cases c1 : a1 > 1
      · rw [if_pos c1, hbad]
      · rw [if_neg c1]
        by_cases c2 : a2 > 1
        · rw [decide_eq_true c2, hbad]
        · exact absurd (show MayBe a0 a1 a2 from ⟨Int.not_lt.mp c0, Int.not_lt.mp c1, Int.not_lt.mp c2⟩) h
  have hyes : MayBe a0 a1 a2 → reedpiperef12_asked.f (k + 1) a0 a1 a2 l (many : Int) low high = if (l.length : Int) = (many : Int) then reedpiperef12_asked.l0 k l (many : Int) low high 0 else some 4 := fun ⟨m0, m1, m2⟩ => by
    unfold reedpiperef12_asked.f
    rw [if_neg (Int.not_lt.mpr m0), if_neg (Int.not_lt.mpr m1), decide_eq_false (Int.not_lt.mpr m2), reedpiperef12_asked.j0.eq_2, if_neg (by decide)]
  rcases asked_cases a0 a1 a2 l (many := many) (low := low) (high := high) hm.1 (k := 3000) (by omega) with ⟨h, hc⟩ | ⟨h, hm1, hl⟩ | ⟨h, hm1, hl, hb⟩
  · rw [h]
    rcases hc with hc | ⟨hl, hb⟩
    · exact hno hc
    · by_cases hmay : MayBe a0 a1 a2
      · rw [hyes hmay, if_pos (by omega), ← hl]
        rcases refasked_l0 (l := l) (by omega) low high l.length k 0 (by omega) (by omega) with ⟨e, h'⟩ | ⟨e, _⟩
        · exact absurd (fun i hi => h' i (by omega) hi) hb
        · exact e
      · exact hno hmay
  · rw [h, hyes hm1, if_neg (by omega)]
  · rw [h, hyes hm1, if_pos (by omega), ← hl]
    rcases refasked_l0 (l := l) (by omega) low high l.length k 0 (by omega) (by omega) with ⟨e, _⟩ | ⟨_, h'⟩
    · exact e
    · exact absurd hb h'
theorem refsynth {a0 a1 a2 : Int} (w0 : 0 ≤ a0) (w1 : 0 ≤ a1) (w2 : 0 ≤ a2) (l : List Int) {k : Nat} (hk : 201000 ≤ k) : reedpiperef12_Synth.f k a0 a1 a2 l = block_Synth.f a0 a1 a2 l := by
  have ha := refasked_is (a0 := a0) (a1 := a1) (a2 := a2) (l := l) (many := 256) (by omega) (low := -268435455) (high := 268435455) (k := k) (by omega)
  rw [show ((256 : Nat) : Int) = 256 from rfl] at ha
  unfold reedpiperef12_Synth.f
  rw [ha]
  rcases asked_cases a0 a1 a2 l (many := 256) (low := -268435455) (high := 268435455) (by omega) (k := 3000) (by omega) with ⟨h, _⟩ | ⟨h, _⟩ | ⟨h, ⟨m0, m1, m2⟩, hl, hb⟩
  · rw [show ((256 : Nat) : Int) = 256 from rfl] at h
    unfold block_Synth.f
    rw [h, Option.bind_some, Option.bind_some, if_neg (by decide), if_neg (by decide)]
  · rw [show ((256 : Nat) : Int) = 256 from rfl] at h
    unfold block_Synth.f
    rw [h, Option.bind_some, Option.bind_some, if_neg (by decide), if_neg (by decide)]
  · rw [show ((256 : Nat) : Int) = 256 from rfl] at h
    rw [h, Option.bind_some, if_pos rfl, refnumbers_is ⟨w0, m0⟩ (by omega) (by omega) hl (between_all hb) (by omega), Option.bind_some, synth_yes ⟨w0, m0⟩ (by omega) (by omega) hl (between_all hb)]
end Go.Proofs.Ytpoppdaaodmicaa.Q
