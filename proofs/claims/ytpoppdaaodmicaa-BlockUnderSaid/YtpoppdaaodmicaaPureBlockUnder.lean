/- BlockUnder: a sample under no window, or under a nought, turns no line; lines of what may be may be synthesised; where a window has noughts what comes out has: any sequence, shapes, samples, place and sample. No condition. -/
import Derived.Test.YtpoppdaaodmicaaK5
import Derived.Test.YtpoppdaaodmicaaQ24
import Derived.OpenShut
namespace Go.Proofs.Ytpoppdaaodmicaa.Pure
open Go.RowKit Go.Proofs.Ytpoppdaaodmicaa.Q Go.Proofs.YtpoppdaaodmicaaW.PrintWords Go.Proofs.YtpoppdaaodmicaaW.PrintLast

/-- Under no window, or under a nought. -/
def Bare (a0 : Int) (n : Nat) : Prop := (a0 = 2 ∧ (n < 112 ∨ n ≥ 400)) ∨ (a0 = 1 ∧ n ≥ 400) ∨ (a0 = 3 ∧ n < 112)
theorem win_nought {a0 a1 a2 : Int} {n : Nat} (h : (a0 = 1 ∧ n ≥ 400) ∨ (a0 = 3 ∧ n < 112)) : rd (winL a0 a1 a2) (n : Int) = 0 := by
  rcases h with ⟨rfl, hn⟩ | ⟨rfl, hn⟩
  · by_cases h512 : n < 512
    · obtain ⟨j, rfl⟩ : ∃ j, n = 256 + j := ⟨n - 256, by omega⟩
      rw [rd_win_second]
      unfold secondL
      rw [if_pos rfl, List.getD_eq_getElem?_getD, List.getElem?_append_right (by rw [List.length_replicate]; omega), List.getElem?_append_right (by rw [List.length_reverse, halfL_length, List.length_replicate, if_pos rfl]; omega), List.getElem?_replicate]
      split <;> rfl
    · unfold rd
      rw [show ((n : Int)).toNat = n by omega, List.getD_eq_getElem?_getD, List.getElem?_eq_none (by rw [winL_length]; omega)]
      rfl
  · rw [rd_win_first (by omega)]
    unfold firstL
    rw [if_pos rfl, List.getD_eq_getElem?_getD, List.getElem?_append_left (by rw [List.length_replicate]; omega), List.getElem?_replicate]
    split <;> rfl
theorem bare_line {a0 a1 a2 : Int} {l : List Int} {n : Nat} (h : Bare a0 n) (hn : n < l.length) (x : Int) {i : Nat} (hi : i < anN a0) : zL (l.set n x) (anPos a0 i) (anWin a0 a1 a2 i) = zL l (anPos a0 i) (anWin a0 a1 a2 i) := by
  unfold zL
  refine List.map_congr_left fun k hk => ?_
  have hk' : k < 2 * anM a0 := by rw [← anWin_length a0 a1 a2 i]; simpa using hk
  unfold zAt
  rw [rd_set_eq hn]
  by_cases e : anPos a0 i + k = n
  · rcases h with ⟨rfl, h⟩ | h
    · exfalso
      unfold anN at hi
      unfold anPos at e
      unfold anM at hk'
      rw [if_pos rfl] at hi e hk'
      omega
    · have hne : a0 ≠ 2 := by rcases h with ⟨rfl, _⟩ | ⟨rfl, _⟩ <;> decide
      have hp : anPos a0 i = 0 := by unfold anPos; rw [if_neg hne]
      have hw : anWin a0 a1 a2 i = winL a0 a1 a2 := by unfold anWin; rw [if_neg hne]
      have hkn : k = n := by omega
      rw [hw, hkn, win_nought h, Int.mul_zero, Int.mul_zero]
  · rw [if_neg e]
theorem bare_anL {a0 a1 a2 : Int} {l : List Int} {n : Nat} (h : Bare a0 n) (hn : n < l.length) (x : Int) : anL a0 a1 a2 (l.set n x) = anL a0 a1 a2 l := by
  unfold anL
  have : ∀ N, N ≤ anN a0 → gather (anLine a0 a1 a2 (l.set n x)) N = gather (anLine a0 a1 a2 l) N := by
    intro N
    induction N with
    | zero => intro _; rfl
    | succ N ih =>
      intro hN
      rw [gather, gather, ih (by omega)]
      congr 1
      unfold anLine
      rw [bare_line h hn x (by omega)]
  exact this _ (Nat.le_refl _)
theorem bare_snL {a0 a1 a2 : Int} (h1 : a1 = 0 ∨ a1 = 1) (h2 : a2 = 0 ∨ a2 = 1) {l : List Int} (hl : l.length = 256) (hb : AllIn 268435455 l) {n : Nat} (h : Bare a0 n) : rd (snL a0 a1 a2 l) (n : Int) = 0 := by
  rw [snL_rd h1 h2 hl hb]
  refine sm_nought fun i hi => ?_
  unfold bearAt
  by_cases e : anPos a0 i ≤ n ∧ n < anPos a0 i + 2 * anM a0
  · rw [if_pos e]
    rcases h with ⟨rfl, h⟩ | h
    · exfalso
      unfold anN at hi
      unfold anPos anM at e
      rw [if_pos rfl] at hi
      rw [if_pos rfl, if_pos rfl] at e
      omega
    · have hne : a0 ≠ 2 := by rcases h with ⟨rfl, _⟩ | ⟨rfl, _⟩ <;> decide
      have hp : anPos a0 i = 0 := by unfold anPos; rw [if_neg hne]
      have hw : anWin a0 a1 a2 i = winL a0 a1 a2 := by unfold anWin; rw [if_neg hne]
      unfold snAt
      rw [hp, hw, Nat.sub_zero, win_nought h, Int.mul_zero, rnd_zero (by omega)]
  · rw [if_neg e]
theorem under_l0 {u y : List Int} (hu : u.length = 256) {n : Nat} (hn : n < y.length) (hy : rd y (n : Int) = 0) (d : Nat) : ∀ (k i : Nat), i + d = 256 → d + 1 ≤ k → reedpipelaw12_BlockUnder.l0 k (n : Int) true u u y (i : Int) = some true := by
  induction d with
  | zero =>
    intro k i hi hk
    obtain ⟨k, rfl⟩ : ∃ j, k = j + 1 := ⟨k - 1, by omega⟩
    rw [reedpipelaw12_BlockUnder.l0.eq_2, if_neg (by omega), if_pos rfl, if_pos (by omega), if_pos (by omega), hy]
    rfl
  | succ d ih =>
    intro k i hi hk
    obtain ⟨k, rfl⟩ : ∃ j, k = j + 1 := ⟨k - 1, by omega⟩
    have e := ih k (i + 1) (by omega) (by omega)
    rw [show (((i + 1 : Nat)) : Int) = (i : Int) + 1 by omega] at e
    rw [reedpipelaw12_BlockUnder.l0.eq_2, if_pos (by omega), if_pos (by omega), if_pos (by omega), if_pos (by omega), if_pos rfl, wrap_in (by omega) (by omega)]
    exact e
theorem under_j2 {a0 : Int} {u v y : List Int} (hu : u.length = 256) (hy : y.length = 512) {n : Nat} (hn : n < 512) (hb : Bare a0 n → v = u ∧ rd y (n : Int) = 0) {k : Nat} (hk : 300 ≤ k) : reedpipelaw12_BlockUnder.j2 k a0 (n : Int) true u v y false = some true := by
  obtain ⟨k, rfl⟩ : ∃ j, k = j + 1 + 1 := ⟨k - 2, by omega⟩
  have hf : reedpipelaw12_BlockUnder.j3 (k + 1) (n : Int) true u v y false = some true := by rw [reedpipelaw12_BlockUnder.j3.eq_2, if_neg (by simp)]
  have ht : Bare a0 n → reedpipelaw12_BlockUnder.j3 (k + 1) (n : Int) true u v y true = some true := fun h => by
    obtain ⟨e, hz⟩ := hb h
    rw [e, reedpipelaw12_BlockUnder.j3.eq_2, if_pos rfl]
    exact under_l0 hu (by omega) hz 256 k 0 (by omega) (by omega)
  rw [reedpipelaw12_BlockUnder.j2.eq_2, if_neg (by simp)]
  by_cases c2 : a0 = 2
  · rw [if_pos c2]
    by_cases g1 : (n : Int) < 112
    · rw [if_pos g1]; exact ht (.inl ⟨c2, .inl (by omega)⟩)
    · rw [if_neg g1]
      by_cases g2 : (n : Int) ≥ 400
      · rw [if_pos g2]; exact ht (.inl ⟨c2, .inr (by omega)⟩)
      · rw [if_neg g2, if_neg (by omega), if_neg (by omega)]; exact hf
  · rw [if_neg c2]
    by_cases c1 : a0 = 1
    · rw [if_pos c1]
      by_cases g2 : (n : Int) ≥ 400
      · rw [if_pos g2]; exact ht (.inr (.inl ⟨c1, by omega⟩))
      · rw [if_neg g2, if_neg (by omega)]; exact hf
    · rw [if_neg c1]
      by_cases c3 : a0 = 3
      · rw [if_pos c3]
        by_cases g1 : (n : Int) < 112
        · rw [decide_eq_true g1]; exact ht (.inr (.inr ⟨c3, by omega⟩))
        · rw [decide_eq_false g1]; exact hf
      · rw [if_neg c3]; exact hf
theorem under_all {a0 a1 a2 : Int} (w0 : 0 ≤ a0) (w1 : 0 ≤ a1) (w2 : 0 ≤ a2) (l : List Int) (a4 a5 : Int) (w5 : -32768 ≤ a5 ∧ a5 ≤ 32767) {k : Nat} (hk : 3000 ≤ k) : reedpipelaw12_BlockUnder.f k a0 a1 a2 l a4 a5 = some true := by
  obtain ⟨k, rfl⟩ : ∃ j, k = j + 1 + 1 := ⟨k - 2, by omega⟩
  unfold reedpipelaw12_BlockUnder.f
  rw [alive12 (by omega), Option.bind_some]
  by_cases h : (l.length : Int) > 1000
  · rw [if_pos h, reedpipelaw12_BlockUnder.j0.eq_2, if_pos rfl]
  rw [if_neg h, show (!true) = false from rfl, reedpipelaw12_BlockUnder.j0.eq_2, if_neg (by simp)]
  rcases analyse_no (a0 := a0) (a1 := a1) (a2 := a2) (l := l) with ⟨e, he, h1⟩ | ⟨hm, hl, hb⟩
  · rw [h1, Option.bind_some, if_neg he, reedpipelaw12_BlockUnder.j1.eq_2, if_pos rfl, if_pos rfl, if_neg he]
    rfl
  · obtain ⟨m0, m1, m2⟩ := hm
    have c1 : a1 = 0 ∨ a1 = 1 := by omega
    have c2 : a2 = 0 ∨ a2 = 1 := by omega
    have h1 := analyse_yes ⟨w0, m0⟩ c1 c2 hl hb
    have ht : reedpipelaw12_BlockUnder.j1 (k + 1) a0 a1 a2 l a4 a5 true (anL a0 a1 a2 l) 0 true = some true := by
      rw [reedpipelaw12_BlockUnder.j1.eq_2, if_pos rfl, if_pos rfl, if_pos rfl]
    rw [h1, Option.bind_some, if_pos rfl]
    dsimp only
    by_cases g1 : a4 < 0
    · rw [if_pos g1]; exact ht
    · rw [if_neg g1]
      by_cases g2 : a4 > 511
      · rw [decide_eq_true g2]; exact ht
      · obtain ⟨n, rfl⟩ : ∃ n : Nat, a4 = n := ⟨a4.toNat, by omega⟩
        have hn : n < l.length := by omega
        have hb2 : Between (-32768) 32767 (l.set n a5) := by
          intro i hi
          rw [rd_set_eq hn]
          split
          · exact w5
          · exact hb i (by rw [List.length_set] at hi; exact hi)
        have h2 := analyse_yes ⟨w0, m0⟩ c1 c2 (l := l.set n a5) (by rw [List.length_set]; exact hl) hb2
        have hA := anL_in c1 c2 hl hb (a0 := a0)
        have h3 := synth_yes ⟨w0, m0⟩ c1 c2 (anL_length a0 a1 a2 l) hA
        have l1 : ((anL a0 a1 a2 l).length : Int) = 256 := by rw [anL_length]; rfl
        have l2 : ((anL a0 a1 a2 (l.set n a5)).length : Int) = 256 := by rw [anL_length]; rfl
        have l3 : (((snL a0 a1 a2 (anL a0 a1 a2 l)).length : Int) != 512) = false := by rw [snL_length]; rfl
        have c3 : (n : Int) < ((([] ++ l : List Int)).length : Int) := by rw [List.nil_append]; omega
        have c4 : ([] : List Int).length + l.length < 17592186044416 := by rw [List.length_nil]; omega
        have w6 : wrap64 a5 = a5 := wrap_in (by omega) (by omega)
        rw [decide_eq_false g2, reedpipelaw12_BlockUnder.j1.eq_2, if_neg (by simp), if_pos c4, Option.bind_some, if_pos (by omega), if_pos c3, List.nil_append, w6, Int.toNat_natCast, h2, Option.bind_some, h3, Option.bind_some]
        dsimp only
        rw [if_pos rfl, if_pos rfl, if_pos l1, if_pos l2, l3]
        exact under_j2 (anL_length a0 a1 a2 l) (snL_length _ _ _ _) (by omega) (fun hbare => ⟨bare_anL hbare hn a5, bare_snL c1 c2 (anL_length a0 a1 a2 l) hA hbare⟩) (by omega)
theorem i16_bounds {n : Int} (h : (Lit.int .i16 n).wf = true) : -32768 ≤ n ∧ n ≤ 32767 := by
  have e1 : IntKind.i16.min = -32768 := by decide
  have e2 : IntKind.i16.max = 32767 := by decide
  simp only [Lit.wf, e1, e2, Bool.and_eq_true, decide_eq_true_eq] at h
  exact h
theorem BlockUnder : reedpipelaw12_BlockUnder.Pure := fun _ _ _ l3 a4 a5 w0 w1 w2 _ _ _ _ w5 => ⟨3000, under_all (bounds_u8 w0).1 (bounds_u8 w1).1 (bounds_u8 w2).1 l3 a4 a5 (i16_bounds w5) (Nat.le_refl _)⟩

end Go.Proofs.Ytpoppdaaodmicaa.Pure
