/- What the document's own halves are: the same four lists. -/
import Derived.Test.YtpoppdaaodmicaaV1
import Derived.Test.YtpoppdaaodmicaaBRefTrigJ
namespace Go.Proofs.Ytpoppdaaodmicaa.Q
open Go.RowKit Go.Proofs.YtpoppdaaodmicaaW.PrintWords Go.Proofs.YtpoppdaaodmicaaW.PrintLast Go.Proofs.YtpoppdaaodmicaaW.PrintMore

theorem take_add {t : List Int} {i : Nat} {v : Int} (hv : t[i]? = some v) : t.take i ++ [v] = t.take (i + 1) := by
  rw [List.take_add_one, hv]; rfl
theorem values_l0 {step : Int} {t : List Int} (hs : step = 1 ∨ step = 8) (hn : t.length ≤ 256) (hc : sineChk step 0 t = true) (d : Nat) : ∀ (k i : Nat), i + d = t.length → d + 20 ≤ k →
    reedpiperef05_Values.l0 k (t.length : Int) step (t.take i) (i : Int) = some t := by
  induction d with
  | zero =>
    intro k i hi hk
    obtain ⟨k, rfl⟩ : ∃ j, k = j + 1 := ⟨k - 1, by omega⟩
    simp only [reedpiperef05_Values.l0]
    obtain rfl : i = t.length := by omega
    rw [if_neg (by omega), List.take_length]
  | succ d ih =>
    intro k i hi hk
    obtain ⟨k, rfl⟩ : ∃ j, k = j + 1 := ⟨k - 1, by omega⟩
    have hv : t[i]? = some (t[i]'(by omega)) := List.getElem?_eq_getElem (by omega)
    have hr := sineChk_at hc i _ hv
    rw [Int.zero_add] at hr
    have hb := Tab.C_max ((2 * (i : Int) + 1) * step - 512)
    rw [reedpiperef05_Values.l0.eq_2, if_pos (by omega), wrap_in (n := 2 * (i : Int)) (by omega) (by omega), wrap_in (n := 2 * (i : Int) + 1) (by omega) (by omega), wrap_in (n := (2 * (i : Int) + 1) * step) (by rcases hs with rfl | rfl <;> omega) (by rcases hs with rfl | rfl <;> omega), refsin_is _ (by omega)]
    simp only [Option.bind_some]
    have e := down_is (n := Tab.S ((2 * (i : Int) + 1) * step)) (b := 4) (by unfold Tab.S; omega) (by unfold Tab.S; omega) (by omega) (by omega)
    rw [show ((4 : Nat) : Int) = 4 from rfl] at e
    rw [e]
    simp only [Option.bind_some]
    rw [hr, if_pos (by rw [List.length_take]; omega), wrap_in (by omega) (by omega), take_add hv]
    exact ih k (i + 1) (by omega) (by omega)
def weightChk (m b : Int) : Int → Int → List Int → Bool
  | _, _, [] => true
  | j, s, v :: r => (match reedpiperef05_weight.f 70 j m b with | some x => decide (wrap64 (s + x) = v) | none => false) && weightChk m b (j + 1) v r
theorem weightChk_at {m b : Int} : ∀ {l : List Int} {j s : Int}, weightChk m b j s l = true → ∀ (i : Nat) (v : Int), l[i]? = some v →
    ∃ x, reedpiperef05_weight.f 70 (j + i) m b = some x ∧ wrap64 ((if i = 0 then s else l.getD (i - 1) 0) + x) = v
  | [], _, _, _, i, v, h => by simp at h
  | y :: l, j, s, h, i, v, hv => by
    simp only [weightChk, Bool.and_eq_true] at h
    cases i with
    | zero =>
      simp only [List.getElem?_cons_zero, Option.some.injEq] at hv
      subst hv
      rw [show j + ((0 : Nat) : Int) = j by omega]
      have h1 := h.1
      cases e : reedpiperef05_weight.f 70 j m b with
      | none => rw [e] at h1; simp at h1
      | some x => rw [e] at h1; simp at h1; exact ⟨x, rfl, by simpa using h1⟩
    | succ i =>
      obtain ⟨x, h1, h2⟩ := weightChk_at h.2 i v (by simpa using hv)
      rw [show j + ((i + 1 : Nat) : Int) = j + 1 + (i : Int) by omega]
      refine ⟨x, h1, ?_⟩
      rw [if_neg (by omega)]
      cases i with
      | zero => simpa using h2
      | succ i => simpa using h2
theorem w256_chk : weightChk 256 4 0 0 Win.sm256 = true := by decide +kernel
theorem w32_chk : weightChk 32 6 0 0 Win.sm32 = true := by decide +kernel
def refRootChk (all : Int) : List Int → List Int → Bool
  | _, [] => true
  | [], _ :: _ => false
  | s :: ss, v :: vs => (match reedpiperef05_part.f 50 s all with | some x => (match reedpiperef03_Root.f 40 x with | some y => decide (y = v) | none => false) | none => false) && refRootChk all ss vs
theorem refRootChk_at {all : Int} : ∀ {ss vs : List Int}, refRootChk all ss vs = true → ∀ (i : Nat) (v : Int), vs[i]? = some v → ∃ s x, ss[i]? = some s ∧ reedpiperef05_part.f 50 s all = some x ∧ reedpiperef03_Root.f 40 x = some v
  | _, [], _, i, v, h => by simp at h
  | [], _ :: _, h, i, v, _ => by simp [refRootChk] at h
  | s :: ss, w :: vs, h, i, v, hv => by
    simp only [refRootChk, Bool.and_eq_true] at h
    cases i with
    | zero =>
      simp only [List.getElem?_cons_zero, Option.some.injEq] at hv
      subst hv
      have h1 := h.1
      cases e : reedpiperef05_part.f 50 s all with
      | none => rw [e] at h1; simp at h1
      | some x =>
        rw [e] at h1
        simp only at h1
        cases e2 : reedpiperef03_Root.f 40 x with
        | none => rw [e2] at h1; simp at h1
        | some y => rw [e2] at h1; simp at h1; exact ⟨s, x, by simp, e, by rw [e2, h1]⟩
    | succ i =>
      obtain ⟨a, x, h1, h2⟩ := refRootChk_at h.2 i v (by simpa using hv)
      exact ⟨a, x, by simpa using h1, h2⟩
theorem rk256_chk : refRootChk (Win.sm256.getD 256 0) Win.sm256 Win.k256 = true := by decide +kernel
theorem rk32_chk : refRootChk (Win.sm32.getD 32 0) Win.sm32 Win.k32 = true := by decide +kernel
theorem refkbd_l1 {m b all : Int} {sm t : List Int} (hm : m = t.length) (hn : t.length ≤ 256) (hl : sm.length = t.length + 1) (hc0 : weightChk m b 0 0 sm = true) (hc : refRootChk all sm t = true) (d : Nat) : ∀ (k i : Nat) (s : Int), i + d = t.length → d + 80 ≤ k → s = (if i = 0 then 0 else sm.getD (i - 1) 0) →
    reedpiperef05_Kbd.l1 k m b all (t.take i) s (i : Int) = some t := by
  induction d with
  | zero =>
    intro k i s hi hk hs
    obtain ⟨k, rfl⟩ : ∃ j, k = j + 1 := ⟨k - 1, by omega⟩
    obtain rfl : i = t.length := by omega
    rw [reedpiperef05_Kbd.l1.eq_2, if_neg (by omega), List.take_length]
  | succ d ih =>
    intro k i s hi hk hs
    obtain ⟨k, rfl⟩ : ∃ j, k = j + 1 := ⟨k - 1, by omega⟩
    have hv : t[i]? = some (t[i]'(by omega)) := List.getElem?_eq_getElem (by omega)
    have hv0 : sm[i]? = some (sm[i]'(by omega)) := List.getElem?_eq_getElem (by omega)
    obtain ⟨x, h1, h2⟩ := weightChk_at hc0 i _ hv0
    rw [Int.zero_add] at h1
    rw [← hs] at h2
    obtain ⟨s', y, g1, g2, g3⟩ := refRootChk_at hc i _ hv
    rw [hv0, Option.some.injEq] at g1
    have h3 := at_rounds (reedpiperef05_weight.mono (i : Int) m b) (show 70 ≤ k by omega) h1
    have h4 := at_rounds (reedpiperef05_part.mono s' all) (show 50 ≤ k by omega) g2
    have h5 := at_rounds (reedpiperef03_Root.mono y) (show 40 ≤ k by omega) g3
    rw [reedpiperef05_Kbd.l1.eq_2, if_pos (by omega), h3]
    simp only [Option.bind_some]
    rw [h2, g1, h4]
    simp only [Option.bind_some]
    rw [h5]
    simp only [Option.bind_some]
    rw [if_pos (by rw [List.length_take]; omega), wrap_in (by omega) (by omega), take_add hv]
    refine ih k (i + 1) _ (by omega) (by omega) ?_
    rw [if_neg (by omega), show i + 1 - 1 = i by omega, List.getD_eq_getElem?_getD, hv0, ← g1]; rfl
theorem refkbd_l0 {m b all : Int} {sm t : List Int} (hm : m = t.length) (hn : t.length ≤ 256) (hl : sm.length = t.length + 1) (hall : sm.getD t.length 0 = all) (hc0 : weightChk m b 0 0 sm = true) (hc : refRootChk all sm t = true) (d : Nat) : ∀ (k i : Nat) (s : Int), i + d = sm.length → d + t.length + 90 ≤ k → s = (if i = 0 then 0 else sm.getD (i - 1) 0) →
    reedpiperef05_Kbd.l0 k m b s (i : Int) = some t := by
  induction d with
  | zero =>
    intro k i s hi hk hs
    obtain ⟨k, rfl⟩ : ∃ j, k = j + 1 := ⟨k - 1, by omega⟩
    obtain rfl : i = sm.length := by omega
    rw [reedpiperef05_Kbd.l0.eq_2, if_neg (by omega)]
    rw [if_neg (by omega), hl, show t.length + 1 - 1 = t.length by omega, hall] at hs
    subst hs
    have := refkbd_l1 hm hn hl hc0 hc t.length k 0 0 (by omega) (by omega) (by simp)
    simpa using this
  | succ d ih =>
    intro k i s hi hk hs
    obtain ⟨k, rfl⟩ : ∃ j, k = j + 1 := ⟨k - 1, by omega⟩
    have hv0 : sm[i]? = some (sm[i]'(by omega)) := List.getElem?_eq_getElem (by omega)
    obtain ⟨x, h1, h2⟩ := weightChk_at hc0 i _ hv0
    rw [Int.zero_add] at h1
    rw [← hs] at h2
    have h3 := at_rounds (reedpiperef05_weight.mono (i : Int) m b) (show 70 ≤ k by omega) h1
    rw [reedpiperef05_Kbd.l0.eq_2, if_pos (by omega), h3]
    simp only [Option.bind_some]
    rw [h2, wrap_in (by omega) (by omega)]
    refine ih k (i + 1) _ (by omega) (by omega) ?_
    rw [if_neg (by omega), show i + 1 - 1 = i by omega, List.getD_eq_getElem?_getD, hv0]; rfl
theorem refkbd_is {m b : Int} {sm t : List Int} (hm : m = t.length) (hn : t.length ≤ 256) (hl : sm.length = t.length + 1) (hc0 : weightChk m b 0 0 sm = true) (hc : refRootChk (sm.getD t.length 0) sm t = true) {k : Nat} (hk : 2 * t.length + 100 ≤ k) : reedpiperef05_Kbd.f k m b = some t := by
  unfold reedpiperef05_Kbd.f
  exact refkbd_l0 hm hn hl rfl hc0 hc sm.length k 0 0 (by omega) (by omega) (by simp)
theorem values_is {a0 : Int} {a1 : Bool} (h : a0 = 0 ∨ a0 = 1) {k : Nat} (hk : 700 ≤ k) : reedpiperef05_Values.f k a0 a1 = some (halfL a0 a1) := by
  obtain ⟨l1, l2, l3, l4, l5, l6⟩ := win_lens
  obtain ⟨k, rfl⟩ : ∃ j, k = j + 1 := ⟨k - 1, by omega⟩
  unfold reedpiperef05_Values.f halfL
  rcases h with rfl | rfl <;> cases a1
  · rw [if_neg (by simp), if_pos rfl, if_neg (by simp), reedpiperef05_Values.j0.eq_2, if_neg (by decide)]
    have := values_l0 (.inl rfl) (by omega) s256_chk 256 k 0 (by omega) (by omega)
    rw [l1] at this
    simpa using this
  · rw [if_pos rfl, if_pos rfl, if_pos rfl, reedpiperef05_Values.j0.eq_2, if_neg (by decide)]
    have := values_l0 (.inr rfl) (by omega) s32_chk 32 k 0 (by omega) (by omega)
    rw [l2] at this
    simpa using this
  · rw [if_neg (by simp), if_neg (by decide), if_neg (by simp), reedpiperef05_Values.j0.eq_2, if_pos rfl, refkbd_is (t := Win.k256) (by omega) (by omega) (by omega) w256_chk (by rw [l3]; exact rk256_chk) (by omega)]
    rfl
  · rw [if_pos rfl, if_neg (by decide), if_pos rfl, reedpiperef05_Values.j0.eq_2, if_pos rfl, refkbd_is (t := Win.k32) (by omega) (by omega) (by omega) w32_chk (by rw [l4]; exact rk32_chk) (by omega)]
    rfl

end Go.Proofs.Ytpoppdaaodmicaa.Q
