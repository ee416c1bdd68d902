/- WindowDoes: halves are as the document says, and new memory: any shape and size. No condition. -/
import Derived.Test.YtpoppdaaodmicaaV4
import Derived.Test.YtpoppdaaodmicaaQ13
import Derived.OpenShut
namespace Go.Proofs.Ytpoppdaaodmicaa.Pure
open Go.RowKit Go.Proofs.Ytpoppdaaodmicaa.Q Go.Proofs.YtpoppdaaodmicaaW.PrintWords Go.Proofs.YtpoppdaaodmicaaW.PrintLast

theorem same05_from {l : List Int} (hl : l.length ≤ 1000) (d : Nat) : ∀ (k i : Nat), i + d = l.length → d + 1 ≤ k → reedpipelaw05_same.l0 k l l (i : Int) = some true := by
  induction d with
  | zero =>
    intro k i hi hk
    obtain ⟨k, rfl⟩ : ∃ j, k = j + 1 := ⟨k - 1, by omega⟩
    rw [reedpipelaw05_same.l0.eq_2, if_neg (by omega)]
  | succ d ih =>
    intro k i hi hk
    obtain ⟨k, rfl⟩ : ∃ j, k = j + 1 := ⟨k - 1, by omega⟩
    rw [reedpipelaw05_same.l0.eq_2, if_pos (by omega), if_pos (by omega), if_pos (by omega), if_pos rfl, wrap_in (by omega) (by omega)]
    exact ih k (i + 1) (by omega) (by omega)
theorem same05 {l : List Int} (hl : l.length ≤ 1000) {k : Nat} (hk : l.length + 1 ≤ k) : reedpipelaw05_same.f k l l = some true := by
  unfold reedpipelaw05_same.f
  rw [if_pos rfl]
  exact same05_from hl l.length k 0 (by omega) hk
theorem does_l0 {a0 : Int} {a1 : Bool} {x : List Int} {e : Int} (hx : x.length ≤ 1000) (hh : ∀ k, 700 ≤ k → window_Half.f k a0 a1 = some (x, e)) (d : Nat) : ∀ (k i : Nat) (y : List Int), y.length ≤ 1000 → i + d = y.length → d + 1100 ≤ k →
    reedpipelaw05_WindowDoes.l0 k a0 a1 y x e (i : Int) = some true := by
  induction d with
  | zero =>
    intro k i y hy hi hk
    obtain ⟨k, rfl⟩ : ∃ j, k = j + 1 := ⟨k - 1, by omega⟩
    rw [reedpipelaw05_WindowDoes.l0.eq_2, if_neg (by omega), hh k (by omega)]
    simp only [Option.bind_some]
    rw [same05 hx (by omega)]
    simp
  | succ d ih =>
    intro k i y hy hi hk
    obtain ⟨k, rfl⟩ : ∃ j, k = j + 1 := ⟨k - 1, by omega⟩
    rw [reedpipelaw05_WindowDoes.l0.eq_2, if_pos (by omega), if_pos (by omega), wrap_in (by omega) (by omega)]
    exact ih k (i + 1) _ (by simpa using hy) (by rw [List.length_set]; omega) (by omega)
theorem does_all {a0 : Int} {a1 : Bool} {x : List Int} {e : Int} (hx : x.length ≤ 1000) (hh : ∀ k, 700 ≤ k → window_Half.f k a0 a1 = some (x, e)) (hr : ∀ k, 700 ≤ k → reedpiperef05_Half.f k a0 a1 = some (x, e)) {k : Nat} (hk : 3000 ≤ k) : reedpipelaw05_WindowDoes.f k a0 a1 = some true := by
  unfold reedpipelaw05_WindowDoes.f
  rw [hh k (by omega), hr k (by omega)]
  simp only [Option.bind_some]
  rw [same05 hx (by omega)]
  simp only [Option.bind_some, if_true]
  obtain ⟨k, rfl⟩ : ∃ j, k = j + 1 := ⟨k - 1, by omega⟩
  rw [show (e != e) = false by simp, reedpipelaw05_WindowDoes.j0.eq_2, if_neg (by simp)]
  exact does_l0 hx hh x.length k 0 x hx (by omega) (by omega)

theorem does_any (a0 : Int) (a1 : Bool) (w0 : (Lit.int .u8 a0).wf = true) {k : Nat} (hk : 3000 ≤ k) : reedpipelaw05_WindowDoes.f k a0 a1 = some true := by
  have hb := bounds_u8 w0
  by_cases h : a0 ≤ 1
  · have h' : a0 = 0 ∨ a0 = 1 := by omega
    refine does_all (x := halfL a0 a1) (e := 0) (by rw [halfL_length]; split <;> omega) (fun k hk => half_yes h' hk) (fun k hk => ?_) hk
    unfold reedpiperef05_Half.f
    rw [if_neg (by omega), values_is h' hk]
    rfl
  · refine does_all (x := []) (e := 2) (by simp) (fun k hk => half_no (by omega) (by omega) (by omega)) (fun k _ => ?_) hk
    unfold reedpiperef05_Half.f
    rw [if_pos (by omega)]
theorem WindowDoes : reedpipelaw05_WindowDoes.Pure := fun a0 a1 w0 => ⟨3000, does_any a0 a1 w0 (Nat.le_refl _)⟩

end Go.Proofs.Ytpoppdaaodmicaa.Pure
