/- Plain facts on block's windows: halves, falling halves, whole windows, told as lists. -/
import Derived.Test.YtpoppdaaodmicaaV3
import Derived.Test.YtpoppdaaodmicaaBBlock
namespace Go.Proofs.Ytpoppdaaodmicaa.Q
open Go.RowKit Go.Proofs.YtpoppdaaodmicaaW.PrintWords Go.Proofs.YtpoppdaaodmicaaW.PrintLast Go.Proofs.YtpoppdaaodmicaaW.PrintMore

theorem bhalf_yes {a0 : Int} {a1 : Bool} (h : a0 = 0 ∨ a0 = 1) : block_half.f a0 a1 = some (halfL a0 a1) := by
  unfold block_half.f
  rw [half_yes h (Nat.le_refl 700)]
  rfl
def revChk (t : List Int) : Bool := slices_Reverse_int_int.f 300 t == some t.reverse
theorem rev_chk : revChk Win.s256 = true ∧ revChk Win.s32 = true ∧ revChk Win.k256 = true ∧ revChk Win.k32 = true := by decide +kernel
theorem half_rev {a0 : Int} (h : a0 = 0 ∨ a0 = 1) (a1 : Bool) : slices_Reverse_int_int.f 300 (halfL a0 a1) = some (halfL a0 a1).reverse := by
  have hc : revChk (halfL a0 a1) = true := by
    obtain ⟨h1, h2, h3, h4⟩ := rev_chk
    unfold halfL
    rcases h with rfl | rfl <;> cases a1 <;> simp [*]
  unfold revChk at hc
  exact eq_of_beq hc
theorem fall_yes {a0 : Int} {a1 : Bool} (h : a0 = 0 ∨ a0 = 1) {k : Nat} (hk : 300 ≤ k) : block_fall.f k a0 a1 = some (halfL a0 a1).reverse := by
  unfold block_fall.f
  rw [bhalf_yes h, Option.bind_some, at_rounds (slices_Reverse_int_int.mono _) hk (half_rev h a1), Option.bind_some]
/-! ### whole windows -/
def firstL (a0 a1 : Int) : List Int := if a0 = 3 then List.replicate 112 0 ++ (halfL a1 true ++ List.replicate 112 4194304) else halfL a1 false
def secondL (a0 a2 : Int) : List Int := if a0 = 1 then List.replicate 112 4194304 ++ ((halfL a2 true).reverse ++ List.replicate 112 0) else (halfL a2 false).reverse
def winL (a0 a1 a2 : Int) : List Int := firstL a0 a1 ++ secondL a0 a2
theorem firstL_length (a0 a1 : Int) : (firstL a0 a1).length = 256 := by
  unfold firstL
  split
  · rw [List.length_append, List.length_append, List.length_replicate, List.length_replicate, halfL_length]; rfl
  · rw [halfL_length]; rfl
theorem secondL_length (a0 a2 : Int) : (secondL a0 a2).length = 256 := by
  unfold secondL
  split
  · rw [List.length_append, List.length_append, List.length_replicate, List.length_replicate, List.length_reverse, halfL_length]; rfl
  · rw [List.length_reverse, halfL_length]; rfl
theorem winL_length (a0 a1 a2 : Int) : (winL a0 a1 a2).length = 512 := by unfold winL; rw [List.length_append, firstL_length, secondL_length]
section
variable {k : Nat} {a1 a2 n i : Int} {acc ps : List Int}
theorem win_rise {p : Int} {b : Bool} (hp : (p = 0 ∧ b = false) ∨ (p = 1 ∧ b = true)) (h : a1 = 0 ∨ a1 = 1) (hi : 0 ≤ i ∧ i < n ∧ i < (ps.length : Int) ∧ i < 1000) (hr : rd ps i = p) (hl : acc.length ≤ 1000) :
    block_Window.l0 (k + 2) a1 a2 acc ps n i = block_Window.l0 k a1 a2 (acc ++ halfL a1 b) ps n (i + 1) := by
  have hh := halfL_length a1 b
  have hw : wrap64 (i + 1) = i + 1 := by unfold wrap64; omega
  rw [block_Window.l0.eq_2, if_pos hi.2.1, if_pos hi.1, if_pos hi.2.2.1, hr]
  have e : ∀ x, block_Window.j2 (k + 1) a1 a2 acc p [] ps n i p x = if x = true then block_Window.l0 k a1 a2 (acc ++ halfL a1 b) ps n (i + 1) else block_Window.j2 (k + 1) a1 a2 acc p [] ps n i p x := by
    intro x
    by_cases hx : x = true
    · rw [if_pos hx, block_Window.j2.eq_2, if_pos hx]
      have hb : (p == 1) = b := by rcases hp with ⟨rfl, rfl⟩ | ⟨rfl, rfl⟩ <;> rfl
      rw [hb, bhalf_yes h, Option.bind_some, if_pos (by rw [hh]; split <;> omega), hw]
    · rw [if_neg hx]
  rcases hp with ⟨rfl, rfl⟩ | ⟨rfl, rfl⟩
  · rw [if_pos rfl, e, if_pos (show ((0 : Int) == 0) = true from rfl)]
  · rw [if_neg (by decide), e, if_pos (show ((1 : Int) == 1) = true from rfl)]
theorem win_fall {p : Int} {b : Bool} (hp : (p = 4 ∧ b = false) ∨ (p = 3 ∧ b = true)) (h : a2 = 0 ∨ a2 = 1) (hk : 300 ≤ k) (hi : 0 ≤ i ∧ i < n ∧ i < (ps.length : Int) ∧ i < 1000) (hr : rd ps i = p) (hl : acc.length ≤ 1000) :
    block_Window.l0 (k + 3) a1 a2 acc ps n i = block_Window.l0 k a1 a2 (acc ++ (halfL a2 b).reverse) ps n (i + 1) := by
  have hh := halfL_length a2 b
  have hw : wrap64 (i + 1) = i + 1 := by unfold wrap64; omega
  rw [block_Window.l0.eq_2, if_pos hi.2.1, if_pos hi.1, if_pos hi.2.2.1, hr]
  have hne : p ≠ 0 ∧ (p == 1) = false := by rcases hp with ⟨rfl, _⟩ | ⟨rfl, _⟩ <;> decide
  have hb : (p == 3) = b := by rcases hp with ⟨rfl, rfl⟩ | ⟨rfl, rfl⟩ <;> rfl
  have e : block_Window.j3 (k + 1) a1 a2 acc p [] ps n i p true = block_Window.l0 k a1 a2 (acc ++ (halfL a2 b).reverse) ps n (i + 1) := by
    rw [block_Window.j3.eq_2, if_pos rfl, hb, fall_yes h hk, Option.bind_some, if_pos (by rw [List.length_reverse, hh]; split <;> omega), hw]
  rw [if_neg hne.1, hne.2, block_Window.j2.eq_2, if_neg (by simp)]
  rcases hp with ⟨rfl, rfl⟩ | ⟨rfl, rfl⟩
  · rw [if_pos rfl]; exact e
  · rw [if_neg (by decide)]; exact e
theorem win_flat {p v : Int} (hp : (p = 2 ∧ v = 4194304) ∨ (p = 5 ∧ v = 0)) (hi : 0 ≤ i ∧ i < n ∧ i < (ps.length : Int) ∧ i < 1000) (hr : rd ps i = p) (hl : acc.length ≤ 1000) :
    block_Window.l0 (k + 3) a1 a2 acc ps n i = block_Window.l0 k a1 a2 (acc ++ List.replicate 112 v) ps n (i + 1) := by
  have hw : wrap64 (i + 1) = i + 1 := by unfold wrap64; omega
  have hlen : ∀ N : Nat, N = 112 → (acc.length + (List.replicate N v).length < 17592186044416) := by intro N hN; rw [List.length_replicate]; omega
  rw [block_Window.l0.eq_2, if_pos hi.2.1, if_pos hi.1, if_pos hi.2.2.1, hr]
  have hne : p ≠ 0 ∧ (p == 1) = false ∧ p ≠ 4 ∧ (p == 3) = false := by rcases hp with ⟨rfl, _⟩ | ⟨rfl, _⟩ <;> decide
  rw [if_neg hne.1, hne.2.1, block_Window.j2.eq_2, if_neg (by simp), if_neg hne.2.2.1, hne.2.2.2, block_Window.j3.eq_2, if_neg (by simp)]
  rcases hp with ⟨rfl, rfl⟩ | ⟨rfl, rfl⟩
  · rw [if_pos rfl, show slices_Repeat_int_int.f [4194304] 112 = some (List.replicate 112 4194304) from rfl, Option.bind_some, if_pos (hlen 112 rfl), hw]
  · rw [if_neg (by decide), if_pos rfl, if_pos (by decide), Option.bind_some, if_pos (hlen 112 rfl), hw]
end
theorem window_yes {a0 a1 a2 : Int} (h0 : a0 = 0 ∨ a0 = 1 ∨ a0 = 3) (h1 : a1 = 0 ∨ a1 = 1) (h2 : a2 = 0 ∨ a2 = 1) {k : Nat} (hk : 400 ≤ k) : block_Window.f k a0 a1 a2 = some (winL a0 a1 a2, 0) := by
  obtain ⟨k, rfl⟩ : ∃ j, k = j + 20 := ⟨k - 20, by omega⟩
  have l1 := halfL_length a1 false
  have l2 := halfL_length a1 true
  have l3 := halfL_length a2 true
  have hs : block_shaped.f a1 a2 = some true := by
    unfold block_shaped.f
    rw [if_pos (by omega), decide_eq_true (by omega)]
  unfold block_Window.f
  rw [hs, Option.bind_some, if_pos rfl, if_neg (by omega)]
  have hj : (a0 == 2) = false := beq_eq_false_iff_ne.mpr (by omega)
  rw [hj, block_Window.j0.eq_2, if_neg (by simp)]
  rcases h0 with rfl | rfl | rfl
  · rw [show block_pieces.f 0 = some [0, 4] from rfl, Option.bind_some, show ((([0, 4] : List Int).length : Nat) : Int) = 2 from rfl,
      show k + 19 = (k + 14 + 3) + 2 by omega, win_rise (p := 0) (b := false) (.inl ⟨rfl, rfl⟩) h1 (by decide) rfl (by simp), win_fall (p := 4) (b := false) (.inl ⟨rfl, rfl⟩) h2 (by omega) (by decide) rfl (by simp [l1]),
      show k + 14 = k + 13 + 1 by omega, block_Window.l0.eq_2, if_neg (by decide)]
    unfold winL firstL secondL
    rw [if_neg (by decide), if_neg (by decide), List.nil_append]
  · rw [show block_pieces.f 1 = some [0, 2, 3, 5] from rfl, Option.bind_some, show ((([0, 2, 3, 5] : List Int).length : Nat) : Int) = 4 from rfl,
      show k + 19 = (k + 8 + 3 + 3 + 3) + 2 by omega, win_rise (p := 0) (b := false) (.inl ⟨rfl, rfl⟩) h1 (by decide) rfl (by simp), win_flat (p := 2) (.inl ⟨rfl, rfl⟩) (by decide) rfl (by rw [List.nil_append, l1]; simp),
      win_fall (p := 3) (b := true) (.inr ⟨rfl, rfl⟩) h2 (by omega) (by decide) rfl (by rw [List.nil_append, List.length_append, l1, List.length_replicate]; simp), win_flat (p := 5) (.inr ⟨rfl, rfl⟩) (by decide) rfl (by rw [List.nil_append, List.length_append, List.length_append, List.length_reverse, l1, l3, List.length_replicate]; simp),
      show k + 8 = k + 7 + 1 by omega, block_Window.l0.eq_2, if_neg (by decide)]
    unfold winL firstL secondL
    rw [if_neg (by decide), if_pos rfl, List.nil_append, List.append_assoc, List.append_assoc]
  · rw [show block_pieces.f 3 = some [5, 1, 2, 4] from rfl, Option.bind_some, show ((([5, 1, 2, 4] : List Int).length : Nat) : Int) = 4 from rfl,
      show k + 19 = (k + 8 + 3 + 3 + 2) + 3 by omega, win_flat (p := 5) (.inr ⟨rfl, rfl⟩) (by decide) rfl (by simp), win_rise (p := 1) (b := true) (.inr ⟨rfl, rfl⟩) h1 (by decide) rfl (by rw [List.nil_append, List.length_replicate]; decide),
      win_flat (p := 2) (.inl ⟨rfl, rfl⟩) (by decide) rfl (by rw [List.nil_append, List.length_append, l2, List.length_replicate]; simp), win_fall (p := 4) (b := false) (.inl ⟨rfl, rfl⟩) h2 (by omega) (by decide) rfl (by rw [List.nil_append, List.length_append, List.length_append, l2, List.length_replicate, List.length_replicate]; simp),
      show k + 8 = k + 7 + 1 by omega, block_Window.l0.eq_2, if_neg (by decide)]
    unfold winL firstL secondL
    rw [if_pos rfl, if_neg (by decide), List.nil_append, List.append_assoc, List.append_assoc, List.append_assoc, List.append_assoc]
/-! ### power -/
end Go.Proofs.Ytpoppdaaodmicaa.Q
