/- The laws of layer 11: what they all begin with; bounds of lines and numbers. -/
import Derived.Test.YtpoppdaaodmicaaM5
import Derived.Test.YtpoppdaaodmicaaQ36
namespace Go.Proofs.Ytpoppdaaodmicaa.Q
open Go.RowKit Go.Proofs.YtpoppdaaodmicaaW.PrintWords Go.Proofs.YtpoppdaaodmicaaW.PrintLast Go.Proofs.YtpoppdaaodmicaaW.PrintMore

theorem noughts_from {n : Nat} {m : Int} (hn : n ≤ 1000) (d : Nat) : ∀ (k i : Nat), i + d = n → d + 1 ≤ k → reedpipelaw11_noughts.l0 k (List.replicate n 0) m (i : Int) = some ((n : Int) == m) := by
  induction d with
  | zero =>
    intro k i hi hk
    obtain ⟨k, rfl⟩ : ∃ j, k = j + 1 := ⟨k - 1, by omega⟩
    rw [reedpipelaw11_noughts.l0.eq_2, List.length_replicate, if_neg (by omega)]
  | succ d ih =>
    intro k i hi hk
    obtain ⟨k, rfl⟩ : ∃ j, k = j + 1 := ⟨k - 1, by omega⟩
    have hr : rd (List.replicate n 0) (i : Int) = 0 := by
      unfold rd
      rw [List.getD_eq_getElem?_getD, List.getElem?_replicate]
      split <;> rfl
    rw [reedpipelaw11_noughts.l0.eq_2, List.length_replicate, if_pos (by omega), if_pos (by omega), hr, if_pos rfl, wrap_in (by omega) (by omega)]
    exact ih k (i + 1) (by omega) (by omega)
theorem noughts_is {n : Nat} {m : Int} (hn : n ≤ 1000) {k : Nat} (hk : n + 1 ≤ k) : reedpipelaw11_noughts.f k (List.replicate n 0) m = some ((n : Int) == m) := by
  unfold reedpipelaw11_noughts.f
  exact noughts_from hn n k 0 (by omega) hk
theorem allIn_zeros {X : Int} (hX : 0 ≤ X) (n : Nat) : AllIn X (List.replicate n 0) := by
  intro x hx
  obtain ⟨_, rfl⟩ := List.mem_replicate.1 hx
  omega
theorem map_const {n : Nat} {f : Nat → Int} (h : ∀ i, i < n → f i = 0) : (List.range n).map f = List.replicate n 0 := by
  apply List.ext_getElem
  · simp
  · intro i h1 h2
    simp at h1
    simp [h i h1]
theorem rnd_zero {b : Nat} (hb : 1 ≤ b) : rnd b 0 = 0 := by
  unfold rnd
  obtain ⟨p, hp, e1, e2⟩ := pow_half hb
  rw [e1, e2, Int.zero_add]
  exact Int.ediv_eq_zero_of_lt (by omega) (by omega)
theorem lines_zeros {m b : Nat} {s : Int} (hs : Sized m s b) : mdct_Forward.f (List.replicate (2 * m) 0) = some (List.replicate m 0, 0) := by
  rw [forward_yes hs (by simp) (allIn_zeros (by omega) _), map_const]
  intro i _
  unfold lineAt
  rw [dot_zeros, rnd_zero (by omega)]
theorem back_zeros {m b : Nat} {s : Int} (hs : Sized m s b) : mdct_Inverse.f (List.replicate m 0) = some (List.replicate (2 * m) 0, 0) := by
  rw [inverse_yes hs (by simp) (allIn_zeros (by omega) _), map_const]
  intro i _
  unfold backAt
  rw [dot_zeros, rnd_zero (by rcases hs with ⟨_, _, rfl⟩ | ⟨_, _, rfl⟩ <;> omega)]
theorem alive11_some : (mdct_Forward.f ((List.replicate 64 (0 : Int)).set 40 8388608)).map (fun p => (p.2, p.1.length, reedpipelaw11_noughts.f 50 p.1 32)) = some (0, 32, some false) := by decide +kernel
theorem alive11 {k : Nat} (hk : 50 ≤ k) : reedpipelaw11_alive.f k = some true := by
  unfold reedpipelaw11_alive.f
  rw [if_pos (by decide)]
  simp only [Option.bind_some]
  have h := alive11_some
  rw [show (64 : Nat) = 2 * 32 from rfl, lines_zeros (m := 32) (.inr ⟨rfl, rfl, rfl⟩)]
  simp only [Option.bind_some, List.length_replicate]
  rw [if_pos (by decide), show ((40 : Int)).toNat = 40 from rfl]
  cases e : mdct_Forward.f ((List.replicate (2 * 32) (0 : Int)).set 40 8388608) with
  | none => rw [show (64 : Nat) = 2 * 32 from rfl, e] at h; cases h
  | some p =>
    rw [show (64 : Nat) = 2 * 32 from rfl, e] at h
    simp only [Option.map_some, Option.some.injEq, Prod.mk.injEq] at h
    obtain ⟨h1, h2, h3⟩ := h
    simp only [Option.bind_some]
    rw [if_pos trivial, h1, if_pos rfl, noughts_is (by omega) (by omega)]
    simp only [Option.bind_some]
    rw [show ((32 : Nat) : Int) == 32 from rfl, if_pos rfl, h2, if_pos (by decide), at_rounds (reedpipelaw11_noughts.mono _ _) hk h3]
    rfl
/-- Bounds. -/
theorem back_bound {m b : Nat} {s : Int} (hs : Sized m s b) {x : List Int} (hl : x.length = m) (hx : AllIn 268435455 x) (n : Nat) : -1099511627776 ≤ backAt m s b x n ∧ backAt m s b x n ≤ 1099511627776 := by
  unfold backAt rnd
  have hd := dot_le (b := 2 * ((2 * (n : Int) + 1 + (m : Int)) * s)) (a := (2 * (n : Int) + 1 + (m : Int)) * s) hx (by rcases hs with ⟨rfl, _⟩ | ⟨rfl, _⟩ <;> omega)
  generalize dot (2 * ((2 * (n : Int) + 1 + (m : Int)) * s)) x ((2 * (n : Int) + 1 + (m : Int)) * s) = d at *
  rcases hs with ⟨rfl, rfl, rfl⟩ | ⟨rfl, rfl, rfl⟩ <;> omega
theorem line_bound {m b : Nat} {s : Int} (hs : Sized m s b) {z : List Int} (hl : z.length = 2 * m) (hz : AllIn 8388608 z) (k : Nat) : -33554432 ≤ lineAt m s z k ∧ lineAt m s z k ≤ 33554432 := by
  unfold lineAt rnd
  have hd := dot_bound (2 * ((2 * (k : Int) + 1) * s)) hz ((1 + (m : Int)) * ((2 * (k : Int) + 1) * s))
  generalize dot (2 * ((2 * (k : Int) + 1) * s)) z ((1 + (m : Int)) * ((2 * (k : Int) + 1) * s)) = d at *
  rcases hs with ⟨rfl, rfl, rfl⟩ | ⟨rfl, rfl, rfl⟩ <;> omega
theorem line_dot_bound {m b : Nat} {s : Int} (hs : Sized m s b) {z : List Int} (hl : z.length = 2 * m) (hz : AllIn 8388608 z) (b' a : Int) : -288230376151711744 ≤ dot b' z a ∧ dot b' z a ≤ 288230376151711744 := by
  have hd := dot_bound b' hz a
  rcases hs with ⟨rfl, rfl, rfl⟩ | ⟨rfl, rfl, rfl⟩ <;> omega

end Go.Proofs.Ytpoppdaaodmicaa.Q
