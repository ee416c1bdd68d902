/- Plain facts on lines and numbers: noughts; bounds. -/
import Derived.Test.YtpoppdaaodmicaaM5
namespace Go.Proofs.Ytpoppdaaodmicaa.Q
open Go.RowKit Go.Proofs.YtpoppdaaodmicaaW.PrintWords Go.Proofs.YtpoppdaaodmicaaW.PrintLast Go.Proofs.YtpoppdaaodmicaaW.PrintMore

theorem allIn_zeros {X : Int} (hX : 0 ≤ X) (n : Nat) : AllIn X (List.replicate n 0) := by
  intro x hx
  obtain ⟨_, rfl⟩ := List.mem_replicate.1 hx
  omega
theorem map_const {n : Nat} {f : Nat → Int} (h : ∀ i, i < n → f i = 0) : (List.range n).map f = List.replicate n 0 := by
  apply List.ext_getElem
  · simp
  · intro i h1 h2
    simp at h1
    simp [h i h1]
theorem rnd_zero {b : Nat} (hb : 1 ≤ b) : rnd b 0 = 0 := by
  unfold rnd
  obtain ⟨p, hp, e1, e2⟩ := pow_half hb
  rw [e1, e2, Int.zero_add]
  exact Int.ediv_eq_zero_of_lt (by omega) (by omega)
/-- Bounds. -/
theorem back_bound {m b : Nat} {s : Int} (hs : Sized m s b) {x : List Int} (hl : x.length = m) (hx : AllIn 268435455 x) (n : Nat) : -1099511627776 ≤ backAt m s b x n ∧ backAt m s b x n ≤ 1099511627776 := by
  unfold backAt rnd
  have hd := dot_le (b := 2 * ((2 * (n : Int) + 1 + (m : Int)) * s)) (a := (2 * (n : Int) + 1 + (m : Int)) * s) hx (by rcases hs with ⟨rfl, _⟩ | ⟨rfl, _⟩ <;> omega)
  generalize dot (2 * ((2 * (n : Int) + 1 + (m : Int)) * s)) x ((2 * (n : Int) + 1 + (m : Int)) * s) = d at *
  rcases hs with ⟨rfl, rfl, rfl⟩ | ⟨rfl, rfl, rfl⟩ <;> omega
end Go.Proofs.Ytpoppdaaodmicaa.Q
