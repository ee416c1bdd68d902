/- Plain facts on block.Synth, one by one: each number is a sum of what its windows bear; noughts; what hangs on what. -/
import Derived.Test.YtpoppdaaodmicaaK4
import Derived.Test.YtpoppdaaodmicaaK3
import Derived.Test.YtpoppdaaodmicaaM7
namespace Go.Proofs.Ytpoppdaaodmicaa.Q
open Go.RowKit Go.Proofs.YtpoppdaaodmicaaW.PrintWords Go.Proofs.YtpoppdaaodmicaaW.PrintLast Go.Proofs.YtpoppdaaodmicaaW.PrintMore

/-- What window i bears to number n. -/
def bearAt (a0 a1 a2 : Int) (l : List Int) (n i : Nat) : Int := if anPos a0 i ≤ n ∧ n < anPos a0 i + 2 * anM a0 then snAt a0 a1 a2 l i (n - anPos a0 i) else 0
theorem accL_rd {a0 a1 a2 : Int} (h1 : a1 = 0 ∨ a1 = 1) (h2 : a2 = 0 ∨ a2 = 1) {l : List Int} (hl : l.length = 256) (hb : AllIn 268435455 l) : ∀ N : Nat, N ≤ anN a0 → ∀ n : Nat,
    (-((N : Int) * 68719476736) ≤ rd (accL (anPos a0) (snOut a0 a1 a2 l) N) (n : Int) ∧ rd (accL (anPos a0) (snOut a0 a1 a2 l) N) (n : Int) ≤ (N : Int) * 68719476736) ∧ rd (accL (anPos a0) (snOut a0 a1 a2 l) N) (n : Int) = sm N (bearAt a0 a1 a2 l n)
  | 0, _, n => by
    rw [accL, rd_zeros, sm]
    exact ⟨by omega, rfl⟩
  | N + 1, hN, n => by
    have hN' : N ≤ anN a0 := by omega
    have ih := accL_rd (a0 := a0) h1 h2 hl hb N hN'
    have hN8 : anN a0 ≤ 8 := by unfold anN; split <;> omega
    have hpos := an_pos_le (a0 := a0) (i := N) (by omega)
    have hlen : (snOut a0 a1 a2 l N).length = 2 * anM a0 := snOut_length a0 a1 a2 l N
    have hx : ∀ k : Nat, -1152921504606846976 ≤ rd (snOut a0 a1 a2 l N) (k : Int) ∧ rd (snOut a0 a1 a2 l N) (k : Int) ≤ 1152921504606846976 := by
      intro k
      by_cases hk : k < 2 * anM a0
      · rw [rd_snOut hk]
        have := snAt_bound h1 h2 hl hb (a0 := a0) (i := N) (by omega) k
        omega
      · unfold rd
        rw [show ((k : Int)).toNat = k by omega, List.getD_eq_getElem?_getD, List.getElem?_eq_none (by omega)]
        exact ⟨by decide, by decide⟩
    have hacc : (accL (anPos a0) (snOut a0 a1 a2 l) N).length = 512 := accL_length _ _ N
    have hr := addAt_rd (Y := (N : Int) * 68719476736) (by omega) (fun k => (ih k).1) hx (2 * anM a0) (by rw [hacc]; omega) n
    have hB : -68719476736 ≤ bearAt a0 a1 a2 l n N ∧ bearAt a0 a1 a2 l n N ≤ 68719476736 := by
      unfold bearAt
      split
      · exact snAt_bound h1 h2 hl hb (by omega) _
      · exact ⟨by decide, by decide⟩
    have he : (if anPos a0 N ≤ n ∧ n < anPos a0 N + 2 * anM a0 then rd (snOut a0 a1 a2 l N) ((n - anPos a0 N : Nat) : Int) else 0) = bearAt a0 a1 a2 l n N := by
      unfold bearAt
      by_cases h : anPos a0 N ≤ n ∧ n < anPos a0 N + 2 * anM a0
      · rw [if_pos h, if_pos h, rd_snOut (by omega)]
      · rw [if_neg h, if_neg h]
    rw [he] at hr
    have e1 : accL (anPos a0) (snOut a0 a1 a2 l) (N + 1) = addAt (accL (anPos a0) (snOut a0 a1 a2 l) N) (anPos a0 N) (snOut a0 a1 a2 l N) (2 * anM a0) := by rw [accL, hlen]
    have i2 := (ih n).2
    have i1 := (ih n).1
    rw [e1, hr, sm, ← i2]
    clear e1 hr i2 he hx hacc ih
    refine ⟨?_, rfl⟩
    generalize rd (accL (anPos a0) (snOut a0 a1 a2 l) N) (n : Int) = u at *
    generalize bearAt a0 a1 a2 l n N = v at *
    rw [show (((N + 1 : Nat)) : Int) = (N : Int) + 1 by omega, Int.add_mul, Int.one_mul]
    generalize (N : Int) * 68719476736 = z at *
    omega
theorem snL_length (a0 a1 a2 : Int) (l : List Int) : (snL a0 a1 a2 l).length = 512 := accL_length _ _ _
theorem snL_rd {a0 a1 a2 : Int} (h1 : a1 = 0 ∨ a1 = 1) (h2 : a2 = 0 ∨ a2 = 1) {l : List Int} (hl : l.length = 256) (hb : AllIn 268435455 l) (n : Nat) : rd (snL a0 a1 a2 l) (n : Int) = sm (anN a0) (bearAt a0 a1 a2 l n) :=
  (accL_rd h1 h2 hl hb (anN a0) (Nat.le_refl _) n).2
theorem snL_bound {a0 a1 a2 : Int} (h1 : a1 = 0 ∨ a1 = 1) (h2 : a2 = 0 ∨ a2 = 1) {l : List Int} (hl : l.length = 256) (hb : AllIn 268435455 l) (n : Nat) : -549755813888 ≤ rd (snL a0 a1 a2 l) (n : Int) ∧ rd (snL a0 a1 a2 l) (n : Int) ≤ 549755813888 := by
  have h := (accL_rd h1 h2 hl hb (anN a0) (Nat.le_refl _) n).1
  have hN8 : anN a0 ≤ 8 := by unfold anN; split <;> omega
  unfold snL
  omega
/-! ### noughts -/
theorem back_nought {m b : Nat} {s : Int} (hb : 1 ≤ b) (k n : Nat) : backAt m s b (List.replicate k 0) n = 0 := by
  unfold backAt
  rw [dot_zeros, rnd_zero hb]
theorem snL_zeros {a0 a1 a2 : Int} (h1 : a1 = 0 ∨ a1 = 1) (h2 : a2 = 0 ∨ a2 = 1) {k : Nat} (hk : k = 256) : snL a0 a1 a2 (List.replicate k 0) = List.replicate 512 0 := by
  have hl : (List.replicate k (0 : Int)).length = 256 := by rw [List.length_replicate]; exact hk
  have hz : AllIn 268435455 (List.replicate k 0) := allIn_zeros (by decide) k
  apply List.ext_getElem
  · rw [snL_length, List.length_replicate]
  · intro n g1 g2
    have h := snL_rd h1 h2 hl hz (a0 := a0) n
    rw [sm_nought (fun i _ => ?_)] at h
    · unfold rd at h
      rw [show ((n : Int)).toNat = n by omega, List.getD_eq_getElem?_getD, List.getElem?_eq_getElem g1] at h
      rw [List.getElem_replicate]
      exact h
    · unfold bearAt
      split
      · unfold snAt
        have : anB a0 ≥ 1 := by unfold anB; split <;> omega
        rw [List.drop_replicate, List.take_replicate, back_nought this, Int.zero_mul, rnd_zero (by omega)]
      · rfl
/-! ### what Analyse answers may be synthesised -/
end Go.Proofs.Ytpoppdaaodmicaa.Q
