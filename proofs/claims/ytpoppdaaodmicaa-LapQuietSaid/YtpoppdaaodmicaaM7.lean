/- Plain facts on sums: forward and back, samples come to themselves, less or and their mirror. -/
import Derived.Test.YtpoppdaaodmicaaM6a
namespace Go.Proofs.Ytpoppdaaodmicaa.Q
open Go.RowKit Go.Proofs.YtpoppdaaodmicaaW.PrintWords Go.Proofs.YtpoppdaaodmicaaW.PrintLast Go.Proofs.YtpoppdaaodmicaaW.PrintMore

/-! ### finite sums -/
def sm : Nat → (Nat → Int) → Int
  | 0, _ => 0
  | n + 1, f => sm n f + f n
theorem sm_congr {f g : Nat → Int} : ∀ {n : Nat}, (∀ i, i < n → f i = g i) → sm n f = sm n g
  | 0, _ => rfl
  | n + 1, h => by rw [sm, sm, sm_congr (fun i hi => h i (by omega)), h n (by omega)]
theorem sm_zero : ∀ n : Nat, sm n (fun _ => 0) = 0
  | 0 => rfl
  | n + 1 => by rw [sm, sm_zero n]; rfl
theorem sm_nought {f : Nat → Int} {n : Nat} (h : ∀ i, i < n → f i = 0) : sm n f = 0 := (sm_congr h).trans (sm_zero n)
theorem sm_one {f : Nat → Int} {a : Nat} : ∀ {n : Nat}, a < n → (∀ i, i < n → i ≠ a → f i = 0) → sm n f = f a
  | 0, h, _ => by omega
  | n + 1, h, h0 => by
    rw [sm]
    by_cases e : a = n
    · subst e
      rw [sm_nought (fun i hi => h0 i (by omega) (by omega))]; omega
    · rw [sm_one (n := n) (by omega) (fun i hi hne => h0 i (by omega) hne), h0 n (by omega) (by omega)]; omega
/-! ### cosines of one line over all lines -/
/-- A sum of cosines of odd multiples. -/
def zs (m : Nat) (s j : Int) : Int := sm m (fun k => Tab.C (2 * j * ((2 * (k : Int) + 1) * s)))
/-! ### two cosines multiplied -/
/-! ### forward and back -/
end Go.Proofs.Ytpoppdaaodmicaa.Q
