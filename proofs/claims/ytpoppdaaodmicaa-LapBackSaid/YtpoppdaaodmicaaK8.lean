/- Of Shorts each window's lines hang on its own 64 samples alone, and each window's numbers on its own lines: told of lists. -/
import Derived.Test.YtpoppdaaodmicaaK6
namespace Go.Proofs.Ytpoppdaaodmicaa.Q
open Go.RowKit Go.Proofs.YtpoppdaaodmicaaW.PrintWords Go.Proofs.YtpoppdaaodmicaaW.PrintLast Go.Proofs.YtpoppdaaodmicaaW.PrintMore

/-- Of a list, j numbers from a place on; the others noughts. -/
def cpL (N : Nat) (l : List Int) (p j : Nat) : List Int := (List.range N).map fun n : Nat => if p ≤ n ∧ n < p + j then rd l (n : Int) else 0
theorem cpL_length (N : Nat) (l : List Int) (p j : Nat) : (cpL N l p j).length = N := by unfold cpL; rw [List.length_map, List.length_range]
theorem cpL_zero (N : Nat) (l : List Int) (p : Nat) : cpL N l p 0 = List.replicate N 0 := by
  unfold cpL
  exact map_const fun n _ => if_neg (by omega)
theorem range_map_set {f g : Nat → Int} {N n : Nat} {v : Int} (hv : g n = v) (h : ∀ i, i < N → i ≠ n → g i = f i) : ((List.range N).map f).set n v = (List.range N).map g := by
  apply List.ext_getElem
  · rw [List.length_set, List.length_map, List.length_map]
  · intro i h1 h2
    have hi : i < N := by rw [List.length_map, List.length_range] at h2; exact h2
    rw [List.getElem_set, List.getElem_map, List.getElem_map, List.getElem_range]
    by_cases e : n = i
    · subst e; rw [if_pos rfl, hv]
    · rw [if_neg e, h i hi (fun e' => e e'.symm)]
theorem cpL_set {N p j : Nat} (l : List Int) : (cpL N l p j).set (p + j) (rd l ((p + j : Nat) : Int)) = cpL N l p (j + 1) := by
  unfold cpL
  refine range_map_set ?_ (fun i hi hne => ?_)
  · rw [if_pos (by omega)]
  · by_cases c : p ≤ i ∧ i < p + j
    · rw [if_pos c, if_pos (by omega)]
    · rw [if_neg c, if_neg (by omega)]
theorem rd_cpL {N p j n : Nat} (l : List Int) (hn : n < N) : rd (cpL N l p j) (n : Int) = if p ≤ n ∧ n < p + j then rd l (n : Int) else 0 := by
  unfold cpL
  rw [rd_map_range hn]
end Go.Proofs.Ytpoppdaaodmicaa.Q
