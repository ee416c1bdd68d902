/- MdctTurns: samples that are turned over have lines that are turned over, to 1; a sample that is 1 more turns no line by more than 1: any samples, place. No condition. -/
import Derived.Test.YtpoppdaaodmicaaM6
import Derived.Test.YtpoppdaaodmicaaQ10
import Derived.OpenShut
namespace Go.Proofs.Ytpoppdaaodmicaa.Pure
open Go.RowKit Go.Proofs.Ytpoppdaaodmicaa.Q Go.Proofs.YtpoppdaaodmicaaW.PrintWords Go.Proofs.YtpoppdaaodmicaaW.PrintLast

theorem turns_l2 {u v : List Int} (hu : u.length ≤ 256) (hv : v.length = u.length) (hb : ∀ i : Nat, i < u.length → -1 ≤ rd v i - rd u i ∧ rd v i - rd u i ≤ 1) (d : Nat) : ∀ (k i : Nat), i + d = u.length → 2 * d + 2 ≤ k →
    reedpipelaw11_MdctTurns.l2 k true u v 0 (i : Int) = some true := by
  induction d with
  | zero =>
    intro k i hi hk
    obtain ⟨k, rfl⟩ : ∃ j, k = j + 1 + 1 := ⟨k - 2, by omega⟩
    rw [reedpipelaw11_MdctTurns.l2.eq_2, if_neg (by omega), reedpipelaw11_MdctTurns.j6.eq_2, if_neg (by simp), if_pos rfl, if_pos rfl, hv]
    simp
  | succ d ih =>
    intro k i hi hk
    obtain ⟨k, rfl⟩ : ∃ j, k = j + 1 + 1 := ⟨k - 2, by omega⟩
    have h := hb i (by omega)
    rw [reedpipelaw11_MdctTurns.l2.eq_2, if_pos (by omega), decide_eq_true (by omega), reedpipelaw11_MdctTurns.j6.eq_2, if_pos rfl, if_pos (by omega), if_pos (by omega), if_pos (by omega), wrap_in (n := rd v i - rd u i) (by omega) (by omega), if_neg (by omega), if_neg (by omega), wrap_in (by omega) (by omega)]
    exact ih k (i + 1) (by omega) (by omega)
theorem turned_is {z : List Int} (hz : AllIn 8388608 z) {z0 : Int} {x o : List Int} (hl : z.length ≤ 512) (d : Nat) : ∀ (k i : Nat), i + d = z.length →
    reedpipelaw11_MdctTurns.l0 (k + d + 1) z z0 true x ((z.map (- ·)).take i ++ List.replicate (z.length - i) 0) o (i : Int) = reedpipelaw11_MdctTurns.l0 (k + 1) z z0 true x (z.map (- ·)) o (z.length : Int) := by
  induction d with
  | zero =>
    intro k i hi
    obtain rfl : i = z.length := by omega
    rw [Nat.sub_self, List.replicate_zero, List.append_nil, List.take_of_length_le (by simp)]
  | succ d ih =>
    intro k i hi
    have e := ih k (i + 1) (by omega)
    rw [show (((i + 1 : Nat)) : Int) = (i : Int) + 1 by omega] at e
    have hg : rd z (i : Int) = z.getD i 0 := by unfold rd; rw [show ((i : Int)).toNat = i by omega]
    have hv : (z.map (- ·))[i]? = some (-(rd z (i : Int))) := by
      rw [List.getElem?_map, hg, List.getD_eq_getElem?_getD, List.getElem?_eq_getElem (by omega)]
      rfl
    have hr : -8388608 ≤ rd z (i : Int) ∧ rd z (i : Int) ≤ 8388608 := by
      refine hz _ ?_
      rw [hg, List.getD_eq_getElem?_getD, List.getElem?_eq_getElem (by omega)]
      exact List.getElem_mem (by omega)
    rw [show k + (d + 1) + 1 = (k + d + 1) + 1 by omega, reedpipelaw11_MdctTurns.l0.eq_2, if_pos (by omega), if_pos (by omega), if_pos (by rw [fillM_length (by omega) (by simp)]; omega), wrap_in (n := -(rd z (i : Int))) (by omega) (by omega), wrap_in (n := (i : Int) + 1) (by omega) (by omega), show ((i : Int)).toNat = i by omega, fillM_set (by omega) hv, e]
theorem turns_l1 {z o u v : List Int} {z0 : Int} (hu : u.length ≤ 256) (hv : v.length = u.length) (hb : ∀ i : Nat, i < u.length → rd u i + rd v i = 0 ∨ rd u i + rd v i = 1) (d : Nat) : ∀ (k i : Nat), i + d = u.length →
    reedpipelaw11_MdctTurns.l1 (k + d + 1) z z0 true u o v (i : Int) = reedpipelaw11_MdctTurns.l1 (k + 1) z z0 true u o v (u.length : Int) := by
  induction d with
  | zero =>
    intro k i hi
    obtain rfl : i = u.length := by omega
    rfl
  | succ d ih =>
    intro k i hi
    have h := hb i (by omega)
    have e := ih k (i + 1) (by omega)
    rw [show (((i + 1 : Nat)) : Int) = (i : Int) + 1 by omega] at e
    rw [show k + (d + 1) + 1 = (k + d + 1) + 1 by omega, reedpipelaw11_MdctTurns.l1.eq_2, if_pos (by omega), if_pos (by omega), if_pos (by omega), wrap_in (n := rd u i + rd v i) (by omega) (by omega), wrap_in (n := (i : Int) + 1) (by omega) (by omega), e]
    rcases h with h | h
    · rw [if_pos h]
    · rw [if_neg (by omega), if_pos h]
theorem turns_tail {m b : Nat} {s : Int} (hs : Sized m s b) {z : List Int} (hl : z.length = 2 * m) (hz : AllIn 8388608 z) {a1 : Int} {k : Nat} (hk : 1000 ≤ k) {v : List Int} :
    reedpipelaw11_MdctTurns.l1 k z a1 true ((List.range m).map (lineAt m s z)) z v (m : Int) = some true := by
  have hm : m ≤ 256 := by rcases hs with ⟨rfl, _⟩ | ⟨rfl, _⟩ <;> omega
  obtain ⟨k, rfl⟩ : ∃ j, k = j + 1 + 1 := ⟨k - 2, by omega⟩
  rw [reedpipelaw11_MdctTurns.l1.eq_2]
  simp only [List.length_map, List.length_range]
  rw [if_neg (by omega)]
  have ht : ∀ k, reedpipelaw11_MdctTurns.j4 (k + 1) a1 true ((List.range m).map (lineAt m s z)) z true = some true := fun k => by rw [reedpipelaw11_MdctTurns.j4.eq_2, if_pos rfl]
  by_cases h1 : a1 < 0
  · rw [if_pos h1]; exact ht k
  · rw [if_neg h1]
    by_cases h2 : a1 ≥ (z.length : Int)
    · rw [if_pos h2]; exact ht k
    · rw [if_neg h2, if_pos (by omega), if_pos (by omega)]
      by_cases h3 : rd z a1 ≥ 8388608
      · rw [decide_eq_true h3]; exact ht k
      · rw [decide_eq_false h3, reedpipelaw11_MdctTurns.j4.eq_2, if_neg (by simp), if_pos (by omega), if_pos (by omega)]
        obtain ⟨i, rfl⟩ : ∃ i : Nat, a1 = i := ⟨a1.toNat, by omega⟩
        have hg : rd z (i : Int) = z.getD i 0 := by unfold rd; rw [show ((i : Int)).toNat = i by omega]
        have hmem : z.getD i 0 ∈ z := by
          rw [List.getD_eq_getElem?_getD, List.getElem?_eq_getElem (by omega)]
          exact List.getElem_mem (by omega)
        have hr := hz _ hmem
        rw [wrap_in (by omega) (by omega), show ((i : Int)).toNat = i by omega, hg]
        have hz2 : AllIn 8388608 (z.set i (z.getD i 0 + 1)) := by
          intro y hy
          rcases List.mem_or_eq_of_mem_set hy with h | h
          · exact hz y h
          · rw [h]; omega
        rw [forward_yes hs (by simpa using hl) hz2]
        simp only [Option.bind_some]
        have := turns_l2 (u := (List.range m).map (lineAt m s z)) (v := (List.range m).map (lineAt m s (z.set i (z.getD i 0 + 1)))) (by simpa using hm) (by simp) (fun j hj => by
          have hj' : j < m := by simpa using hj
          rw [rd_map_range hj', rd_map_range hj']
          unfold lineAt
          rw [dot_set _ _ _ _ _ (by omega), show z.getD i 0 + 1 - z.getD i 0 = 1 by omega, Int.one_mul]
          have hc := Tab.C_max ((1 + (m : Int)) * ((2 * (j : Int) + 1) * s) + i * (2 * ((2 * (j : Int) + 1) * s)))
          generalize Tab.C ((1 + (m : Int)) * ((2 * (j : Int) + 1) * s) + i * (2 * ((2 * (j : Int) + 1) * s))) = c at *
          generalize dot (2 * ((2 * (j : Int) + 1) * s)) z ((1 + (m : Int)) * ((2 * (j : Int) + 1) * s)) = q at *
          unfold rnd
          omega) m k 0 (by simp) (by omega)
        exact this
theorem turns_all (z : List Int) (a1 : Int) {k : Nat} (hk : 3000 ≤ k) : reedpipelaw11_MdctTurns.f k z a1 = some true := by
  unfold reedpipelaw11_MdctTurns.f
  rw [alive11 (by omega)]
  simp only [Option.bind_some]
  obtain ⟨k, rfl⟩ : ∃ j, k = j + 1 := ⟨k - 1, by omega⟩
  by_cases h : (z.length : Int) > 1000
  · rw [if_pos h, reedpipelaw11_MdctTurns.j0.eq_2, if_pos rfl]
  · rw [if_neg h, show (!true) = false from rfl, reedpipelaw11_MdctTurns.j0.eq_2, if_neg (by simp)]
    rcases forward_cases z with ⟨h1, _⟩ | ⟨h1, _⟩ | ⟨m, s, b, hs, hl, hz, h1⟩
    · rw [h1]; rfl
    · rw [h1]; rfl
    · rw [h1]
      have hm : m ≤ 256 := by rcases hs with ⟨rfl, _⟩ | ⟨rfl, _⟩ <;> omega
      simp only [Option.bind_some]
      rw [if_pos trivial, if_pos (by omega), if_pos (by omega), if_pos (by simp; omega)]
      obtain ⟨k, rfl⟩ : ∃ j, k = j + z.length + 1 := ⟨k - z.length - 1, by omega⟩
      have e := turned_is hz (z0 := a1) (x := (List.range m).map (lineAt m s z)) (o := [] ++ z) (by omega) z.length k 0 (by omega)
      rw [List.take_zero, List.nil_append, Nat.sub_zero, show ((0 : Nat) : Int) = 0 from rfl] at e
      rw [Int.toNat_natCast, e, reedpipelaw11_MdctTurns.l0.eq_2, if_neg (by omega)]
      have hz2 : AllIn 8388608 (z.map (- ·)) := by
        intro y hy
        obtain ⟨x, hx, rfl⟩ := List.mem_map.1 hy
        have := hz x hx
        omega
      rw [forward_yes hs (by simpa using hl) hz2]
      simp only [Option.bind_some, List.length_map, List.length_range, List.nil_append]
      obtain ⟨k, rfl⟩ : ∃ j, k = j + m + 1 + 1 := ⟨k - m - 2, by omega⟩
      rw [if_pos trivial, show ((m : Int) != (m : Int)) = false by simp, reedpipelaw11_MdctTurns.j2.eq_2, if_neg (by simp)]
      have e2 := turns_l1 (z := z) (o := z) (z0 := a1) (u := (List.range m).map (lineAt m s z)) (v := (List.range m).map (lineAt m s (z.map (- ·)))) (by simpa using hm) (by simp) (fun i hi => by
        have hi' : i < m := by simpa using hi
        rw [rd_map_range hi', rd_map_range hi']
        unfold lineAt
        rw [dot_neg]
        exact rnd_neg (by omega) _) m k 0 (by simp)
      simp only [List.length_map, List.length_range] at e2
      rw [show ((0 : Nat) : Int) = 0 from rfl] at e2
      rw [e2]
      exact turns_tail hs hl hz (by omega)
theorem MdctTurns : reedpipelaw11_MdctTurns.Pure := fun l0 a1 _ _ _ _ => ⟨3000, turns_all l0 a1 (Nat.le_refl _)⟩

end Go.Proofs.Ytpoppdaaodmicaa.Pure
