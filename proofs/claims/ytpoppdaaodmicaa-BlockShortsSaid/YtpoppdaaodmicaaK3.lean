/- The laws of layer 12: what they all begin with. -/
import Derived.Test.YtpoppdaaodmicaaK2
import Derived.Test.YtpoppdaaodmicaaQ51
namespace Go.Proofs.Ytpoppdaaodmicaa.Q
open Go.RowKit Go.Proofs.YtpoppdaaodmicaaW.PrintWords Go.Proofs.YtpoppdaaodmicaaW.PrintLast Go.Proofs.YtpoppdaaodmicaaW.PrintMore

theorem rd_zeros (n i : Nat) : rd (List.replicate n 0) (i : Int) = 0 := by
  unfold rd
  rw [List.getD_eq_getElem?_getD, List.getElem?_replicate]
  split <;> rfl
theorem zL_zeros (n p : Nat) (X : List Int) : zL (List.replicate n 0) p X = List.replicate X.length 0 := by
  unfold zL
  refine map_const fun i _ => ?_
  unfold zAt
  rw [rd_zeros, Int.zero_mul, rnd_zero (by omega)]
theorem gather_zeros {out : Nat → List Int} {m : Nat} (h : ∀ i, out i = List.replicate m 0) : ∀ n, gather out n = List.replicate (n * m) 0
  | 0 => by rw [gather, Nat.zero_mul]; rfl
  | n + 1 => by rw [gather, gather_zeros h n, h, List.replicate_append_replicate, Nat.add_mul, Nat.one_mul]
theorem anL_zeros (a0 a1 a2 : Int) (n : Nat) : anL a0 a1 a2 (List.replicate n 0) = List.replicate 256 0 := by
  unfold anL
  rw [gather_zeros (m := anM a0)]
  · unfold anN anM
    split <;> rfl
  · intro i
    unfold anLine
    refine map_const fun k _ => ?_
    unfold lineAt
    rw [zL_zeros, dot_zeros, rnd_zero (by omega)]
theorem between_zeros {low high : Int} (h0 : low ≤ 0) (h1 : 0 ≤ high) (n : Nat) : Between low high (List.replicate n 0) := fun i _ => by rw [rd_zeros]; exact ⟨h0, h1⟩
theorem analyse_zeros {a0 a1 a2 : Int} (h0 : 0 ≤ a0 ∧ a0 ≤ 3) (h1 : a1 = 0 ∨ a1 = 1) (h2 : a2 = 0 ∨ a2 = 1) {n : Nat} (hn : n = 512) : block_Analyse.f a0 a1 a2 (List.replicate n 0) = some (List.replicate 256 0, 0) := by
  rw [analyse_yes h0 h1 h2 (by rw [List.length_replicate]; exact hn) (between_zeros (by decide) (by decide) n), anL_zeros]
theorem noughts12_from {n : Nat} {m : Int} (hn : n ≤ 1000) (d : Nat) : ∀ (k i : Nat), i + d = n → d + 1 ≤ k → reedpipelaw12_noughts.l0 k (List.replicate n 0) m (i : Int) = some ((n : Int) == m) := by
  induction d with
  | zero =>
    intro k i hi hk
    obtain ⟨k, rfl⟩ : ∃ j, k = j + 1 := ⟨k - 1, by omega⟩
    rw [reedpipelaw12_noughts.l0.eq_2, List.length_replicate, if_neg (by omega)]
  | succ d ih =>
    intro k i hi hk
    obtain ⟨k, rfl⟩ : ∃ j, k = j + 1 := ⟨k - 1, by omega⟩
    rw [reedpipelaw12_noughts.l0.eq_2, List.length_replicate, if_pos (by omega), if_pos (by omega), rd_zeros, if_pos rfl, wrap_in (by omega) (by omega)]
    exact ih k (i + 1) (by omega) (by omega)
theorem noughts12 {n : Nat} {m : Int} (hn : n ≤ 1000) {k : Nat} (hk : n + 1 ≤ k) : reedpipelaw12_noughts.f k (List.replicate n 0) m = some ((n : Int) == m) := by
  unfold reedpipelaw12_noughts.f
  exact noughts12_from hn n k 0 (by omega) hk
theorem win_chk : rd (winL 1 0 0) 300 = 4194304 ∧ rd (winL 1 0 0) 511 = 0 ∧ rd (winL 1 0 0) 0 > 0 := by decide +kernel
theorem alive12 {k : Nat} (hk : 1000 ≤ k) : reedpipelaw12_alive.f k = some true := by
  obtain ⟨h1, h2, h3⟩ := win_chk
  have hl := winL_length 1 0 0
  have hz := fun n (hn : n = 512) => analyse_zeros (a0 := 2) (a1 := 0) (a2 := 1) (by omega) (by omega) (by omega) (n := n) hn
  unfold reedpipelaw12_alive.f
  rw [window_yes (by omega) (by omega) (by omega) (by omega), Option.bind_some, if_pos (by decide), hz 512 rfl, Option.bind_some]
  dsimp only
  rw [if_pos rfl, if_pos rfl, hl, if_pos (show ((512 : Nat) : Int) = 512 from rfl), if_pos (by decide), h1, if_pos rfl, if_pos (by decide), h2, if_pos rfl, if_pos (by decide), if_pos h3, noughts12 (by omega) (by omega), Option.bind_some]
  rfl

end Go.Proofs.Ytpoppdaaodmicaa.Q
