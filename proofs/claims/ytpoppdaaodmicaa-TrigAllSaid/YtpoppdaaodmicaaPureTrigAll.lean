/- TrigAll: all cosines and sines of a circle, and of one ahead, are as the document says. No condition. -/
import Derived.Test.YtpoppdaaodmicaaT4
import Derived.Test.YtpoppdaaodmicaaQ5
namespace Go.Proofs.Ytpoppdaaodmicaa.Pure
open Go.RowKit Go.Proofs.Ytpoppdaaodmicaa.Q Go.Proofs.YtpoppdaaodmicaaW.PrintWords Go.Proofs.YtpoppdaaodmicaaW.PrintLast

theorem all_from (d : Nat) : ∀ (k : Nat) (n : Int), -2048 ≤ n → n + d = 4096 → d + 20 ≤ k → reedpipelaw04_TrigAll.l0 k n = some true := by
  induction d with
  | zero =>
    intro k n h0 hn hk
    obtain ⟨k, rfl⟩ : ∃ j, k = j + 1 := ⟨k - 1, by omega⟩
    simp only [reedpipelaw04_TrigAll.l0]
    rw [if_neg (by omega)]
  | succ d ih =>
    intro k n h0 hn hk
    obtain ⟨k, rfl⟩ : ∃ j, k = j + 1 := ⟨k - 1, by omega⟩
    simp only [reedpipelaw04_TrigAll.l0]
    rw [if_pos (by omega), cos_is _ (by omega), refcos_is _ (by omega), sin_is _ (by omega), refsin_is _ (by omega)]
    simp only [Option.bind_some, if_true]
    rw [wrap_in (by omega) (by omega)]
    exact ih k (n + 1) (by omega) (by omega) (by omega)

theorem all_all (K : Nat) (hK : 6200 ≤ K) : reedpipelaw04_TrigAll.f K = some true := by
  unfold reedpipelaw04_TrigAll.f
  rw [cos_is _ (by omega), show Tab.C 0 = 67108864 by decide +kernel]
  simp only [Option.bind_some]
  rw [if_neg (by decide)]
  exact all_from 6144 K (-2048) (by omega) (by omega) (by omega)

theorem TrigAll : reedpipelaw04_TrigAll.Pure := ⟨6200, all_all 6200 (Nat.le_refl _)⟩

end Go.Proofs.Ytpoppdaaodmicaa.Pure
