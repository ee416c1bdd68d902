/- LapNames: the error has its number, and the chapter's examples are so. No condition. -/
import Derived.Test.YtpoppdaaodmicaaK7
import Derived.Test.YtpoppdaaodmicaaQ26
namespace Go.Proofs.Ytpoppdaaodmicaa.Pure
open Go.RowKit Go.Proofs.Ytpoppdaaodmicaa.Q Go.Proofs.YtpoppdaaodmicaaW.PrintWords Go.Proofs.YtpoppdaaodmicaaW.PrintLast

theorem names13 {k : Nat} (hk : 300 ≤ k) : reedpipelaw13_LapNames.f k = some true := by
  obtain ⟨n, hn⟩ : ∃ n : Nat, n = 256 := ⟨256, rfl⟩
  have hc := new_check hn (s := 0) (k := 0) (by decide) (by decide)
  have h1 : lap_Next.f [] 0 0 0 0 (List.replicate n 0) = some ([], 0, 0, [], 8) := lap_next_bad (check_no (fun h => by have := h.1; simp at this)) (by decide)
  have h2 : ∃ y, block_Synth.f 0 0 0 [] = some (y, 4) := by
    rcases synth_no (a0 := 0) (a1 := 0) (a2 := 0) (l := []) with ⟨e, _, h, _, he⟩ | ⟨_, h, _⟩
    · rw [he (by unfold MayBe; decide) (by decide)] at h
      exact ⟨_, h⟩
    · simp at h
  obtain ⟨y, h2⟩ := h2
  have h3 := lap_next_err hc h2 (by decide)
  unfold reedpipelaw13_LapNames.f
  rw [if_pos (by decide), ← hn, h1, Option.bind_some, new_is, Option.bind_some, ← hn]
  dsimp only
  rw [h3, Option.bind_some, alive13 hk, Option.bind_some, if_pos rfl]
  dsimp only
  rw [if_pos rfl, if_pos rfl, Option.bind_some, hc, Option.bind_some]
  rfl
theorem LapNames : reedpipelaw13_LapNames.Pure := ⟨300, names13 (Nat.le_refl _)⟩

end Go.Proofs.Ytpoppdaaodmicaa.Pure
