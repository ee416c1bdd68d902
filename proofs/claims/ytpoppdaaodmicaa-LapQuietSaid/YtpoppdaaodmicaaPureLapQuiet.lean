/- LapQuiet: behind any frame two frames of silence end in silence; and samples are what overlapped, and what comes, each rounded together: any state, sequences and shapes. No condition. -/
import Derived.Test.YtpoppdaaodmicaaK7
import Derived.Test.YtpoppdaaodmicaaQ9
namespace Go.Proofs.Ytpoppdaaodmicaa.Q
open Go.RowKit Go.Proofs.YtpoppdaaodmicaaW.PrintWords Go.Proofs.YtpoppdaaodmicaaW.PrintLast Go.Proofs.YtpoppdaaodmicaaW.PrintMore

theorem want_is {x : Int} (h : -1099511627776 ≤ x ∧ x ≤ 1099511627776) : smp x = mx (mn (wrap64 (x + 8) / 16) 32767) (-32768) := by
  rw [wrap_in (by omega) (by omega)]
  unfold smp mx mn
  rw [rnd4]
  generalize (x + 8) / 16 = y
  clear h
  repeat' split
  all_goals omega
theorem quiet_tail (M : Nat) (hM : M = 256) {a1 a2 a3 : Int} (h1 : a1 ≤ 3) (w2 : 0 ≤ a2) (h3 : a3 = 0 ∨ a3 = 1) : ∃ T2 s2 m2 q f, lap_Next.f (List.replicate M 0) a1 a3 a2 a3 (List.replicate M 0) = some (T2, s2, m2, q, f) ∧ (f ≠ 0 → 3 < a2) ∧ (f = 0 → T2 = List.replicate M 0 ∧ q = List.replicate M 0) := by
  have hck := new_check hM (s := a1) (k := a3) h1 (by omega)
  by_cases c : a2 ≤ 3
  · refine ⟨_, _, _, _, _, quiet_next hck ⟨w2, c⟩ h3 h3 hM, fun h => absurd rfl h, fun _ => ⟨rfl, map_const fun i _ => ?_⟩⟩
    rw [rd_zeros]
    exact smp_zero
  · rcases synth_no (a0 := a2) (a1 := a3) (a2 := a3) (l := List.replicate M 0) with ⟨e, he, h, _⟩ | ⟨h, _⟩
    · exact ⟨_, _, _, _, _, lap_next_err hck h he, fun _ => by omega, fun h => absurd h he⟩
    · exact absurd h.1 c
theorem reedpipelaw13_LapQuiet.calls (A0 : Option Addr) (c0 : Nat) (l0 : List Int) (s0 k0 a1 a2 a3 : Int) (w : World) (hr : Kd.C (Kd.int .i64) w A0 l0.length l0) (hc : l0.length ≤ c0) (wk : 0 ≤ k0) (w1 : 0 ≤ a1) (w2 : 0 ≤ a2) (w3 : 0 ≤ a3) :
    Calls Try.prog 9 #[.agg #[.slice A0 l0.length c0, .int .u8 s0, .int .u8 k0], .int .u8 a1, .int .u8 a2, .int .u8 a3] w fun e w' => e = .returned (.bool true) ∧ Below w.heap.size w w' := by
  by_cases hl : (1000 : Int) < (l0.length : Int)
  · exact quiet_many A0 c0 l0 s0 k0 a1 a2 a3 w hl
  · obtain ⟨M, hM⟩ : ∃ M : Nat, M = 256 := ⟨256, rfl⟩
    rcases lap_next_cases l0 (List.replicate M 0) s0 k0 a1 a3 with ⟨e, he, hn⟩ | ⟨hck, ⟨hl0, hA, _, hk1⟩, ⟨m1, m2, m3⟩, _, _⟩
    · exact quiet_walk A0 c0 l0 s0 k0 a1 a2 a3 w hr hc hl M (Lib.hid hM) [] [] 0 0 e hn (fun _ => rfl) [] [] 0 0 0 (fun h => absurd h he) (fun h => absurd rfl h) (fun h => absurd h he)
    · have hk : k0 = 0 ∨ k0 = 1 := by omega
      have h3 : a3 = 0 ∨ a3 = 1 := by omega
      have hn := quiet_next hck ⟨w1, m1⟩ hk h3 hM
      obtain ⟨T2, s2, m2', q, f, hn2, hf, hq⟩ := quiet_tail M hM (a1 := a1) (a2 := a2) m1 w2 h3
      refine quiet_walk A0 c0 l0 s0 k0 a1 a2 a3 w hr hc hl M (Lib.hid hM) _ _ _ _ 0 hn (fun h => absurd rfl h) T2 q s2 m2' f (fun _ => hn2) hf (fun _ hf0 => ?_)
      obtain ⟨rfl, rfl⟩ := hq hf0
      have hz := List.length_replicate (n := M) (a := (0 : Int))
      refine ⟨⟨hl0, by omega, by omega, by rw [List.length_map, List.length_range]; exact hM, by omega⟩, fun n hn' => ⟨rd_zeros _ _, rd_zeros _ _, rd_zeros _ _, ?_⟩⟩
      rw [rd_map_range (by omega)]
      exact want_is (rd_in (by decide) hA n)

end Go.Proofs.Ytpoppdaaodmicaa.Q
