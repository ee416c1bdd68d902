-- mdct.sums' closures (functions 72, 81) and scale (73), where there are 256 lines or 32.
import Derived.Test.YtpoppdaaodmicaaM1
import Derived.Test.YtpoppdaaodmicaaBWindow
import Derived.Deep.QuietTactic
import Derived.BigQuiet
namespace Go.Proofs.Ytpoppdaaodmicaa.Q
open Go.RowKit Go.Proofs.YtpoppdaaodmicaaW.PrintWords Go.Proofs.YtpoppdaaodmicaaW.PrintLast Go.Proofs.YtpoppdaaodmicaaW.PrintMore
set_option linter.unusedVariables false
set_option linter.unusedSimpArgs false

theorem ret_pair {a b c d : Int} (h1 : a = c) (h2 : b = d) : Ending.returned (.tuple #[.int .i64 a, .int .i64 b]) = Ending.returned (.tuple #[.int .i64 c, .int .i64 d]) := by rw [h1, h2]
theorem scale_256 (W : World) : Calls Try.prog 73 #[.int .i64 256] W fun e w' => e = .returned (.int .i64 1) ∧ w' = W := by
  go_enter Try.func73, Try.ntmps73
  go_wp2_with fail
  go_ret
  exact ⟨rfl, rfl⟩
theorem scale_32 (W : World) : Calls Try.prog 73 #[.int .i64 32] W fun e w' => e = .returned (.int .i64 8) ∧ w' = W := by
  go_enter Try.func73, Try.ntmps73
  go_wp2_with fail
  go_ret
  exact ⟨rfl, rfl⟩

set_option maxHeartbeats 1000000 in
theorem arcs72_256 (i : Nat) (hi : i < 600) (B0 : Nat) (W : World) (hc : W.cell? ⟨B0, 0, none⟩ = some (.int .i64 256)) :
    Calls Try.prog 72 #[.int .i64 (i : Int), .pointer (some ⟨B0, 0, none⟩)] W fun e w' => e = .returned (.tuple #[.int .i64 ((1 + 256) * ((2 * (i : Int) + 1) * 1)), .int .i64 (2 * ((2 * (i : Int) + 1) * 1))]) ∧ ∃ nd, w' = W.drewN nd := by
  go_enter Try.func72, Try.ntmps72
  go_wp2_with fail
  refine (scale_256 _).mono ?_
  rintro e w' ⟨rfl, rfl⟩
  go_wp2_with fail
  go_ret2
  exact ⟨ret_pair (by omega) (by omega), 0, rfl⟩

set_option maxHeartbeats 1000000 in
theorem arcs81_256 (i : Nat) (hi : i < 600) (B0 : Nat) (W : World) (hc : W.cell? ⟨B0, 0, none⟩ = some (.int .i64 256)) :
    Calls Try.prog 81 #[.int .i64 (i : Int), .pointer (some ⟨B0, 0, none⟩)] W fun e w' => e = .returned (.tuple #[.int .i64 ((2 * (i : Int) + 1 + 256) * 1), .int .i64 (2 * ((2 * (i : Int) + 1 + 256) * 1))]) ∧ ∃ nd, w' = W.drewN nd := by
  go_enter Try.func81, Try.ntmps81
  go_wp2_with fail
  go_quiet ((go_at_call 73; exact Calls.quiet_of_same (scale_256 _)))
  go_wp2_with fail
  go_ret2
  exact ⟨ret_pair (by omega) (by omega), _, rfl⟩

set_option maxHeartbeats 1000000 in
theorem arcs72_32 (i : Nat) (hi : i < 600) (B0 : Nat) (W : World) (hc : W.cell? ⟨B0, 0, none⟩ = some (.int .i64 32)) :
    Calls Try.prog 72 #[.int .i64 (i : Int), .pointer (some ⟨B0, 0, none⟩)] W fun e w' => e = .returned (.tuple #[.int .i64 ((1 + 32) * ((2 * (i : Int) + 1) * 8)), .int .i64 (2 * ((2 * (i : Int) + 1) * 8))]) ∧ ∃ nd, w' = W.drewN nd := by
  go_enter Try.func72, Try.ntmps72
  go_wp2_with fail
  refine (scale_32 _).mono ?_
  rintro e w' ⟨rfl, rfl⟩
  go_wp2_with fail
  go_ret2
  exact ⟨ret_pair (by omega) (by omega), 0, rfl⟩

set_option maxHeartbeats 1000000 in
theorem arcs81_32 (i : Nat) (hi : i < 600) (B0 : Nat) (W : World) (hc : W.cell? ⟨B0, 0, none⟩ = some (.int .i64 32)) :
    Calls Try.prog 81 #[.int .i64 (i : Int), .pointer (some ⟨B0, 0, none⟩)] W fun e w' => e = .returned (.tuple #[.int .i64 ((2 * (i : Int) + 1 + 32) * 8), .int .i64 (2 * ((2 * (i : Int) + 1 + 32) * 8))]) ∧ ∃ nd, w' = W.drewN nd := by
  go_enter Try.func81, Try.ntmps81
  go_wp2_with fail
  go_quiet ((go_at_call 73; exact Calls.quiet_of_same (scale_32 _)))
  go_wp2_with fail
  go_ret2
  exact ⟨ret_pair (by omega) (by omega), _, rfl⟩

end Go.Proofs.Ytpoppdaaodmicaa.Q
