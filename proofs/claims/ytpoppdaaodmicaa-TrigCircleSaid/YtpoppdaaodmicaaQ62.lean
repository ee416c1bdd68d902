-- quarter (function 62): its contract by hand: the print's own text of it does not build (a slot that holds a test's answer, ahead of a cut).
import Derived.Test.YtpoppdaaodmicaaQ0
import Derived.Test.YtpoppdaaodmicaaQ96
import Derived.Test.YtpoppdaaodmicaaQ97
namespace Go.Proofs.Ytpoppdaaodmicaa.Q
open Go.RowKit Go.Proofs.YtpoppdaaodmicaaW.PrintWords Go.Proofs.YtpoppdaaodmicaaW.PrintLast Go.Proofs.YtpoppdaaodmicaaW.PrintMore
attribute [local go_sem] max2_int min2_int max_two min_two max_three min_three max_four min_four
set_option linter.unusedVariables false
set_option linter.unusedSimpArgs false

/-! ### trig_quarter: function 62 -/
def trig_quarter.f (a0 : Int) : Option (Int) :=
  if a0 > 256 then
    (trig_rounded.f (wrap64 (wrap64 (512 - a0) * 3454217652358)) 20).bind fun a => (trig_rounded.f (wrap64 (a * a)) 30).bind fun q =>
      (trig_series.f 8 a q [6, 20, 42, 72, 110, 156, 210]).bind fun s => trig_rounded.f s 4
  else
    (trig_rounded.f (wrap64 (a0 * 3454217652358)) 20).bind fun a => (trig_rounded.f (wrap64 (a * a)) 30).bind fun q =>
      (trig_series.f 8 1073741824 q [2, 12, 30, 56, 90, 132, 182]).bind fun s => trig_rounded.f s 4

set_option maxHeartbeats 8000000 in
set_option maxRecDepth 100000 in
theorem trig_quarter.calls_yes (a0 : Int) (r : Int) (w : World) (hc : decide (256 < a0) = true) (h : ((trig_rounded.f (wrap64 (wrap64 (512 - a0) * 3454217652358)) 20).bind fun a => (trig_rounded.f (wrap64 (a * a)) 30).bind fun q => (trig_series.f 8 a q [6, 20, 42, 72, 110, 156, 210]).bind fun s => trig_rounded.f s 4) = some r) :
    Calls Try.prog 62 #[.int .i64 a0] w fun e w' => e = .returned (.int .i64 r) ∧ Below w.heap.size w w' := by
  have HB := Aside0.mk (Below.refl w.heap.size w)
  obtain ⟨a, A1, h⟩ := Option.bind_eq_some_iff.mp h
  obtain ⟨q, A2, h⟩ := Option.bind_eq_some_iff.mp h
  obtain ⟨s, A3, A4⟩ := Option.bind_eq_some_iff.mp h
  obtain ⟨y, hy⟩ : ∃ y_ : List Int, y_ = ([6, 20, 42, 72, 110, 156, 210] : List Int) := ⟨_, rfl⟩
  rw [← hy] at A3
  have Ny := Aside0.mk hy
  clear hy
  replace A1 := Aside0.mk A1
  replace A2 := Aside0.mk A2
  replace A3 := Aside0.mk A3
  replace A4 := Aside0.mk A4
  clear h
  go_enter Try.func62, Try.ntmps62
  go_wp2_with (first | ((with_reducible refine gate_callee (f := 96) rfl ?_); refine goesL_ (some 13) rfl rfl Try.func96 (by kernel_rfl) rfl #[.int .i64 (wrap64 (wrap64 (512 - a0) * 3454217652358)), .int .i64 20] rfl (by (try simp only [List.map_toArray, List.map_cons, List.map_nil]); first | done | rfl) ?_; (with_reducible refine (trig_rounded.calls (wrap64 (wrap64 (512 - a0) * 3454217652358)) 20 a _ A1.out).mono ?_); rintro e w' ⟨rfl, ⟨nd, rfl⟩⟩; refine ⟨_, rfl, ?_⟩) | ((with_reducible refine gate_callee (f := 96) rfl ?_); refine goesL_ (some 17) rfl rfl Try.func96 (by kernel_rfl) rfl #[.int .i64 (wrap64 (a * a)), .int .i64 30] rfl (by (try simp only [List.map_toArray, List.map_cons, List.map_nil]); first | done | rfl) ?_; (with_reducible refine (trig_rounded.calls (wrap64 (a * a)) 30 q _ A2.out).mono ?_); rintro e w' ⟨rfl, ⟨nd, rfl⟩⟩; refine ⟨_, rfl, ?_⟩) | ((with_reducible refine gate_dst (N := 21) rfl ?_); refine Kd.R_lit (Kd.int .i64) _ 3 ?hg (N := 21) ?hd (xs := ([6, 20, 42, 72, 110, 156, 210] : List Int)) (inner := [.int .i64 6, .int .i64 20, .int .i64 42, .int .i64 72, .int .i64 110, .int .i64 156, .int .i64 210]) (ok := fun _ => True) (okp := fun _ => True) ?hr ?hp (fun _ hk => hk) trivial (Below.refl _ _) (Nat.le_refl _) (by simp) ?_; (case hd => rfl); (case hg => rfl); (case hr => first | (go_simp; done) | (go_simp; rfl)); (case hp => exact (Reps.one (show Kd.M (Kd.int .i64) _ _ _ 6 [.int .i64 6] from rfl) (Reps.one (show Kd.M (Kd.int .i64) _ _ _ 20 [.int .i64 20] from rfl) (Reps.one (show Kd.M (Kd.int .i64) _ _ _ 42 [.int .i64 42] from rfl) (Reps.one (show Kd.M (Kd.int .i64) _ _ _ 72 [.int .i64 72] from rfl) (Reps.one (show Kd.M (Kd.int .i64) _ _ _ 110 [.int .i64 110] from rfl) (Reps.one (show Kd.M (Kd.int .i64) _ _ _ 156 [.int .i64 156] from rfl) (Reps.one (show Kd.M (Kd.int .i64) _ _ _ 210 [.int .i64 210] from rfl) (Reps.none _ _))))))))); intro v106 w9 ho10 hb hg_ hnew_; clear hg_ hnew_; rw [← Ny.out] at ho10; have n0_ := Aside0.mk (Kd.R_lower ho10 (below_size (by repeat (first | (with_reducible first | exact HB.out | apply below_alloc | apply pw_below_drewN | apply below_drew1) | exact HB.out)))); have n1_ := Aside0.mk (below_step (by repeat (first | (with_reducible first | exact HB.out | apply below_alloc | apply pw_below_drewN | apply below_drew1) | exact HB.out)) hb); clear HB; have HO107 := n0_; have HB := n1_; clear n0_ n1_; clear hb ho10; obtain ⟨Ao11, co11, eo11⟩ := Kd.R_slice HO107.out; subst eo11) | ((with_reducible refine gate_callee (f := 97) rfl ?_); refine goesL_ (some 22) rfl rfl Try.func97 (by kernel_rfl) rfl #[.int .i64 a, .int .i64 q, .slice Ao11 y.length co11] rfl (by (try simp only [List.map_toArray, List.map_cons, List.map_nil]); first | done | rfl) ?_; (with_reducible refine (trig_series.calls 8 a q _ _ y s _ ?side1 ?side2 A3.out).mono ?_); (case side1 => repeat (first | exact (Kd.R_reads' HO107.out).2.2 | (with_reducible refine Kd.C_alloc ?_ _) | (with_reducible refine Kd.C_drewN ?_ _) | (with_reducible refine Kd.C_drew ?_))); (case side2 => exact (Kd.R_reads' HO107.out).2.1); rintro e w' ⟨rfl, ⟨nd, rfl⟩⟩; refine ⟨_, rfl, ?_⟩) | ((with_reducible refine gate_callee (f := 96) rfl ?_); refine goesL_ (some 23) rfl rfl Try.func96 (by kernel_rfl) rfl #[.int .i64 s, .int .i64 4] rfl (by (try simp only [List.map_toArray, List.map_cons, List.map_nil]); first | done | rfl) ?_; (with_reducible refine (trig_rounded.calls s 4 r _ A4.out).mono ?_); rintro e w' ⟨rfl, ⟨nd, rfl⟩⟩; refine ⟨_, rfl, ?_⟩))
  go_ret
  exact ⟨rfl, by repeat (first | (with_reducible first | exact HB.out | apply below_alloc | apply pw_below_drewN | apply below_drew1) | exact HB.out)⟩

set_option maxHeartbeats 8000000 in
set_option maxRecDepth 100000 in
theorem trig_quarter.calls_no (a0 : Int) (r : Int) (w : World) (hc : decide (256 < a0) = false) (h : ((trig_rounded.f (wrap64 (a0 * 3454217652358)) 20).bind fun a => (trig_rounded.f (wrap64 (a * a)) 30).bind fun q => (trig_series.f 8 1073741824 q [2, 12, 30, 56, 90, 132, 182]).bind fun s => trig_rounded.f s 4) = some r) :
    Calls Try.prog 62 #[.int .i64 a0] w fun e w' => e = .returned (.int .i64 r) ∧ Below w.heap.size w w' := by
  have HB := Aside0.mk (Below.refl w.heap.size w)
  obtain ⟨a, A1, h⟩ := Option.bind_eq_some_iff.mp h
  obtain ⟨q, A2, h⟩ := Option.bind_eq_some_iff.mp h
  obtain ⟨s, A3, A4⟩ := Option.bind_eq_some_iff.mp h
  obtain ⟨y, hy⟩ : ∃ y_ : List Int, y_ = ([2, 12, 30, 56, 90, 132, 182] : List Int) := ⟨_, rfl⟩
  rw [← hy] at A3
  have Ny := Aside0.mk hy
  clear hy
  replace A1 := Aside0.mk A1
  replace A2 := Aside0.mk A2
  replace A3 := Aside0.mk A3
  replace A4 := Aside0.mk A4
  clear h
  go_enter Try.func62, Try.ntmps62
  go_wp2_with (first | ((with_reducible refine gate_callee (f := 96) rfl ?_); refine goesL_ (some 13) rfl rfl Try.func96 (by kernel_rfl) rfl #[.int .i64 (wrap64 (a0 * 3454217652358)), .int .i64 20] rfl (by (try simp only [List.map_toArray, List.map_cons, List.map_nil]); first | done | rfl) ?_; (with_reducible refine (trig_rounded.calls (wrap64 (a0 * 3454217652358)) 20 a _ A1.out).mono ?_); rintro e w' ⟨rfl, ⟨nd, rfl⟩⟩; refine ⟨_, rfl, ?_⟩) | ((with_reducible refine gate_callee (f := 96) rfl ?_); refine goesL_ (some 17) rfl rfl Try.func96 (by kernel_rfl) rfl #[.int .i64 (wrap64 (a * a)), .int .i64 30] rfl (by (try simp only [List.map_toArray, List.map_cons, List.map_nil]); first | done | rfl) ?_; (with_reducible refine (trig_rounded.calls (wrap64 (a * a)) 30 q _ A2.out).mono ?_); rintro e w' ⟨rfl, ⟨nd, rfl⟩⟩; refine ⟨_, rfl, ?_⟩) | ((with_reducible refine gate_dst (N := 25) rfl ?_); refine Kd.R_lit (Kd.int .i64) _ 3 ?hg (N := 25) ?hd (xs := ([2, 12, 30, 56, 90, 132, 182] : List Int)) (inner := [.int .i64 2, .int .i64 12, .int .i64 30, .int .i64 56, .int .i64 90, .int .i64 132, .int .i64 182]) (ok := fun _ => True) (okp := fun _ => True) ?hr ?hp (fun _ hk => hk) trivial (Below.refl _ _) (Nat.le_refl _) (by simp) ?_; (case hd => rfl); (case hg => rfl); (case hr => first | (go_simp; done) | (go_simp; rfl)); (case hp => exact (Reps.one (show Kd.M (Kd.int .i64) _ _ _ 2 [.int .i64 2] from rfl) (Reps.one (show Kd.M (Kd.int .i64) _ _ _ 12 [.int .i64 12] from rfl) (Reps.one (show Kd.M (Kd.int .i64) _ _ _ 30 [.int .i64 30] from rfl) (Reps.one (show Kd.M (Kd.int .i64) _ _ _ 56 [.int .i64 56] from rfl) (Reps.one (show Kd.M (Kd.int .i64) _ _ _ 90 [.int .i64 90] from rfl) (Reps.one (show Kd.M (Kd.int .i64) _ _ _ 132 [.int .i64 132] from rfl) (Reps.one (show Kd.M (Kd.int .i64) _ _ _ 182 [.int .i64 182] from rfl) (Reps.none _ _))))))))); intro v106 w9 ho10 hb hg_ hnew_; clear hg_ hnew_; rw [← Ny.out] at ho10; have n0_ := Aside0.mk (Kd.R_lower ho10 (below_size (by repeat (first | (with_reducible first | exact HB.out | apply below_alloc | apply pw_below_drewN | apply below_drew1) | exact HB.out)))); have n1_ := Aside0.mk (below_step (by repeat (first | (with_reducible first | exact HB.out | apply below_alloc | apply pw_below_drewN | apply below_drew1) | exact HB.out)) hb); clear HB; have HO107 := n0_; have HB := n1_; clear n0_ n1_; clear hb ho10; obtain ⟨Ao11, co11, eo11⟩ := Kd.R_slice HO107.out; subst eo11) | ((with_reducible refine gate_callee (f := 97) rfl ?_); refine goesL_ (some 26) rfl rfl Try.func97 (by kernel_rfl) rfl #[.int .i64 1073741824, .int .i64 q, .slice Ao11 y.length co11] rfl (by (try simp only [List.map_toArray, List.map_cons, List.map_nil]); first | done | rfl) ?_; (with_reducible refine (trig_series.calls 8 1073741824 q _ _ y s _ ?side1 ?side2 A3.out).mono ?_); (case side1 => repeat (first | exact (Kd.R_reads' HO107.out).2.2 | (with_reducible refine Kd.C_alloc ?_ _) | (with_reducible refine Kd.C_drewN ?_ _) | (with_reducible refine Kd.C_drew ?_))); (case side2 => exact (Kd.R_reads' HO107.out).2.1); rintro e w' ⟨rfl, ⟨nd, rfl⟩⟩; refine ⟨_, rfl, ?_⟩) | ((with_reducible refine gate_callee (f := 96) rfl ?_); refine goesL_ (some 27) rfl rfl Try.func96 (by kernel_rfl) rfl #[.int .i64 s, .int .i64 4] rfl (by (try simp only [List.map_toArray, List.map_cons, List.map_nil]); first | done | rfl) ?_; (with_reducible refine (trig_rounded.calls s 4 r _ A4.out).mono ?_); rintro e w' ⟨rfl, ⟨nd, rfl⟩⟩; refine ⟨_, rfl, ?_⟩))
  go_ret
  exact ⟨rfl, by repeat (first | (with_reducible first | exact HB.out | apply below_alloc | apply pw_below_drewN | apply below_drew1) | exact HB.out)⟩

theorem trig_quarter.calls (a0 : Int) (r : Int) (w : World) (h : trig_quarter.f a0 = some r) :
    Calls Try.prog 62 #[.int .i64 a0] w fun e w' => e = .returned (.int .i64 r) ∧ Below w.heap.size w w' := by
  unfold trig_quarter.f at h
  by_cases c : a0 > 256
  · rw [if_pos c] at h
    exact trig_quarter.calls_yes a0 r w (decide_eq_true c) h
  · rw [if_neg c] at h
    exact trig_quarter.calls_no a0 r w (decide_eq_false c) h
end Go.Proofs.Ytpoppdaaodmicaa.Q
