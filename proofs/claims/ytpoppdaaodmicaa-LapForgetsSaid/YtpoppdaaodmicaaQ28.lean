-- Written by a program of this session's (wip/mk.py, over the kit's print.py); Lean checks it.
import Derived.Test.YtpoppdaaodmicaaQ0
import Derived.Test.YtpoppdaaodmicaaQ34
import Derived.Test.YtpoppdaaodmicaaBNext
namespace Go.Proofs.Ytpoppdaaodmicaa.Q
open Go.RowKit Go.Proofs.YtpoppdaaodmicaaW.PrintWords Go.Proofs.YtpoppdaaodmicaaW.PrintLast Go.Proofs.YtpoppdaaodmicaaW.PrintMore
attribute [local go_sem] max2_int min2_int max_two min_two max_three min_three max_four min_four   -- for this text's walks alone
set_option linter.unusedVariables false
set_option linter.unusedSimpArgs false

/-! ### reedpipelaw13_LapForgets: function 28 -/
mutual
def reedpipelaw13_LapForgets.j0 : Nat → Int → Int → List Int → List Int → Bool → Bool → List Int → Int → Int → List Int → Int → Int → Option (Bool)
 | 0, _, _, _, _, _, _, _, _, _, _, _, _ => none
 | k + 1, x2, x3, x4, x5, x13, x59, x1087000, x1087001, x1087002, x1088000, x1088001, x1088002 => if x59 = true then (some x13) else ((lap_Next.f x1087000 x1087001 x1087002 x2 x3 x4).bind fun bt1089 => ((lap_Next.f x1088000 x1088001 x1088002 x2 x3 x4).bind fun bt1099 => (if bt1089.2.2.2.2 = 0 then (reedpipelaw13_LapForgets.j1 k x2 x3 x5 x13 bt1089.2.2.2.2 bt1099.2.2.2.2 (bt1099.2.2.2.2 != 0) bt1089.1 bt1089.2.1 bt1089.2.2.1 bt1099.1 bt1099.2.1 bt1099.2.2.1) else (reedpipelaw13_LapForgets.j1 k x2 x3 x5 x13 bt1089.2.2.2.2 bt1099.2.2.2.2 true bt1089.1 bt1089.2.1 bt1089.2.2.1 bt1099.1 bt1099.2.1 bt1099.2.2.1))))
def reedpipelaw13_LapForgets.j1 : Nat → Int → Int → List Int → Bool → Int → Int → Bool → List Int → Int → Int → List Int → Int → Int → Option (Bool)
 | 0, _, _, _, _, _, _, _, _, _, _, _, _, _ => none
 | k + 1, x2, x3, x5, x13, x16, x19, x84, x1099000, x1099001, x1099002, x1109000, x1109001, x1109002 => if x84 = true then (if x13 = true then (if x16 = 0 then (if x19 = 0 then (some true) else (some ((x1109000.length : Int) == 0))) else (if (x1099000.length : Int) = 0 then (if x19 = 0 then (some true) else (some ((x1109000.length : Int) == 0))) else (some false))) else (some false)) else ((lap_Next.f x1099000 x1099001 x1099002 x3 (Int.tmod x2 2) x5).bind fun bt1109 => ((lap_Next.f x1109000 x1109001 x1109002 x3 (Int.tmod x2 2) x5).bind fun bt1119 => (if bt1109.2.2.2.2 = bt1119.2.2.2.2 then (if (bt1109.2.2.2.1.length : Int) = (bt1119.2.2.2.1.length : Int) then (if (bt1109.1.length : Int) = (bt1119.1.length : Int) then (if (x1099000.length : Int) = (x1109000.length : Int) then (if x1099001 = x1109001 then (reedpipelaw13_LapForgets.j2 k x13 bt1109.2.2.2.1 bt1119.2.2.2.1 (x1099002 != x1109002) x1099000 x1099001 x1099002 x1109000 x1109001 x1109002) else (reedpipelaw13_LapForgets.j2 k x13 bt1109.2.2.2.1 bt1119.2.2.2.1 true x1099000 x1099001 x1099002 x1109000 x1109001 x1109002)) else (reedpipelaw13_LapForgets.j2 k x13 bt1109.2.2.2.1 bt1119.2.2.2.1 true x1099000 x1099001 x1099002 x1109000 x1109001 x1109002)) else (reedpipelaw13_LapForgets.j2 k x13 bt1109.2.2.2.1 bt1119.2.2.2.1 true x1099000 x1099001 x1099002 x1109000 x1109001 x1109002)) else (reedpipelaw13_LapForgets.j2 k x13 bt1109.2.2.2.1 bt1119.2.2.2.1 true x1099000 x1099001 x1099002 x1109000 x1109001 x1109002)) else (reedpipelaw13_LapForgets.j2 k x13 bt1109.2.2.2.1 bt1119.2.2.2.1 true x1099000 x1099001 x1099002 x1109000 x1109001 x1109002))))
def reedpipelaw13_LapForgets.j2 : Nat → Bool → List Int → List Int → Bool → List Int → Int → Int → List Int → Int → Int → Option (Bool)
 | 0, _, _, _, _, _, _, _, _, _, _ => none
 | k + 1, x13, x21, x24, x167, x1099000, x1099001, x1099002, x1109000, x1109001, x1109002 => if x167 = true then (some false) else (reedpipelaw13_LapForgets.l0 k x13 x21 x24 0 x1099000 x1099001 x1099002 x1109000 x1109001 x1109002)
def reedpipelaw13_LapForgets.l0 : Nat → Bool → List Int → List Int → Int → List Int → Int → Int → List Int → Int → Int → Option (Bool)
 | 0, _, _, _, _, _, _, _, _, _, _ => none
 | k + 1, x13, x21, x24, x26, x1099000, x1099001, x1099002, x1109000, x1109001, x1109002 => if x26 < (x1099000.length : Int) then (if 0 ≤ x26 then (if x26 < (x1109000.length : Int) then (if (rd x1099000 x26) = (rd x1109000 x26) then (reedpipelaw13_LapForgets.l0 k x13 x21 x24 (wrap64 (x26 + 1)) x1099000 x1099001 x1099002 x1109000 x1109001 x1109002) else (some false)) else (none)) else (none)) else (reedpipelaw13_LapForgets.l1 k x13 x21 x24 0)
def reedpipelaw13_LapForgets.l1 : Nat → Bool → List Int → List Int → Int → Option (Bool)
 | 0, _, _, _, _ => none
 | k + 1, x13, x21, x24, x27 => if x27 < (x21.length : Int) then (if 0 ≤ x27 then (if x27 < (x24.length : Int) then (if (rd x21 x27) = (rd x24 x27) then (if (rd x21 x27) < (-32768) then (some false) else (if (rd x21 x27) > 32767 then (some false) else (reedpipelaw13_LapForgets.l1 k x13 x21 x24 (wrap64 (x27 + 1))))) else (some false)) else (none)) else (none)) else (some x13)
end
def reedpipelaw13_LapForgets.f (k : Nat) (l0_0 : List Int) (a0_1 : Int) (a0_2 : Int) (l1_0 : List Int) (a1_1 : Int) (a1_2 : Int) (a2 : Int) (a3 : Int) (l4 : List Int) (l5 : List Int) : Option (Bool) := (reedpipelaw13_alive.f k).bind fun t1088 => (if (l0_0.length : Int) > 1000 then (reedpipelaw13_LapForgets.j0 k a2 a3 l4 l5 t1088 true l0_0 a0_1 a0_2 l1_0 a1_1 a1_2) else (if (l1_0.length : Int) > 1000 then (reedpipelaw13_LapForgets.j0 k a2 a3 l4 l5 t1088 true l0_0 a0_1 a0_2 l1_0 a1_1 a1_2) else (if (l4.length : Int) > 1000 then (reedpipelaw13_LapForgets.j0 k a2 a3 l4 l5 t1088 true l0_0 a0_1 a0_2 l1_0 a1_1 a1_2) else (if (l5.length : Int) > 1000 then (reedpipelaw13_LapForgets.j0 k a2 a3 l4 l5 t1088 true l0_0 a0_1 a0_2 l1_0 a1_1 a1_2) else (if t1088 = true then (reedpipelaw13_LapForgets.j0 k a2 a3 l4 l5 t1088 (a0_2 != a1_2) l0_0 a0_1 a0_2 l1_0 a1_1 a1_2) else (reedpipelaw13_LapForgets.j0 k a2 a3 l4 l5 t1088 true l0_0 a0_1 a0_2 l1_0 a1_1 a1_2))))))
set_option maxHeartbeats 8000000 in
set_option maxRecDepth 100000 in
theorem reedpipelaw13_LapForgets.calls (k : Nat) (A0_0 : Option Addr) (c0_0 : Nat) (l0_0 : List Int) (a0_1 : Int) (a0_2 : Int) (A1_0 : Option Addr) (c1_0 : Nat) (l1_0 : List Int) (a1_1 : Int) (a1_2 : Int) (a2 : Int) (a3 : Int) (A4 : Option Addr) (c4 : Nat) (l4 : List Int) (A5 : Option Addr) (c5 : Nat) (l5 : List Int) (r : Bool) (w : World) (hr0_0 : Kd.C (Kd.int .i64) w A0_0 l0_0.length l0_0) (hc0_0 : l0_0.length ≤ c0_0) (hr1_0 : Kd.C (Kd.int .i64) w A1_0 l1_0.length l1_0) (hc1_0 : l1_0.length ≤ c1_0) (hr4 : Kd.C (Kd.int .i64) w A4 l4.length l4) (hc4 : l4.length ≤ c4) (hr5 : Kd.C (Kd.int .i64) w A5 l5.length l5) (hc5 : l5.length ≤ c5) (h : reedpipelaw13_LapForgets.f k l0_0 a0_1 a0_2 l1_0 a1_1 a1_2 a2 a3 l4 l5 = some r) :
  Calls Try.prog 28 #[.agg #[.slice A0_0 l0_0.length c0_0, .int .u8 a0_1, .int .u8 a0_2], .agg #[.slice A1_0 l1_0.length c1_0, .int .u8 a1_1, .int .u8 a1_2], .int .u8 a2, .int .u8 a3, .slice A4 l4.length c4, .slice A5 l5.length c5] w fun e w' => e = .returned (.bool r) ∧ Below w.heap.size w w' := by
 have hu31 := Try.underlying31
 have HR0_0 := Aside0.mk hr0_0
 have HC0_0 := Aside0.mk hc0_0
 clear hr0_0 hc0_0
 have HR1_0 := Aside0.mk hr1_0
 have HC1_0 := Aside0.mk hc1_0
 clear hr1_0 hc1_0
 have HR4 := Aside0.mk hr4
 have HC4 := Aside0.mk hc4
 clear hr4 hc4
 have HR5 := Aside0.mk hr5
 have HC5 := Aside0.mk hc5
 clear hr5 hc5
 have HB := Aside0.mk (Below.refl w.heap.size w)
 have H : ((reedpipelaw13_alive.f k).bind fun t1088 => (if (l0_0.length : Int) > 1000 then (reedpipelaw13_LapForgets.j0 k a2 a3 l4 l5 t1088 true l0_0 a0_1 a0_2 l1_0 a1_1 a1_2) else (if (l1_0.length : Int) > 1000 then (reedpipelaw13_LapForgets.j0 k a2 a3 l4 l5 t1088 true l0_0 a0_1 a0_2 l1_0 a1_1 a1_2) else (if (l4.length : Int) > 1000 then (reedpipelaw13_LapForgets.j0 k a2 a3 l4 l5 t1088 true l0_0 a0_1 a0_2 l1_0 a1_1 a1_2) else (if (l5.length : Int) > 1000 then (reedpipelaw13_LapForgets.j0 k a2 a3 l4 l5 t1088 true l0_0 a0_1 a0_2 l1_0 a1_1 a1_2) else (if t1088 = true then (reedpipelaw13_LapForgets.j0 k a2 a3 l4 l5 t1088 (a0_2 != a1_2) l0_0 a0_1 a0_2 l1_0 a1_1 a1_2) else (reedpipelaw13_LapForgets.j0 k a2 a3 l4 l5 t1088 true l0_0 a0_1 a0_2 l1_0 a1_1 a1_2))))))) = some r := h
 clear h
 replace H := Option.bind_eq_some_iff.mp H
 obtain ⟨t1088, A70, H⟩ := H
 replace H : (if (l0_0.length : Int) > 1000 then (reedpipelaw13_LapForgets.j0 k a2 a3 l4 l5 t1088 true l0_0 a0_1 a0_2 l1_0 a1_1 a1_2) else (if (l1_0.length : Int) > 1000 then (reedpipelaw13_LapForgets.j0 k a2 a3 l4 l5 t1088 true l0_0 a0_1 a0_2 l1_0 a1_1 a1_2) else (if (l4.length : Int) > 1000 then (reedpipelaw13_LapForgets.j0 k a2 a3 l4 l5 t1088 true l0_0 a0_1 a0_2 l1_0 a1_1 a1_2) else (if (l5.length : Int) > 1000 then (reedpipelaw13_LapForgets.j0 k a2 a3 l4 l5 t1088 true l0_0 a0_1 a0_2 l1_0 a1_1 a1_2) else (if t1088 = true then (reedpipelaw13_LapForgets.j0 k a2 a3 l4 l5 t1088 (a0_2 != a1_2) l0_0 a0_1 a0_2 l1_0 a1_1 a1_2) else (reedpipelaw13_LapForgets.j0 k a2 a3 l4 l5 t1088 true l0_0 a0_1 a0_2 l1_0 a1_1 a1_2)))))) = some r := H
 have A7 := Aside0.mk A70
 clear A70
 have HC8 := Aside0.mk H
 clear H
 go_enter Try.func28, Try.ntmps28
 go_upto_region 2 with (first | ((with_reducible refine gate_dst (N := 6) rfl ?_); (try (refine gate_guard (by rfl) ?_; dsimp only)); refine box_event ?hg (N := 6) ?hd (cs := #[.slice A0_0 l0_0.length c0_0, .int .u8 a0_1, .int .u8 a0_2]) (t := 31) ?hr ?_; (case hd => rfl); (case hg => rfl); (case hr => first | (go_simp; done) | (go_simp; rfl)); intro gb1086 hg w9 hbox hb; have n0_ := Aside0.mk (below_step (by repeat (first | (with_reducible first | exact HB.out | apply below_alloc | apply pw_below_drewN | apply below_drew1) | exact HB.out)) hb); have n1_ := Aside0.mk (hbox); have n2_ := Aside0.mk ((by rw [hg]; exact (below_size (by repeat (first | (with_reducible first | exact HB.out | apply below_alloc | apply pw_below_drewN | apply below_drew1) | exact HB.out))) : w.heap.size ≤ gb1086)); have n3_ := Aside0.mk ((by rw [hg]; exact (below_size (by repeat (first | (with_reducible first | exact HB.out | apply below_alloc | apply pw_below_drewN | apply below_drew1) | exact HB.out))) : w.heap.size ≤ gb1086)); clear HB; have HB := n0_; have BK1086 := n1_; have GW1086 := n2_; have GE1086 := n3_; clear n0_ n1_ n2_ n3_; clear hb hbox hg) | ((with_reducible refine gate_dst (N := 7) rfl ?_); (try (refine gate_guard (by rfl) ?_; dsimp only)); refine box_event ?hg (N := 7) ?hd (cs := #[.slice A1_0 l1_0.length c1_0, .int .u8 a1_1, .int .u8 a1_2]) (t := 31) ?hr ?_; (case hd => rfl); (case hg => rfl); (case hr => first | (go_simp; done) | (go_simp; rfl)); intro gb1087 hg w10 hbox hb; have n0_ := Aside0.mk (blk_below (g := gb1086) (o := .cells #[.slice A0_0 l0_0.length c0_0, .int .u8 a0_1, .int .u8 a0_2] 31 (0, 0)) (by (with_reducible repeat (first | refine blk_drewN ?_ _ | refine blk_drew ?_ | refine blk_alloc ?_ _)); exact BK1086.out) hb); have n1_ := Aside0.mk (below_step (by repeat (first | (with_reducible first | exact HB.out | apply below_alloc | apply pw_below_drewN | apply below_drew1 | refine below_set ?_ GE1086.out) | exact HB.out)) hb); have n2_ := Aside0.mk (hbox); have n3_ := Aside0.mk ((by rw [hg]; exact (below_size (by repeat (first | (with_reducible first | exact HB.out | apply below_alloc | apply pw_below_drewN | apply below_drew1 | refine below_set ?_ GE1086.out) | exact HB.out))) : w.heap.size ≤ gb1087)); have n4_ := Aside0.mk ((by rw [hg]; exact (below_size (by repeat (first | (with_reducible first | exact HB.out | apply below_alloc | apply pw_below_drewN | apply below_drew1 | refine below_set ?_ GE1086.out) | exact HB.out))) : w.heap.size ≤ gb1087)); have n5_ := Aside0.mk ((by rw [hg]; exact Nat.ne_of_lt (blk_lt (g := gb1086) (o := .cells #[.slice A0_0 l0_0.length c0_0, .int .u8 a0_1, .int .u8 a0_2] 31 (0, 0)) (by (with_reducible repeat (first | refine blk_drewN ?_ _ | refine blk_drew ?_ | refine blk_alloc ?_ _)); exact BK1086.out)) : gb1086 ≠ gb1087)); have n6_ := Aside0.mk ((by rw [hg]; exact Nat.ne_of_gt (blk_lt (g := gb1086) (o := .cells #[.slice A0_0 l0_0.length c0_0, .int .u8 a0_1, .int .u8 a0_2] 31 (0, 0)) (by (with_reducible repeat (first | refine blk_drewN ?_ _ | refine blk_drew ?_ | refine blk_alloc ?_ _)); exact BK1086.out)) : gb1087 ≠ gb1086)); clear BK1086; clear HB; have BK1086 := n0_; have HB := n1_; have BK1087 := n2_; have GW1087 := n3_; have GE1087 := n4_; have NB1086_1087 := n5_; have NB1087_1086 := n6_; clear n0_ n1_ n2_ n3_ n4_ n5_ n6_; clear hb hbox hg) | (go_at_call 34; (with_reducible refine (reedpipelaw13_alive.calls k  t1088 _ A7.out).mono ?_); rintro e w11 ⟨rfl, hb⟩; have n0_ := Aside0.mk (blk_below (g := gb1086) (o := .cells #[.slice A0_0 l0_0.length c0_0, .int .u8 a0_1, .int .u8 a0_2] 31 (0, 0)) (by (with_reducible repeat (first | refine blk_drewN ?_ _ | refine blk_drew ?_ | refine blk_alloc ?_ _)); exact BK1086.out) hb); have n1_ := Aside0.mk (blk_below (g := gb1087) (o := .cells #[.slice A1_0 l1_0.length c1_0, .int .u8 a1_1, .int .u8 a1_2] 31 (0, 0)) (by (with_reducible repeat (first | refine blk_drewN ?_ _ | refine blk_drew ?_ | refine blk_alloc ?_ _)); exact BK1087.out) hb); have n2_ := Aside0.mk (below_step (by repeat (first | (with_reducible first | exact HB.out | apply below_alloc | apply pw_below_drewN | apply below_drew1 | refine below_set ?_ GE1086.out | refine below_set ?_ GE1087.out) | exact HB.out)) hb); clear BK1086; clear BK1087; clear HB; have BK1086 := n0_; have BK1087 := n1_; have HB := n2_; clear n0_ n1_ n2_; (try clear hb); (try clear hb2); (try clear hk); (try clear hi)))
 repeat (go_quiet (first | ((with_reducible refine gate_dst (N := 6) rfl ?_); (try (refine gate_guard (by rfl) ?_; dsimp only)); refine box_event ?hg (N := 6) ?hd (cs := #[.slice A0_0 l0_0.length c0_0, .int .u8 a0_1, .int .u8 a0_2]) (t := 31) ?hr ?_; (case hd => rfl); (case hg => rfl); (case hr => first | (go_simp; done) | (go_simp; rfl)); intro gb1086 hg w9 hbox hb; have n0_ := Aside0.mk (below_step (by repeat (first | (with_reducible first | exact HB.out | apply below_alloc | apply pw_below_drewN | apply below_drew1) | exact HB.out)) hb); have n1_ := Aside0.mk (hbox); have n2_ := Aside0.mk ((by rw [hg]; exact (below_size (by repeat (first | (with_reducible first | exact HB.out | apply below_alloc | apply pw_below_drewN | apply below_drew1) | exact HB.out))) : w.heap.size ≤ gb1086)); have n3_ := Aside0.mk ((by rw [hg]; exact (below_size (by repeat (first | (with_reducible first | exact HB.out | apply below_alloc | apply pw_below_drewN | apply below_drew1) | exact HB.out))) : w.heap.size ≤ gb1086)); clear HB; have HB := n0_; have BK1086 := n1_; have GW1086 := n2_; have GE1086 := n3_; clear n0_ n1_ n2_ n3_; clear hb hbox hg) | ((with_reducible refine gate_dst (N := 7) rfl ?_); (try (refine gate_guard (by rfl) ?_; dsimp only)); refine box_event ?hg (N := 7) ?hd (cs := #[.slice A1_0 l1_0.length c1_0, .int .u8 a1_1, .int .u8 a1_2]) (t := 31) ?hr ?_; (case hd => rfl); (case hg => rfl); (case hr => first | (go_simp; done) | (go_simp; rfl)); intro gb1087 hg w10 hbox hb; have n0_ := Aside0.mk (blk_below (g := gb1086) (o := .cells #[.slice A0_0 l0_0.length c0_0, .int .u8 a0_1, .int .u8 a0_2] 31 (0, 0)) (by (with_reducible repeat (first | refine blk_drewN ?_ _ | refine blk_drew ?_ | refine blk_alloc ?_ _)); exact BK1086.out) hb); have n1_ := Aside0.mk (below_step (by repeat (first | (with_reducible first | exact HB.out | apply below_alloc | apply pw_below_drewN | apply below_drew1 | refine below_set ?_ GE1086.out) | exact HB.out)) hb); have n2_ := Aside0.mk (hbox); have n3_ := Aside0.mk ((by rw [hg]; exact (below_size (by repeat (first | (with_reducible first | exact HB.out | apply below_alloc | apply pw_below_drewN | apply below_drew1 | refine below_set ?_ GE1086.out) | exact HB.out))) : w.heap.size ≤ gb1087)); have n4_ := Aside0.mk ((by rw [hg]; exact (below_size (by repeat (first | (with_reducible first | exact HB.out | apply below_alloc | apply pw_below_drewN | apply below_drew1 | refine below_set ?_ GE1086.out) | exact HB.out))) : w.heap.size ≤ gb1087)); have n5_ := Aside0.mk ((by rw [hg]; exact Nat.ne_of_lt (blk_lt (g := gb1086) (o := .cells #[.slice A0_0 l0_0.length c0_0, .int .u8 a0_1, .int .u8 a0_2] 31 (0, 0)) (by (with_reducible repeat (first | refine blk_drewN ?_ _ | refine blk_drew ?_ | refine blk_alloc ?_ _)); exact BK1086.out)) : gb1086 ≠ gb1087)); have n6_ := Aside0.mk ((by rw [hg]; exact Nat.ne_of_gt (blk_lt (g := gb1086) (o := .cells #[.slice A0_0 l0_0.length c0_0, .int .u8 a0_1, .int .u8 a0_2] 31 (0, 0)) (by (with_reducible repeat (first | refine blk_drewN ?_ _ | refine blk_drew ?_ | refine blk_alloc ?_ _)); exact BK1086.out)) : gb1087 ≠ gb1086)); clear BK1086; clear HB; have BK1086 := n0_; have HB := n1_; have BK1087 := n2_; have GW1087 := n3_; have GE1087 := n4_; have NB1086_1087 := n5_; have NB1087_1086 := n6_; clear n0_ n1_ n2_ n3_ n4_ n5_ n6_; clear hb hbox hg) | (go_at_call 34; (with_reducible refine (reedpipelaw13_alive.calls k  t1088 _ A7.out).mono ?_); rintro e w11 ⟨rfl, hb⟩; have n0_ := Aside0.mk (blk_below (g := gb1086) (o := .cells #[.slice A0_0 l0_0.length c0_0, .int .u8 a0_1, .int .u8 a0_2] 31 (0, 0)) (by (with_reducible repeat (first | refine blk_drewN ?_ _ | refine blk_drew ?_ | refine blk_alloc ?_ _)); exact BK1086.out) hb); have n1_ := Aside0.mk (blk_below (g := gb1087) (o := .cells #[.slice A1_0 l1_0.length c1_0, .int .u8 a1_1, .int .u8 a1_2] 31 (0, 0)) (by (with_reducible repeat (first | refine blk_drewN ?_ _ | refine blk_drew ?_ | refine blk_alloc ?_ _)); exact BK1087.out) hb); have n2_ := Aside0.mk (below_step (by repeat (first | (with_reducible first | exact HB.out | apply below_alloc | apply pw_below_drewN | apply below_drew1 | refine below_set ?_ GE1086.out | refine below_set ?_ GE1087.out) | exact HB.out)) hb); clear BK1086; clear BK1087; clear HB; have BK1086 := n0_; have BK1087 := n1_; have HB := n2_; clear n0_ n1_ n2_; (try clear hb); (try clear hb2); (try clear hk); (try clear hi))); go_upto_region 2 with (first | ((with_reducible refine gate_dst (N := 6) rfl ?_); (try (refine gate_guard (by rfl) ?_; dsimp only)); refine box_event ?hg (N := 6) ?hd (cs := #[.slice A0_0 l0_0.length c0_0, .int .u8 a0_1, .int .u8 a0_2]) (t := 31) ?hr ?_; (case hd => rfl); (case hg => rfl); (case hr => first | (go_simp; done) | (go_simp; rfl)); intro gb1086 hg w9 hbox hb; have n0_ := Aside0.mk (below_step (by repeat (first | (with_reducible first | exact HB.out | apply below_alloc | apply pw_below_drewN | apply below_drew1) | exact HB.out)) hb); have n1_ := Aside0.mk (hbox); have n2_ := Aside0.mk ((by rw [hg]; exact (below_size (by repeat (first | (with_reducible first | exact HB.out | apply below_alloc | apply pw_below_drewN | apply below_drew1) | exact HB.out))) : w.heap.size ≤ gb1086)); have n3_ := Aside0.mk ((by rw [hg]; exact (below_size (by repeat (first | (with_reducible first | exact HB.out | apply below_alloc | apply pw_below_drewN | apply below_drew1) | exact HB.out))) : w.heap.size ≤ gb1086)); clear HB; have HB := n0_; have BK1086 := n1_; have GW1086 := n2_; have GE1086 := n3_; clear n0_ n1_ n2_ n3_; clear hb hbox hg) | ((with_reducible refine gate_dst (N := 7) rfl ?_); (try (refine gate_guard (by rfl) ?_; dsimp only)); refine box_event ?hg (N := 7) ?hd (cs := #[.slice A1_0 l1_0.length c1_0, .int .u8 a1_1, .int .u8 a1_2]) (t := 31) ?hr ?_; (case hd => rfl); (case hg => rfl); (case hr => first | (go_simp; done) | (go_simp; rfl)); intro gb1087 hg w10 hbox hb; have n0_ := Aside0.mk (blk_below (g := gb1086) (o := .cells #[.slice A0_0 l0_0.length c0_0, .int .u8 a0_1, .int .u8 a0_2] 31 (0, 0)) (by (with_reducible repeat (first | refine blk_drewN ?_ _ | refine blk_drew ?_ | refine blk_alloc ?_ _)); exact BK1086.out) hb); have n1_ := Aside0.mk (below_step (by repeat (first | (with_reducible first | exact HB.out | apply below_alloc | apply pw_below_drewN | apply below_drew1 | refine below_set ?_ GE1086.out) | exact HB.out)) hb); have n2_ := Aside0.mk (hbox); have n3_ := Aside0.mk ((by rw [hg]; exact (below_size (by repeat (first | (with_reducible first | exact HB.out | apply below_alloc | apply pw_below_drewN | apply below_drew1 | refine below_set ?_ GE1086.out) | exact HB.out))) : w.heap.size ≤ gb1087)); have n4_ := Aside0.mk ((by rw [hg]; exact (below_size (by repeat (first | (with_reducible first | exact HB.out | apply below_alloc | apply pw_below_drewN | apply below_drew1 | refine below_set ?_ GE1086.out) | exact HB.out))) : w.heap.size ≤ gb1087)); have n5_ := Aside0.mk ((by rw [hg]; exact Nat.ne_of_lt (blk_lt (g := gb1086) (o := .cells #[.slice A0_0 l0_0.length c0_0, .int .u8 a0_1, .int .u8 a0_2] 31 (0, 0)) (by (with_reducible repeat (first | refine blk_drewN ?_ _ | refine blk_drew ?_ | refine blk_alloc ?_ _)); exact BK1086.out)) : gb1086 ≠ gb1087)); have n6_ := Aside0.mk ((by rw [hg]; exact Nat.ne_of_gt (blk_lt (g := gb1086) (o := .cells #[.slice A0_0 l0_0.length c0_0, .int .u8 a0_1, .int .u8 a0_2] 31 (0, 0)) (by (with_reducible repeat (first | refine blk_drewN ?_ _ | refine blk_drew ?_ | refine blk_alloc ?_ _)); exact BK1086.out)) : gb1087 ≠ gb1086)); clear BK1086; clear HB; have BK1086 := n0_; have HB := n1_; have BK1087 := n2_; have GW1087 := n3_; have GE1087 := n4_; have NB1086_1087 := n5_; have NB1087_1086 := n6_; clear n0_ n1_ n2_ n3_ n4_ n5_ n6_; clear hb hbox hg) | (go_at_call 34; (with_reducible refine (reedpipelaw13_alive.calls k  t1088 _ A7.out).mono ?_); rintro e w11 ⟨rfl, hb⟩; have n0_ := Aside0.mk (blk_below (g := gb1086) (o := .cells #[.slice A0_0 l0_0.length c0_0, .int .u8 a0_1, .int .u8 a0_2] 31 (0, 0)) (by (with_reducible repeat (first | refine blk_drewN ?_ _ | refine blk_drew ?_ | refine blk_alloc ?_ _)); exact BK1086.out) hb); have n1_ := Aside0.mk (blk_below (g := gb1087) (o := .cells #[.slice A1_0 l1_0.length c1_0, .int .u8 a1_1, .int .u8 a1_2] 31 (0, 0)) (by (with_reducible repeat (first | refine blk_drewN ?_ _ | refine blk_drew ?_ | refine blk_alloc ?_ _)); exact BK1087.out) hb); have n2_ := Aside0.mk (below_step (by repeat (first | (with_reducible first | exact HB.out | apply below_alloc | apply pw_below_drewN | apply below_drew1 | refine below_set ?_ GE1086.out | refine below_set ?_ GE1087.out) | exact HB.out)) hb); clear BK1086; clear BK1087; clear HB; have BK1086 := n0_; have BK1087 := n1_; have HB := n2_; clear n0_ n1_ n2_; (try clear hb); (try clear hb2); (try clear hk); (try clear hi))))
 (try simp only [Act.put, List.setIfInBounds_toArray, List.set_cons_zero, List.set_cons_succ])
 go_cut [59] (fun v59 wc => ∃ (kq : Nat) (x59_7 : Bool), v59 = .bool x59_7 ∧ Aside0 (reedpipelaw13_LapForgets.j0 kq a2 a3 l4 l5 t1088 x59_7 l0_0 a0_1 a0_2 l1_0 a1_1 a1_2 = some r) ∧ Aside0 (kq ≤ k) ∧ Aside0 (wc.heap[gb1086]? = some (.cells #[(.slice A0_0 l0_0.length c0_0), .int .u8 a0_1, .int .u8 a0_2] 31 (0, 0))) ∧ Aside0 (wc.heap[gb1087]? = some (.cells #[(.slice A1_0 l1_0.length c1_0), .int .u8 a1_1, .int .u8 a1_2] 31 (0, 0))) ∧ Aside0 (Below w.heap.size w wc))
 case first => as_aux_lemma =>
  have H := HC8.out
  clear HC8
  by_cases c12 : (l0_0.length : Int) > 1000
  ·rw [if_pos c12] at H
   have c12b0 : decide (1000 < (l0_0.length : Int)) = true := decide_eq_true c12
   have c12b1 : decide (1000 < l0_0.length) = true := decide_eq_true (by omega)
   clear c12
   (first | rw [c12b0] | (simp only [i64_w, i32_w]; rw [c12b0]) | skip)
   have H' := Aside0.mk H
   clear H
   have hnb13 := NB1086_1087.out
   have hnc13 := NB1087_1086.out
   have hcz14_0 : w11.cell? ⟨gb1086, 0, none⟩ = some (.slice A0_0 l0_0.length c0_0) := (blk_cell BK1086.out 0).trans rfl
   have hcz14_1 : w11.cell? ⟨gb1086, 1, none⟩ = some (.int .u8 a0_1) := (blk_cell BK1086.out 1).trans rfl
   have hcz14_2 : w11.cell? ⟨gb1086, 2, none⟩ = some (.int .u8 a0_2) := (blk_cell BK1086.out 2).trans rfl
   have hfz14_0 := blk_frozen BK1086.out 0
   have hfz14_1 := blk_frozen BK1086.out 1
   have hfz14_2 := blk_frozen BK1086.out 2
   go_wp2
   repeat (go_quiet (fail); try go_wp2)
   go_meet
   case rel => exact ⟨_, (true), (by first | rfl | (simp; done) | (simp [*]; done)), H', ⟨by first | omega | exact Nat.le_refl _⟩, ⟨by (with_reducible repeat (first | refine blk_drewN ?_ _ | refine blk_drew ?_ | refine blk_alloc ?_ _)); exact BK1086.out⟩, ⟨by (with_reducible repeat (first | refine blk_drewN ?_ _ | refine blk_drew ?_ | refine blk_alloc ?_ _)); exact BK1087.out⟩, ⟨by repeat (first | (with_reducible first | exact HB.out | apply below_alloc | apply pw_below_drewN | apply below_drew1 | refine below_set ?_ GE1086.out | refine below_set ?_ GE1087.out) | exact HB.out)⟩⟩
  ·rw [if_neg c12] at H
   have c12b0 : decide (1000 < (l0_0.length : Int)) = false := decide_eq_false c12
   have c12b1 : decide (1000 < l0_0.length) = false := decide_eq_false (by omega)
   clear c12
   (first | rw [c12b0] | (simp only [i64_w, i32_w]; rw [c12b0]) | skip)
   by_cases c15 : (l1_0.length : Int) > 1000
   ·rw [if_pos c15] at H
    have c15b0 : decide (1000 < (l1_0.length : Int)) = true := decide_eq_true c15
    have c15b1 : decide (1000 < l1_0.length) = true := decide_eq_true (by omega)
    clear c15
    have H' := Aside0.mk H
    clear H
    have hnb16 := NB1086_1087.out
    have hnc16 := NB1087_1086.out
    have hcz17_0 : w11.cell? ⟨gb1086, 0, none⟩ = some (.slice A0_0 l0_0.length c0_0) := (blk_cell BK1086.out 0).trans rfl
    have hcz17_1 : w11.cell? ⟨gb1086, 1, none⟩ = some (.int .u8 a0_1) := (blk_cell BK1086.out 1).trans rfl
    have hcz17_2 : w11.cell? ⟨gb1086, 2, none⟩ = some (.int .u8 a0_2) := (blk_cell BK1086.out 2).trans rfl
    have hfz17_0 := blk_frozen BK1086.out 0
    have hfz17_1 := blk_frozen BK1086.out 1
    have hfz17_2 := blk_frozen BK1086.out 2
    have hcz18_0 : w11.cell? ⟨gb1087, 0, none⟩ = some (.slice A1_0 l1_0.length c1_0) := (blk_cell BK1087.out 0).trans rfl
    have hcz18_1 : w11.cell? ⟨gb1087, 1, none⟩ = some (.int .u8 a1_1) := (blk_cell BK1087.out 1).trans rfl
    have hcz18_2 : w11.cell? ⟨gb1087, 2, none⟩ = some (.int .u8 a1_2) := (blk_cell BK1087.out 2).trans rfl
    have hfz18_0 := blk_frozen BK1087.out 0
    have hfz18_1 := blk_frozen BK1087.out 1
    have hfz18_2 := blk_frozen BK1087.out 2
    go_wp2
    repeat (go_quiet (fail); try go_wp2)
    go_meet
    case rel => exact ⟨_, (true), (by first | rfl | (simp; done) | (simp [*]; done)), H', ⟨by first | omega | exact Nat.le_refl _⟩, ⟨by (with_reducible repeat (first | refine blk_drewN ?_ _ | refine blk_drew ?_ | refine blk_alloc ?_ _)); exact BK1086.out⟩, ⟨by (with_reducible repeat (first | refine blk_drewN ?_ _ | refine blk_drew ?_ | refine blk_alloc ?_ _)); exact BK1087.out⟩, ⟨by repeat (first | (with_reducible first | exact HB.out | apply below_alloc | apply pw_below_drewN | apply below_drew1 | refine below_set ?_ GE1086.out | refine below_set ?_ GE1087.out) | exact HB.out)⟩⟩
   ·rw [if_neg c15] at H
    have c15b0 : decide (1000 < (l1_0.length : Int)) = false := decide_eq_false c15
    have c15b1 : decide (1000 < l1_0.length) = false := decide_eq_false (by omega)
    clear c15
    by_cases c19 : (l4.length : Int) > 1000
    ·rw [if_pos c19] at H
     have c19b0 : decide (1000 < (l4.length : Int)) = true := decide_eq_true c19
     have c19b1 : decide (1000 < l4.length) = true := decide_eq_true (by omega)
     clear c19
     have H' := Aside0.mk H
     clear H
     have hnb20 := NB1086_1087.out
     have hnc20 := NB1087_1086.out
     have hcz21_0 : w11.cell? ⟨gb1086, 0, none⟩ = some (.slice A0_0 l0_0.length c0_0) := (blk_cell BK1086.out 0).trans rfl
     have hcz21_1 : w11.cell? ⟨gb1086, 1, none⟩ = some (.int .u8 a0_1) := (blk_cell BK1086.out 1).trans rfl
     have hcz21_2 : w11.cell? ⟨gb1086, 2, none⟩ = some (.int .u8 a0_2) := (blk_cell BK1086.out 2).trans rfl
     have hfz21_0 := blk_frozen BK1086.out 0
     have hfz21_1 := blk_frozen BK1086.out 1
     have hfz21_2 := blk_frozen BK1086.out 2
     have hcz22_0 : w11.cell? ⟨gb1087, 0, none⟩ = some (.slice A1_0 l1_0.length c1_0) := (blk_cell BK1087.out 0).trans rfl
     have hcz22_1 : w11.cell? ⟨gb1087, 1, none⟩ = some (.int .u8 a1_1) := (blk_cell BK1087.out 1).trans rfl
     have hcz22_2 : w11.cell? ⟨gb1087, 2, none⟩ = some (.int .u8 a1_2) := (blk_cell BK1087.out 2).trans rfl
     have hfz22_0 := blk_frozen BK1087.out 0
     have hfz22_1 := blk_frozen BK1087.out 1
     have hfz22_2 := blk_frozen BK1087.out 2
     go_wp2
     repeat (go_quiet (fail); try go_wp2)
     go_meet
     case rel => exact ⟨_, (true), (by first | rfl | (simp; done) | (simp [*]; done)), H', ⟨by first | omega | exact Nat.le_refl _⟩, ⟨by (with_reducible repeat (first | refine blk_drewN ?_ _ | refine blk_drew ?_ | refine blk_alloc ?_ _)); exact BK1086.out⟩, ⟨by (with_reducible repeat (first | refine blk_drewN ?_ _ | refine blk_drew ?_ | refine blk_alloc ?_ _)); exact BK1087.out⟩, ⟨by repeat (first | (with_reducible first | exact HB.out | apply below_alloc | apply pw_below_drewN | apply below_drew1 | refine below_set ?_ GE1086.out | refine below_set ?_ GE1087.out) | exact HB.out)⟩⟩
    ·rw [if_neg c19] at H
     have c19b0 : decide (1000 < (l4.length : Int)) = false := decide_eq_false c19
     have c19b1 : decide (1000 < l4.length) = false := decide_eq_false (by omega)
     clear c19
     by_cases c23 : (l5.length : Int) > 1000
     ·rw [if_pos c23] at H
      have c23b0 : decide (1000 < (l5.length : Int)) = true := decide_eq_true c23
      have c23b1 : decide (1000 < l5.length) = true := decide_eq_true (by omega)
      clear c23
      have H' := Aside0.mk H
      clear H
      have hnb24 := NB1086_1087.out
      have hnc24 := NB1087_1086.out
      have hcz25_0 : w11.cell? ⟨gb1086, 0, none⟩ = some (.slice A0_0 l0_0.length c0_0) := (blk_cell BK1086.out 0).trans rfl
      have hcz25_1 : w11.cell? ⟨gb1086, 1, none⟩ = some (.int .u8 a0_1) := (blk_cell BK1086.out 1).trans rfl
      have hcz25_2 : w11.cell? ⟨gb1086, 2, none⟩ = some (.int .u8 a0_2) := (blk_cell BK1086.out 2).trans rfl
      have hfz25_0 := blk_frozen BK1086.out 0
      have hfz25_1 := blk_frozen BK1086.out 1
      have hfz25_2 := blk_frozen BK1086.out 2
      have hcz26_0 : w11.cell? ⟨gb1087, 0, none⟩ = some (.slice A1_0 l1_0.length c1_0) := (blk_cell BK1087.out 0).trans rfl
      have hcz26_1 : w11.cell? ⟨gb1087, 1, none⟩ = some (.int .u8 a1_1) := (blk_cell BK1087.out 1).trans rfl
      have hcz26_2 : w11.cell? ⟨gb1087, 2, none⟩ = some (.int .u8 a1_2) := (blk_cell BK1087.out 2).trans rfl
      have hfz26_0 := blk_frozen BK1087.out 0
      have hfz26_1 := blk_frozen BK1087.out 1
      have hfz26_2 := blk_frozen BK1087.out 2
      go_wp2
      repeat (go_quiet (fail); try go_wp2)
      go_meet
      case rel => exact ⟨_, (true), (by first | rfl | (simp; done) | (simp [*]; done)), H', ⟨by first | omega | exact Nat.le_refl _⟩, ⟨by (with_reducible repeat (first | refine blk_drewN ?_ _ | refine blk_drew ?_ | refine blk_alloc ?_ _)); exact BK1086.out⟩, ⟨by (with_reducible repeat (first | refine blk_drewN ?_ _ | refine blk_drew ?_ | refine blk_alloc ?_ _)); exact BK1087.out⟩, ⟨by repeat (first | (with_reducible first | exact HB.out | apply below_alloc | apply pw_below_drewN | apply below_drew1 | refine below_set ?_ GE1086.out | refine below_set ?_ GE1087.out) | exact HB.out)⟩⟩
     ·rw [if_neg c23] at H
      have c23b0 : decide (1000 < (l5.length : Int)) = false := decide_eq_false c23
      have c23b1 : decide (1000 < l5.length) = false := decide_eq_false (by omega)
      clear c23
      by_cases c27 : t1088 = true
      ·subst c27
       have H1 : (reedpipelaw13_LapForgets.j0 k a2 a3 l4 l5 true (a0_2 != a1_2) l0_0 a0_1 a0_2 l1_0 a1_1 a1_2) = some r := by rw [if_pos rfl] at H; exact H
       clear H
       have H := H1
       clear H1
       have H' := Aside0.mk H
       clear H
       have hnb28 := NB1086_1087.out
       have hnc28 := NB1087_1086.out
       have hcz29_0 : w11.cell? ⟨gb1086, 0, none⟩ = some (.slice A0_0 l0_0.length c0_0) := (blk_cell BK1086.out 0).trans rfl
       have hcz29_1 : w11.cell? ⟨gb1086, 1, none⟩ = some (.int .u8 a0_1) := (blk_cell BK1086.out 1).trans rfl
       have hcz29_2 : w11.cell? ⟨gb1086, 2, none⟩ = some (.int .u8 a0_2) := (blk_cell BK1086.out 2).trans rfl
       have hfz29_0 := blk_frozen BK1086.out 0
       have hfz29_1 := blk_frozen BK1086.out 1
       have hfz29_2 := blk_frozen BK1086.out 2
       have hcz30_0 : w11.cell? ⟨gb1087, 0, none⟩ = some (.slice A1_0 l1_0.length c1_0) := (blk_cell BK1087.out 0).trans rfl
       have hcz30_1 : w11.cell? ⟨gb1087, 1, none⟩ = some (.int .u8 a1_1) := (blk_cell BK1087.out 1).trans rfl
       have hcz30_2 : w11.cell? ⟨gb1087, 2, none⟩ = some (.int .u8 a1_2) := (blk_cell BK1087.out 2).trans rfl
       have hfz30_0 := blk_frozen BK1087.out 0
       have hfz30_1 := blk_frozen BK1087.out 1
       have hfz30_2 := blk_frozen BK1087.out 2
       go_wp2
       repeat (go_quiet (fail); try go_wp2)
       go_meet
       case rel => exact ⟨_, ((a0_2 != a1_2)), (by first | rfl | (simp; done) | (simp [*]; done)), H', ⟨by first | omega | exact Nat.le_refl _⟩, ⟨by (with_reducible repeat (first | refine blk_drewN ?_ _ | refine blk_drew ?_ | refine blk_alloc ?_ _)); exact BK1086.out⟩, ⟨by (with_reducible repeat (first | refine blk_drewN ?_ _ | refine blk_drew ?_ | refine blk_alloc ?_ _)); exact BK1087.out⟩, ⟨by repeat (first | (with_reducible first | exact HB.out | apply below_alloc | apply pw_below_drewN | apply below_drew1 | refine below_set ?_ GE1086.out | refine below_set ?_ GE1087.out) | exact HB.out)⟩⟩
      ·replace c27 := Bool.eq_false_iff.mpr c27
       subst c27
       have H1 : (reedpipelaw13_LapForgets.j0 k a2 a3 l4 l5 false true l0_0 a0_1 a0_2 l1_0 a1_1 a1_2) = some r := by rw [if_neg (show ¬ (false = true) by decide)] at H; exact H
       clear H
       have H := H1
       clear H1
       have H' := Aside0.mk H
       clear H
       have hnb31 := NB1086_1087.out
       have hnc31 := NB1087_1086.out
       have hcz32_0 : w11.cell? ⟨gb1086, 0, none⟩ = some (.slice A0_0 l0_0.length c0_0) := (blk_cell BK1086.out 0).trans rfl
       have hcz32_1 : w11.cell? ⟨gb1086, 1, none⟩ = some (.int .u8 a0_1) := (blk_cell BK1086.out 1).trans rfl
       have hcz32_2 : w11.cell? ⟨gb1086, 2, none⟩ = some (.int .u8 a0_2) := (blk_cell BK1086.out 2).trans rfl
       have hfz32_0 := blk_frozen BK1086.out 0
       have hfz32_1 := blk_frozen BK1086.out 1
       have hfz32_2 := blk_frozen BK1086.out 2
       have hcz33_0 : w11.cell? ⟨gb1087, 0, none⟩ = some (.slice A1_0 l1_0.length c1_0) := (blk_cell BK1087.out 0).trans rfl
       have hcz33_1 : w11.cell? ⟨gb1087, 1, none⟩ = some (.int .u8 a1_1) := (blk_cell BK1087.out 1).trans rfl
       have hcz33_2 : w11.cell? ⟨gb1087, 2, none⟩ = some (.int .u8 a1_2) := (blk_cell BK1087.out 2).trans rfl
       have hfz33_0 := blk_frozen BK1087.out 0
       have hfz33_1 := blk_frozen BK1087.out 1
       have hfz33_2 := blk_frozen BK1087.out 2
       go_wp2
       repeat (go_quiet (fail); try go_wp2)
       go_meet
       case rel => exact ⟨_, (true), (by first | rfl | (simp; done) | (simp [*]; done)), H', ⟨by first | omega | exact Nat.le_refl _⟩, ⟨by (with_reducible repeat (first | refine blk_drewN ?_ _ | refine blk_drew ?_ | refine blk_alloc ?_ _)); exact BK1086.out⟩, ⟨by (with_reducible repeat (first | refine blk_drewN ?_ _ | refine blk_drew ?_ | refine blk_alloc ?_ _)); exact BK1087.out⟩, ⟨by repeat (first | (with_reducible first | exact HB.out | apply below_alloc | apply pw_below_drewN | apply below_drew1 | refine below_set ?_ GE1086.out | refine below_set ?_ GE1087.out) | exact HB.out)⟩⟩
 case rest => as_aux_lemma =>
  clear HC8
  try clear c1
  try clear c2
  try clear p2
  try clear c3
  try clear c4
  try clear c5
  try clear c12
  try clear c12b0
  try clear c12b1
  try clear c13
  try clear c15
  try clear c15b0
  try clear c15b1
  try clear c16
  try clear c19
  try clear c19b0
  try clear c19b1
  try clear c20
  try clear c23
  try clear c23b0
  try clear c23b1
  try clear c24
  try clear c27
  try clear c28
  try clear c31
  try clear hcz14_0
  try clear hcz14_1
  try clear hcz14_2
  try clear hcz17_0
  try clear hcz17_1
  try clear hcz17_2
  try clear hcz18_0
  try clear hcz18_1
  try clear hcz18_2
  try clear hcz21_0
  try clear hcz21_1
  try clear hcz21_2
  try clear hcz22_0
  try clear hcz22_1
  try clear hcz22_2
  try clear hcz25_0
  try clear hcz25_1
  try clear hcz25_2
  try clear hcz26_0
  try clear hcz26_1
  try clear hcz26_2
  try clear hcz29_0
  try clear hcz29_1
  try clear hcz29_2
  try clear hcz30_0
  try clear hcz30_1
  try clear hcz30_2
  try clear hcz32_0
  try clear hcz32_1
  try clear hcz32_2
  try clear hcz33_0
  try clear hcz33_1
  try clear hcz33_2
  try clear hfz14_0
  try clear hfz14_1
  try clear hfz14_2
  try clear hfz17_0
  try clear hfz17_1
  try clear hfz17_2
  try clear hfz18_0
  try clear hfz18_1
  try clear hfz18_2
  try clear hfz21_0
  try clear hfz21_1
  try clear hfz21_2
  try clear hfz22_0
  try clear hfz22_1
  try clear hfz22_2
  try clear hfz25_0
  try clear hfz25_1
  try clear hfz25_2
  try clear hfz26_0
  try clear hfz26_1
  try clear hfz26_2
  try clear hfz29_0
  try clear hfz29_1
  try clear hfz29_2
  try clear hfz30_0
  try clear hfz30_1
  try clear hfz30_2
  try clear hfz32_0
  try clear hfz32_1
  try clear hfz32_2
  try clear hfz33_0
  try clear hfz33_1
  try clear hfz33_2
  obtain ⟨kq, x59_7, rfl, HA, HJ7, BK1086, BK1087, HB⟩ := hcut
  cases kq with
  | zero => exact absurd HA.out (by simp [reedpipelaw13_LapForgets.j0])
  | succ kj7 =>
   have H := HA.out
   clear HA
   simp only [reedpipelaw13_LapForgets.j0] at H
   by_cases c34 : x59_7 = true
   ·subst c34
    have H1 : (some t1088) = some r := by rw [if_pos rfl] at H; exact H
    clear H
    have H := H1
    clear H1
    obtain rfl := Option.some.inj H
    go_wp2
    repeat (go_quiet (fail); try go_wp2)
    go_ret
    exact ⟨by first | rfl | (simp [errW_none, errW_some] <;> rfl) | (simp [*, errW_none, errW_some] <;> rfl), by repeat (first | (with_reducible first | exact HB.out | apply below_alloc | apply pw_below_drewN | apply below_drew1 | refine below_set ?_ GE1086.out | refine below_set ?_ GE1087.out) | exact HB.out)⟩
   ·replace c34 := Bool.eq_false_iff.mpr c34
    subst c34
    have H1 : ((lap_Next.f l0_0 a0_1 a0_2 a2 a3 l4).bind fun bt1089 => ((lap_Next.f l1_0 a1_1 a1_2 a2 a3 l4).bind fun bt1099 => (if bt1089.2.2.2.2 = 0 then (reedpipelaw13_LapForgets.j1 kj7 a2 a3 l5 t1088 bt1089.2.2.2.2 bt1099.2.2.2.2 (bt1099.2.2.2.2 != 0) bt1089.1 bt1089.2.1 bt1089.2.2.1 bt1099.1 bt1099.2.1 bt1099.2.2.1) else (reedpipelaw13_LapForgets.j1 kj7 a2 a3 l5 t1088 bt1089.2.2.2.2 bt1099.2.2.2.2 true bt1089.1 bt1089.2.1 bt1089.2.2.1 bt1099.1 bt1099.2.1 bt1099.2.2.1)))) = some r := by rw [if_neg (show ¬ (false = true) by decide)] at H; exact H
    clear H
    have H := H1
    clear H1
    replace H := Option.bind_eq_some_iff.mp H
    obtain ⟨⟨t1089, t1092, t1093, t1094, t1097⟩, A350, H⟩ := H
    replace H : ((lap_Next.f l1_0 a1_1 a1_2 a2 a3 l4).bind fun bt1099 => (if t1097 = 0 then (reedpipelaw13_LapForgets.j1 kj7 a2 a3 l5 t1088 t1097 bt1099.2.2.2.2 (bt1099.2.2.2.2 != 0) t1089 t1092 t1093 bt1099.1 bt1099.2.1 bt1099.2.2.1) else (reedpipelaw13_LapForgets.j1 kj7 a2 a3 l5 t1088 t1097 bt1099.2.2.2.2 true t1089 t1092 t1093 bt1099.1 bt1099.2.1 bt1099.2.2.1))) = some r := H
    have A35 := Aside0.mk A350
    clear A350
    replace H := Option.bind_eq_some_iff.mp H
    obtain ⟨⟨t1099, t1102, t1103, t1104, t1107⟩, A360, H⟩ := H
    replace H : (if t1097 = 0 then (reedpipelaw13_LapForgets.j1 kj7 a2 a3 l5 t1088 t1097 t1107 (t1107 != 0) t1089 t1092 t1093 t1099 t1102 t1103) else (reedpipelaw13_LapForgets.j1 kj7 a2 a3 l5 t1088 t1097 t1107 true t1089 t1092 t1093 t1099 t1102 t1103)) = some r := H
    have A36 := Aside0.mk A360
    clear A360
    have HC37 := Aside0.mk H
    clear H
    have hnb38 := NB1086_1087.out
    have hnc38 := NB1087_1086.out
    have hcz39_0 : wc.cell? ⟨gb1086, 0, none⟩ = some (.slice A0_0 l0_0.length c0_0) := (blk_cell BK1086.out 0).trans rfl
    have hcz39_1 : wc.cell? ⟨gb1086, 1, none⟩ = some (.int .u8 a0_1) := (blk_cell BK1086.out 1).trans rfl
    have hcz39_2 : wc.cell? ⟨gb1086, 2, none⟩ = some (.int .u8 a0_2) := (blk_cell BK1086.out 2).trans rfl
    have hfz39_0 := blk_frozen BK1086.out 0
    have hfz39_1 := blk_frozen BK1086.out 1
    have hfz39_2 := blk_frozen BK1086.out 2
    go_upto_region 6 with (first | (go_at_call 35; (with_reducible refine (lap_Next.calls _ _ l0_0 a0_1 a0_2 a2 a3 _ _ l4 t1089 t1092 t1093 t1094 t1097 _ ?side1 ?side2 ?side3 ?side4 A35.out).mono ?_); (case side1 => repeat (first | exact (Kd.C_below HR0_0.out HB.out) | (with_reducible refine Kd.C_alloc ?_ _) | (with_reducible refine Kd.C_drewN ?_ _) | (with_reducible refine Kd.C_drew ?_))); (case side2 => exact HC0_0.out); (case side3 => repeat (first | exact (Kd.C_below HR4.out HB.out) | (with_reducible refine Kd.C_alloc ?_ _) | (with_reducible refine Kd.C_drewN ?_ _) | (with_reducible refine Kd.C_drew ?_))); (case side4 => exact HC4.out); rintro e w40 ⟨v1090, v1095, rfl, ho0, ho1, hb⟩; have n0_ := Aside0.mk (Kd.R_lower ho0 (below_size (by repeat (first | (with_reducible first | exact HB.out | apply below_alloc | apply pw_below_drewN | apply below_drew1 | refine below_set ?_ GE1086.out | refine below_set ?_ GE1087.out) | exact HB.out)))); have n1_ := Aside0.mk (Kd.R_lower ho1 (below_size (by repeat (first | (with_reducible first | exact HB.out | apply below_alloc | apply pw_below_drewN | apply below_drew1 | refine below_set ?_ GE1086.out | refine below_set ?_ GE1087.out) | exact HB.out)))); have n2_ := Aside0.mk (blk_below (g := gb1086) (o := .cells #[.slice A0_0 l0_0.length c0_0, .int .u8 a0_1, .int .u8 a0_2] 31 (0, 0)) (by (with_reducible repeat (first | refine blk_drewN ?_ _ | refine blk_drew ?_ | refine blk_alloc ?_ _)); exact BK1086.out) hb); have n3_ := Aside0.mk (blk_below (g := gb1087) (o := .cells #[.slice A1_0 l1_0.length c1_0, .int .u8 a1_1, .int .u8 a1_2] 31 (0, 0)) (by (with_reducible repeat (first | refine blk_drewN ?_ _ | refine blk_drew ?_ | refine blk_alloc ?_ _)); exact BK1087.out) hb); have n4_ := Aside0.mk (below_step (by repeat (first | (with_reducible first | exact HB.out | apply below_alloc | apply pw_below_drewN | apply below_drew1 | refine below_set ?_ GE1086.out | refine below_set ?_ GE1087.out) | exact HB.out)) hb); clear BK1086; clear BK1087; clear HB; have HO1091 := n0_; have HO1096 := n1_; have BK1086 := n2_; have BK1087 := n3_; have HB := n4_; clear n0_ n1_ n2_ n3_ n4_; (try clear hb); (try clear hb2); (try clear hk); (try clear hi); (try clear ho0); (try clear ho1)) | ((with_reducible refine gate_dst (N := 14) rfl ?_); (try (refine gate_guard (by rfl) ?_; dsimp only)); refine box_event ?hg (N := 14) ?hd (cs := #[.slice none 0 0, .int .u8 0, .int .u8 0]) (t := 31) ?hr ?_; (case hd => rfl); (case hg => rfl); (case hr => first | (go_simp; done) | (go_simp; rfl)); intro gb1098 hg w41 hbox hb; have n0_ := Aside0.mk (Kd.R_below (by (with_reducible repeat (first | apply Kd.R_alloc | apply Kd.R_drewN | apply Kd.R_drew)); exact HO1091.out) hb); have n1_ := Aside0.mk (Kd.R_below (by (with_reducible repeat (first | apply Kd.R_alloc | apply Kd.R_drewN | apply Kd.R_drew)); exact HO1096.out) hb); have n2_ := Aside0.mk (blk_below (g := gb1086) (o := .cells #[.slice A0_0 l0_0.length c0_0, .int .u8 a0_1, .int .u8 a0_2] 31 (0, 0)) (by (with_reducible repeat (first | refine blk_drewN ?_ _ | refine blk_drew ?_ | refine blk_alloc ?_ _)); exact BK1086.out) hb); have n3_ := Aside0.mk (blk_below (g := gb1087) (o := .cells #[.slice A1_0 l1_0.length c1_0, .int .u8 a1_1, .int .u8 a1_2] 31 (0, 0)) (by (with_reducible repeat (first | refine blk_drewN ?_ _ | refine blk_drew ?_ | refine blk_alloc ?_ _)); exact BK1087.out) hb); have n4_ := Aside0.mk (below_step (by repeat (first | (with_reducible first | exact HB.out | apply below_alloc | apply pw_below_drewN | apply below_drew1 | refine below_set ?_ GE1086.out | refine below_set ?_ GE1087.out) | exact HB.out)) hb); have n5_ := Aside0.mk (hbox); have n6_ := Aside0.mk ((by rw [hg]; exact (below_size (by repeat (first | (with_reducible first | exact HB.out | apply below_alloc | apply pw_below_drewN | apply below_drew1 | refine below_set ?_ GE1086.out | refine below_set ?_ GE1087.out) | exact HB.out))) : w.heap.size ≤ gb1098)); have n7_ := Aside0.mk ((by rw [hg]; exact (below_size (by repeat (first | (with_reducible first | exact HB.out | apply below_alloc | apply pw_below_drewN | apply below_drew1 | refine below_set ?_ GE1086.out | refine below_set ?_ GE1087.out) | exact HB.out))) : w.heap.size ≤ gb1098)); have n8_ := Aside0.mk ((by rw [hg]; exact Nat.ne_of_lt (blk_lt (g := gb1086) (o := .cells #[.slice A0_0 l0_0.length c0_0, .int .u8 a0_1, .int .u8 a0_2] 31 (0, 0)) (by (with_reducible repeat (first | refine blk_drewN ?_ _ | refine blk_drew ?_ | refine blk_alloc ?_ _)); exact BK1086.out)) : gb1086 ≠ gb1098)); have n9_ := Aside0.mk ((by rw [hg]; exact Nat.ne_of_gt (blk_lt (g := gb1086) (o := .cells #[.slice A0_0 l0_0.length c0_0, .int .u8 a0_1, .int .u8 a0_2] 31 (0, 0)) (by (with_reducible repeat (first | refine blk_drewN ?_ _ | refine blk_drew ?_ | refine blk_alloc ?_ _)); exact BK1086.out)) : gb1098 ≠ gb1086)); have n10_ := Aside0.mk ((by rw [hg]; exact Nat.ne_of_lt (blk_lt (g := gb1087) (o := .cells #[.slice A1_0 l1_0.length c1_0, .int .u8 a1_1, .int .u8 a1_2] 31 (0, 0)) (by (with_reducible repeat (first | refine blk_drewN ?_ _ | refine blk_drew ?_ | refine blk_alloc ?_ _)); exact BK1087.out)) : gb1087 ≠ gb1098)); have n11_ := Aside0.mk ((by rw [hg]; exact Nat.ne_of_gt (blk_lt (g := gb1087) (o := .cells #[.slice A1_0 l1_0.length c1_0, .int .u8 a1_1, .int .u8 a1_2] 31 (0, 0)) (by (with_reducible repeat (first | refine blk_drewN ?_ _ | refine blk_drew ?_ | refine blk_alloc ?_ _)); exact BK1087.out)) : gb1098 ≠ gb1087)); clear HO1091; clear HO1096; clear BK1086; clear BK1087; clear HB; have HO1091 := n0_; have HO1096 := n1_; have BK1086 := n2_; have BK1087 := n3_; have HB := n4_; have BK1098 := n5_; have GW1098 := n6_; have GE1098 := n7_; have NB1086_1098 := n8_; have NB1098_1086 := n9_; have NB1087_1098 := n10_; have NB1098_1087 := n11_; clear n0_ n1_ n2_ n3_ n4_ n5_ n6_ n7_ n8_ n9_ n10_ n11_; clear hb hbox hg; obtain ⟨Ao42, co42, eo42⟩ := Kd.R_slice HO1091.out; subst eo42; have hnb43 := NB1098_1086.out; have hnc43 := NB1086_1098.out; have hnb44 := NB1098_1087.out; have hnc44 := NB1087_1098.out; have hcz45_0 : w41.cell? ⟨gb1098, 0, none⟩ = some (.slice none 0 0) := (blk_cell BK1098.out 0).trans rfl; have hcz45_1 : w41.cell? ⟨gb1098, 1, none⟩ = some (.int .u8 0) := (blk_cell BK1098.out 1).trans rfl; have hcz45_2 : w41.cell? ⟨gb1098, 2, none⟩ = some (.int .u8 0) := (blk_cell BK1098.out 2).trans rfl; have hfz45_0 := blk_frozen BK1098.out 0; have hfz45_1 := blk_frozen BK1098.out 1; have hfz45_2 := blk_frozen BK1098.out 2; have hcz46_0 : w41.cell? ⟨gb1087, 0, none⟩ = some (.slice A1_0 l1_0.length c1_0) := (blk_cell BK1087.out 0).trans rfl; have hcz46_1 : w41.cell? ⟨gb1087, 1, none⟩ = some (.int .u8 a1_1) := (blk_cell BK1087.out 1).trans rfl; have hcz46_2 : w41.cell? ⟨gb1087, 2, none⟩ = some (.int .u8 a1_2) := (blk_cell BK1087.out 2).trans rfl; have hfz46_0 := blk_frozen BK1087.out 0; have hfz46_1 := blk_frozen BK1087.out 1; have hfz46_2 := blk_frozen BK1087.out 2) | (go_at_call 35; (with_reducible refine (lap_Next.calls _ _ l1_0 a1_1 a1_2 a2 a3 _ _ l4 t1099 t1102 t1103 t1104 t1107 _ ?side1 ?side2 ?side3 ?side4 A36.out).mono ?_); (case side1 => exact Kd.C_below HR1_0.out (by repeat (first | (with_reducible first | exact HB.out | apply below_alloc | apply pw_below_drewN | apply below_drew1 | refine below_set ?_ GE1086.out | refine below_set ?_ GE1087.out | refine below_set ?_ GE1098.out) | exact HB.out))); (case side2 => exact HC1_0.out); (case side3 => exact Kd.C_below HR4.out (by repeat (first | (with_reducible first | exact HB.out | apply below_alloc | apply pw_below_drewN | apply below_drew1 | refine below_set ?_ GE1086.out | refine below_set ?_ GE1087.out | refine below_set ?_ GE1098.out) | exact HB.out))); (case side4 => exact HC4.out); rintro e w47 ⟨v1100, v1105, rfl, ho0, ho1, hb⟩; have n0_ := Aside0.mk (Kd.R_mono (Kd.R_told (Kd.R_told (Kd.R_old (by (with_reducible repeat (first | apply Kd.R_alloc | apply Kd.R_drewN | apply Kd.R_drew)); exact (Kd.R_mono (Kd.R_far (p := ⟨gb1098, 2, none⟩) (Kd.R_far (p := ⟨gb1098, 1, none⟩) (Kd.R_far (p := ⟨gb1098, 0, none⟩) (Kd.R_types HO1091.out BK1098.out (by decide)) (fun _ hk => hk.2) (.slice Ao42 t1089.length co42)) (fun _ hk => hk.2) (.int .u8 t1092)) (fun _ hk => hk.2) (.int .u8 t1093)) (fun _ h_ => h_.1))) hb) (Kd.R_base ho0)) (Kd.R_base ho1)) (fun _ h_ => h_.1)); have n1_ := Aside0.mk (Kd.R_mono (Kd.R_told (Kd.R_told (Kd.R_old (by (with_reducible repeat (first | apply Kd.R_alloc | apply Kd.R_drewN | apply Kd.R_drew)); exact (Kd.R_mono (Kd.R_far (p := ⟨gb1098, 2, none⟩) (Kd.R_far (p := ⟨gb1098, 1, none⟩) (Kd.R_far (p := ⟨gb1098, 0, none⟩) (Kd.R_types HO1096.out BK1098.out (by decide)) (fun _ hk => hk.2) (.slice Ao42 t1089.length co42)) (fun _ hk => hk.2) (.int .u8 t1092)) (fun _ hk => hk.2) (.int .u8 t1093)) (fun _ h_ => h_.1))) hb) (Kd.R_base ho0)) (Kd.R_base ho1)) (fun _ h_ => h_.1)); have n2_ := Aside0.mk (Kd.R_lower (Kd.R_new' (Kd.R_new' ho0 (Kd.R_lt (by (with_reducible repeat (first | apply Kd.R_alloc | apply Kd.R_drewN | apply Kd.R_drew)); exact (Kd.R_mono (Kd.R_far (p := ⟨gb1098, 2, none⟩) (Kd.R_far (p := ⟨gb1098, 1, none⟩) (Kd.R_far (p := ⟨gb1098, 0, none⟩) (Kd.R_types HO1091.out BK1098.out (by decide)) (fun _ hk => hk.2) (.slice Ao42 t1089.length co42)) (fun _ hk => hk.2) (.int .u8 t1092)) (fun _ hk => hk.2) (.int .u8 t1093)) (fun _ h_ => h_.1))))) (Kd.R_lt (by (with_reducible repeat (first | apply Kd.R_alloc | apply Kd.R_drewN | apply Kd.R_drew)); exact (Kd.R_mono (Kd.R_far (p := ⟨gb1098, 2, none⟩) (Kd.R_far (p := ⟨gb1098, 1, none⟩) (Kd.R_far (p := ⟨gb1098, 0, none⟩) (Kd.R_types HO1096.out BK1098.out (by decide)) (fun _ hk => hk.2) (.slice Ao42 t1089.length co42)) (fun _ hk => hk.2) (.int .u8 t1092)) (fun _ hk => hk.2) (.int .u8 t1093)) (fun _ h_ => h_.1))))) (below_size (by repeat (first | (with_reducible first | exact HB.out | apply below_alloc | apply pw_below_drewN | apply below_drew1 | refine below_set ?_ GE1086.out | refine below_set ?_ GE1087.out | refine below_set ?_ GE1098.out) | exact HB.out)))); have n3_ := Aside0.mk (Kd.R_lower (Kd.R_new' (Kd.R_new' ho1 (Kd.R_lt (by (with_reducible repeat (first | apply Kd.R_alloc | apply Kd.R_drewN | apply Kd.R_drew)); exact (Kd.R_mono (Kd.R_far (p := ⟨gb1098, 2, none⟩) (Kd.R_far (p := ⟨gb1098, 1, none⟩) (Kd.R_far (p := ⟨gb1098, 0, none⟩) (Kd.R_types HO1091.out BK1098.out (by decide)) (fun _ hk => hk.2) (.slice Ao42 t1089.length co42)) (fun _ hk => hk.2) (.int .u8 t1092)) (fun _ hk => hk.2) (.int .u8 t1093)) (fun _ h_ => h_.1))))) (Kd.R_lt (by (with_reducible repeat (first | apply Kd.R_alloc | apply Kd.R_drewN | apply Kd.R_drew)); exact (Kd.R_mono (Kd.R_far (p := ⟨gb1098, 2, none⟩) (Kd.R_far (p := ⟨gb1098, 1, none⟩) (Kd.R_far (p := ⟨gb1098, 0, none⟩) (Kd.R_types HO1096.out BK1098.out (by decide)) (fun _ hk => hk.2) (.slice Ao42 t1089.length co42)) (fun _ hk => hk.2) (.int .u8 t1092)) (fun _ hk => hk.2) (.int .u8 t1093)) (fun _ h_ => h_.1))))) (below_size (by repeat (first | (with_reducible first | exact HB.out | apply below_alloc | apply pw_below_drewN | apply below_drew1 | refine below_set ?_ GE1086.out | refine below_set ?_ GE1087.out | refine below_set ?_ GE1098.out) | exact HB.out)))); have n4_ := Aside0.mk (blk_below (g := gb1086) (o := .cells #[.slice A0_0 l0_0.length c0_0, .int .u8 a0_1, .int .u8 a0_2] 31 (0, 0)) (by (with_reducible repeat (first | refine blk_drewN ?_ _ | refine blk_drew ?_ | refine blk_alloc ?_ _)); refine blk_far ?_ NB1086_1098.out _; (with_reducible repeat (first | refine blk_drewN ?_ _ | refine blk_drew ?_ | refine blk_alloc ?_ _)); refine blk_far ?_ NB1086_1098.out _; (with_reducible repeat (first | refine blk_drewN ?_ _ | refine blk_drew ?_ | refine blk_alloc ?_ _)); refine blk_far ?_ NB1086_1098.out _; (with_reducible repeat (first | refine blk_drewN ?_ _ | refine blk_drew ?_ | refine blk_alloc ?_ _)); exact BK1086.out) hb); have n5_ := Aside0.mk (blk_below (g := gb1087) (o := .cells #[.slice A1_0 l1_0.length c1_0, .int .u8 a1_1, .int .u8 a1_2] 31 (0, 0)) (by (with_reducible repeat (first | refine blk_drewN ?_ _ | refine blk_drew ?_ | refine blk_alloc ?_ _)); refine blk_far ?_ NB1087_1098.out _; (with_reducible repeat (first | refine blk_drewN ?_ _ | refine blk_drew ?_ | refine blk_alloc ?_ _)); refine blk_far ?_ NB1087_1098.out _; (with_reducible repeat (first | refine blk_drewN ?_ _ | refine blk_drew ?_ | refine blk_alloc ?_ _)); refine blk_far ?_ NB1087_1098.out _; (with_reducible repeat (first | refine blk_drewN ?_ _ | refine blk_drew ?_ | refine blk_alloc ?_ _)); exact BK1087.out) hb); have n6_ := Aside0.mk (blk_below (g := gb1098) (o := .cells #[.slice Ao42 t1089.length co42, .int .u8 t1092, .int .u8 t1093] 31 (0, 0)) (by (with_reducible repeat (first | refine blk_drewN ?_ _ | refine blk_drew ?_ | refine blk_alloc ?_ _)); refine blk_put (cs := #[.slice Ao42 t1089.length co42, .int .u8 t1092, .int .u8 0]) ?_ 2 _ rfl; (with_reducible repeat (first | refine blk_drewN ?_ _ | refine blk_drew ?_ | refine blk_alloc ?_ _)); refine blk_put (cs := #[.slice Ao42 t1089.length co42, .int .u8 0, .int .u8 0]) ?_ 1 _ rfl; (with_reducible repeat (first | refine blk_drewN ?_ _ | refine blk_drew ?_ | refine blk_alloc ?_ _)); refine blk_put (cs := #[.slice none 0 0, .int .u8 0, .int .u8 0]) ?_ 0 _ rfl; (with_reducible repeat (first | refine blk_drewN ?_ _ | refine blk_drew ?_ | refine blk_alloc ?_ _)); exact BK1098.out) hb); have n7_ := Aside0.mk (below_step (by repeat (first | (with_reducible first | exact HB.out | apply below_alloc | apply pw_below_drewN | apply below_drew1 | refine below_set ?_ GE1086.out | refine below_set ?_ GE1087.out | refine below_set ?_ GE1098.out) | exact HB.out)) hb); clear HO1091; clear HO1096; clear BK1086; clear BK1087; clear BK1098; clear HB; have HO1091 := n0_; have HO1096 := n1_; have HO1101 := n2_; have HO1106 := n3_; have BK1086 := n4_; have BK1087 := n5_; have BK1098 := n6_; have HB := n7_; clear n0_ n1_ n2_ n3_ n4_ n5_ n6_ n7_; (try clear hb); (try clear hb2); (try clear hk); (try clear hi); (try clear ho0); (try clear ho1)) | ((with_reducible refine gate_dst (N := 17) rfl ?_); (try (refine gate_guard (by rfl) ?_; dsimp only)); refine box_event ?hg (N := 17) ?hd (cs := #[.slice none 0 0, .int .u8 0, .int .u8 0]) (t := 31) ?hr ?_; (case hd => rfl); (case hg => rfl); (case hr => first | (go_simp; done) | (go_simp; rfl)); intro gb1108 hg w48 hbox hb; have n0_ := Aside0.mk (Kd.R_below (by (with_reducible repeat (first | apply Kd.R_alloc | apply Kd.R_drewN | apply Kd.R_drew)); exact HO1091.out) hb); have n1_ := Aside0.mk (Kd.R_below (by (with_reducible repeat (first | apply Kd.R_alloc | apply Kd.R_drewN | apply Kd.R_drew)); exact HO1096.out) hb); have n2_ := Aside0.mk (Kd.R_below (by (with_reducible repeat (first | apply Kd.R_alloc | apply Kd.R_drewN | apply Kd.R_drew)); exact HO1101.out) hb); have n3_ := Aside0.mk (Kd.R_below (by (with_reducible repeat (first | apply Kd.R_alloc | apply Kd.R_drewN | apply Kd.R_drew)); exact HO1106.out) hb); have n4_ := Aside0.mk (blk_below (g := gb1086) (o := .cells #[.slice A0_0 l0_0.length c0_0, .int .u8 a0_1, .int .u8 a0_2] 31 (0, 0)) (by (with_reducible repeat (first | refine blk_drewN ?_ _ | refine blk_drew ?_ | refine blk_alloc ?_ _)); exact BK1086.out) hb); have n5_ := Aside0.mk (blk_below (g := gb1087) (o := .cells #[.slice A1_0 l1_0.length c1_0, .int .u8 a1_1, .int .u8 a1_2] 31 (0, 0)) (by (with_reducible repeat (first | refine blk_drewN ?_ _ | refine blk_drew ?_ | refine blk_alloc ?_ _)); exact BK1087.out) hb); have n6_ := Aside0.mk (blk_below (g := gb1098) (o := .cells #[.slice Ao42 t1089.length co42, .int .u8 t1092, .int .u8 t1093] 31 (0, 0)) (by (with_reducible repeat (first | refine blk_drewN ?_ _ | refine blk_drew ?_ | refine blk_alloc ?_ _)); exact BK1098.out) hb); have n7_ := Aside0.mk (below_step (by repeat (first | (with_reducible first | exact HB.out | apply below_alloc | apply pw_below_drewN | apply below_drew1 | refine below_set ?_ GE1086.out | refine below_set ?_ GE1087.out | refine below_set ?_ GE1098.out) | exact HB.out)) hb); have n8_ := Aside0.mk (hbox); have n9_ := Aside0.mk ((by rw [hg]; exact (below_size (by repeat (first | (with_reducible first | exact HB.out | apply below_alloc | apply pw_below_drewN | apply below_drew1 | refine below_set ?_ GE1086.out | refine below_set ?_ GE1087.out | refine below_set ?_ GE1098.out) | exact HB.out))) : w.heap.size ≤ gb1108)); have n10_ := Aside0.mk ((by rw [hg]; exact (below_size (by repeat (first | (with_reducible first | exact HB.out | apply below_alloc | apply pw_below_drewN | apply below_drew1 | refine below_set ?_ GE1086.out | refine below_set ?_ GE1087.out | refine below_set ?_ GE1098.out) | exact HB.out))) : w.heap.size ≤ gb1108)); have n11_ := Aside0.mk ((by rw [hg]; exact Nat.ne_of_lt (blk_lt (g := gb1086) (o := .cells #[.slice A0_0 l0_0.length c0_0, .int .u8 a0_1, .int .u8 a0_2] 31 (0, 0)) (by (with_reducible repeat (first | refine blk_drewN ?_ _ | refine blk_drew ?_ | refine blk_alloc ?_ _)); exact BK1086.out)) : gb1086 ≠ gb1108)); have n12_ := Aside0.mk ((by rw [hg]; exact Nat.ne_of_gt (blk_lt (g := gb1086) (o := .cells #[.slice A0_0 l0_0.length c0_0, .int .u8 a0_1, .int .u8 a0_2] 31 (0, 0)) (by (with_reducible repeat (first | refine blk_drewN ?_ _ | refine blk_drew ?_ | refine blk_alloc ?_ _)); exact BK1086.out)) : gb1108 ≠ gb1086)); have n13_ := Aside0.mk ((by rw [hg]; exact Nat.ne_of_lt (blk_lt (g := gb1087) (o := .cells #[.slice A1_0 l1_0.length c1_0, .int .u8 a1_1, .int .u8 a1_2] 31 (0, 0)) (by (with_reducible repeat (first | refine blk_drewN ?_ _ | refine blk_drew ?_ | refine blk_alloc ?_ _)); exact BK1087.out)) : gb1087 ≠ gb1108)); have n14_ := Aside0.mk ((by rw [hg]; exact Nat.ne_of_gt (blk_lt (g := gb1087) (o := .cells #[.slice A1_0 l1_0.length c1_0, .int .u8 a1_1, .int .u8 a1_2] 31 (0, 0)) (by (with_reducible repeat (first | refine blk_drewN ?_ _ | refine blk_drew ?_ | refine blk_alloc ?_ _)); exact BK1087.out)) : gb1108 ≠ gb1087)); have n15_ := Aside0.mk ((by rw [hg]; exact Nat.ne_of_lt (blk_lt (g := gb1098) (o := .cells #[.slice Ao42 t1089.length co42, .int .u8 t1092, .int .u8 t1093] 31 (0, 0)) (by (with_reducible repeat (first | refine blk_drewN ?_ _ | refine blk_drew ?_ | refine blk_alloc ?_ _)); exact BK1098.out)) : gb1098 ≠ gb1108)); have n16_ := Aside0.mk ((by rw [hg]; exact Nat.ne_of_gt (blk_lt (g := gb1098) (o := .cells #[.slice Ao42 t1089.length co42, .int .u8 t1092, .int .u8 t1093] 31 (0, 0)) (by (with_reducible repeat (first | refine blk_drewN ?_ _ | refine blk_drew ?_ | refine blk_alloc ?_ _)); exact BK1098.out)) : gb1108 ≠ gb1098)); clear HO1091; clear HO1096; clear HO1101; clear HO1106; clear BK1086; clear BK1087; clear BK1098; clear HB; have HO1091 := n0_; have HO1096 := n1_; have HO1101 := n2_; have HO1106 := n3_; have BK1086 := n4_; have BK1087 := n5_; have BK1098 := n6_; have HB := n7_; have BK1108 := n8_; have GW1108 := n9_; have GE1108 := n10_; have NB1086_1108 := n11_; have NB1108_1086 := n12_; have NB1087_1108 := n13_; have NB1108_1087 := n14_; have NB1098_1108 := n15_; have NB1108_1098 := n16_; clear n0_ n1_ n2_ n3_ n4_ n5_ n6_ n7_ n8_ n9_ n10_ n11_ n12_ n13_ n14_ n15_ n16_; clear hb hbox hg; obtain ⟨Ao49, co49, eo49⟩ := Kd.R_slice HO1101.out; subst eo49; have hnb50 := NB1108_1086.out; have hnc50 := NB1086_1108.out; have hnb51 := NB1108_1087.out; have hnc51 := NB1087_1108.out; have hnb52 := NB1108_1098.out; have hnc52 := NB1098_1108.out; have hcz53_0 : w48.cell? ⟨gb1108, 0, none⟩ = some (.slice none 0 0) := (blk_cell BK1108.out 0).trans rfl; have hcz53_1 : w48.cell? ⟨gb1108, 1, none⟩ = some (.int .u8 0) := (blk_cell BK1108.out 1).trans rfl; have hcz53_2 : w48.cell? ⟨gb1108, 2, none⟩ = some (.int .u8 0) := (blk_cell BK1108.out 2).trans rfl; have hfz53_0 := blk_frozen BK1108.out 0; have hfz53_1 := blk_frozen BK1108.out 1; have hfz53_2 := blk_frozen BK1108.out 2))
    repeat (go_quiet (fail); go_upto_region 6 with (fail))
    (try simp only [Act.put, List.setIfInBounds_toArray, List.set_cons_zero, List.set_cons_succ])
    go_cut [84] (fun v84 wc => ∃ (kq : Nat) (x84_36 : Bool), v84 = .bool x84_36 ∧ Aside0 (reedpipelaw13_LapForgets.j1 kq a2 a3 l5 t1088 t1097 t1107 x84_36 t1089 t1092 t1093 t1099 t1102 t1103 = some r) ∧ Aside0 (kq ≤ kj7) ∧ Aside0 (Kd.R (Kd.int .i64) 3 wc w.heap.size (fun k_ => some k_ ≠ ((.slice Ao49 t1099.length co49) : Value).ownBlock) (.slice Ao42 t1089.length co42) t1089) ∧ Aside0 (Kd.R (Kd.int .i64) 3 wc w.heap.size (fun k_ => some k_ ≠ ((.slice Ao42 t1089.length co42) : Value).ownBlock) (.slice Ao49 t1099.length co49) t1099) ∧ Aside0 (wc.heap[gb1086]? = some (.cells #[(.slice A0_0 l0_0.length c0_0), .int .u8 a0_1, .int .u8 a0_2] 31 (0, 0))) ∧ Aside0 (wc.heap[gb1087]? = some (.cells #[(.slice A1_0 l1_0.length c1_0), .int .u8 a1_1, .int .u8 a1_2] 31 (0, 0))) ∧ Aside0 (wc.heap[gb1098]? = some (.cells #[(.slice Ao42 t1089.length co42), .int .u8 t1092, .int .u8 t1093] 31 (0, 0))) ∧ Aside0 (wc.heap[gb1108]? = some (.cells #[(.slice Ao49 t1099.length co49), .int .u8 t1102, .int .u8 t1103] 31 (0, 0))) ∧ Aside0 (Below w.heap.size w wc))
    case first => as_aux_lemma =>
     have H := HC37.out
     clear HC37
     by_cases c54 : t1097 = 0
     ·rw [if_pos c54] at H
      have c54b0 : (t1097 == 0) = true := beq_iff_eq.mpr c54
      have c54b1 : (t1097 != 0) = false := bne_eq_false_iff_eq.mpr c54
      clear c54
      (first | rw [c54b0] | (simp only [i64_w, i32_w]; rw [c54b0]) | skip)
      have H' := Aside0.mk H
      clear H
      go_wp2
      repeat (go_quiet (fail); try go_wp2)
      go_meet
      case rel => exact ⟨_, ((t1107 != 0)), (by first | rfl | (simp; done) | (simp [*]; done)), H', ⟨by have := HJ7.out; first | omega | exact Nat.le_refl _⟩, ⟨by (with_reducible repeat (first | apply Kd.R_alloc | apply Kd.R_drewN | apply Kd.R_drew)); exact Kd.R_mono (Kd.R_far (p := ⟨gb1108, 2, none⟩) (Kd.R_far (p := ⟨gb1108, 1, none⟩) (Kd.R_far (p := ⟨gb1108, 0, none⟩) (Kd.R_types HO1091.out BK1108.out (by decide)) (fun _ hk => hk.2) (.slice Ao49 t1099.length co49)) (fun _ hk => hk.2) (.int .u8 t1102)) (fun _ hk => hk.2) (.int .u8 t1103)) (fun _ hk => hk.1.1.2)⟩, ⟨by (with_reducible repeat (first | apply Kd.R_alloc | apply Kd.R_drewN | apply Kd.R_drew)); exact Kd.R_mono (Kd.R_far (p := ⟨gb1108, 2, none⟩) (Kd.R_far (p := ⟨gb1108, 1, none⟩) (Kd.R_far (p := ⟨gb1108, 0, none⟩) (Kd.R_types HO1101.out BK1108.out (by decide)) (fun _ hk => hk.2) (.slice Ao49 t1099.length co49)) (fun _ hk => hk.2) (.int .u8 t1102)) (fun _ hk => hk.2) (.int .u8 t1103)) (fun _ hk => hk.1.1.2)⟩, ⟨by (with_reducible repeat (first | refine blk_drewN ?_ _ | refine blk_drew ?_ | refine blk_alloc ?_ _)); refine blk_far ?_ NB1086_1108.out _; (with_reducible repeat (first | refine blk_drewN ?_ _ | refine blk_drew ?_ | refine blk_alloc ?_ _)); refine blk_far ?_ NB1086_1108.out _; (with_reducible repeat (first | refine blk_drewN ?_ _ | refine blk_drew ?_ | refine blk_alloc ?_ _)); refine blk_far ?_ NB1086_1108.out _; (with_reducible repeat (first | refine blk_drewN ?_ _ | refine blk_drew ?_ | refine blk_alloc ?_ _)); exact BK1086.out⟩, ⟨by (with_reducible repeat (first | refine blk_drewN ?_ _ | refine blk_drew ?_ | refine blk_alloc ?_ _)); refine blk_far ?_ NB1087_1108.out _; (with_reducible repeat (first | refine blk_drewN ?_ _ | refine blk_drew ?_ | refine blk_alloc ?_ _)); refine blk_far ?_ NB1087_1108.out _; (with_reducible repeat (first | refine blk_drewN ?_ _ | refine blk_drew ?_ | refine blk_alloc ?_ _)); refine blk_far ?_ NB1087_1108.out _; (with_reducible repeat (first | refine blk_drewN ?_ _ | refine blk_drew ?_ | refine blk_alloc ?_ _)); exact BK1087.out⟩, ⟨by (with_reducible repeat (first | refine blk_drewN ?_ _ | refine blk_drew ?_ | refine blk_alloc ?_ _)); refine blk_far ?_ NB1098_1108.out _; (with_reducible repeat (first | refine blk_drewN ?_ _ | refine blk_drew ?_ | refine blk_alloc ?_ _)); refine blk_far ?_ NB1098_1108.out _; (with_reducible repeat (first | refine blk_drewN ?_ _ | refine blk_drew ?_ | refine blk_alloc ?_ _)); refine blk_far ?_ NB1098_1108.out _; (with_reducible repeat (first | refine blk_drewN ?_ _ | refine blk_drew ?_ | refine blk_alloc ?_ _)); exact BK1098.out⟩, ⟨by (with_reducible repeat (first | refine blk_drewN ?_ _ | refine blk_drew ?_ | refine blk_alloc ?_ _)); refine blk_put (cs := #[.slice Ao49 t1099.length co49, .int .u8 t1102, .int .u8 0]) ?_ 2 _ rfl; (with_reducible repeat (first | refine blk_drewN ?_ _ | refine blk_drew ?_ | refine blk_alloc ?_ _)); refine blk_put (cs := #[.slice Ao49 t1099.length co49, .int .u8 0, .int .u8 0]) ?_ 1 _ rfl; (with_reducible repeat (first | refine blk_drewN ?_ _ | refine blk_drew ?_ | refine blk_alloc ?_ _)); refine blk_put (cs := #[.slice none 0 0, .int .u8 0, .int .u8 0]) ?_ 0 _ rfl; (with_reducible repeat (first | refine blk_drewN ?_ _ | refine blk_drew ?_ | refine blk_alloc ?_ _)); exact BK1108.out⟩, ⟨by repeat (first | (with_reducible first | exact HB.out | apply below_alloc | apply pw_below_drewN | apply below_drew1 | refine below_set ?_ GE1086.out | refine below_set ?_ GE1087.out | refine below_set ?_ GE1098.out | refine below_set ?_ GE1108.out) | exact HB.out)⟩⟩
     ·rw [if_neg c54] at H
      have c54b0 : (t1097 == 0) = false := beq_eq_false_iff_ne.mpr c54
      have c54b1 : (t1097 != 0) = true := bne_iff_ne.mpr c54
      (first | rw [c54b0] | (simp only [i64_w, i32_w]; rw [c54b0]) | skip)
      have H' := Aside0.mk H
      clear H
      go_wp2
      repeat (go_quiet (fail); try go_wp2)
      go_meet
      case rel => exact ⟨_, (true), (by first | rfl | (simp; done) | (simp [*]; done)), H', ⟨by have := HJ7.out; first | omega | exact Nat.le_refl _⟩, ⟨by (with_reducible repeat (first | apply Kd.R_alloc | apply Kd.R_drewN | apply Kd.R_drew)); exact Kd.R_mono (Kd.R_far (p := ⟨gb1108, 2, none⟩) (Kd.R_far (p := ⟨gb1108, 1, none⟩) (Kd.R_far (p := ⟨gb1108, 0, none⟩) (Kd.R_types HO1091.out BK1108.out (by decide)) (fun _ hk => hk.2) (.slice Ao49 t1099.length co49)) (fun _ hk => hk.2) (.int .u8 t1102)) (fun _ hk => hk.2) (.int .u8 t1103)) (fun _ hk => hk.1.1.2)⟩, ⟨by (with_reducible repeat (first | apply Kd.R_alloc | apply Kd.R_drewN | apply Kd.R_drew)); exact Kd.R_mono (Kd.R_far (p := ⟨gb1108, 2, none⟩) (Kd.R_far (p := ⟨gb1108, 1, none⟩) (Kd.R_far (p := ⟨gb1108, 0, none⟩) (Kd.R_types HO1101.out BK1108.out (by decide)) (fun _ hk => hk.2) (.slice Ao49 t1099.length co49)) (fun _ hk => hk.2) (.int .u8 t1102)) (fun _ hk => hk.2) (.int .u8 t1103)) (fun _ hk => hk.1.1.2)⟩, ⟨by (with_reducible repeat (first | refine blk_drewN ?_ _ | refine blk_drew ?_ | refine blk_alloc ?_ _)); refine blk_far ?_ NB1086_1108.out _; (with_reducible repeat (first | refine blk_drewN ?_ _ | refine blk_drew ?_ | refine blk_alloc ?_ _)); refine blk_far ?_ NB1086_1108.out _; (with_reducible repeat (first | refine blk_drewN ?_ _ | refine blk_drew ?_ | refine blk_alloc ?_ _)); refine blk_far ?_ NB1086_1108.out _; (with_reducible repeat (first | refine blk_drewN ?_ _ | refine blk_drew ?_ | refine blk_alloc ?_ _)); exact BK1086.out⟩, ⟨by (with_reducible repeat (first | refine blk_drewN ?_ _ | refine blk_drew ?_ | refine blk_alloc ?_ _)); refine blk_far ?_ NB1087_1108.out _; (with_reducible repeat (first | refine blk_drewN ?_ _ | refine blk_drew ?_ | refine blk_alloc ?_ _)); refine blk_far ?_ NB1087_1108.out _; (with_reducible repeat (first | refine blk_drewN ?_ _ | refine blk_drew ?_ | refine blk_alloc ?_ _)); refine blk_far ?_ NB1087_1108.out _; (with_reducible repeat (first | refine blk_drewN ?_ _ | refine blk_drew ?_ | refine blk_alloc ?_ _)); exact BK1087.out⟩, ⟨by (with_reducible repeat (first | refine blk_drewN ?_ _ | refine blk_drew ?_ | refine blk_alloc ?_ _)); refine blk_far ?_ NB1098_1108.out _; (with_reducible repeat (first | refine blk_drewN ?_ _ | refine blk_drew ?_ | refine blk_alloc ?_ _)); refine blk_far ?_ NB1098_1108.out _; (with_reducible repeat (first | refine blk_drewN ?_ _ | refine blk_drew ?_ | refine blk_alloc ?_ _)); refine blk_far ?_ NB1098_1108.out _; (with_reducible repeat (first | refine blk_drewN ?_ _ | refine blk_drew ?_ | refine blk_alloc ?_ _)); exact BK1098.out⟩, ⟨by (with_reducible repeat (first | refine blk_drewN ?_ _ | refine blk_drew ?_ | refine blk_alloc ?_ _)); refine blk_put (cs := #[.slice Ao49 t1099.length co49, .int .u8 t1102, .int .u8 0]) ?_ 2 _ rfl; (with_reducible repeat (first | refine blk_drewN ?_ _ | refine blk_drew ?_ | refine blk_alloc ?_ _)); refine blk_put (cs := #[.slice Ao49 t1099.length co49, .int .u8 0, .int .u8 0]) ?_ 1 _ rfl; (with_reducible repeat (first | refine blk_drewN ?_ _ | refine blk_drew ?_ | refine blk_alloc ?_ _)); refine blk_put (cs := #[.slice none 0 0, .int .u8 0, .int .u8 0]) ?_ 0 _ rfl; (with_reducible repeat (first | refine blk_drewN ?_ _ | refine blk_drew ?_ | refine blk_alloc ?_ _)); exact BK1108.out⟩, ⟨by repeat (first | (with_reducible first | exact HB.out | apply below_alloc | apply pw_below_drewN | apply below_drew1 | refine below_set ?_ GE1086.out | refine below_set ?_ GE1087.out | refine below_set ?_ GE1098.out | refine below_set ?_ GE1108.out) | exact HB.out)⟩⟩
    case rest => as_aux_lemma =>
     clear HC37
     try clear c1
     try clear c2
     try clear p2
     try clear c3
     try clear c4
     try clear c5
     try clear c12
     try clear c12b0
     try clear c12b1
     try clear c13
     try clear c15
     try clear c15b0
     try clear c15b1
     try clear c16
     try clear c19
     try clear c19b0
     try clear c19b1
     try clear c20
     try clear c23
     try clear c23b0
     try clear c23b1
     try clear c24
     try clear c27
     try clear c28
     try clear c31
     try clear c34
     try clear c38
     try clear c43
     try clear c44
     try clear c50
     try clear c51
     try clear c52
     try clear c54
     try clear c54b0
     try clear c54b1
     try clear hcz14_0
     try clear hcz14_1
     try clear hcz14_2
     try clear hcz17_0
     try clear hcz17_1
     try clear hcz17_2
     try clear hcz18_0
     try clear hcz18_1
     try clear hcz18_2
     try clear hcz21_0
     try clear hcz21_1
     try clear hcz21_2
     try clear hcz22_0
     try clear hcz22_1
     try clear hcz22_2
     try clear hcz25_0
     try clear hcz25_1
     try clear hcz25_2
     try clear hcz26_0
     try clear hcz26_1
     try clear hcz26_2
     try clear hcz29_0
     try clear hcz29_1
     try clear hcz29_2
     try clear hcz30_0
     try clear hcz30_1
     try clear hcz30_2
     try clear hcz32_0
     try clear hcz32_1
     try clear hcz32_2
     try clear hcz33_0
     try clear hcz33_1
     try clear hcz33_2
     try clear hcz39_0
     try clear hcz39_1
     try clear hcz39_2
     try clear hcz45_0
     try clear hcz45_1
     try clear hcz45_2
     try clear hcz46_0
     try clear hcz46_1
     try clear hcz46_2
     try clear hcz53_0
     try clear hcz53_1
     try clear hcz53_2
     try clear hfz14_0
     try clear hfz14_1
     try clear hfz14_2
     try clear hfz17_0
     try clear hfz17_1
     try clear hfz17_2
     try clear hfz18_0
     try clear hfz18_1
     try clear hfz18_2
     try clear hfz21_0
     try clear hfz21_1
     try clear hfz21_2
     try clear hfz22_0
     try clear hfz22_1
     try clear hfz22_2
     try clear hfz25_0
     try clear hfz25_1
     try clear hfz25_2
     try clear hfz26_0
     try clear hfz26_1
     try clear hfz26_2
     try clear hfz29_0
     try clear hfz29_1
     try clear hfz29_2
     try clear hfz30_0
     try clear hfz30_1
     try clear hfz30_2
     try clear hfz32_0
     try clear hfz32_1
     try clear hfz32_2
     try clear hfz33_0
     try clear hfz33_1
     try clear hfz33_2
     try clear hfz39_0
     try clear hfz39_1
     try clear hfz39_2
     try clear hfz45_0
     try clear hfz45_1
     try clear hfz45_2
     try clear hfz46_0
     try clear hfz46_1
     try clear hfz46_2
     try clear hfz53_0
     try clear hfz53_1
     try clear hfz53_2
     try clear p2
     obtain ⟨kq, x84_36, rfl, HA, HJ36, HO_1099000, HO_1109000, BK1086, BK1087, BK1098, BK1108, HB⟩ := hcut
     cases kq with
     | zero => exact absurd HA.out (by simp [reedpipelaw13_LapForgets.j1])
     | succ kj36 =>
      have H := HA.out
      clear HA
      simp only [reedpipelaw13_LapForgets.j1] at H
      by_cases c55 : x84_36 = true
      ·subst c55
       have H1 : (if t1088 = true then (if t1097 = 0 then (if t1107 = 0 then (some true) else (some ((t1099.length : Int) == 0))) else (if (t1089.length : Int) = 0 then (if t1107 = 0 then (some true) else (some ((t1099.length : Int) == 0))) else (some false))) else (some false)) = some r := by rw [if_pos rfl] at H; exact H
       clear H
       have H := H1
       clear H1
       by_cases c56 : t1088 = true
       ·subst c56
        have H1 : (if t1097 = 0 then (if t1107 = 0 then (some true) else (some ((t1099.length : Int) == 0))) else (if (t1089.length : Int) = 0 then (if t1107 = 0 then (some true) else (some ((t1099.length : Int) == 0))) else (some false))) = some r := by rw [if_pos rfl] at H; exact H
        clear H
        have H := H1
        clear H1
        by_cases c57 : t1097 = 0
        ·rw [if_pos c57] at H
         have c57b0 : (t1097 == 0) = true := beq_iff_eq.mpr c57
         have c57b1 : (t1097 != 0) = false := bne_eq_false_iff_eq.mpr c57
         clear c57
         by_cases c58 : t1107 = 0
         ·rw [if_pos c58] at H
          have c58b0 : (t1107 == 0) = true := beq_iff_eq.mpr c58
          have c58b1 : (t1107 != 0) = false := bne_eq_false_iff_eq.mpr c58
          clear c58
          obtain rfl := Option.some.inj H
          go_wp2
          repeat (go_quiet (fail); try go_wp2)
          go_ret
          exact ⟨by first | rfl | (simp [errW_none, errW_some] <;> rfl) | (simp [*, errW_none, errW_some] <;> rfl), by repeat (first | (with_reducible first | exact HB.out | apply below_alloc | apply pw_below_drewN | apply below_drew1 | refine below_set ?_ GE1086.out | refine below_set ?_ GE1087.out | refine below_set ?_ GE1098.out | refine below_set ?_ GE1108.out) | exact HB.out)⟩
         ·rw [if_neg c58] at H
          have c58b0 : (t1107 == 0) = false := beq_eq_false_iff_ne.mpr c58
          have c58b1 : (t1107 != 0) = true := bne_iff_ne.mpr c58
          obtain rfl := Option.some.inj H
          have hnb59 := NB1108_1086.out
          have hnc59 := NB1086_1108.out
          have hnb60 := NB1108_1087.out
          have hnc60 := NB1087_1108.out
          have hnb61 := NB1108_1098.out
          have hnc61 := NB1098_1108.out
          have hcz62_0 : wc.cell? ⟨gb1108, 0, none⟩ = some (.slice Ao49 t1099.length co49) := (blk_cell BK1108.out 0).trans rfl
          have hcz62_1 : wc.cell? ⟨gb1108, 1, none⟩ = some (.int .u8 t1102) := (blk_cell BK1108.out 1).trans rfl
          have hcz62_2 : wc.cell? ⟨gb1108, 2, none⟩ = some (.int .u8 t1103) := (blk_cell BK1108.out 2).trans rfl
          have hfz62_0 := blk_frozen BK1108.out 0
          have hfz62_1 := blk_frozen BK1108.out 1
          have hfz62_2 := blk_frozen BK1108.out 2
          go_wp2
          repeat (go_quiet (fail); try go_wp2)
          go_ret
          exact ⟨by first | rfl | (simp [errW_none, errW_some] <;> rfl) | (simp [*, errW_none, errW_some] <;> rfl), by repeat (first | (with_reducible first | exact HB.out | apply below_alloc | apply pw_below_drewN | apply below_drew1 | refine below_set ?_ GE1086.out | refine below_set ?_ GE1087.out | refine below_set ?_ GE1098.out | refine below_set ?_ GE1108.out) | exact HB.out)⟩
        ·rw [if_neg c57] at H
         have c57b0 : (t1097 == 0) = false := beq_eq_false_iff_ne.mpr c57
         have c57b1 : (t1097 != 0) = true := bne_iff_ne.mpr c57
         by_cases c63 : (t1089.length : Int) = 0
         ·rw [if_pos c63] at H
          have c63b0 : ((t1089.length : Int) == 0) = true := beq_iff_eq.mpr c63
          have c63b1 : ((t1089.length : Int) != 0) = false := bne_eq_false_iff_eq.mpr c63
          clear c63
          by_cases c64 : t1107 = 0
          ·rw [if_pos c64] at H
           have c64b0 : (t1107 == 0) = true := beq_iff_eq.mpr c64
           have c64b1 : (t1107 != 0) = false := bne_eq_false_iff_eq.mpr c64
           clear c64
           obtain rfl := Option.some.inj H
           have hnb65 := NB1098_1086.out
           have hnc65 := NB1086_1098.out
           have hnb66 := NB1098_1087.out
           have hnc66 := NB1087_1098.out
           have hnb67 := NB1098_1108.out
           have hnc67 := NB1108_1098.out
           have hcz68_0 : wc.cell? ⟨gb1098, 0, none⟩ = some (.slice Ao42 t1089.length co42) := (blk_cell BK1098.out 0).trans rfl
           have hcz68_1 : wc.cell? ⟨gb1098, 1, none⟩ = some (.int .u8 t1092) := (blk_cell BK1098.out 1).trans rfl
           have hcz68_2 : wc.cell? ⟨gb1098, 2, none⟩ = some (.int .u8 t1093) := (blk_cell BK1098.out 2).trans rfl
           have hfz68_0 := blk_frozen BK1098.out 0
           have hfz68_1 := blk_frozen BK1098.out 1
           have hfz68_2 := blk_frozen BK1098.out 2
           go_wp2
           repeat (go_quiet (fail); try go_wp2)
           go_ret
           exact ⟨by first | rfl | (simp [errW_none, errW_some] <;> rfl) | (simp [*, errW_none, errW_some] <;> rfl), by repeat (first | (with_reducible first | exact HB.out | apply below_alloc | apply pw_below_drewN | apply below_drew1 | refine below_set ?_ GE1086.out | refine below_set ?_ GE1087.out | refine below_set ?_ GE1098.out | refine below_set ?_ GE1108.out) | exact HB.out)⟩
          ·rw [if_neg c64] at H
           have c64b0 : (t1107 == 0) = false := beq_eq_false_iff_ne.mpr c64
           have c64b1 : (t1107 != 0) = true := bne_iff_ne.mpr c64
           obtain rfl := Option.some.inj H
           have hnb69 := NB1098_1086.out
           have hnc69 := NB1086_1098.out
           have hnb70 := NB1098_1087.out
           have hnc70 := NB1087_1098.out
           have hnb71 := NB1098_1108.out
           have hnc71 := NB1108_1098.out
           have hcz72_0 : wc.cell? ⟨gb1098, 0, none⟩ = some (.slice Ao42 t1089.length co42) := (blk_cell BK1098.out 0).trans rfl
           have hcz72_1 : wc.cell? ⟨gb1098, 1, none⟩ = some (.int .u8 t1092) := (blk_cell BK1098.out 1).trans rfl
           have hcz72_2 : wc.cell? ⟨gb1098, 2, none⟩ = some (.int .u8 t1093) := (blk_cell BK1098.out 2).trans rfl
           have hfz72_0 := blk_frozen BK1098.out 0
           have hfz72_1 := blk_frozen BK1098.out 1
           have hfz72_2 := blk_frozen BK1098.out 2
           have hnb73 := NB1108_1086.out
           have hnc73 := NB1086_1108.out
           have hnb74 := NB1108_1087.out
           have hnc74 := NB1087_1108.out
           have hcz75_0 : wc.cell? ⟨gb1108, 0, none⟩ = some (.slice Ao49 t1099.length co49) := (blk_cell BK1108.out 0).trans rfl
           have hcz75_1 : wc.cell? ⟨gb1108, 1, none⟩ = some (.int .u8 t1102) := (blk_cell BK1108.out 1).trans rfl
           have hcz75_2 : wc.cell? ⟨gb1108, 2, none⟩ = some (.int .u8 t1103) := (blk_cell BK1108.out 2).trans rfl
           have hfz75_0 := blk_frozen BK1108.out 0
           have hfz75_1 := blk_frozen BK1108.out 1
           have hfz75_2 := blk_frozen BK1108.out 2
           go_wp2
           repeat (go_quiet (fail); try go_wp2)
           go_ret
           exact ⟨by first | rfl | (simp [errW_none, errW_some] <;> rfl) | (simp [*, errW_none, errW_some] <;> rfl), by repeat (first | (with_reducible first | exact HB.out | apply below_alloc | apply pw_below_drewN | apply below_drew1 | refine below_set ?_ GE1086.out | refine below_set ?_ GE1087.out | refine below_set ?_ GE1098.out | refine below_set ?_ GE1108.out) | exact HB.out)⟩
         ·rw [if_neg c63] at H
          have c63b0 : ((t1089.length : Int) == 0) = false := beq_eq_false_iff_ne.mpr c63
          have c63b1 : ((t1089.length : Int) != 0) = true := bne_iff_ne.mpr c63
          have c63b2 : ¬ (t1089 = []) := fun h_ => c63 (by rw [h_]; rfl)
          obtain rfl := Option.some.inj H
          have hnb76 := NB1098_1086.out
          have hnc76 := NB1086_1098.out
          have hnb77 := NB1098_1087.out
          have hnc77 := NB1087_1098.out
          have hnb78 := NB1098_1108.out
          have hnc78 := NB1108_1098.out
          have hcz79_0 : wc.cell? ⟨gb1098, 0, none⟩ = some (.slice Ao42 t1089.length co42) := (blk_cell BK1098.out 0).trans rfl
          have hcz79_1 : wc.cell? ⟨gb1098, 1, none⟩ = some (.int .u8 t1092) := (blk_cell BK1098.out 1).trans rfl
          have hcz79_2 : wc.cell? ⟨gb1098, 2, none⟩ = some (.int .u8 t1093) := (blk_cell BK1098.out 2).trans rfl
          have hfz79_0 := blk_frozen BK1098.out 0
          have hfz79_1 := blk_frozen BK1098.out 1
          have hfz79_2 := blk_frozen BK1098.out 2
          go_wp2
          repeat (go_quiet (fail); try go_wp2)
          go_ret
          exact ⟨by first | rfl | (simp [errW_none, errW_some] <;> rfl) | (simp [*, errW_none, errW_some] <;> rfl), by repeat (first | (with_reducible first | exact HB.out | apply below_alloc | apply pw_below_drewN | apply below_drew1 | refine below_set ?_ GE1086.out | refine below_set ?_ GE1087.out | refine below_set ?_ GE1098.out | refine below_set ?_ GE1108.out) | exact HB.out)⟩
       ·replace c56 := Bool.eq_false_iff.mpr c56
        subst c56
        have H1 : (some false) = some r := by rw [if_neg (show ¬ (false = true) by decide)] at H; exact H
        clear H
        have H := H1
        clear H1
        obtain rfl := Option.some.inj H
        go_wp2
        repeat (go_quiet (fail); try go_wp2)
        go_ret
        exact ⟨by first | rfl | (simp [errW_none, errW_some] <;> rfl) | (simp [*, errW_none, errW_some] <;> rfl), by repeat (first | (with_reducible first | exact HB.out | apply below_alloc | apply pw_below_drewN | apply below_drew1 | refine below_set ?_ GE1086.out | refine below_set ?_ GE1087.out | refine below_set ?_ GE1098.out | refine below_set ?_ GE1108.out) | exact HB.out)⟩
      ·replace c55 := Bool.eq_false_iff.mpr c55
       subst c55
       have H1 : ((lap_Next.f t1089 t1092 t1093 a3 (Int.tmod a2 2) l5).bind fun bt1109 => ((lap_Next.f t1099 t1102 t1103 a3 (Int.tmod a2 2) l5).bind fun bt1119 => (if bt1109.2.2.2.2 = bt1119.2.2.2.2 then (if (bt1109.2.2.2.1.length : Int) = (bt1119.2.2.2.1.length : Int) then (if (bt1109.1.length : Int) = (bt1119.1.length : Int) then (if (t1089.length : Int) = (t1099.length : Int) then (if t1092 = t1102 then (reedpipelaw13_LapForgets.j2 kj36 t1088 bt1109.2.2.2.1 bt1119.2.2.2.1 (t1093 != t1103) t1089 t1092 t1093 t1099 t1102 t1103) else (reedpipelaw13_LapForgets.j2 kj36 t1088 bt1109.2.2.2.1 bt1119.2.2.2.1 true t1089 t1092 t1093 t1099 t1102 t1103)) else (reedpipelaw13_LapForgets.j2 kj36 t1088 bt1109.2.2.2.1 bt1119.2.2.2.1 true t1089 t1092 t1093 t1099 t1102 t1103)) else (reedpipelaw13_LapForgets.j2 kj36 t1088 bt1109.2.2.2.1 bt1119.2.2.2.1 true t1089 t1092 t1093 t1099 t1102 t1103)) else (reedpipelaw13_LapForgets.j2 kj36 t1088 bt1109.2.2.2.1 bt1119.2.2.2.1 true t1089 t1092 t1093 t1099 t1102 t1103)) else (reedpipelaw13_LapForgets.j2 kj36 t1088 bt1109.2.2.2.1 bt1119.2.2.2.1 true t1089 t1092 t1093 t1099 t1102 t1103)))) = some r := by rw [if_neg (show ¬ (false = true) by decide)] at H; exact H
       clear H
       have H := H1
       clear H1
       replace H := Option.bind_eq_some_iff.mp H
       obtain ⟨⟨t1109, t1112, t1113, t1114, t1117⟩, A800, H⟩ := H
       replace H : ((lap_Next.f t1099 t1102 t1103 a3 (Int.tmod a2 2) l5).bind fun bt1119 => (if t1117 = bt1119.2.2.2.2 then (if (t1114.length : Int) = (bt1119.2.2.2.1.length : Int) then (if (t1109.length : Int) = (bt1119.1.length : Int) then (if (t1089.length : Int) = (t1099.length : Int) then (if t1092 = t1102 then (reedpipelaw13_LapForgets.j2 kj36 t1088 t1114 bt1119.2.2.2.1 (t1093 != t1103) t1089 t1092 t1093 t1099 t1102 t1103) else (reedpipelaw13_LapForgets.j2 kj36 t1088 t1114 bt1119.2.2.2.1 true t1089 t1092 t1093 t1099 t1102 t1103)) else (reedpipelaw13_LapForgets.j2 kj36 t1088 t1114 bt1119.2.2.2.1 true t1089 t1092 t1093 t1099 t1102 t1103)) else (reedpipelaw13_LapForgets.j2 kj36 t1088 t1114 bt1119.2.2.2.1 true t1089 t1092 t1093 t1099 t1102 t1103)) else (reedpipelaw13_LapForgets.j2 kj36 t1088 t1114 bt1119.2.2.2.1 true t1089 t1092 t1093 t1099 t1102 t1103)) else (reedpipelaw13_LapForgets.j2 kj36 t1088 t1114 bt1119.2.2.2.1 true t1089 t1092 t1093 t1099 t1102 t1103))) = some r := H
       have A80 := Aside0.mk A800
       clear A800
       replace H := Option.bind_eq_some_iff.mp H
       obtain ⟨⟨t1119, t1122, t1123, t1124, t1127⟩, A810, H⟩ := H
       replace H : (if t1117 = t1127 then (if (t1114.length : Int) = (t1124.length : Int) then (if (t1109.length : Int) = (t1119.length : Int) then (if (t1089.length : Int) = (t1099.length : Int) then (if t1092 = t1102 then (reedpipelaw13_LapForgets.j2 kj36 t1088 t1114 t1124 (t1093 != t1103) t1089 t1092 t1093 t1099 t1102 t1103) else (reedpipelaw13_LapForgets.j2 kj36 t1088 t1114 t1124 true t1089 t1092 t1093 t1099 t1102 t1103)) else (reedpipelaw13_LapForgets.j2 kj36 t1088 t1114 t1124 true t1089 t1092 t1093 t1099 t1102 t1103)) else (reedpipelaw13_LapForgets.j2 kj36 t1088 t1114 t1124 true t1089 t1092 t1093 t1099 t1102 t1103)) else (reedpipelaw13_LapForgets.j2 kj36 t1088 t1114 t1124 true t1089 t1092 t1093 t1099 t1102 t1103)) else (reedpipelaw13_LapForgets.j2 kj36 t1088 t1114 t1124 true t1089 t1092 t1093 t1099 t1102 t1103)) = some r := H
       have A81 := Aside0.mk A810
       clear A810
       have HC82 := Aside0.mk H
       clear H
       have hnb83 := NB1098_1086.out
       have hnc83 := NB1086_1098.out
       have hnb84 := NB1098_1087.out
       have hnc84 := NB1087_1098.out
       have hnb85 := NB1098_1108.out
       have hnc85 := NB1108_1098.out
       have hcz86_0 : wc.cell? ⟨gb1098, 0, none⟩ = some (.slice Ao42 t1089.length co42) := (blk_cell BK1098.out 0).trans rfl
       have hcz86_1 : wc.cell? ⟨gb1098, 1, none⟩ = some (.int .u8 t1092) := (blk_cell BK1098.out 1).trans rfl
       have hcz86_2 : wc.cell? ⟨gb1098, 2, none⟩ = some (.int .u8 t1093) := (blk_cell BK1098.out 2).trans rfl
       have hfz86_0 := blk_frozen BK1098.out 0
       have hfz86_1 := blk_frozen BK1098.out 1
       have hfz86_2 := blk_frozen BK1098.out 2
       go_upto_region 10 with (first | (go_at_call 35; (with_reducible refine (lap_Next.calls _ _ t1089 t1092 t1093 a3 (Int.tmod a2 2) _ _ l5 t1109 t1112 t1113 t1114 t1117 _ ?side1 ?side2 ?side3 ?side4 A80.out).mono ?_); (case side1 => repeat (first | exact (Kd.R_reads' HO_1099000.out).2.2 | (with_reducible refine Kd.C_alloc ?_ _) | (with_reducible refine Kd.C_drewN ?_ _) | (with_reducible refine Kd.C_drew ?_))); (case side2 => exact (Kd.R_reads' HO_1099000.out).2.1); (case side3 => repeat (first | exact (Kd.C_below HR5.out HB.out) | (with_reducible refine Kd.C_alloc ?_ _) | (with_reducible refine Kd.C_drewN ?_ _) | (with_reducible refine Kd.C_drew ?_))); (case side4 => exact HC5.out); rintro e w87 ⟨v1110, v1115, rfl, ho0, ho1, hb⟩; have n0_ := Aside0.mk (Kd.R_mono (Kd.R_told (Kd.R_told (Kd.R_old (by (with_reducible repeat (first | apply Kd.R_alloc | apply Kd.R_drewN | apply Kd.R_drew)); exact HO_1099000.out) hb) (Kd.R_base ho0)) (Kd.R_base ho1)) (fun _ h_ => h_.1)); have n1_ := Aside0.mk (Kd.R_mono (Kd.R_told (Kd.R_told (Kd.R_old (by (with_reducible repeat (first | apply Kd.R_alloc | apply Kd.R_drewN | apply Kd.R_drew)); exact HO_1109000.out) hb) (Kd.R_base ho0)) (Kd.R_base ho1)) (fun _ h_ => h_.1)); have n2_ := Aside0.mk (Kd.R_lower (Kd.R_new' (Kd.R_new' ho0 (Kd.R_lt (by (with_reducible repeat (first | apply Kd.R_alloc | apply Kd.R_drewN | apply Kd.R_drew)); exact HO_1099000.out))) (Kd.R_lt (by (with_reducible repeat (first | apply Kd.R_alloc | apply Kd.R_drewN | apply Kd.R_drew)); exact HO_1109000.out))) (below_size (by repeat (first | (with_reducible first | exact HB.out | apply below_alloc | apply pw_below_drewN | apply below_drew1 | refine below_set ?_ GE1086.out | refine below_set ?_ GE1087.out | refine below_set ?_ GE1098.out | refine below_set ?_ GE1108.out) | exact HB.out)))); have n3_ := Aside0.mk (Kd.R_lower (Kd.R_new' (Kd.R_new' ho1 (Kd.R_lt (by (with_reducible repeat (first | apply Kd.R_alloc | apply Kd.R_drewN | apply Kd.R_drew)); exact HO_1099000.out))) (Kd.R_lt (by (with_reducible repeat (first | apply Kd.R_alloc | apply Kd.R_drewN | apply Kd.R_drew)); exact HO_1109000.out))) (below_size (by repeat (first | (with_reducible first | exact HB.out | apply below_alloc | apply pw_below_drewN | apply below_drew1 | refine below_set ?_ GE1086.out | refine below_set ?_ GE1087.out | refine below_set ?_ GE1098.out | refine below_set ?_ GE1108.out) | exact HB.out)))); have n4_ := Aside0.mk (blk_below (g := gb1086) (o := .cells #[.slice A0_0 l0_0.length c0_0, .int .u8 a0_1, .int .u8 a0_2] 31 (0, 0)) (by (with_reducible repeat (first | refine blk_drewN ?_ _ | refine blk_drew ?_ | refine blk_alloc ?_ _)); exact BK1086.out) hb); have n5_ := Aside0.mk (blk_below (g := gb1087) (o := .cells #[.slice A1_0 l1_0.length c1_0, .int .u8 a1_1, .int .u8 a1_2] 31 (0, 0)) (by (with_reducible repeat (first | refine blk_drewN ?_ _ | refine blk_drew ?_ | refine blk_alloc ?_ _)); exact BK1087.out) hb); have n6_ := Aside0.mk (blk_below (g := gb1098) (o := .cells #[.slice Ao42 t1089.length co42, .int .u8 t1092, .int .u8 t1093] 31 (0, 0)) (by (with_reducible repeat (first | refine blk_drewN ?_ _ | refine blk_drew ?_ | refine blk_alloc ?_ _)); exact BK1098.out) hb); have n7_ := Aside0.mk (blk_below (g := gb1108) (o := .cells #[.slice Ao49 t1099.length co49, .int .u8 t1102, .int .u8 t1103] 31 (0, 0)) (by (with_reducible repeat (first | refine blk_drewN ?_ _ | refine blk_drew ?_ | refine blk_alloc ?_ _)); exact BK1108.out) hb); have n8_ := Aside0.mk (below_step (by repeat (first | (with_reducible first | exact HB.out | apply below_alloc | apply pw_below_drewN | apply below_drew1 | refine below_set ?_ GE1086.out | refine below_set ?_ GE1087.out | refine below_set ?_ GE1098.out | refine below_set ?_ GE1108.out) | exact HB.out)) hb); clear HO_1099000; clear HO_1109000; clear BK1086; clear BK1087; clear BK1098; clear BK1108; clear HB; have HO_1099000 := n0_; have HO_1109000 := n1_; have HO1111 := n2_; have HO1116 := n3_; have BK1086 := n4_; have BK1087 := n5_; have BK1098 := n6_; have BK1108 := n7_; have HB := n8_; clear n0_ n1_ n2_ n3_ n4_ n5_ n6_ n7_ n8_; (try clear hb); (try clear hb2); (try clear hk); (try clear hi); (try clear ho0); (try clear ho1)) | ((with_reducible refine gate_dst (N := 20) rfl ?_); (try (refine gate_guard (by rfl) ?_; dsimp only)); refine box_event ?hg (N := 20) ?hd (cs := #[.slice none 0 0, .int .u8 0, .int .u8 0]) (t := 31) ?hr ?_; (case hd => rfl); (case hg => rfl); (case hr => first | (go_simp; done) | (go_simp; rfl)); intro gb1118 hg w88 hbox hb; have n0_ := Aside0.mk (Kd.R_below (by (with_reducible repeat (first | apply Kd.R_alloc | apply Kd.R_drewN | apply Kd.R_drew)); exact HO_1099000.out) hb); have n1_ := Aside0.mk (Kd.R_below (by (with_reducible repeat (first | apply Kd.R_alloc | apply Kd.R_drewN | apply Kd.R_drew)); exact HO_1109000.out) hb); have n2_ := Aside0.mk (Kd.R_below (by (with_reducible repeat (first | apply Kd.R_alloc | apply Kd.R_drewN | apply Kd.R_drew)); exact HO1111.out) hb); have n3_ := Aside0.mk (Kd.R_below (by (with_reducible repeat (first | apply Kd.R_alloc | apply Kd.R_drewN | apply Kd.R_drew)); exact HO1116.out) hb); have n4_ := Aside0.mk (blk_below (g := gb1086) (o := .cells #[.slice A0_0 l0_0.length c0_0, .int .u8 a0_1, .int .u8 a0_2] 31 (0, 0)) (by (with_reducible repeat (first | refine blk_drewN ?_ _ | refine blk_drew ?_ | refine blk_alloc ?_ _)); exact BK1086.out) hb); have n5_ := Aside0.mk (blk_below (g := gb1087) (o := .cells #[.slice A1_0 l1_0.length c1_0, .int .u8 a1_1, .int .u8 a1_2] 31 (0, 0)) (by (with_reducible repeat (first | refine blk_drewN ?_ _ | refine blk_drew ?_ | refine blk_alloc ?_ _)); exact BK1087.out) hb); have n6_ := Aside0.mk (blk_below (g := gb1098) (o := .cells #[.slice Ao42 t1089.length co42, .int .u8 t1092, .int .u8 t1093] 31 (0, 0)) (by (with_reducible repeat (first | refine blk_drewN ?_ _ | refine blk_drew ?_ | refine blk_alloc ?_ _)); exact BK1098.out) hb); have n7_ := Aside0.mk (blk_below (g := gb1108) (o := .cells #[.slice Ao49 t1099.length co49, .int .u8 t1102, .int .u8 t1103] 31 (0, 0)) (by (with_reducible repeat (first | refine blk_drewN ?_ _ | refine blk_drew ?_ | refine blk_alloc ?_ _)); exact BK1108.out) hb); have n8_ := Aside0.mk (below_step (by repeat (first | (with_reducible first | exact HB.out | apply below_alloc | apply pw_below_drewN | apply below_drew1 | refine below_set ?_ GE1086.out | refine below_set ?_ GE1087.out | refine below_set ?_ GE1098.out | refine below_set ?_ GE1108.out) | exact HB.out)) hb); have n9_ := Aside0.mk (hbox); have n10_ := Aside0.mk ((by rw [hg]; exact (below_size (by repeat (first | (with_reducible first | exact HB.out | apply below_alloc | apply pw_below_drewN | apply below_drew1 | refine below_set ?_ GE1086.out | refine below_set ?_ GE1087.out | refine below_set ?_ GE1098.out | refine below_set ?_ GE1108.out) | exact HB.out))) : w.heap.size ≤ gb1118)); have n11_ := Aside0.mk ((by rw [hg]; exact (below_size (by repeat (first | (with_reducible first | exact HB.out | apply below_alloc | apply pw_below_drewN | apply below_drew1 | refine below_set ?_ GE1086.out | refine below_set ?_ GE1087.out | refine below_set ?_ GE1098.out | refine below_set ?_ GE1108.out) | exact HB.out))) : w.heap.size ≤ gb1118)); have n12_ := Aside0.mk ((by rw [hg]; exact Nat.ne_of_lt (blk_lt (g := gb1086) (o := .cells #[.slice A0_0 l0_0.length c0_0, .int .u8 a0_1, .int .u8 a0_2] 31 (0, 0)) (by (with_reducible repeat (first | refine blk_drewN ?_ _ | refine blk_drew ?_ | refine blk_alloc ?_ _)); exact BK1086.out)) : gb1086 ≠ gb1118)); have n13_ := Aside0.mk ((by rw [hg]; exact Nat.ne_of_gt (blk_lt (g := gb1086) (o := .cells #[.slice A0_0 l0_0.length c0_0, .int .u8 a0_1, .int .u8 a0_2] 31 (0, 0)) (by (with_reducible repeat (first | refine blk_drewN ?_ _ | refine blk_drew ?_ | refine blk_alloc ?_ _)); exact BK1086.out)) : gb1118 ≠ gb1086)); have n14_ := Aside0.mk ((by rw [hg]; exact Nat.ne_of_lt (blk_lt (g := gb1087) (o := .cells #[.slice A1_0 l1_0.length c1_0, .int .u8 a1_1, .int .u8 a1_2] 31 (0, 0)) (by (with_reducible repeat (first | refine blk_drewN ?_ _ | refine blk_drew ?_ | refine blk_alloc ?_ _)); exact BK1087.out)) : gb1087 ≠ gb1118)); have n15_ := Aside0.mk ((by rw [hg]; exact Nat.ne_of_gt (blk_lt (g := gb1087) (o := .cells #[.slice A1_0 l1_0.length c1_0, .int .u8 a1_1, .int .u8 a1_2] 31 (0, 0)) (by (with_reducible repeat (first | refine blk_drewN ?_ _ | refine blk_drew ?_ | refine blk_alloc ?_ _)); exact BK1087.out)) : gb1118 ≠ gb1087)); have n16_ := Aside0.mk ((by rw [hg]; exact Nat.ne_of_lt (blk_lt (g := gb1098) (o := .cells #[.slice Ao42 t1089.length co42, .int .u8 t1092, .int .u8 t1093] 31 (0, 0)) (by (with_reducible repeat (first | refine blk_drewN ?_ _ | refine blk_drew ?_ | refine blk_alloc ?_ _)); exact BK1098.out)) : gb1098 ≠ gb1118)); have n17_ := Aside0.mk ((by rw [hg]; exact Nat.ne_of_gt (blk_lt (g := gb1098) (o := .cells #[.slice Ao42 t1089.length co42, .int .u8 t1092, .int .u8 t1093] 31 (0, 0)) (by (with_reducible repeat (first | refine blk_drewN ?_ _ | refine blk_drew ?_ | refine blk_alloc ?_ _)); exact BK1098.out)) : gb1118 ≠ gb1098)); have n18_ := Aside0.mk ((by rw [hg]; exact Nat.ne_of_lt (blk_lt (g := gb1108) (o := .cells #[.slice Ao49 t1099.length co49, .int .u8 t1102, .int .u8 t1103] 31 (0, 0)) (by (with_reducible repeat (first | refine blk_drewN ?_ _ | refine blk_drew ?_ | refine blk_alloc ?_ _)); exact BK1108.out)) : gb1108 ≠ gb1118)); have n19_ := Aside0.mk ((by rw [hg]; exact Nat.ne_of_gt (blk_lt (g := gb1108) (o := .cells #[.slice Ao49 t1099.length co49, .int .u8 t1102, .int .u8 t1103] 31 (0, 0)) (by (with_reducible repeat (first | refine blk_drewN ?_ _ | refine blk_drew ?_ | refine blk_alloc ?_ _)); exact BK1108.out)) : gb1118 ≠ gb1108)); clear HO_1099000; clear HO_1109000; clear HO1111; clear HO1116; clear BK1086; clear BK1087; clear BK1098; clear BK1108; clear HB; have HO_1099000 := n0_; have HO_1109000 := n1_; have HO1111 := n2_; have HO1116 := n3_; have BK1086 := n4_; have BK1087 := n5_; have BK1098 := n6_; have BK1108 := n7_; have HB := n8_; have BK1118 := n9_; have GW1118 := n10_; have GE1118 := n11_; have NB1086_1118 := n12_; have NB1118_1086 := n13_; have NB1087_1118 := n14_; have NB1118_1087 := n15_; have NB1098_1118 := n16_; have NB1118_1098 := n17_; have NB1108_1118 := n18_; have NB1118_1108 := n19_; clear n0_ n1_ n2_ n3_ n4_ n5_ n6_ n7_ n8_ n9_ n10_ n11_ n12_ n13_ n14_ n15_ n16_ n17_ n18_ n19_; clear hb hbox hg; obtain ⟨Ao89, co89, eo89⟩ := Kd.R_slice HO1111.out; subst eo89; have hnb90 := NB1118_1086.out; have hnc90 := NB1086_1118.out; have hnb91 := NB1118_1087.out; have hnc91 := NB1087_1118.out; have hnb92 := NB1118_1098.out; have hnc92 := NB1098_1118.out; have hnb93 := NB1118_1108.out; have hnc93 := NB1108_1118.out; have hcz94_0 : w88.cell? ⟨gb1118, 0, none⟩ = some (.slice none 0 0) := (blk_cell BK1118.out 0).trans rfl; have hcz94_1 : w88.cell? ⟨gb1118, 1, none⟩ = some (.int .u8 0) := (blk_cell BK1118.out 1).trans rfl; have hcz94_2 : w88.cell? ⟨gb1118, 2, none⟩ = some (.int .u8 0) := (blk_cell BK1118.out 2).trans rfl; have hfz94_0 := blk_frozen BK1118.out 0; have hfz94_1 := blk_frozen BK1118.out 1; have hfz94_2 := blk_frozen BK1118.out 2; have hnb95 := NB1108_1086.out; have hnc95 := NB1086_1108.out; have hnb96 := NB1108_1087.out; have hnc96 := NB1087_1108.out; have hcz97_0 : w88.cell? ⟨gb1108, 0, none⟩ = some (.slice Ao49 t1099.length co49) := (blk_cell BK1108.out 0).trans rfl; have hcz97_1 : w88.cell? ⟨gb1108, 1, none⟩ = some (.int .u8 t1102) := (blk_cell BK1108.out 1).trans rfl; have hcz97_2 : w88.cell? ⟨gb1108, 2, none⟩ = some (.int .u8 t1103) := (blk_cell BK1108.out 2).trans rfl; have hfz97_0 := blk_frozen BK1108.out 0; have hfz97_1 := blk_frozen BK1108.out 1; have hfz97_2 := blk_frozen BK1108.out 2) | (go_at_call 35; (with_reducible refine (lap_Next.calls _ _ t1099 t1102 t1103 a3 (Int.tmod a2 2) _ _ l5 t1119 t1122 t1123 t1124 t1127 _ ?side1 ?side2 ?side3 ?side4 A81.out).mono ?_); (case side1 => refine (Kd.R_reads' (e := 3) (base := w.heap.size) (ok := fun k_ => ((some k_ ≠ (.slice Ao42 t1089.length co42 : Value).ownBlock ∧ some k_ ≠ (.slice Ao89 t1109.length co89 : Value).ownBlock) ∧ some k_ ≠ (v1115 : Value).ownBlock)) (n := t1099.length) (c := co49) ?_).2.2; exact (by (with_reducible repeat (first | apply Kd.R_alloc | apply Kd.R_drewN | apply Kd.R_drew)); exact (Kd.R_mono (Kd.R_far (p := ⟨gb1118, 2, none⟩) (Kd.R_far (p := ⟨gb1118, 1, none⟩) (Kd.R_far (p := ⟨gb1118, 0, none⟩) (Kd.R_types HO_1109000.out BK1118.out (by decide)) (fun _ hk => hk.2) (.slice Ao89 t1109.length co89)) (fun _ hk => hk.2) (.int .u8 t1112)) (fun _ hk => hk.2) (.int .u8 t1113)) (fun _ h_ => h_.1)))); (case side2 => exact (Kd.R_reads' HO_1109000.out).2.1); (case side3 => exact Kd.C_below HR5.out (by repeat (first | (with_reducible first | exact HB.out | apply below_alloc | apply pw_below_drewN | apply below_drew1 | refine below_set ?_ GE1086.out | refine below_set ?_ GE1087.out | refine below_set ?_ GE1098.out | refine below_set ?_ GE1108.out | refine below_set ?_ GE1118.out) | exact HB.out))); (case side4 => exact HC5.out); rintro e w98 ⟨v1120, v1125, rfl, ho0, ho1, hb⟩; have n0_ := Aside0.mk (Kd.R_mono (Kd.R_told (Kd.R_told (Kd.R_old (by (with_reducible repeat (first | apply Kd.R_alloc | apply Kd.R_drewN | apply Kd.R_drew)); exact (Kd.R_mono (Kd.R_far (p := ⟨gb1118, 2, none⟩) (Kd.R_far (p := ⟨gb1118, 1, none⟩) (Kd.R_far (p := ⟨gb1118, 0, none⟩) (Kd.R_types HO_1099000.out BK1118.out (by decide)) (fun _ hk => hk.2) (.slice Ao89 t1109.length co89)) (fun _ hk => hk.2) (.int .u8 t1112)) (fun _ hk => hk.2) (.int .u8 t1113)) (fun _ h_ => h_.1))) hb) (Kd.R_base ho0)) (Kd.R_base ho1)) (fun _ h_ => h_.1)); have n1_ := Aside0.mk (Kd.R_mono (Kd.R_told (Kd.R_told (Kd.R_old (by (with_reducible repeat (first | apply Kd.R_alloc | apply Kd.R_drewN | apply Kd.R_drew)); exact (Kd.R_mono (Kd.R_far (p := ⟨gb1118, 2, none⟩) (Kd.R_far (p := ⟨gb1118, 1, none⟩) (Kd.R_far (p := ⟨gb1118, 0, none⟩) (Kd.R_types HO_1109000.out BK1118.out (by decide)) (fun _ hk => hk.2) (.slice Ao89 t1109.length co89)) (fun _ hk => hk.2) (.int .u8 t1112)) (fun _ hk => hk.2) (.int .u8 t1113)) (fun _ h_ => h_.1))) hb) (Kd.R_base ho0)) (Kd.R_base ho1)) (fun _ h_ => h_.1)); have n2_ := Aside0.mk (Kd.R_mono (Kd.R_told (Kd.R_told (Kd.R_old (by (with_reducible repeat (first | apply Kd.R_alloc | apply Kd.R_drewN | apply Kd.R_drew)); exact (Kd.R_mono (Kd.R_far (p := ⟨gb1118, 2, none⟩) (Kd.R_far (p := ⟨gb1118, 1, none⟩) (Kd.R_far (p := ⟨gb1118, 0, none⟩) (Kd.R_types HO1111.out BK1118.out (by decide)) (fun _ hk => hk.2) (.slice Ao89 t1109.length co89)) (fun _ hk => hk.2) (.int .u8 t1112)) (fun _ hk => hk.2) (.int .u8 t1113)) (fun _ h_ => h_.1))) hb) (Kd.R_base ho0)) (Kd.R_base ho1)) (fun _ h_ => h_.1)); have n3_ := Aside0.mk (Kd.R_mono (Kd.R_told (Kd.R_told (Kd.R_old (by (with_reducible repeat (first | apply Kd.R_alloc | apply Kd.R_drewN | apply Kd.R_drew)); exact (Kd.R_mono (Kd.R_far (p := ⟨gb1118, 2, none⟩) (Kd.R_far (p := ⟨gb1118, 1, none⟩) (Kd.R_far (p := ⟨gb1118, 0, none⟩) (Kd.R_types HO1116.out BK1118.out (by decide)) (fun _ hk => hk.2) (.slice Ao89 t1109.length co89)) (fun _ hk => hk.2) (.int .u8 t1112)) (fun _ hk => hk.2) (.int .u8 t1113)) (fun _ h_ => h_.1))) hb) (Kd.R_base ho0)) (Kd.R_base ho1)) (fun _ h_ => h_.1)); have n4_ := Aside0.mk (Kd.R_lower (Kd.R_new' (Kd.R_new' (Kd.R_new' (Kd.R_new' ho0 (Kd.R_lt (by (with_reducible repeat (first | apply Kd.R_alloc | apply Kd.R_drewN | apply Kd.R_drew)); exact (Kd.R_mono (Kd.R_far (p := ⟨gb1118, 2, none⟩) (Kd.R_far (p := ⟨gb1118, 1, none⟩) (Kd.R_far (p := ⟨gb1118, 0, none⟩) (Kd.R_types HO_1099000.out BK1118.out (by decide)) (fun _ hk => hk.2) (.slice Ao89 t1109.length co89)) (fun _ hk => hk.2) (.int .u8 t1112)) (fun _ hk => hk.2) (.int .u8 t1113)) (fun _ h_ => h_.1))))) (Kd.R_lt (by (with_reducible repeat (first | apply Kd.R_alloc | apply Kd.R_drewN | apply Kd.R_drew)); exact (Kd.R_mono (Kd.R_far (p := ⟨gb1118, 2, none⟩) (Kd.R_far (p := ⟨gb1118, 1, none⟩) (Kd.R_far (p := ⟨gb1118, 0, none⟩) (Kd.R_types HO_1109000.out BK1118.out (by decide)) (fun _ hk => hk.2) (.slice Ao89 t1109.length co89)) (fun _ hk => hk.2) (.int .u8 t1112)) (fun _ hk => hk.2) (.int .u8 t1113)) (fun _ h_ => h_.1))))) (Kd.R_lt (by (with_reducible repeat (first | apply Kd.R_alloc | apply Kd.R_drewN | apply Kd.R_drew)); exact (Kd.R_mono (Kd.R_far (p := ⟨gb1118, 2, none⟩) (Kd.R_far (p := ⟨gb1118, 1, none⟩) (Kd.R_far (p := ⟨gb1118, 0, none⟩) (Kd.R_types HO1111.out BK1118.out (by decide)) (fun _ hk => hk.2) (.slice Ao89 t1109.length co89)) (fun _ hk => hk.2) (.int .u8 t1112)) (fun _ hk => hk.2) (.int .u8 t1113)) (fun _ h_ => h_.1))))) (Kd.R_lt (by (with_reducible repeat (first | apply Kd.R_alloc | apply Kd.R_drewN | apply Kd.R_drew)); exact (Kd.R_mono (Kd.R_far (p := ⟨gb1118, 2, none⟩) (Kd.R_far (p := ⟨gb1118, 1, none⟩) (Kd.R_far (p := ⟨gb1118, 0, none⟩) (Kd.R_types HO1116.out BK1118.out (by decide)) (fun _ hk => hk.2) (.slice Ao89 t1109.length co89)) (fun _ hk => hk.2) (.int .u8 t1112)) (fun _ hk => hk.2) (.int .u8 t1113)) (fun _ h_ => h_.1))))) (below_size (by repeat (first | (with_reducible first | exact HB.out | apply below_alloc | apply pw_below_drewN | apply below_drew1 | refine below_set ?_ GE1086.out | refine below_set ?_ GE1087.out | refine below_set ?_ GE1098.out | refine below_set ?_ GE1108.out | refine below_set ?_ GE1118.out) | exact HB.out)))); have n5_ := Aside0.mk (Kd.R_lower (Kd.R_new' (Kd.R_new' (Kd.R_new' (Kd.R_new' ho1 (Kd.R_lt (by (with_reducible repeat (first | apply Kd.R_alloc | apply Kd.R_drewN | apply Kd.R_drew)); exact (Kd.R_mono (Kd.R_far (p := ⟨gb1118, 2, none⟩) (Kd.R_far (p := ⟨gb1118, 1, none⟩) (Kd.R_far (p := ⟨gb1118, 0, none⟩) (Kd.R_types HO_1099000.out BK1118.out (by decide)) (fun _ hk => hk.2) (.slice Ao89 t1109.length co89)) (fun _ hk => hk.2) (.int .u8 t1112)) (fun _ hk => hk.2) (.int .u8 t1113)) (fun _ h_ => h_.1))))) (Kd.R_lt (by (with_reducible repeat (first | apply Kd.R_alloc | apply Kd.R_drewN | apply Kd.R_drew)); exact (Kd.R_mono (Kd.R_far (p := ⟨gb1118, 2, none⟩) (Kd.R_far (p := ⟨gb1118, 1, none⟩) (Kd.R_far (p := ⟨gb1118, 0, none⟩) (Kd.R_types HO_1109000.out BK1118.out (by decide)) (fun _ hk => hk.2) (.slice Ao89 t1109.length co89)) (fun _ hk => hk.2) (.int .u8 t1112)) (fun _ hk => hk.2) (.int .u8 t1113)) (fun _ h_ => h_.1))))) (Kd.R_lt (by (with_reducible repeat (first | apply Kd.R_alloc | apply Kd.R_drewN | apply Kd.R_drew)); exact (Kd.R_mono (Kd.R_far (p := ⟨gb1118, 2, none⟩) (Kd.R_far (p := ⟨gb1118, 1, none⟩) (Kd.R_far (p := ⟨gb1118, 0, none⟩) (Kd.R_types HO1111.out BK1118.out (by decide)) (fun _ hk => hk.2) (.slice Ao89 t1109.length co89)) (fun _ hk => hk.2) (.int .u8 t1112)) (fun _ hk => hk.2) (.int .u8 t1113)) (fun _ h_ => h_.1))))) (Kd.R_lt (by (with_reducible repeat (first | apply Kd.R_alloc | apply Kd.R_drewN | apply Kd.R_drew)); exact (Kd.R_mono (Kd.R_far (p := ⟨gb1118, 2, none⟩) (Kd.R_far (p := ⟨gb1118, 1, none⟩) (Kd.R_far (p := ⟨gb1118, 0, none⟩) (Kd.R_types HO1116.out BK1118.out (by decide)) (fun _ hk => hk.2) (.slice Ao89 t1109.length co89)) (fun _ hk => hk.2) (.int .u8 t1112)) (fun _ hk => hk.2) (.int .u8 t1113)) (fun _ h_ => h_.1))))) (below_size (by repeat (first | (with_reducible first | exact HB.out | apply below_alloc | apply pw_below_drewN | apply below_drew1 | refine below_set ?_ GE1086.out | refine below_set ?_ GE1087.out | refine below_set ?_ GE1098.out | refine below_set ?_ GE1108.out | refine below_set ?_ GE1118.out) | exact HB.out)))); have n6_ := Aside0.mk (blk_below (g := gb1086) (o := .cells #[.slice A0_0 l0_0.length c0_0, .int .u8 a0_1, .int .u8 a0_2] 31 (0, 0)) (by (with_reducible repeat (first | refine blk_drewN ?_ _ | refine blk_drew ?_ | refine blk_alloc ?_ _)); refine blk_far ?_ NB1086_1118.out _; (with_reducible repeat (first | refine blk_drewN ?_ _ | refine blk_drew ?_ | refine blk_alloc ?_ _)); refine blk_far ?_ NB1086_1118.out _; (with_reducible repeat (first | refine blk_drewN ?_ _ | refine blk_drew ?_ | refine blk_alloc ?_ _)); refine blk_far ?_ NB1086_1118.out _; (with_reducible repeat (first | refine blk_drewN ?_ _ | refine blk_drew ?_ | refine blk_alloc ?_ _)); exact BK1086.out) hb); have n7_ := Aside0.mk (blk_below (g := gb1087) (o := .cells #[.slice A1_0 l1_0.length c1_0, .int .u8 a1_1, .int .u8 a1_2] 31 (0, 0)) (by (with_reducible repeat (first | refine blk_drewN ?_ _ | refine blk_drew ?_ | refine blk_alloc ?_ _)); refine blk_far ?_ NB1087_1118.out _; (with_reducible repeat (first | refine blk_drewN ?_ _ | refine blk_drew ?_ | refine blk_alloc ?_ _)); refine blk_far ?_ NB1087_1118.out _; (with_reducible repeat (first | refine blk_drewN ?_ _ | refine blk_drew ?_ | refine blk_alloc ?_ _)); refine blk_far ?_ NB1087_1118.out _; (with_reducible repeat (first | refine blk_drewN ?_ _ | refine blk_drew ?_ | refine blk_alloc ?_ _)); exact BK1087.out) hb); have n8_ := Aside0.mk (blk_below (g := gb1098) (o := .cells #[.slice Ao42 t1089.length co42, .int .u8 t1092, .int .u8 t1093] 31 (0, 0)) (by (with_reducible repeat (first | refine blk_drewN ?_ _ | refine blk_drew ?_ | refine blk_alloc ?_ _)); refine blk_far ?_ NB1098_1118.out _; (with_reducible repeat (first | refine blk_drewN ?_ _ | refine blk_drew ?_ | refine blk_alloc ?_ _)); refine blk_far ?_ NB1098_1118.out _; (with_reducible repeat (first | refine blk_drewN ?_ _ | refine blk_drew ?_ | refine blk_alloc ?_ _)); refine blk_far ?_ NB1098_1118.out _; (with_reducible repeat (first | refine blk_drewN ?_ _ | refine blk_drew ?_ | refine blk_alloc ?_ _)); exact BK1098.out) hb); have n9_ := Aside0.mk (blk_below (g := gb1108) (o := .cells #[.slice Ao49 t1099.length co49, .int .u8 t1102, .int .u8 t1103] 31 (0, 0)) (by (with_reducible repeat (first | refine blk_drewN ?_ _ | refine blk_drew ?_ | refine blk_alloc ?_ _)); refine blk_far ?_ NB1108_1118.out _; (with_reducible repeat (first | refine blk_drewN ?_ _ | refine blk_drew ?_ | refine blk_alloc ?_ _)); refine blk_far ?_ NB1108_1118.out _; (with_reducible repeat (first | refine blk_drewN ?_ _ | refine blk_drew ?_ | refine blk_alloc ?_ _)); refine blk_far ?_ NB1108_1118.out _; (with_reducible repeat (first | refine blk_drewN ?_ _ | refine blk_drew ?_ | refine blk_alloc ?_ _)); exact BK1108.out) hb); have n10_ := Aside0.mk (blk_below (g := gb1118) (o := .cells #[.slice Ao89 t1109.length co89, .int .u8 t1112, .int .u8 t1113] 31 (0, 0)) (by (with_reducible repeat (first | refine blk_drewN ?_ _ | refine blk_drew ?_ | refine blk_alloc ?_ _)); refine blk_put (cs := #[.slice Ao89 t1109.length co89, .int .u8 t1112, .int .u8 0]) ?_ 2 _ rfl; (with_reducible repeat (first | refine blk_drewN ?_ _ | refine blk_drew ?_ | refine blk_alloc ?_ _)); refine blk_put (cs := #[.slice Ao89 t1109.length co89, .int .u8 0, .int .u8 0]) ?_ 1 _ rfl; (with_reducible repeat (first | refine blk_drewN ?_ _ | refine blk_drew ?_ | refine blk_alloc ?_ _)); refine blk_put (cs := #[.slice none 0 0, .int .u8 0, .int .u8 0]) ?_ 0 _ rfl; (with_reducible repeat (first | refine blk_drewN ?_ _ | refine blk_drew ?_ | refine blk_alloc ?_ _)); exact BK1118.out) hb); have n11_ := Aside0.mk (below_step (by repeat (first | (with_reducible first | exact HB.out | apply below_alloc | apply pw_below_drewN | apply below_drew1 | refine below_set ?_ GE1086.out | refine below_set ?_ GE1087.out | refine below_set ?_ GE1098.out | refine below_set ?_ GE1108.out | refine below_set ?_ GE1118.out) | exact HB.out)) hb); clear HO_1099000; clear HO_1109000; clear HO1111; clear HO1116; clear BK1086; clear BK1087; clear BK1098; clear BK1108; clear BK1118; clear HB; have HO_1099000 := n0_; have HO_1109000 := n1_; have HO1111 := n2_; have HO1116 := n3_; have HO1121 := n4_; have HO1126 := n5_; have BK1086 := n6_; have BK1087 := n7_; have BK1098 := n8_; have BK1108 := n9_; have BK1118 := n10_; have HB := n11_; clear n0_ n1_ n2_ n3_ n4_ n5_ n6_ n7_ n8_ n9_ n10_ n11_; (try clear hb); (try clear hb2); (try clear hk); (try clear hi); (try clear ho0); (try clear ho1)) | ((with_reducible refine gate_dst (N := 23) rfl ?_); (try (refine gate_guard (by rfl) ?_; dsimp only)); refine box_event ?hg (N := 23) ?hd (cs := #[.slice none 0 0, .int .u8 0, .int .u8 0]) (t := 31) ?hr ?_; (case hd => rfl); (case hg => rfl); (case hr => first | (go_simp; done) | (go_simp; rfl)); intro gb1128 hg w99 hbox hb; have n0_ := Aside0.mk (Kd.R_below (by (with_reducible repeat (first | apply Kd.R_alloc | apply Kd.R_drewN | apply Kd.R_drew)); exact HO_1099000.out) hb); have n1_ := Aside0.mk (Kd.R_below (by (with_reducible repeat (first | apply Kd.R_alloc | apply Kd.R_drewN | apply Kd.R_drew)); exact HO_1109000.out) hb); have n2_ := Aside0.mk (Kd.R_below (by (with_reducible repeat (first | apply Kd.R_alloc | apply Kd.R_drewN | apply Kd.R_drew)); exact HO1111.out) hb); have n3_ := Aside0.mk (Kd.R_below (by (with_reducible repeat (first | apply Kd.R_alloc | apply Kd.R_drewN | apply Kd.R_drew)); exact HO1116.out) hb); have n4_ := Aside0.mk (Kd.R_below (by (with_reducible repeat (first | apply Kd.R_alloc | apply Kd.R_drewN | apply Kd.R_drew)); exact HO1121.out) hb); have n5_ := Aside0.mk (Kd.R_below (by (with_reducible repeat (first | apply Kd.R_alloc | apply Kd.R_drewN | apply Kd.R_drew)); exact HO1126.out) hb); have n6_ := Aside0.mk (blk_below (g := gb1086) (o := .cells #[.slice A0_0 l0_0.length c0_0, .int .u8 a0_1, .int .u8 a0_2] 31 (0, 0)) (by (with_reducible repeat (first | refine blk_drewN ?_ _ | refine blk_drew ?_ | refine blk_alloc ?_ _)); exact BK1086.out) hb); have n7_ := Aside0.mk (blk_below (g := gb1087) (o := .cells #[.slice A1_0 l1_0.length c1_0, .int .u8 a1_1, .int .u8 a1_2] 31 (0, 0)) (by (with_reducible repeat (first | refine blk_drewN ?_ _ | refine blk_drew ?_ | refine blk_alloc ?_ _)); exact BK1087.out) hb); have n8_ := Aside0.mk (blk_below (g := gb1098) (o := .cells #[.slice Ao42 t1089.length co42, .int .u8 t1092, .int .u8 t1093] 31 (0, 0)) (by (with_reducible repeat (first | refine blk_drewN ?_ _ | refine blk_drew ?_ | refine blk_alloc ?_ _)); exact BK1098.out) hb); have n9_ := Aside0.mk (blk_below (g := gb1108) (o := .cells #[.slice Ao49 t1099.length co49, .int .u8 t1102, .int .u8 t1103] 31 (0, 0)) (by (with_reducible repeat (first | refine blk_drewN ?_ _ | refine blk_drew ?_ | refine blk_alloc ?_ _)); exact BK1108.out) hb); have n10_ := Aside0.mk (blk_below (g := gb1118) (o := .cells #[.slice Ao89 t1109.length co89, .int .u8 t1112, .int .u8 t1113] 31 (0, 0)) (by (with_reducible repeat (first | refine blk_drewN ?_ _ | refine blk_drew ?_ | refine blk_alloc ?_ _)); exact BK1118.out) hb); have n11_ := Aside0.mk (below_step (by repeat (first | (with_reducible first | exact HB.out | apply below_alloc | apply pw_below_drewN | apply below_drew1 | refine below_set ?_ GE1086.out | refine below_set ?_ GE1087.out | refine below_set ?_ GE1098.out | refine below_set ?_ GE1108.out | refine below_set ?_ GE1118.out) | exact HB.out)) hb); have n12_ := Aside0.mk (hbox); have n13_ := Aside0.mk ((by rw [hg]; exact (below_size (by repeat (first | (with_reducible first | exact HB.out | apply below_alloc | apply pw_below_drewN | apply below_drew1 | refine below_set ?_ GE1086.out | refine below_set ?_ GE1087.out | refine below_set ?_ GE1098.out | refine below_set ?_ GE1108.out | refine below_set ?_ GE1118.out) | exact HB.out))) : w.heap.size ≤ gb1128)); have n14_ := Aside0.mk ((by rw [hg]; exact (below_size (by repeat (first | (with_reducible first | exact HB.out | apply below_alloc | apply pw_below_drewN | apply below_drew1 | refine below_set ?_ GE1086.out | refine below_set ?_ GE1087.out | refine below_set ?_ GE1098.out | refine below_set ?_ GE1108.out | refine below_set ?_ GE1118.out) | exact HB.out))) : w.heap.size ≤ gb1128)); have n15_ := Aside0.mk ((by rw [hg]; exact Nat.ne_of_lt (blk_lt (g := gb1086) (o := .cells #[.slice A0_0 l0_0.length c0_0, .int .u8 a0_1, .int .u8 a0_2] 31 (0, 0)) (by (with_reducible repeat (first | refine blk_drewN ?_ _ | refine blk_drew ?_ | refine blk_alloc ?_ _)); exact BK1086.out)) : gb1086 ≠ gb1128)); have n16_ := Aside0.mk ((by rw [hg]; exact Nat.ne_of_gt (blk_lt (g := gb1086) (o := .cells #[.slice A0_0 l0_0.length c0_0, .int .u8 a0_1, .int .u8 a0_2] 31 (0, 0)) (by (with_reducible repeat (first | refine blk_drewN ?_ _ | refine blk_drew ?_ | refine blk_alloc ?_ _)); exact BK1086.out)) : gb1128 ≠ gb1086)); have n17_ := Aside0.mk ((by rw [hg]; exact Nat.ne_of_lt (blk_lt (g := gb1087) (o := .cells #[.slice A1_0 l1_0.length c1_0, .int .u8 a1_1, .int .u8 a1_2] 31 (0, 0)) (by (with_reducible repeat (first | refine blk_drewN ?_ _ | refine blk_drew ?_ | refine blk_alloc ?_ _)); exact BK1087.out)) : gb1087 ≠ gb1128)); have n18_ := Aside0.mk ((by rw [hg]; exact Nat.ne_of_gt (blk_lt (g := gb1087) (o := .cells #[.slice A1_0 l1_0.length c1_0, .int .u8 a1_1, .int .u8 a1_2] 31 (0, 0)) (by (with_reducible repeat (first | refine blk_drewN ?_ _ | refine blk_drew ?_ | refine blk_alloc ?_ _)); exact BK1087.out)) : gb1128 ≠ gb1087)); have n19_ := Aside0.mk ((by rw [hg]; exact Nat.ne_of_lt (blk_lt (g := gb1098) (o := .cells #[.slice Ao42 t1089.length co42, .int .u8 t1092, .int .u8 t1093] 31 (0, 0)) (by (with_reducible repeat (first | refine blk_drewN ?_ _ | refine blk_drew ?_ | refine blk_alloc ?_ _)); exact BK1098.out)) : gb1098 ≠ gb1128)); have n20_ := Aside0.mk ((by rw [hg]; exact Nat.ne_of_gt (blk_lt (g := gb1098) (o := .cells #[.slice Ao42 t1089.length co42, .int .u8 t1092, .int .u8 t1093] 31 (0, 0)) (by (with_reducible repeat (first | refine blk_drewN ?_ _ | refine blk_drew ?_ | refine blk_alloc ?_ _)); exact BK1098.out)) : gb1128 ≠ gb1098)); have n21_ := Aside0.mk ((by rw [hg]; exact Nat.ne_of_lt (blk_lt (g := gb1108) (o := .cells #[.slice Ao49 t1099.length co49, .int .u8 t1102, .int .u8 t1103] 31 (0, 0)) (by (with_reducible repeat (first | refine blk_drewN ?_ _ | refine blk_drew ?_ | refine blk_alloc ?_ _)); exact BK1108.out)) : gb1108 ≠ gb1128)); have n22_ := Aside0.mk ((by rw [hg]; exact Nat.ne_of_gt (blk_lt (g := gb1108) (o := .cells #[.slice Ao49 t1099.length co49, .int .u8 t1102, .int .u8 t1103] 31 (0, 0)) (by (with_reducible repeat (first | refine blk_drewN ?_ _ | refine blk_drew ?_ | refine blk_alloc ?_ _)); exact BK1108.out)) : gb1128 ≠ gb1108)); have n23_ := Aside0.mk ((by rw [hg]; exact Nat.ne_of_lt (blk_lt (g := gb1118) (o := .cells #[.slice Ao89 t1109.length co89, .int .u8 t1112, .int .u8 t1113] 31 (0, 0)) (by (with_reducible repeat (first | refine blk_drewN ?_ _ | refine blk_drew ?_ | refine blk_alloc ?_ _)); exact BK1118.out)) : gb1118 ≠ gb1128)); have n24_ := Aside0.mk ((by rw [hg]; exact Nat.ne_of_gt (blk_lt (g := gb1118) (o := .cells #[.slice Ao89 t1109.length co89, .int .u8 t1112, .int .u8 t1113] 31 (0, 0)) (by (with_reducible repeat (first | refine blk_drewN ?_ _ | refine blk_drew ?_ | refine blk_alloc ?_ _)); exact BK1118.out)) : gb1128 ≠ gb1118)); clear HO_1099000; clear HO_1109000; clear HO1111; clear HO1116; clear HO1121; clear HO1126; clear BK1086; clear BK1087; clear BK1098; clear BK1108; clear BK1118; clear HB; have HO_1099000 := n0_; have HO_1109000 := n1_; have HO1111 := n2_; have HO1116 := n3_; have HO1121 := n4_; have HO1126 := n5_; have BK1086 := n6_; have BK1087 := n7_; have BK1098 := n8_; have BK1108 := n9_; have BK1118 := n10_; have HB := n11_; have BK1128 := n12_; have GW1128 := n13_; have GE1128 := n14_; have NB1086_1128 := n15_; have NB1128_1086 := n16_; have NB1087_1128 := n17_; have NB1128_1087 := n18_; have NB1098_1128 := n19_; have NB1128_1098 := n20_; have NB1108_1128 := n21_; have NB1128_1108 := n22_; have NB1118_1128 := n23_; have NB1128_1118 := n24_; clear n0_ n1_ n2_ n3_ n4_ n5_ n6_ n7_ n8_ n9_ n10_ n11_ n12_ n13_ n14_ n15_ n16_ n17_ n18_ n19_ n20_ n21_ n22_ n23_ n24_; clear hb hbox hg; obtain ⟨Ao100, co100, eo100⟩ := Kd.R_slice HO1121.out; subst eo100; have hnb101 := NB1128_1086.out; have hnc101 := NB1086_1128.out; have hnb102 := NB1128_1087.out; have hnc102 := NB1087_1128.out; have hnb103 := NB1128_1098.out; have hnc103 := NB1098_1128.out; have hnb104 := NB1128_1108.out; have hnc104 := NB1108_1128.out; have hnb105 := NB1128_1118.out; have hnc105 := NB1118_1128.out; have hcz106_0 : w99.cell? ⟨gb1128, 0, none⟩ = some (.slice none 0 0) := (blk_cell BK1128.out 0).trans rfl; have hcz106_1 : w99.cell? ⟨gb1128, 1, none⟩ = some (.int .u8 0) := (blk_cell BK1128.out 1).trans rfl; have hcz106_2 : w99.cell? ⟨gb1128, 2, none⟩ = some (.int .u8 0) := (blk_cell BK1128.out 2).trans rfl; have hfz106_0 := blk_frozen BK1128.out 0; have hfz106_1 := blk_frozen BK1128.out 1; have hfz106_2 := blk_frozen BK1128.out 2))
       repeat (go_quiet (fail); go_upto_region 10 with (fail))
       (try simp only [Act.put, List.setIfInBounds_toArray, List.set_cons_zero, List.set_cons_succ])
       go_cut [167] (fun v167 wc => ∃ (kq : Nat) (x167_81 : Bool), v167 = .bool x167_81 ∧ Aside0 (reedpipelaw13_LapForgets.j2 kq t1088 t1114 t1124 x167_81 t1089 t1092 t1093 t1099 t1102 t1103 = some r) ∧ Aside0 (kq ≤ kj36) ∧ Aside0 (Kd.R (Kd.int .i64) 3 wc w.heap.size (fun k_ => some k_ ≠ (v1125 : Value).ownBlock ∧ some k_ ≠ ((.slice Ao42 t1089.length co42) : Value).ownBlock ∧ some k_ ≠ ((.slice Ao49 t1099.length co49) : Value).ownBlock ∧ some k_ ≠ ((.slice Ao89 t1109.length co89) : Value).ownBlock ∧ some k_ ≠ ((.slice Ao100 t1119.length co100) : Value).ownBlock) v1115 t1114) ∧ Aside0 (Kd.R (Kd.int .i64) 3 wc w.heap.size (fun k_ => some k_ ≠ (v1115 : Value).ownBlock ∧ some k_ ≠ ((.slice Ao42 t1089.length co42) : Value).ownBlock ∧ some k_ ≠ ((.slice Ao49 t1099.length co49) : Value).ownBlock ∧ some k_ ≠ ((.slice Ao89 t1109.length co89) : Value).ownBlock ∧ some k_ ≠ ((.slice Ao100 t1119.length co100) : Value).ownBlock) v1125 t1124) ∧ Aside0 (Kd.R (Kd.int .i64) 3 wc w.heap.size (fun k_ => some k_ ≠ (v1115 : Value).ownBlock ∧ some k_ ≠ (v1125 : Value).ownBlock ∧ some k_ ≠ ((.slice Ao49 t1099.length co49) : Value).ownBlock ∧ some k_ ≠ ((.slice Ao89 t1109.length co89) : Value).ownBlock ∧ some k_ ≠ ((.slice Ao100 t1119.length co100) : Value).ownBlock) (.slice Ao42 t1089.length co42) t1089) ∧ Aside0 (Kd.R (Kd.int .i64) 3 wc w.heap.size (fun k_ => some k_ ≠ (v1115 : Value).ownBlock ∧ some k_ ≠ (v1125 : Value).ownBlock ∧ some k_ ≠ ((.slice Ao42 t1089.length co42) : Value).ownBlock ∧ some k_ ≠ ((.slice Ao89 t1109.length co89) : Value).ownBlock ∧ some k_ ≠ ((.slice Ao100 t1119.length co100) : Value).ownBlock) (.slice Ao49 t1099.length co49) t1099) ∧ Aside0 (Kd.R (Kd.int .i64) 3 wc w.heap.size (fun k_ => some k_ ≠ (v1115 : Value).ownBlock ∧ some k_ ≠ (v1125 : Value).ownBlock ∧ some k_ ≠ ((.slice Ao42 t1089.length co42) : Value).ownBlock ∧ some k_ ≠ ((.slice Ao49 t1099.length co49) : Value).ownBlock ∧ some k_ ≠ ((.slice Ao100 t1119.length co100) : Value).ownBlock) (.slice Ao89 t1109.length co89) t1109) ∧ Aside0 (Kd.R (Kd.int .i64) 3 wc w.heap.size (fun k_ => some k_ ≠ (v1115 : Value).ownBlock ∧ some k_ ≠ (v1125 : Value).ownBlock ∧ some k_ ≠ ((.slice Ao42 t1089.length co42) : Value).ownBlock ∧ some k_ ≠ ((.slice Ao49 t1099.length co49) : Value).ownBlock ∧ some k_ ≠ ((.slice Ao89 t1109.length co89) : Value).ownBlock) (.slice Ao100 t1119.length co100) t1119) ∧ Aside0 (wc.heap[gb1086]? = some (.cells #[(.slice A0_0 l0_0.length c0_0), .int .u8 a0_1, .int .u8 a0_2] 31 (0, 0))) ∧ Aside0 (wc.heap[gb1087]? = some (.cells #[(.slice A1_0 l1_0.length c1_0), .int .u8 a1_1, .int .u8 a1_2] 31 (0, 0))) ∧ Aside0 (wc.heap[gb1098]? = some (.cells #[(.slice Ao42 t1089.length co42), .int .u8 t1092, .int .u8 t1093] 31 (0, 0))) ∧ Aside0 (wc.heap[gb1108]? = some (.cells #[(.slice Ao49 t1099.length co49), .int .u8 t1102, .int .u8 t1103] 31 (0, 0))) ∧ Aside0 (wc.heap[gb1118]? = some (.cells #[(.slice Ao89 t1109.length co89), .int .u8 t1112, .int .u8 t1113] 31 (0, 0))) ∧ Aside0 (wc.heap[gb1128]? = some (.cells #[(.slice Ao100 t1119.length co100), .int .u8 t1122, .int .u8 t1123] 31 (0, 0))) ∧ Aside0 (Below w.heap.size w wc))
       case first => as_aux_lemma =>
        have H := HC82.out
        clear HC82
        by_cases c107 : t1117 = t1127
        ·rw [if_pos c107] at H
         have c107b0 : (t1117 == t1127) = true := beq_iff_eq.mpr c107
         have c107b1 : (t1117 != t1127) = false := bne_eq_false_iff_eq.mpr c107
         clear c107
         (first | rw [c107b0] | (simp only [i64_w, i32_w]; rw [c107b0]) | skip)
         by_cases c108 : (t1114.length : Int) = (t1124.length : Int)
         ·rw [if_pos c108] at H
          have c108b0 : ((t1114.length : Int) == (t1124.length : Int)) = true := beq_iff_eq.mpr c108
          have c108b1 : ((t1114.length : Int) != (t1124.length : Int)) = false := bne_eq_false_iff_eq.mpr c108
          have c108b2 : (t1114.length == t1124.length) = true := by first | simpa using c108 | (simp at c108 ⊢; omega)
          clear c108
          by_cases c109 : (t1109.length : Int) = (t1119.length : Int)
          ·rw [if_pos c109] at H
           have c109b0 : ((t1109.length : Int) == (t1119.length : Int)) = true := beq_iff_eq.mpr c109
           have c109b1 : ((t1109.length : Int) != (t1119.length : Int)) = false := bne_eq_false_iff_eq.mpr c109
           have c109b2 : (t1109.length == t1119.length) = true := by first | simpa using c109 | (simp at c109 ⊢; omega)
           clear c109
           by_cases c110 : (t1089.length : Int) = (t1099.length : Int)
           ·rw [if_pos c110] at H
            have c110b0 : ((t1089.length : Int) == (t1099.length : Int)) = true := beq_iff_eq.mpr c110
            have c110b1 : ((t1089.length : Int) != (t1099.length : Int)) = false := bne_eq_false_iff_eq.mpr c110
            have c110b2 : (t1089.length == t1099.length) = true := by first | simpa using c110 | (simp at c110 ⊢; omega)
            clear c110
            by_cases c111 : t1092 = t1102
            ·rw [if_pos c111] at H
             have c111b0 : (t1092 == t1102) = true := beq_iff_eq.mpr c111
             have c111b1 : (t1092 != t1102) = false := bne_eq_false_iff_eq.mpr c111
             clear c111
             have H' := Aside0.mk H
             clear H
             obtain ⟨Ao112, co112, eo112⟩ := Kd.R_slice HO1116.out
             subst eo112
             obtain ⟨Ao113, co113, eo113⟩ := Kd.R_slice HO1126.out
             subst eo113
             have hnb114 := NB1118_1086.out
             have hnc114 := NB1086_1118.out
             have hnb115 := NB1118_1087.out
             have hnc115 := NB1087_1118.out
             have hnb116 := NB1118_1098.out
             have hnc116 := NB1098_1118.out
             have hnb117 := NB1118_1108.out
             have hnc117 := NB1108_1118.out
             have hnb118 := NB1118_1128.out
             have hnc118 := NB1128_1118.out
             have hcz119_0 : w99.cell? ⟨gb1118, 0, none⟩ = some (.slice Ao89 t1109.length co89) := (blk_cell BK1118.out 0).trans rfl
             have hcz119_1 : w99.cell? ⟨gb1118, 1, none⟩ = some (.int .u8 t1112) := (blk_cell BK1118.out 1).trans rfl
             have hcz119_2 : w99.cell? ⟨gb1118, 2, none⟩ = some (.int .u8 t1113) := (blk_cell BK1118.out 2).trans rfl
             have hfz119_0 := blk_frozen BK1118.out 0
             have hfz119_1 := blk_frozen BK1118.out 1
             have hfz119_2 := blk_frozen BK1118.out 2
             have hnb120 := NB1128_1086.out
             have hnc120 := NB1086_1128.out
             have hnb121 := NB1128_1087.out
             have hnc121 := NB1087_1128.out
             have hnb122 := NB1128_1098.out
             have hnc122 := NB1098_1128.out
             have hnb123 := NB1128_1108.out
             have hnc123 := NB1108_1128.out
             have hcz124_0 : w99.cell? ⟨gb1128, 0, none⟩ = some (.slice none 0 0) := (blk_cell BK1128.out 0).trans rfl
             have hcz124_1 : w99.cell? ⟨gb1128, 1, none⟩ = some (.int .u8 0) := (blk_cell BK1128.out 1).trans rfl
             have hcz124_2 : w99.cell? ⟨gb1128, 2, none⟩ = some (.int .u8 0) := (blk_cell BK1128.out 2).trans rfl
             have hfz124_0 := blk_frozen BK1128.out 0
             have hfz124_1 := blk_frozen BK1128.out 1
             have hfz124_2 := blk_frozen BK1128.out 2
             have hnb125 := NB1098_1086.out
             have hnc125 := NB1086_1098.out
             have hnb126 := NB1098_1087.out
             have hnc126 := NB1087_1098.out
             have hnb127 := NB1098_1108.out
             have hnc127 := NB1108_1098.out
             have hcz128_0 : w99.cell? ⟨gb1098, 0, none⟩ = some (.slice Ao42 t1089.length co42) := (blk_cell BK1098.out 0).trans rfl
             have hcz128_1 : w99.cell? ⟨gb1098, 1, none⟩ = some (.int .u8 t1092) := (blk_cell BK1098.out 1).trans rfl
             have hcz128_2 : w99.cell? ⟨gb1098, 2, none⟩ = some (.int .u8 t1093) := (blk_cell BK1098.out 2).trans rfl
             have hfz128_0 := blk_frozen BK1098.out 0
             have hfz128_1 := blk_frozen BK1098.out 1
             have hfz128_2 := blk_frozen BK1098.out 2
             have hnb129 := NB1108_1086.out
             have hnc129 := NB1086_1108.out
             have hnb130 := NB1108_1087.out
             have hnc130 := NB1087_1108.out
             have hcz131_0 : w99.cell? ⟨gb1108, 0, none⟩ = some (.slice Ao49 t1099.length co49) := (blk_cell BK1108.out 0).trans rfl
             have hcz131_1 : w99.cell? ⟨gb1108, 1, none⟩ = some (.int .u8 t1102) := (blk_cell BK1108.out 1).trans rfl
             have hcz131_2 : w99.cell? ⟨gb1108, 2, none⟩ = some (.int .u8 t1103) := (blk_cell BK1108.out 2).trans rfl
             have hfz131_0 := blk_frozen BK1108.out 0
             have hfz131_1 := blk_frozen BK1108.out 1
             have hfz131_2 := blk_frozen BK1108.out 2
             go_wp2
             repeat (go_quiet (fail); try go_wp2)
             go_meet
             case rel => exact ⟨_, ((t1093 != t1103)), (by first | rfl | (simp; done) | (simp [*]; done)), H', ⟨by have := HJ7.out; have := HJ36.out; first | omega | exact Nat.le_refl _⟩, ⟨by (with_reducible repeat (first | apply Kd.R_alloc | apply Kd.R_drewN | apply Kd.R_drew)); exact Kd.R_mono (Kd.R_far (p := ⟨gb1128, 2, none⟩) (Kd.R_far (p := ⟨gb1128, 1, none⟩) (Kd.R_far (p := ⟨gb1128, 0, none⟩) (Kd.R_types HO1116.out BK1128.out (by decide)) (fun _ hk => hk.2) (.slice Ao100 t1119.length co100)) (fun _ hk => hk.2) (.int .u8 t1122)) (fun _ hk => hk.2) (.int .u8 t1123)) (fun _ hk => ⟨hk.1.2, ⟨hk.1.1.1.1.2, ⟨hk.1.1.1.2, ⟨hk.1.1.1.1.1, hk.1.1.2⟩⟩⟩⟩)⟩, ⟨by (with_reducible repeat (first | apply Kd.R_alloc | apply Kd.R_drewN | apply Kd.R_drew)); exact Kd.R_mono (Kd.R_far (p := ⟨gb1128, 2, none⟩) (Kd.R_far (p := ⟨gb1128, 1, none⟩) (Kd.R_far (p := ⟨gb1128, 0, none⟩) (Kd.R_types HO1126.out BK1128.out (by decide)) (fun _ hk => hk.2) (.slice Ao100 t1119.length co100)) (fun _ hk => hk.2) (.int .u8 t1122)) (fun _ hk => hk.2) (.int .u8 t1123)) (fun _ hk => ⟨hk.1.2, ⟨hk.1.1.1.1.2, ⟨hk.1.1.1.2, ⟨hk.1.1.2, hk.1.1.1.1.1⟩⟩⟩⟩)⟩, ⟨by (with_reducible repeat (first | apply Kd.R_alloc | apply Kd.R_drewN | apply Kd.R_drew)); exact Kd.R_mono (Kd.R_far (p := ⟨gb1128, 2, none⟩) (Kd.R_far (p := ⟨gb1128, 1, none⟩) (Kd.R_far (p := ⟨gb1128, 0, none⟩) (Kd.R_types HO_1099000.out BK1128.out (by decide)) (fun _ hk => hk.2) (.slice Ao100 t1119.length co100)) (fun _ hk => hk.2) (.int .u8 t1122)) (fun _ hk => hk.2) (.int .u8 t1123)) (fun _ hk => ⟨hk.1.1.1.2, ⟨hk.1.2, ⟨hk.1.1.1.1.1, ⟨hk.1.1.1.1.2, hk.1.1.2⟩⟩⟩⟩)⟩, ⟨by (with_reducible repeat (first | apply Kd.R_alloc | apply Kd.R_drewN | apply Kd.R_drew)); exact Kd.R_mono (Kd.R_far (p := ⟨gb1128, 2, none⟩) (Kd.R_far (p := ⟨gb1128, 1, none⟩) (Kd.R_far (p := ⟨gb1128, 0, none⟩) (Kd.R_types HO_1109000.out BK1128.out (by decide)) (fun _ hk => hk.2) (.slice Ao100 t1119.length co100)) (fun _ hk => hk.2) (.int .u8 t1122)) (fun _ hk => hk.2) (.int .u8 t1123)) (fun _ hk => ⟨hk.1.1.1.2, ⟨hk.1.2, ⟨hk.1.1.1.1.1, ⟨hk.1.1.1.1.2, hk.1.1.2⟩⟩⟩⟩)⟩, ⟨by (with_reducible repeat (first | apply Kd.R_alloc | apply Kd.R_drewN | apply Kd.R_drew)); exact Kd.R_mono (Kd.R_far (p := ⟨gb1128, 2, none⟩) (Kd.R_far (p := ⟨gb1128, 1, none⟩) (Kd.R_far (p := ⟨gb1128, 0, none⟩) (Kd.R_types HO1111.out BK1128.out (by decide)) (fun _ hk => hk.2) (.slice Ao100 t1119.length co100)) (fun _ hk => hk.2) (.int .u8 t1122)) (fun _ hk => hk.2) (.int .u8 t1123)) (fun _ hk => ⟨hk.1.1.1.1.1, ⟨hk.1.2, ⟨hk.1.1.1.1.2, ⟨hk.1.1.1.2, hk.1.1.2⟩⟩⟩⟩)⟩, ⟨by (with_reducible repeat (first | apply Kd.R_alloc | apply Kd.R_drewN | apply Kd.R_drew)); exact Kd.R_mono (Kd.R_far (p := ⟨gb1128, 2, none⟩) (Kd.R_far (p := ⟨gb1128, 1, none⟩) (Kd.R_far (p := ⟨gb1128, 0, none⟩) (Kd.R_types HO1121.out BK1128.out (by decide)) (fun _ hk => hk.2) (.slice Ao100 t1119.length co100)) (fun _ hk => hk.2) (.int .u8 t1122)) (fun _ hk => hk.2) (.int .u8 t1123)) (fun _ hk => ⟨hk.1.2, ⟨hk.1.1.1.1.1, ⟨hk.1.1.1.1.2, ⟨hk.1.1.1.2, hk.1.1.2⟩⟩⟩⟩)⟩, ⟨by (with_reducible repeat (first | refine blk_drewN ?_ _ | refine blk_drew ?_ | refine blk_alloc ?_ _)); refine blk_far ?_ NB1086_1128.out _; (with_reducible repeat (first | refine blk_drewN ?_ _ | refine blk_drew ?_ | refine blk_alloc ?_ _)); refine blk_far ?_ NB1086_1128.out _; (with_reducible repeat (first | refine blk_drewN ?_ _ | refine blk_drew ?_ | refine blk_alloc ?_ _)); refine blk_far ?_ NB1086_1128.out _; (with_reducible repeat (first | refine blk_drewN ?_ _ | refine blk_drew ?_ | refine blk_alloc ?_ _)); exact BK1086.out⟩, ⟨by (with_reducible repeat (first | refine blk_drewN ?_ _ | refine blk_drew ?_ | refine blk_alloc ?_ _)); refine blk_far ?_ NB1087_1128.out _; (with_reducible repeat (first | refine blk_drewN ?_ _ | refine blk_drew ?_ | refine blk_alloc ?_ _)); refine blk_far ?_ NB1087_1128.out _; (with_reducible repeat (first | refine blk_drewN ?_ _ | refine blk_drew ?_ | refine blk_alloc ?_ _)); refine blk_far ?_ NB1087_1128.out _; (with_reducible repeat (first | refine blk_drewN ?_ _ | refine blk_drew ?_ | refine blk_alloc ?_ _)); exact BK1087.out⟩, ⟨by (with_reducible repeat (first | refine blk_drewN ?_ _ | refine blk_drew ?_ | refine blk_alloc ?_ _)); refine blk_far ?_ NB1098_1128.out _; (with_reducible repeat (first | refine blk_drewN ?_ _ | refine blk_drew ?_ | refine blk_alloc ?_ _)); refine blk_far ?_ NB1098_1128.out _; (with_reducible repeat (first | refine blk_drewN ?_ _ | refine blk_drew ?_ | refine blk_alloc ?_ _)); refine blk_far ?_ NB1098_1128.out _; (with_reducible repeat (first | refine blk_drewN ?_ _ | refine blk_drew ?_ | refine blk_alloc ?_ _)); exact BK1098.out⟩, ⟨by (with_reducible repeat (first | refine blk_drewN ?_ _ | refine blk_drew ?_ | refine blk_alloc ?_ _)); refine blk_far ?_ NB1108_1128.out _; (with_reducible repeat (first | refine blk_drewN ?_ _ | refine blk_drew ?_ | refine blk_alloc ?_ _)); refine blk_far ?_ NB1108_1128.out _; (with_reducible repeat (first | refine blk_drewN ?_ _ | refine blk_drew ?_ | refine blk_alloc ?_ _)); refine blk_far ?_ NB1108_1128.out _; (with_reducible repeat (first | refine blk_drewN ?_ _ | refine blk_drew ?_ | refine blk_alloc ?_ _)); exact BK1108.out⟩, ⟨by (with_reducible repeat (first | refine blk_drewN ?_ _ | refine blk_drew ?_ | refine blk_alloc ?_ _)); refine blk_far ?_ NB1118_1128.out _; (with_reducible repeat (first | refine blk_drewN ?_ _ | refine blk_drew ?_ | refine blk_alloc ?_ _)); refine blk_far ?_ NB1118_1128.out _; (with_reducible repeat (first | refine blk_drewN ?_ _ | refine blk_drew ?_ | refine blk_alloc ?_ _)); refine blk_far ?_ NB1118_1128.out _; (with_reducible repeat (first | refine blk_drewN ?_ _ | refine blk_drew ?_ | refine blk_alloc ?_ _)); exact BK1118.out⟩, ⟨by (with_reducible repeat (first | refine blk_drewN ?_ _ | refine blk_drew ?_ | refine blk_alloc ?_ _)); refine blk_put (cs := #[.slice Ao100 t1119.length co100, .int .u8 t1122, .int .u8 0]) ?_ 2 _ rfl; (with_reducible repeat (first | refine blk_drewN ?_ _ | refine blk_drew ?_ | refine blk_alloc ?_ _)); refine blk_put (cs := #[.slice Ao100 t1119.length co100, .int .u8 0, .int .u8 0]) ?_ 1 _ rfl; (with_reducible repeat (first | refine blk_drewN ?_ _ | refine blk_drew ?_ | refine blk_alloc ?_ _)); refine blk_put (cs := #[.slice none 0 0, .int .u8 0, .int .u8 0]) ?_ 0 _ rfl; (with_reducible repeat (first | refine blk_drewN ?_ _ | refine blk_drew ?_ | refine blk_alloc ?_ _)); exact BK1128.out⟩, ⟨by repeat (first | (with_reducible first | exact HB.out | apply below_alloc | apply pw_below_drewN | apply below_drew1 | refine below_set ?_ GE1086.out | refine below_set ?_ GE1087.out | refine below_set ?_ GE1098.out | refine below_set ?_ GE1108.out | refine below_set ?_ GE1118.out | refine below_set ?_ GE1128.out) | exact HB.out)⟩⟩
            ·rw [if_neg c111] at H
             have c111b0 : (t1092 == t1102) = false := beq_eq_false_iff_ne.mpr c111
             have c111b1 : (t1092 != t1102) = true := bne_iff_ne.mpr c111
             have H' := Aside0.mk H
             clear H
             obtain ⟨Ao132, co132, eo132⟩ := Kd.R_slice HO1116.out
             subst eo132
             obtain ⟨Ao133, co133, eo133⟩ := Kd.R_slice HO1126.out
             subst eo133
             have hnb134 := NB1118_1086.out
             have hnc134 := NB1086_1118.out
             have hnb135 := NB1118_1087.out
             have hnc135 := NB1087_1118.out
             have hnb136 := NB1118_1098.out
             have hnc136 := NB1098_1118.out
             have hnb137 := NB1118_1108.out
             have hnc137 := NB1108_1118.out
             have hnb138 := NB1118_1128.out
             have hnc138 := NB1128_1118.out
             have hcz139_0 : w99.cell? ⟨gb1118, 0, none⟩ = some (.slice Ao89 t1109.length co89) := (blk_cell BK1118.out 0).trans rfl
             have hcz139_1 : w99.cell? ⟨gb1118, 1, none⟩ = some (.int .u8 t1112) := (blk_cell BK1118.out 1).trans rfl
             have hcz139_2 : w99.cell? ⟨gb1118, 2, none⟩ = some (.int .u8 t1113) := (blk_cell BK1118.out 2).trans rfl
             have hfz139_0 := blk_frozen BK1118.out 0
             have hfz139_1 := blk_frozen BK1118.out 1
             have hfz139_2 := blk_frozen BK1118.out 2
             have hnb140 := NB1128_1086.out
             have hnc140 := NB1086_1128.out
             have hnb141 := NB1128_1087.out
             have hnc141 := NB1087_1128.out
             have hnb142 := NB1128_1098.out
             have hnc142 := NB1098_1128.out
             have hnb143 := NB1128_1108.out
             have hnc143 := NB1108_1128.out
             have hcz144_0 : w99.cell? ⟨gb1128, 0, none⟩ = some (.slice none 0 0) := (blk_cell BK1128.out 0).trans rfl
             have hcz144_1 : w99.cell? ⟨gb1128, 1, none⟩ = some (.int .u8 0) := (blk_cell BK1128.out 1).trans rfl
             have hcz144_2 : w99.cell? ⟨gb1128, 2, none⟩ = some (.int .u8 0) := (blk_cell BK1128.out 2).trans rfl
             have hfz144_0 := blk_frozen BK1128.out 0
             have hfz144_1 := blk_frozen BK1128.out 1
             have hfz144_2 := blk_frozen BK1128.out 2
             have hnb145 := NB1098_1086.out
             have hnc145 := NB1086_1098.out
             have hnb146 := NB1098_1087.out
             have hnc146 := NB1087_1098.out
             have hnb147 := NB1098_1108.out
             have hnc147 := NB1108_1098.out
             have hcz148_0 : w99.cell? ⟨gb1098, 0, none⟩ = some (.slice Ao42 t1089.length co42) := (blk_cell BK1098.out 0).trans rfl
             have hcz148_1 : w99.cell? ⟨gb1098, 1, none⟩ = some (.int .u8 t1092) := (blk_cell BK1098.out 1).trans rfl
             have hcz148_2 : w99.cell? ⟨gb1098, 2, none⟩ = some (.int .u8 t1093) := (blk_cell BK1098.out 2).trans rfl
             have hfz148_0 := blk_frozen BK1098.out 0
             have hfz148_1 := blk_frozen BK1098.out 1
             have hfz148_2 := blk_frozen BK1098.out 2
             have hnb149 := NB1108_1086.out
             have hnc149 := NB1086_1108.out
             have hnb150 := NB1108_1087.out
             have hnc150 := NB1087_1108.out
             have hcz151_0 : w99.cell? ⟨gb1108, 0, none⟩ = some (.slice Ao49 t1099.length co49) := (blk_cell BK1108.out 0).trans rfl
             have hcz151_1 : w99.cell? ⟨gb1108, 1, none⟩ = some (.int .u8 t1102) := (blk_cell BK1108.out 1).trans rfl
             have hcz151_2 : w99.cell? ⟨gb1108, 2, none⟩ = some (.int .u8 t1103) := (blk_cell BK1108.out 2).trans rfl
             have hfz151_0 := blk_frozen BK1108.out 0
             have hfz151_1 := blk_frozen BK1108.out 1
             have hfz151_2 := blk_frozen BK1108.out 2
             go_wp2
             repeat (go_quiet (fail); try go_wp2)
             go_meet
             case rel => exact ⟨_, (true), (by first | rfl | (simp; done) | (simp [*]; done)), H', ⟨by have := HJ7.out; have := HJ36.out; first | omega | exact Nat.le_refl _⟩, ⟨by (with_reducible repeat (first | apply Kd.R_alloc | apply Kd.R_drewN | apply Kd.R_drew)); exact Kd.R_mono (Kd.R_far (p := ⟨gb1128, 2, none⟩) (Kd.R_far (p := ⟨gb1128, 1, none⟩) (Kd.R_far (p := ⟨gb1128, 0, none⟩) (Kd.R_types HO1116.out BK1128.out (by decide)) (fun _ hk => hk.2) (.slice Ao100 t1119.length co100)) (fun _ hk => hk.2) (.int .u8 t1122)) (fun _ hk => hk.2) (.int .u8 t1123)) (fun _ hk => ⟨hk.1.2, ⟨hk.1.1.1.1.2, ⟨hk.1.1.1.2, ⟨hk.1.1.1.1.1, hk.1.1.2⟩⟩⟩⟩)⟩, ⟨by (with_reducible repeat (first | apply Kd.R_alloc | apply Kd.R_drewN | apply Kd.R_drew)); exact Kd.R_mono (Kd.R_far (p := ⟨gb1128, 2, none⟩) (Kd.R_far (p := ⟨gb1128, 1, none⟩) (Kd.R_far (p := ⟨gb1128, 0, none⟩) (Kd.R_types HO1126.out BK1128.out (by decide)) (fun _ hk => hk.2) (.slice Ao100 t1119.length co100)) (fun _ hk => hk.2) (.int .u8 t1122)) (fun _ hk => hk.2) (.int .u8 t1123)) (fun _ hk => ⟨hk.1.2, ⟨hk.1.1.1.1.2, ⟨hk.1.1.1.2, ⟨hk.1.1.2, hk.1.1.1.1.1⟩⟩⟩⟩)⟩, ⟨by (with_reducible repeat (first | apply Kd.R_alloc | apply Kd.R_drewN | apply Kd.R_drew)); exact Kd.R_mono (Kd.R_far (p := ⟨gb1128, 2, none⟩) (Kd.R_far (p := ⟨gb1128, 1, none⟩) (Kd.R_far (p := ⟨gb1128, 0, none⟩) (Kd.R_types HO_1099000.out BK1128.out (by decide)) (fun _ hk => hk.2) (.slice Ao100 t1119.length co100)) (fun _ hk => hk.2) (.int .u8 t1122)) (fun _ hk => hk.2) (.int .u8 t1123)) (fun _ hk => ⟨hk.1.1.1.2, ⟨hk.1.2, ⟨hk.1.1.1.1.1, ⟨hk.1.1.1.1.2, hk.1.1.2⟩⟩⟩⟩)⟩, ⟨by (with_reducible repeat (first | apply Kd.R_alloc | apply Kd.R_drewN | apply Kd.R_drew)); exact Kd.R_mono (Kd.R_far (p := ⟨gb1128, 2, none⟩) (Kd.R_far (p := ⟨gb1128, 1, none⟩) (Kd.R_far (p := ⟨gb1128, 0, none⟩) (Kd.R_types HO_1109000.out BK1128.out (by decide)) (fun _ hk => hk.2) (.slice Ao100 t1119.length co100)) (fun _ hk => hk.2) (.int .u8 t1122)) (fun _ hk => hk.2) (.int .u8 t1123)) (fun _ hk => ⟨hk.1.1.1.2, ⟨hk.1.2, ⟨hk.1.1.1.1.1, ⟨hk.1.1.1.1.2, hk.1.1.2⟩⟩⟩⟩)⟩, ⟨by (with_reducible repeat (first | apply Kd.R_alloc | apply Kd.R_drewN | apply Kd.R_drew)); exact Kd.R_mono (Kd.R_far (p := ⟨gb1128, 2, none⟩) (Kd.R_far (p := ⟨gb1128, 1, none⟩) (Kd.R_far (p := ⟨gb1128, 0, none⟩) (Kd.R_types HO1111.out BK1128.out (by decide)) (fun _ hk => hk.2) (.slice Ao100 t1119.length co100)) (fun _ hk => hk.2) (.int .u8 t1122)) (fun _ hk => hk.2) (.int .u8 t1123)) (fun _ hk => ⟨hk.1.1.1.1.1, ⟨hk.1.2, ⟨hk.1.1.1.1.2, ⟨hk.1.1.1.2, hk.1.1.2⟩⟩⟩⟩)⟩, ⟨by (with_reducible repeat (first | apply Kd.R_alloc | apply Kd.R_drewN | apply Kd.R_drew)); exact Kd.R_mono (Kd.R_far (p := ⟨gb1128, 2, none⟩) (Kd.R_far (p := ⟨gb1128, 1, none⟩) (Kd.R_far (p := ⟨gb1128, 0, none⟩) (Kd.R_types HO1121.out BK1128.out (by decide)) (fun _ hk => hk.2) (.slice Ao100 t1119.length co100)) (fun _ hk => hk.2) (.int .u8 t1122)) (fun _ hk => hk.2) (.int .u8 t1123)) (fun _ hk => ⟨hk.1.2, ⟨hk.1.1.1.1.1, ⟨hk.1.1.1.1.2, ⟨hk.1.1.1.2, hk.1.1.2⟩⟩⟩⟩)⟩, ⟨by (with_reducible repeat (first | refine blk_drewN ?_ _ | refine blk_drew ?_ | refine blk_alloc ?_ _)); refine blk_far ?_ NB1086_1128.out _; (with_reducible repeat (first | refine blk_drewN ?_ _ | refine blk_drew ?_ | refine blk_alloc ?_ _)); refine blk_far ?_ NB1086_1128.out _; (with_reducible repeat (first | refine blk_drewN ?_ _ | refine blk_drew ?_ | refine blk_alloc ?_ _)); refine blk_far ?_ NB1086_1128.out _; (with_reducible repeat (first | refine blk_drewN ?_ _ | refine blk_drew ?_ | refine blk_alloc ?_ _)); exact BK1086.out⟩, ⟨by (with_reducible repeat (first | refine blk_drewN ?_ _ | refine blk_drew ?_ | refine blk_alloc ?_ _)); refine blk_far ?_ NB1087_1128.out _; (with_reducible repeat (first | refine blk_drewN ?_ _ | refine blk_drew ?_ | refine blk_alloc ?_ _)); refine blk_far ?_ NB1087_1128.out _; (with_reducible repeat (first | refine blk_drewN ?_ _ | refine blk_drew ?_ | refine blk_alloc ?_ _)); refine blk_far ?_ NB1087_1128.out _; (with_reducible repeat (first | refine blk_drewN ?_ _ | refine blk_drew ?_ | refine blk_alloc ?_ _)); exact BK1087.out⟩, ⟨by (with_reducible repeat (first | refine blk_drewN ?_ _ | refine blk_drew ?_ | refine blk_alloc ?_ _)); refine blk_far ?_ NB1098_1128.out _; (with_reducible repeat (first | refine blk_drewN ?_ _ | refine blk_drew ?_ | refine blk_alloc ?_ _)); refine blk_far ?_ NB1098_1128.out _; (with_reducible repeat (first | refine blk_drewN ?_ _ | refine blk_drew ?_ | refine blk_alloc ?_ _)); refine blk_far ?_ NB1098_1128.out _; (with_reducible repeat (first | refine blk_drewN ?_ _ | refine blk_drew ?_ | refine blk_alloc ?_ _)); exact BK1098.out⟩, ⟨by (with_reducible repeat (first | refine blk_drewN ?_ _ | refine blk_drew ?_ | refine blk_alloc ?_ _)); refine blk_far ?_ NB1108_1128.out _; (with_reducible repeat (first | refine blk_drewN ?_ _ | refine blk_drew ?_ | refine blk_alloc ?_ _)); refine blk_far ?_ NB1108_1128.out _; (with_reducible repeat (first | refine blk_drewN ?_ _ | refine blk_drew ?_ | refine blk_alloc ?_ _)); refine blk_far ?_ NB1108_1128.out _; (with_reducible repeat (first | refine blk_drewN ?_ _ | refine blk_drew ?_ | refine blk_alloc ?_ _)); exact BK1108.out⟩, ⟨by (with_reducible repeat (first | refine blk_drewN ?_ _ | refine blk_drew ?_ | refine blk_alloc ?_ _)); refine blk_far ?_ NB1118_1128.out _; (with_reducible repeat (first | refine blk_drewN ?_ _ | refine blk_drew ?_ | refine blk_alloc ?_ _)); refine blk_far ?_ NB1118_1128.out _; (with_reducible repeat (first | refine blk_drewN ?_ _ | refine blk_drew ?_ | refine blk_alloc ?_ _)); refine blk_far ?_ NB1118_1128.out _; (with_reducible repeat (first | refine blk_drewN ?_ _ | refine blk_drew ?_ | refine blk_alloc ?_ _)); exact BK1118.out⟩, ⟨by (with_reducible repeat (first | refine blk_drewN ?_ _ | refine blk_drew ?_ | refine blk_alloc ?_ _)); refine blk_put (cs := #[.slice Ao100 t1119.length co100, .int .u8 t1122, .int .u8 0]) ?_ 2 _ rfl; (with_reducible repeat (first | refine blk_drewN ?_ _ | refine blk_drew ?_ | refine blk_alloc ?_ _)); refine blk_put (cs := #[.slice Ao100 t1119.length co100, .int .u8 0, .int .u8 0]) ?_ 1 _ rfl; (with_reducible repeat (first | refine blk_drewN ?_ _ | refine blk_drew ?_ | refine blk_alloc ?_ _)); refine blk_put (cs := #[.slice none 0 0, .int .u8 0, .int .u8 0]) ?_ 0 _ rfl; (with_reducible repeat (first | refine blk_drewN ?_ _ | refine blk_drew ?_ | refine blk_alloc ?_ _)); exact BK1128.out⟩, ⟨by repeat (first | (with_reducible first | exact HB.out | apply below_alloc | apply pw_below_drewN | apply below_drew1 | refine below_set ?_ GE1086.out | refine below_set ?_ GE1087.out | refine below_set ?_ GE1098.out | refine below_set ?_ GE1108.out | refine below_set ?_ GE1118.out | refine below_set ?_ GE1128.out) | exact HB.out)⟩⟩
           ·rw [if_neg c110] at H
            have c110b0 : ((t1089.length : Int) == (t1099.length : Int)) = false := beq_eq_false_iff_ne.mpr c110
            have c110b1 : ((t1089.length : Int) != (t1099.length : Int)) = true := bne_iff_ne.mpr c110
            have c110b2 : (t1089.length == t1099.length) = false := by first | simpa using c110 | (simp at c110 ⊢; omega)
            have H' := Aside0.mk H
            clear H
            obtain ⟨Ao152, co152, eo152⟩ := Kd.R_slice HO1116.out
            subst eo152
            obtain ⟨Ao153, co153, eo153⟩ := Kd.R_slice HO1126.out
            subst eo153
            have hnb154 := NB1118_1086.out
            have hnc154 := NB1086_1118.out
            have hnb155 := NB1118_1087.out
            have hnc155 := NB1087_1118.out
            have hnb156 := NB1118_1098.out
            have hnc156 := NB1098_1118.out
            have hnb157 := NB1118_1108.out
            have hnc157 := NB1108_1118.out
            have hnb158 := NB1118_1128.out
            have hnc158 := NB1128_1118.out
            have hcz159_0 : w99.cell? ⟨gb1118, 0, none⟩ = some (.slice Ao89 t1109.length co89) := (blk_cell BK1118.out 0).trans rfl
            have hcz159_1 : w99.cell? ⟨gb1118, 1, none⟩ = some (.int .u8 t1112) := (blk_cell BK1118.out 1).trans rfl
            have hcz159_2 : w99.cell? ⟨gb1118, 2, none⟩ = some (.int .u8 t1113) := (blk_cell BK1118.out 2).trans rfl
            have hfz159_0 := blk_frozen BK1118.out 0
            have hfz159_1 := blk_frozen BK1118.out 1
            have hfz159_2 := blk_frozen BK1118.out 2
            have hnb160 := NB1128_1086.out
            have hnc160 := NB1086_1128.out
            have hnb161 := NB1128_1087.out
            have hnc161 := NB1087_1128.out
            have hnb162 := NB1128_1098.out
            have hnc162 := NB1098_1128.out
            have hnb163 := NB1128_1108.out
            have hnc163 := NB1108_1128.out
            have hcz164_0 : w99.cell? ⟨gb1128, 0, none⟩ = some (.slice none 0 0) := (blk_cell BK1128.out 0).trans rfl
            have hcz164_1 : w99.cell? ⟨gb1128, 1, none⟩ = some (.int .u8 0) := (blk_cell BK1128.out 1).trans rfl
            have hcz164_2 : w99.cell? ⟨gb1128, 2, none⟩ = some (.int .u8 0) := (blk_cell BK1128.out 2).trans rfl
            have hfz164_0 := blk_frozen BK1128.out 0
            have hfz164_1 := blk_frozen BK1128.out 1
            have hfz164_2 := blk_frozen BK1128.out 2
            have hnb165 := NB1098_1086.out
            have hnc165 := NB1086_1098.out
            have hnb166 := NB1098_1087.out
            have hnc166 := NB1087_1098.out
            have hnb167 := NB1098_1108.out
            have hnc167 := NB1108_1098.out
            have hcz168_0 : w99.cell? ⟨gb1098, 0, none⟩ = some (.slice Ao42 t1089.length co42) := (blk_cell BK1098.out 0).trans rfl
            have hcz168_1 : w99.cell? ⟨gb1098, 1, none⟩ = some (.int .u8 t1092) := (blk_cell BK1098.out 1).trans rfl
            have hcz168_2 : w99.cell? ⟨gb1098, 2, none⟩ = some (.int .u8 t1093) := (blk_cell BK1098.out 2).trans rfl
            have hfz168_0 := blk_frozen BK1098.out 0
            have hfz168_1 := blk_frozen BK1098.out 1
            have hfz168_2 := blk_frozen BK1098.out 2
            have hnb169 := NB1108_1086.out
            have hnc169 := NB1086_1108.out
            have hnb170 := NB1108_1087.out
            have hnc170 := NB1087_1108.out
            have hcz171_0 : w99.cell? ⟨gb1108, 0, none⟩ = some (.slice Ao49 t1099.length co49) := (blk_cell BK1108.out 0).trans rfl
            have hcz171_1 : w99.cell? ⟨gb1108, 1, none⟩ = some (.int .u8 t1102) := (blk_cell BK1108.out 1).trans rfl
            have hcz171_2 : w99.cell? ⟨gb1108, 2, none⟩ = some (.int .u8 t1103) := (blk_cell BK1108.out 2).trans rfl
            have hfz171_0 := blk_frozen BK1108.out 0
            have hfz171_1 := blk_frozen BK1108.out 1
            have hfz171_2 := blk_frozen BK1108.out 2
            go_wp2
            repeat (go_quiet (fail); try go_wp2)
            go_meet
            case rel => exact ⟨_, (true), (by first | rfl | (simp; done) | (simp [*]; done)), H', ⟨by have := HJ7.out; have := HJ36.out; first | omega | exact Nat.le_refl _⟩, ⟨by (with_reducible repeat (first | apply Kd.R_alloc | apply Kd.R_drewN | apply Kd.R_drew)); exact Kd.R_mono (Kd.R_far (p := ⟨gb1128, 2, none⟩) (Kd.R_far (p := ⟨gb1128, 1, none⟩) (Kd.R_far (p := ⟨gb1128, 0, none⟩) (Kd.R_types HO1116.out BK1128.out (by decide)) (fun _ hk => hk.2) (.slice Ao100 t1119.length co100)) (fun _ hk => hk.2) (.int .u8 t1122)) (fun _ hk => hk.2) (.int .u8 t1123)) (fun _ hk => ⟨hk.1.2, ⟨hk.1.1.1.1.2, ⟨hk.1.1.1.2, ⟨hk.1.1.1.1.1, hk.1.1.2⟩⟩⟩⟩)⟩, ⟨by (with_reducible repeat (first | apply Kd.R_alloc | apply Kd.R_drewN | apply Kd.R_drew)); exact Kd.R_mono (Kd.R_far (p := ⟨gb1128, 2, none⟩) (Kd.R_far (p := ⟨gb1128, 1, none⟩) (Kd.R_far (p := ⟨gb1128, 0, none⟩) (Kd.R_types HO1126.out BK1128.out (by decide)) (fun _ hk => hk.2) (.slice Ao100 t1119.length co100)) (fun _ hk => hk.2) (.int .u8 t1122)) (fun _ hk => hk.2) (.int .u8 t1123)) (fun _ hk => ⟨hk.1.2, ⟨hk.1.1.1.1.2, ⟨hk.1.1.1.2, ⟨hk.1.1.2, hk.1.1.1.1.1⟩⟩⟩⟩)⟩, ⟨by (with_reducible repeat (first | apply Kd.R_alloc | apply Kd.R_drewN | apply Kd.R_drew)); exact Kd.R_mono (Kd.R_far (p := ⟨gb1128, 2, none⟩) (Kd.R_far (p := ⟨gb1128, 1, none⟩) (Kd.R_far (p := ⟨gb1128, 0, none⟩) (Kd.R_types HO_1099000.out BK1128.out (by decide)) (fun _ hk => hk.2) (.slice Ao100 t1119.length co100)) (fun _ hk => hk.2) (.int .u8 t1122)) (fun _ hk => hk.2) (.int .u8 t1123)) (fun _ hk => ⟨hk.1.1.1.2, ⟨hk.1.2, ⟨hk.1.1.1.1.1, ⟨hk.1.1.1.1.2, hk.1.1.2⟩⟩⟩⟩)⟩, ⟨by (with_reducible repeat (first | apply Kd.R_alloc | apply Kd.R_drewN | apply Kd.R_drew)); exact Kd.R_mono (Kd.R_far (p := ⟨gb1128, 2, none⟩) (Kd.R_far (p := ⟨gb1128, 1, none⟩) (Kd.R_far (p := ⟨gb1128, 0, none⟩) (Kd.R_types HO_1109000.out BK1128.out (by decide)) (fun _ hk => hk.2) (.slice Ao100 t1119.length co100)) (fun _ hk => hk.2) (.int .u8 t1122)) (fun _ hk => hk.2) (.int .u8 t1123)) (fun _ hk => ⟨hk.1.1.1.2, ⟨hk.1.2, ⟨hk.1.1.1.1.1, ⟨hk.1.1.1.1.2, hk.1.1.2⟩⟩⟩⟩)⟩, ⟨by (with_reducible repeat (first | apply Kd.R_alloc | apply Kd.R_drewN | apply Kd.R_drew)); exact Kd.R_mono (Kd.R_far (p := ⟨gb1128, 2, none⟩) (Kd.R_far (p := ⟨gb1128, 1, none⟩) (Kd.R_far (p := ⟨gb1128, 0, none⟩) (Kd.R_types HO1111.out BK1128.out (by decide)) (fun _ hk => hk.2) (.slice Ao100 t1119.length co100)) (fun _ hk => hk.2) (.int .u8 t1122)) (fun _ hk => hk.2) (.int .u8 t1123)) (fun _ hk => ⟨hk.1.1.1.1.1, ⟨hk.1.2, ⟨hk.1.1.1.1.2, ⟨hk.1.1.1.2, hk.1.1.2⟩⟩⟩⟩)⟩, ⟨by (with_reducible repeat (first | apply Kd.R_alloc | apply Kd.R_drewN | apply Kd.R_drew)); exact Kd.R_mono (Kd.R_far (p := ⟨gb1128, 2, none⟩) (Kd.R_far (p := ⟨gb1128, 1, none⟩) (Kd.R_far (p := ⟨gb1128, 0, none⟩) (Kd.R_types HO1121.out BK1128.out (by decide)) (fun _ hk => hk.2) (.slice Ao100 t1119.length co100)) (fun _ hk => hk.2) (.int .u8 t1122)) (fun _ hk => hk.2) (.int .u8 t1123)) (fun _ hk => ⟨hk.1.2, ⟨hk.1.1.1.1.1, ⟨hk.1.1.1.1.2, ⟨hk.1.1.1.2, hk.1.1.2⟩⟩⟩⟩)⟩, ⟨by (with_reducible repeat (first | refine blk_drewN ?_ _ | refine blk_drew ?_ | refine blk_alloc ?_ _)); refine blk_far ?_ NB1086_1128.out _; (with_reducible repeat (first | refine blk_drewN ?_ _ | refine blk_drew ?_ | refine blk_alloc ?_ _)); refine blk_far ?_ NB1086_1128.out _; (with_reducible repeat (first | refine blk_drewN ?_ _ | refine blk_drew ?_ | refine blk_alloc ?_ _)); refine blk_far ?_ NB1086_1128.out _; (with_reducible repeat (first | refine blk_drewN ?_ _ | refine blk_drew ?_ | refine blk_alloc ?_ _)); exact BK1086.out⟩, ⟨by (with_reducible repeat (first | refine blk_drewN ?_ _ | refine blk_drew ?_ | refine blk_alloc ?_ _)); refine blk_far ?_ NB1087_1128.out _; (with_reducible repeat (first | refine blk_drewN ?_ _ | refine blk_drew ?_ | refine blk_alloc ?_ _)); refine blk_far ?_ NB1087_1128.out _; (with_reducible repeat (first | refine blk_drewN ?_ _ | refine blk_drew ?_ | refine blk_alloc ?_ _)); refine blk_far ?_ NB1087_1128.out _; (with_reducible repeat (first | refine blk_drewN ?_ _ | refine blk_drew ?_ | refine blk_alloc ?_ _)); exact BK1087.out⟩, ⟨by (with_reducible repeat (first | refine blk_drewN ?_ _ | refine blk_drew ?_ | refine blk_alloc ?_ _)); refine blk_far ?_ NB1098_1128.out _; (with_reducible repeat (first | refine blk_drewN ?_ _ | refine blk_drew ?_ | refine blk_alloc ?_ _)); refine blk_far ?_ NB1098_1128.out _; (with_reducible repeat (first | refine blk_drewN ?_ _ | refine blk_drew ?_ | refine blk_alloc ?_ _)); refine blk_far ?_ NB1098_1128.out _; (with_reducible repeat (first | refine blk_drewN ?_ _ | refine blk_drew ?_ | refine blk_alloc ?_ _)); exact BK1098.out⟩, ⟨by (with_reducible repeat (first | refine blk_drewN ?_ _ | refine blk_drew ?_ | refine blk_alloc ?_ _)); refine blk_far ?_ NB1108_1128.out _; (with_reducible repeat (first | refine blk_drewN ?_ _ | refine blk_drew ?_ | refine blk_alloc ?_ _)); refine blk_far ?_ NB1108_1128.out _; (with_reducible repeat (first | refine blk_drewN ?_ _ | refine blk_drew ?_ | refine blk_alloc ?_ _)); refine blk_far ?_ NB1108_1128.out _; (with_reducible repeat (first | refine blk_drewN ?_ _ | refine blk_drew ?_ | refine blk_alloc ?_ _)); exact BK1108.out⟩, ⟨by (with_reducible repeat (first | refine blk_drewN ?_ _ | refine blk_drew ?_ | refine blk_alloc ?_ _)); refine blk_far ?_ NB1118_1128.out _; (with_reducible repeat (first | refine blk_drewN ?_ _ | refine blk_drew ?_ | refine blk_alloc ?_ _)); refine blk_far ?_ NB1118_1128.out _; (with_reducible repeat (first | refine blk_drewN ?_ _ | refine blk_drew ?_ | refine blk_alloc ?_ _)); refine blk_far ?_ NB1118_1128.out _; (with_reducible repeat (first | refine blk_drewN ?_ _ | refine blk_drew ?_ | refine blk_alloc ?_ _)); exact BK1118.out⟩, ⟨by (with_reducible repeat (first | refine blk_drewN ?_ _ | refine blk_drew ?_ | refine blk_alloc ?_ _)); refine blk_put (cs := #[.slice Ao100 t1119.length co100, .int .u8 t1122, .int .u8 0]) ?_ 2 _ rfl; (with_reducible repeat (first | refine blk_drewN ?_ _ | refine blk_drew ?_ | refine blk_alloc ?_ _)); refine blk_put (cs := #[.slice Ao100 t1119.length co100, .int .u8 0, .int .u8 0]) ?_ 1 _ rfl; (with_reducible repeat (first | refine blk_drewN ?_ _ | refine blk_drew ?_ | refine blk_alloc ?_ _)); refine blk_put (cs := #[.slice none 0 0, .int .u8 0, .int .u8 0]) ?_ 0 _ rfl; (with_reducible repeat (first | refine blk_drewN ?_ _ | refine blk_drew ?_ | refine blk_alloc ?_ _)); exact BK1128.out⟩, ⟨by repeat (first | (with_reducible first | exact HB.out | apply below_alloc | apply pw_below_drewN | apply below_drew1 | refine below_set ?_ GE1086.out | refine below_set ?_ GE1087.out | refine below_set ?_ GE1098.out | refine below_set ?_ GE1108.out | refine below_set ?_ GE1118.out | refine below_set ?_ GE1128.out) | exact HB.out)⟩⟩
          ·rw [if_neg c109] at H
           have c109b0 : ((t1109.length : Int) == (t1119.length : Int)) = false := beq_eq_false_iff_ne.mpr c109
           have c109b1 : ((t1109.length : Int) != (t1119.length : Int)) = true := bne_iff_ne.mpr c109
           have c109b2 : (t1109.length == t1119.length) = false := by first | simpa using c109 | (simp at c109 ⊢; omega)
           have H' := Aside0.mk H
           clear H
           obtain ⟨Ao172, co172, eo172⟩ := Kd.R_slice HO1116.out
           subst eo172
           obtain ⟨Ao173, co173, eo173⟩ := Kd.R_slice HO1126.out
           subst eo173
           have hnb174 := NB1118_1086.out
           have hnc174 := NB1086_1118.out
           have hnb175 := NB1118_1087.out
           have hnc175 := NB1087_1118.out
           have hnb176 := NB1118_1098.out
           have hnc176 := NB1098_1118.out
           have hnb177 := NB1118_1108.out
           have hnc177 := NB1108_1118.out
           have hnb178 := NB1118_1128.out
           have hnc178 := NB1128_1118.out
           have hcz179_0 : w99.cell? ⟨gb1118, 0, none⟩ = some (.slice Ao89 t1109.length co89) := (blk_cell BK1118.out 0).trans rfl
           have hcz179_1 : w99.cell? ⟨gb1118, 1, none⟩ = some (.int .u8 t1112) := (blk_cell BK1118.out 1).trans rfl
           have hcz179_2 : w99.cell? ⟨gb1118, 2, none⟩ = some (.int .u8 t1113) := (blk_cell BK1118.out 2).trans rfl
           have hfz179_0 := blk_frozen BK1118.out 0
           have hfz179_1 := blk_frozen BK1118.out 1
           have hfz179_2 := blk_frozen BK1118.out 2
           have hnb180 := NB1128_1086.out
           have hnc180 := NB1086_1128.out
           have hnb181 := NB1128_1087.out
           have hnc181 := NB1087_1128.out
           have hnb182 := NB1128_1098.out
           have hnc182 := NB1098_1128.out
           have hnb183 := NB1128_1108.out
           have hnc183 := NB1108_1128.out
           have hcz184_0 : w99.cell? ⟨gb1128, 0, none⟩ = some (.slice none 0 0) := (blk_cell BK1128.out 0).trans rfl
           have hcz184_1 : w99.cell? ⟨gb1128, 1, none⟩ = some (.int .u8 0) := (blk_cell BK1128.out 1).trans rfl
           have hcz184_2 : w99.cell? ⟨gb1128, 2, none⟩ = some (.int .u8 0) := (blk_cell BK1128.out 2).trans rfl
           have hfz184_0 := blk_frozen BK1128.out 0
           have hfz184_1 := blk_frozen BK1128.out 1
           have hfz184_2 := blk_frozen BK1128.out 2
           go_wp2
           repeat (go_quiet (fail); try go_wp2)
           go_meet
           case rel => exact ⟨_, (true), (by first | rfl | (simp; done) | (simp [*]; done)), H', ⟨by have := HJ7.out; have := HJ36.out; first | omega | exact Nat.le_refl _⟩, ⟨by (with_reducible repeat (first | apply Kd.R_alloc | apply Kd.R_drewN | apply Kd.R_drew)); exact Kd.R_mono (Kd.R_far (p := ⟨gb1128, 2, none⟩) (Kd.R_far (p := ⟨gb1128, 1, none⟩) (Kd.R_far (p := ⟨gb1128, 0, none⟩) (Kd.R_types HO1116.out BK1128.out (by decide)) (fun _ hk => hk.2) (.slice Ao100 t1119.length co100)) (fun _ hk => hk.2) (.int .u8 t1122)) (fun _ hk => hk.2) (.int .u8 t1123)) (fun _ hk => ⟨hk.1.2, ⟨hk.1.1.1.1.2, ⟨hk.1.1.1.2, ⟨hk.1.1.1.1.1, hk.1.1.2⟩⟩⟩⟩)⟩, ⟨by (with_reducible repeat (first | apply Kd.R_alloc | apply Kd.R_drewN | apply Kd.R_drew)); exact Kd.R_mono (Kd.R_far (p := ⟨gb1128, 2, none⟩) (Kd.R_far (p := ⟨gb1128, 1, none⟩) (Kd.R_far (p := ⟨gb1128, 0, none⟩) (Kd.R_types HO1126.out BK1128.out (by decide)) (fun _ hk => hk.2) (.slice Ao100 t1119.length co100)) (fun _ hk => hk.2) (.int .u8 t1122)) (fun _ hk => hk.2) (.int .u8 t1123)) (fun _ hk => ⟨hk.1.2, ⟨hk.1.1.1.1.2, ⟨hk.1.1.1.2, ⟨hk.1.1.2, hk.1.1.1.1.1⟩⟩⟩⟩)⟩, ⟨by (with_reducible repeat (first | apply Kd.R_alloc | apply Kd.R_drewN | apply Kd.R_drew)); exact Kd.R_mono (Kd.R_far (p := ⟨gb1128, 2, none⟩) (Kd.R_far (p := ⟨gb1128, 1, none⟩) (Kd.R_far (p := ⟨gb1128, 0, none⟩) (Kd.R_types HO_1099000.out BK1128.out (by decide)) (fun _ hk => hk.2) (.slice Ao100 t1119.length co100)) (fun _ hk => hk.2) (.int .u8 t1122)) (fun _ hk => hk.2) (.int .u8 t1123)) (fun _ hk => ⟨hk.1.1.1.2, ⟨hk.1.2, ⟨hk.1.1.1.1.1, ⟨hk.1.1.1.1.2, hk.1.1.2⟩⟩⟩⟩)⟩, ⟨by (with_reducible repeat (first | apply Kd.R_alloc | apply Kd.R_drewN | apply Kd.R_drew)); exact Kd.R_mono (Kd.R_far (p := ⟨gb1128, 2, none⟩) (Kd.R_far (p := ⟨gb1128, 1, none⟩) (Kd.R_far (p := ⟨gb1128, 0, none⟩) (Kd.R_types HO_1109000.out BK1128.out (by decide)) (fun _ hk => hk.2) (.slice Ao100 t1119.length co100)) (fun _ hk => hk.2) (.int .u8 t1122)) (fun _ hk => hk.2) (.int .u8 t1123)) (fun _ hk => ⟨hk.1.1.1.2, ⟨hk.1.2, ⟨hk.1.1.1.1.1, ⟨hk.1.1.1.1.2, hk.1.1.2⟩⟩⟩⟩)⟩, ⟨by (with_reducible repeat (first | apply Kd.R_alloc | apply Kd.R_drewN | apply Kd.R_drew)); exact Kd.R_mono (Kd.R_far (p := ⟨gb1128, 2, none⟩) (Kd.R_far (p := ⟨gb1128, 1, none⟩) (Kd.R_far (p := ⟨gb1128, 0, none⟩) (Kd.R_types HO1111.out BK1128.out (by decide)) (fun _ hk => hk.2) (.slice Ao100 t1119.length co100)) (fun _ hk => hk.2) (.int .u8 t1122)) (fun _ hk => hk.2) (.int .u8 t1123)) (fun _ hk => ⟨hk.1.1.1.1.1, ⟨hk.1.2, ⟨hk.1.1.1.1.2, ⟨hk.1.1.1.2, hk.1.1.2⟩⟩⟩⟩)⟩, ⟨by (with_reducible repeat (first | apply Kd.R_alloc | apply Kd.R_drewN | apply Kd.R_drew)); exact Kd.R_mono (Kd.R_far (p := ⟨gb1128, 2, none⟩) (Kd.R_far (p := ⟨gb1128, 1, none⟩) (Kd.R_far (p := ⟨gb1128, 0, none⟩) (Kd.R_types HO1121.out BK1128.out (by decide)) (fun _ hk => hk.2) (.slice Ao100 t1119.length co100)) (fun _ hk => hk.2) (.int .u8 t1122)) (fun _ hk => hk.2) (.int .u8 t1123)) (fun _ hk => ⟨hk.1.2, ⟨hk.1.1.1.1.1, ⟨hk.1.1.1.1.2, ⟨hk.1.1.1.2, hk.1.1.2⟩⟩⟩⟩)⟩, ⟨by (with_reducible repeat (first | refine blk_drewN ?_ _ | refine blk_drew ?_ | refine blk_alloc ?_ _)); refine blk_far ?_ NB1086_1128.out _; (with_reducible repeat (first | refine blk_drewN ?_ _ | refine blk_drew ?_ | refine blk_alloc ?_ _)); refine blk_far ?_ NB1086_1128.out _; (with_reducible repeat (first | refine blk_drewN ?_ _ | refine blk_drew ?_ | refine blk_alloc ?_ _)); refine blk_far ?_ NB1086_1128.out _; (with_reducible repeat (first | refine blk_drewN ?_ _ | refine blk_drew ?_ | refine blk_alloc ?_ _)); exact BK1086.out⟩, ⟨by (with_reducible repeat (first | refine blk_drewN ?_ _ | refine blk_drew ?_ | refine blk_alloc ?_ _)); refine blk_far ?_ NB1087_1128.out _; (with_reducible repeat (first | refine blk_drewN ?_ _ | refine blk_drew ?_ | refine blk_alloc ?_ _)); refine blk_far ?_ NB1087_1128.out _; (with_reducible repeat (first | refine blk_drewN ?_ _ | refine blk_drew ?_ | refine blk_alloc ?_ _)); refine blk_far ?_ NB1087_1128.out _; (with_reducible repeat (first | refine blk_drewN ?_ _ | refine blk_drew ?_ | refine blk_alloc ?_ _)); exact BK1087.out⟩, ⟨by (with_reducible repeat (first | refine blk_drewN ?_ _ | refine blk_drew ?_ | refine blk_alloc ?_ _)); refine blk_far ?_ NB1098_1128.out _; (with_reducible repeat (first | refine blk_drewN ?_ _ | refine blk_drew ?_ | refine blk_alloc ?_ _)); refine blk_far ?_ NB1098_1128.out _; (with_reducible repeat (first | refine blk_drewN ?_ _ | refine blk_drew ?_ | refine blk_alloc ?_ _)); refine blk_far ?_ NB1098_1128.out _; (with_reducible repeat (first | refine blk_drewN ?_ _ | refine blk_drew ?_ | refine blk_alloc ?_ _)); exact BK1098.out⟩, ⟨by (with_reducible repeat (first | refine blk_drewN ?_ _ | refine blk_drew ?_ | refine blk_alloc ?_ _)); refine blk_far ?_ NB1108_1128.out _; (with_reducible repeat (first | refine blk_drewN ?_ _ | refine blk_drew ?_ | refine blk_alloc ?_ _)); refine blk_far ?_ NB1108_1128.out _; (with_reducible repeat (first | refine blk_drewN ?_ _ | refine blk_drew ?_ | refine blk_alloc ?_ _)); refine blk_far ?_ NB1108_1128.out _; (with_reducible repeat (first | refine blk_drewN ?_ _ | refine blk_drew ?_ | refine blk_alloc ?_ _)); exact BK1108.out⟩, ⟨by (with_reducible repeat (first | refine blk_drewN ?_ _ | refine blk_drew ?_ | refine blk_alloc ?_ _)); refine blk_far ?_ NB1118_1128.out _; (with_reducible repeat (first | refine blk_drewN ?_ _ | refine blk_drew ?_ | refine blk_alloc ?_ _)); refine blk_far ?_ NB1118_1128.out _; (with_reducible repeat (first | refine blk_drewN ?_ _ | refine blk_drew ?_ | refine blk_alloc ?_ _)); refine blk_far ?_ NB1118_1128.out _; (with_reducible repeat (first | refine blk_drewN ?_ _ | refine blk_drew ?_ | refine blk_alloc ?_ _)); exact BK1118.out⟩, ⟨by (with_reducible repeat (first | refine blk_drewN ?_ _ | refine blk_drew ?_ | refine blk_alloc ?_ _)); refine blk_put (cs := #[.slice Ao100 t1119.length co100, .int .u8 t1122, .int .u8 0]) ?_ 2 _ rfl; (with_reducible repeat (first | refine blk_drewN ?_ _ | refine blk_drew ?_ | refine blk_alloc ?_ _)); refine blk_put (cs := #[.slice Ao100 t1119.length co100, .int .u8 0, .int .u8 0]) ?_ 1 _ rfl; (with_reducible repeat (first | refine blk_drewN ?_ _ | refine blk_drew ?_ | refine blk_alloc ?_ _)); refine blk_put (cs := #[.slice none 0 0, .int .u8 0, .int .u8 0]) ?_ 0 _ rfl; (with_reducible repeat (first | refine blk_drewN ?_ _ | refine blk_drew ?_ | refine blk_alloc ?_ _)); exact BK1128.out⟩, ⟨by repeat (first | (with_reducible first | exact HB.out | apply below_alloc | apply pw_below_drewN | apply below_drew1 | refine below_set ?_ GE1086.out | refine below_set ?_ GE1087.out | refine below_set ?_ GE1098.out | refine below_set ?_ GE1108.out | refine below_set ?_ GE1118.out | refine below_set ?_ GE1128.out) | exact HB.out)⟩⟩
         ·rw [if_neg c108] at H
          have c108b0 : ((t1114.length : Int) == (t1124.length : Int)) = false := beq_eq_false_iff_ne.mpr c108
          have c108b1 : ((t1114.length : Int) != (t1124.length : Int)) = true := bne_iff_ne.mpr c108
          have c108b2 : (t1114.length == t1124.length) = false := by first | simpa using c108 | (simp at c108 ⊢; omega)
          have H' := Aside0.mk H
          clear H
          obtain ⟨Ao185, co185, eo185⟩ := Kd.R_slice HO1116.out
          subst eo185
          obtain ⟨Ao186, co186, eo186⟩ := Kd.R_slice HO1126.out
          subst eo186
          go_wp2
          repeat (go_quiet (fail); try go_wp2)
          go_meet
          case rel => exact ⟨_, (true), (by first | rfl | (simp; done) | (simp [*]; done)), H', ⟨by have := HJ7.out; have := HJ36.out; first | omega | exact Nat.le_refl _⟩, ⟨by (with_reducible repeat (first | apply Kd.R_alloc | apply Kd.R_drewN | apply Kd.R_drew)); exact Kd.R_mono (Kd.R_far (p := ⟨gb1128, 2, none⟩) (Kd.R_far (p := ⟨gb1128, 1, none⟩) (Kd.R_far (p := ⟨gb1128, 0, none⟩) (Kd.R_types HO1116.out BK1128.out (by decide)) (fun _ hk => hk.2) (.slice Ao100 t1119.length co100)) (fun _ hk => hk.2) (.int .u8 t1122)) (fun _ hk => hk.2) (.int .u8 t1123)) (fun _ hk => ⟨hk.1.2, ⟨hk.1.1.1.1.2, ⟨hk.1.1.1.2, ⟨hk.1.1.1.1.1, hk.1.1.2⟩⟩⟩⟩)⟩, ⟨by (with_reducible repeat (first | apply Kd.R_alloc | apply Kd.R_drewN | apply Kd.R_drew)); exact Kd.R_mono (Kd.R_far (p := ⟨gb1128, 2, none⟩) (Kd.R_far (p := ⟨gb1128, 1, none⟩) (Kd.R_far (p := ⟨gb1128, 0, none⟩) (Kd.R_types HO1126.out BK1128.out (by decide)) (fun _ hk => hk.2) (.slice Ao100 t1119.length co100)) (fun _ hk => hk.2) (.int .u8 t1122)) (fun _ hk => hk.2) (.int .u8 t1123)) (fun _ hk => ⟨hk.1.2, ⟨hk.1.1.1.1.2, ⟨hk.1.1.1.2, ⟨hk.1.1.2, hk.1.1.1.1.1⟩⟩⟩⟩)⟩, ⟨by (with_reducible repeat (first | apply Kd.R_alloc | apply Kd.R_drewN | apply Kd.R_drew)); exact Kd.R_mono (Kd.R_far (p := ⟨gb1128, 2, none⟩) (Kd.R_far (p := ⟨gb1128, 1, none⟩) (Kd.R_far (p := ⟨gb1128, 0, none⟩) (Kd.R_types HO_1099000.out BK1128.out (by decide)) (fun _ hk => hk.2) (.slice Ao100 t1119.length co100)) (fun _ hk => hk.2) (.int .u8 t1122)) (fun _ hk => hk.2) (.int .u8 t1123)) (fun _ hk => ⟨hk.1.1.1.2, ⟨hk.1.2, ⟨hk.1.1.1.1.1, ⟨hk.1.1.1.1.2, hk.1.1.2⟩⟩⟩⟩)⟩, ⟨by (with_reducible repeat (first | apply Kd.R_alloc | apply Kd.R_drewN | apply Kd.R_drew)); exact Kd.R_mono (Kd.R_far (p := ⟨gb1128, 2, none⟩) (Kd.R_far (p := ⟨gb1128, 1, none⟩) (Kd.R_far (p := ⟨gb1128, 0, none⟩) (Kd.R_types HO_1109000.out BK1128.out (by decide)) (fun _ hk => hk.2) (.slice Ao100 t1119.length co100)) (fun _ hk => hk.2) (.int .u8 t1122)) (fun _ hk => hk.2) (.int .u8 t1123)) (fun _ hk => ⟨hk.1.1.1.2, ⟨hk.1.2, ⟨hk.1.1.1.1.1, ⟨hk.1.1.1.1.2, hk.1.1.2⟩⟩⟩⟩)⟩, ⟨by (with_reducible repeat (first | apply Kd.R_alloc | apply Kd.R_drewN | apply Kd.R_drew)); exact Kd.R_mono (Kd.R_far (p := ⟨gb1128, 2, none⟩) (Kd.R_far (p := ⟨gb1128, 1, none⟩) (Kd.R_far (p := ⟨gb1128, 0, none⟩) (Kd.R_types HO1111.out BK1128.out (by decide)) (fun _ hk => hk.2) (.slice Ao100 t1119.length co100)) (fun _ hk => hk.2) (.int .u8 t1122)) (fun _ hk => hk.2) (.int .u8 t1123)) (fun _ hk => ⟨hk.1.1.1.1.1, ⟨hk.1.2, ⟨hk.1.1.1.1.2, ⟨hk.1.1.1.2, hk.1.1.2⟩⟩⟩⟩)⟩, ⟨by (with_reducible repeat (first | apply Kd.R_alloc | apply Kd.R_drewN | apply Kd.R_drew)); exact Kd.R_mono (Kd.R_far (p := ⟨gb1128, 2, none⟩) (Kd.R_far (p := ⟨gb1128, 1, none⟩) (Kd.R_far (p := ⟨gb1128, 0, none⟩) (Kd.R_types HO1121.out BK1128.out (by decide)) (fun _ hk => hk.2) (.slice Ao100 t1119.length co100)) (fun _ hk => hk.2) (.int .u8 t1122)) (fun _ hk => hk.2) (.int .u8 t1123)) (fun _ hk => ⟨hk.1.2, ⟨hk.1.1.1.1.1, ⟨hk.1.1.1.1.2, ⟨hk.1.1.1.2, hk.1.1.2⟩⟩⟩⟩)⟩, ⟨by (with_reducible repeat (first | refine blk_drewN ?_ _ | refine blk_drew ?_ | refine blk_alloc ?_ _)); refine blk_far ?_ NB1086_1128.out _; (with_reducible repeat (first | refine blk_drewN ?_ _ | refine blk_drew ?_ | refine blk_alloc ?_ _)); refine blk_far ?_ NB1086_1128.out _; (with_reducible repeat (first | refine blk_drewN ?_ _ | refine blk_drew ?_ | refine blk_alloc ?_ _)); refine blk_far ?_ NB1086_1128.out _; (with_reducible repeat (first | refine blk_drewN ?_ _ | refine blk_drew ?_ | refine blk_alloc ?_ _)); exact BK1086.out⟩, ⟨by (with_reducible repeat (first | refine blk_drewN ?_ _ | refine blk_drew ?_ | refine blk_alloc ?_ _)); refine blk_far ?_ NB1087_1128.out _; (with_reducible repeat (first | refine blk_drewN ?_ _ | refine blk_drew ?_ | refine blk_alloc ?_ _)); refine blk_far ?_ NB1087_1128.out _; (with_reducible repeat (first | refine blk_drewN ?_ _ | refine blk_drew ?_ | refine blk_alloc ?_ _)); refine blk_far ?_ NB1087_1128.out _; (with_reducible repeat (first | refine blk_drewN ?_ _ | refine blk_drew ?_ | refine blk_alloc ?_ _)); exact BK1087.out⟩, ⟨by (with_reducible repeat (first | refine blk_drewN ?_ _ | refine blk_drew ?_ | refine blk_alloc ?_ _)); refine blk_far ?_ NB1098_1128.out _; (with_reducible repeat (first | refine blk_drewN ?_ _ | refine blk_drew ?_ | refine blk_alloc ?_ _)); refine blk_far ?_ NB1098_1128.out _; (with_reducible repeat (first | refine blk_drewN ?_ _ | refine blk_drew ?_ | refine blk_alloc ?_ _)); refine blk_far ?_ NB1098_1128.out _; (with_reducible repeat (first | refine blk_drewN ?_ _ | refine blk_drew ?_ | refine blk_alloc ?_ _)); exact BK1098.out⟩, ⟨by (with_reducible repeat (first | refine blk_drewN ?_ _ | refine blk_drew ?_ | refine blk_alloc ?_ _)); refine blk_far ?_ NB1108_1128.out _; (with_reducible repeat (first | refine blk_drewN ?_ _ | refine blk_drew ?_ | refine blk_alloc ?_ _)); refine blk_far ?_ NB1108_1128.out _; (with_reducible repeat (first | refine blk_drewN ?_ _ | refine blk_drew ?_ | refine blk_alloc ?_ _)); refine blk_far ?_ NB1108_1128.out _; (with_reducible repeat (first | refine blk_drewN ?_ _ | refine blk_drew ?_ | refine blk_alloc ?_ _)); exact BK1108.out⟩, ⟨by (with_reducible repeat (first | refine blk_drewN ?_ _ | refine blk_drew ?_ | refine blk_alloc ?_ _)); refine blk_far ?_ NB1118_1128.out _; (with_reducible repeat (first | refine blk_drewN ?_ _ | refine blk_drew ?_ | refine blk_alloc ?_ _)); refine blk_far ?_ NB1118_1128.out _; (with_reducible repeat (first | refine blk_drewN ?_ _ | refine blk_drew ?_ | refine blk_alloc ?_ _)); refine blk_far ?_ NB1118_1128.out _; (with_reducible repeat (first | refine blk_drewN ?_ _ | refine blk_drew ?_ | refine blk_alloc ?_ _)); exact BK1118.out⟩, ⟨by (with_reducible repeat (first | refine blk_drewN ?_ _ | refine blk_drew ?_ | refine blk_alloc ?_ _)); refine blk_put (cs := #[.slice Ao100 t1119.length co100, .int .u8 t1122, .int .u8 0]) ?_ 2 _ rfl; (with_reducible repeat (first | refine blk_drewN ?_ _ | refine blk_drew ?_ | refine blk_alloc ?_ _)); refine blk_put (cs := #[.slice Ao100 t1119.length co100, .int .u8 0, .int .u8 0]) ?_ 1 _ rfl; (with_reducible repeat (first | refine blk_drewN ?_ _ | refine blk_drew ?_ | refine blk_alloc ?_ _)); refine blk_put (cs := #[.slice none 0 0, .int .u8 0, .int .u8 0]) ?_ 0 _ rfl; (with_reducible repeat (first | refine blk_drewN ?_ _ | refine blk_drew ?_ | refine blk_alloc ?_ _)); exact BK1128.out⟩, ⟨by repeat (first | (with_reducible first | exact HB.out | apply below_alloc | apply pw_below_drewN | apply below_drew1 | refine below_set ?_ GE1086.out | refine below_set ?_ GE1087.out | refine below_set ?_ GE1098.out | refine below_set ?_ GE1108.out | refine below_set ?_ GE1118.out | refine below_set ?_ GE1128.out) | exact HB.out)⟩⟩
        ·rw [if_neg c107] at H
         have c107b0 : (t1117 == t1127) = false := beq_eq_false_iff_ne.mpr c107
         have c107b1 : (t1117 != t1127) = true := bne_iff_ne.mpr c107
         (first | rw [c107b0] | (simp only [i64_w, i32_w]; rw [c107b0]) | skip)
         have H' := Aside0.mk H
         clear H
         go_wp2
         repeat (go_quiet (fail); try go_wp2)
         go_meet
         case rel => exact ⟨_, (true), (by first | rfl | (simp; done) | (simp [*]; done)), H', ⟨by have := HJ7.out; have := HJ36.out; first | omega | exact Nat.le_refl _⟩, ⟨by (with_reducible repeat (first | apply Kd.R_alloc | apply Kd.R_drewN | apply Kd.R_drew)); exact Kd.R_mono (Kd.R_far (p := ⟨gb1128, 2, none⟩) (Kd.R_far (p := ⟨gb1128, 1, none⟩) (Kd.R_far (p := ⟨gb1128, 0, none⟩) (Kd.R_types HO1116.out BK1128.out (by decide)) (fun _ hk => hk.2) (.slice Ao100 t1119.length co100)) (fun _ hk => hk.2) (.int .u8 t1122)) (fun _ hk => hk.2) (.int .u8 t1123)) (fun _ hk => ⟨hk.1.2, ⟨hk.1.1.1.1.2, ⟨hk.1.1.1.2, ⟨hk.1.1.1.1.1, hk.1.1.2⟩⟩⟩⟩)⟩, ⟨by (with_reducible repeat (first | apply Kd.R_alloc | apply Kd.R_drewN | apply Kd.R_drew)); exact Kd.R_mono (Kd.R_far (p := ⟨gb1128, 2, none⟩) (Kd.R_far (p := ⟨gb1128, 1, none⟩) (Kd.R_far (p := ⟨gb1128, 0, none⟩) (Kd.R_types HO1126.out BK1128.out (by decide)) (fun _ hk => hk.2) (.slice Ao100 t1119.length co100)) (fun _ hk => hk.2) (.int .u8 t1122)) (fun _ hk => hk.2) (.int .u8 t1123)) (fun _ hk => ⟨hk.1.2, ⟨hk.1.1.1.1.2, ⟨hk.1.1.1.2, ⟨hk.1.1.2, hk.1.1.1.1.1⟩⟩⟩⟩)⟩, ⟨by (with_reducible repeat (first | apply Kd.R_alloc | apply Kd.R_drewN | apply Kd.R_drew)); exact Kd.R_mono (Kd.R_far (p := ⟨gb1128, 2, none⟩) (Kd.R_far (p := ⟨gb1128, 1, none⟩) (Kd.R_far (p := ⟨gb1128, 0, none⟩) (Kd.R_types HO_1099000.out BK1128.out (by decide)) (fun _ hk => hk.2) (.slice Ao100 t1119.length co100)) (fun _ hk => hk.2) (.int .u8 t1122)) (fun _ hk => hk.2) (.int .u8 t1123)) (fun _ hk => ⟨hk.1.1.1.2, ⟨hk.1.2, ⟨hk.1.1.1.1.1, ⟨hk.1.1.1.1.2, hk.1.1.2⟩⟩⟩⟩)⟩, ⟨by (with_reducible repeat (first | apply Kd.R_alloc | apply Kd.R_drewN | apply Kd.R_drew)); exact Kd.R_mono (Kd.R_far (p := ⟨gb1128, 2, none⟩) (Kd.R_far (p := ⟨gb1128, 1, none⟩) (Kd.R_far (p := ⟨gb1128, 0, none⟩) (Kd.R_types HO_1109000.out BK1128.out (by decide)) (fun _ hk => hk.2) (.slice Ao100 t1119.length co100)) (fun _ hk => hk.2) (.int .u8 t1122)) (fun _ hk => hk.2) (.int .u8 t1123)) (fun _ hk => ⟨hk.1.1.1.2, ⟨hk.1.2, ⟨hk.1.1.1.1.1, ⟨hk.1.1.1.1.2, hk.1.1.2⟩⟩⟩⟩)⟩, ⟨by (with_reducible repeat (first | apply Kd.R_alloc | apply Kd.R_drewN | apply Kd.R_drew)); exact Kd.R_mono (Kd.R_far (p := ⟨gb1128, 2, none⟩) (Kd.R_far (p := ⟨gb1128, 1, none⟩) (Kd.R_far (p := ⟨gb1128, 0, none⟩) (Kd.R_types HO1111.out BK1128.out (by decide)) (fun _ hk => hk.2) (.slice Ao100 t1119.length co100)) (fun _ hk => hk.2) (.int .u8 t1122)) (fun _ hk => hk.2) (.int .u8 t1123)) (fun _ hk => ⟨hk.1.1.1.1.1, ⟨hk.1.2, ⟨hk.1.1.1.1.2, ⟨hk.1.1.1.2, hk.1.1.2⟩⟩⟩⟩)⟩, ⟨by (with_reducible repeat (first | apply Kd.R_alloc | apply Kd.R_drewN | apply Kd.R_drew)); exact Kd.R_mono (Kd.R_far (p := ⟨gb1128, 2, none⟩) (Kd.R_far (p := ⟨gb1128, 1, none⟩) (Kd.R_far (p := ⟨gb1128, 0, none⟩) (Kd.R_types HO1121.out BK1128.out (by decide)) (fun _ hk => hk.2) (.slice Ao100 t1119.length co100)) (fun _ hk => hk.2) (.int .u8 t1122)) (fun _ hk => hk.2) (.int .u8 t1123)) (fun _ hk => ⟨hk.1.2, ⟨hk.1.1.1.1.1, ⟨hk.1.1.1.1.2, ⟨hk.1.1.1.2, hk.1.1.2⟩⟩⟩⟩)⟩, ⟨by (with_reducible repeat (first | refine blk_drewN ?_ _ | refine blk_drew ?_ | refine blk_alloc ?_ _)); refine blk_far ?_ NB1086_1128.out _; (with_reducible repeat (first | refine blk_drewN ?_ _ | refine blk_drew ?_ | refine blk_alloc ?_ _)); refine blk_far ?_ NB1086_1128.out _; (with_reducible repeat (first | refine blk_drewN ?_ _ | refine blk_drew ?_ | refine blk_alloc ?_ _)); refine blk_far ?_ NB1086_1128.out _; (with_reducible repeat (first | refine blk_drewN ?_ _ | refine blk_drew ?_ | refine blk_alloc ?_ _)); exact BK1086.out⟩, ⟨by (with_reducible repeat (first | refine blk_drewN ?_ _ | refine blk_drew ?_ | refine blk_alloc ?_ _)); refine blk_far ?_ NB1087_1128.out _; (with_reducible repeat (first | refine blk_drewN ?_ _ | refine blk_drew ?_ | refine blk_alloc ?_ _)); refine blk_far ?_ NB1087_1128.out _; (with_reducible repeat (first | refine blk_drewN ?_ _ | refine blk_drew ?_ | refine blk_alloc ?_ _)); refine blk_far ?_ NB1087_1128.out _; (with_reducible repeat (first | refine blk_drewN ?_ _ | refine blk_drew ?_ | refine blk_alloc ?_ _)); exact BK1087.out⟩, ⟨by (with_reducible repeat (first | refine blk_drewN ?_ _ | refine blk_drew ?_ | refine blk_alloc ?_ _)); refine blk_far ?_ NB1098_1128.out _; (with_reducible repeat (first | refine blk_drewN ?_ _ | refine blk_drew ?_ | refine blk_alloc ?_ _)); refine blk_far ?_ NB1098_1128.out _; (with_reducible repeat (first | refine blk_drewN ?_ _ | refine blk_drew ?_ | refine blk_alloc ?_ _)); refine blk_far ?_ NB1098_1128.out _; (with_reducible repeat (first | refine blk_drewN ?_ _ | refine blk_drew ?_ | refine blk_alloc ?_ _)); exact BK1098.out⟩, ⟨by (with_reducible repeat (first | refine blk_drewN ?_ _ | refine blk_drew ?_ | refine blk_alloc ?_ _)); refine blk_far ?_ NB1108_1128.out _; (with_reducible repeat (first | refine blk_drewN ?_ _ | refine blk_drew ?_ | refine blk_alloc ?_ _)); refine blk_far ?_ NB1108_1128.out _; (with_reducible repeat (first | refine blk_drewN ?_ _ | refine blk_drew ?_ | refine blk_alloc ?_ _)); refine blk_far ?_ NB1108_1128.out _; (with_reducible repeat (first | refine blk_drewN ?_ _ | refine blk_drew ?_ | refine blk_alloc ?_ _)); exact BK1108.out⟩, ⟨by (with_reducible repeat (first | refine blk_drewN ?_ _ | refine blk_drew ?_ | refine blk_alloc ?_ _)); refine blk_far ?_ NB1118_1128.out _; (with_reducible repeat (first | refine blk_drewN ?_ _ | refine blk_drew ?_ | refine blk_alloc ?_ _)); refine blk_far ?_ NB1118_1128.out _; (with_reducible repeat (first | refine blk_drewN ?_ _ | refine blk_drew ?_ | refine blk_alloc ?_ _)); refine blk_far ?_ NB1118_1128.out _; (with_reducible repeat (first | refine blk_drewN ?_ _ | refine blk_drew ?_ | refine blk_alloc ?_ _)); exact BK1118.out⟩, ⟨by (with_reducible repeat (first | refine blk_drewN ?_ _ | refine blk_drew ?_ | refine blk_alloc ?_ _)); refine blk_put (cs := #[.slice Ao100 t1119.length co100, .int .u8 t1122, .int .u8 0]) ?_ 2 _ rfl; (with_reducible repeat (first | refine blk_drewN ?_ _ | refine blk_drew ?_ | refine blk_alloc ?_ _)); refine blk_put (cs := #[.slice Ao100 t1119.length co100, .int .u8 0, .int .u8 0]) ?_ 1 _ rfl; (with_reducible repeat (first | refine blk_drewN ?_ _ | refine blk_drew ?_ | refine blk_alloc ?_ _)); refine blk_put (cs := #[.slice none 0 0, .int .u8 0, .int .u8 0]) ?_ 0 _ rfl; (with_reducible repeat (first | refine blk_drewN ?_ _ | refine blk_drew ?_ | refine blk_alloc ?_ _)); exact BK1128.out⟩, ⟨by repeat (first | (with_reducible first | exact HB.out | apply below_alloc | apply pw_below_drewN | apply below_drew1 | refine below_set ?_ GE1086.out | refine below_set ?_ GE1087.out | refine below_set ?_ GE1098.out | refine below_set ?_ GE1108.out | refine below_set ?_ GE1118.out | refine below_set ?_ GE1128.out) | exact HB.out)⟩⟩
       case rest => as_aux_lemma =>
        clear HC82
        try clear c1
        try clear c2
        try clear p2
        try clear c3
        try clear c4
        try clear c5
        try clear c6
        try clear c7
        try clear c8
        try clear c9
        try clear c10
        try clear c11
        try clear c12
        try clear c12b0
        try clear c12b1
        try clear c13
        try clear c14
        try clear c15
        try clear c15b0
        try clear c15b1
        try clear c16
        try clear c17
        try clear c18
        try clear c19
        try clear c19b0
        try clear c19b1
        try clear c20
        try clear c23
        try clear c23b0
        try clear c23b1
        try clear c24
        try clear c27
        try clear c28
        try clear c31
        try clear c34
        try clear c38
        try clear c43
        try clear c44
        try clear c50
        try clear c51
        try clear c52
        try clear c54
        try clear c54b0
        try clear c54b1
        try clear c55
        try clear c56
        try clear c57
        try clear c57b0
        try clear c57b1
        try clear c58
        try clear c58b0
        try clear c58b1
        try clear c59
        try clear c60
        try clear c61
        try clear c63
        try clear c63b0
        try clear c63b1
        try clear c63b2
        try clear c64
        try clear c64b0
        try clear c64b1
        try clear c65
        try clear c66
        try clear c67
        try clear c69
        try clear c70
        try clear c71
        try clear c73
        try clear c74
        try clear c76
        try clear c77
        try clear c78
        try clear c83
        try clear c84
        try clear c85
        try clear c90
        try clear c91
        try clear c92
        try clear c93
        try clear c95
        try clear c96
        try clear c101
        try clear c102
        try clear c103
        try clear c104
        try clear c105
        try clear c107
        try clear c107b0
        try clear c107b1
        try clear c108
        try clear c108b0
        try clear c108b1
        try clear c108b2
        try clear c109
        try clear c109b0
        try clear c109b1
        try clear c109b2
        try clear c110
        try clear c110b0
        try clear c110b1
        try clear c110b2
        try clear c111
        try clear c111b0
        try clear c111b1
        try clear c114
        try clear c115
        try clear c116
        try clear c117
        try clear c118
        try clear c120
        try clear c121
        try clear c122
        try clear c123
        try clear c125
        try clear c126
        try clear c127
        try clear c129
        try clear c130
        try clear c134
        try clear c135
        try clear c136
        try clear c137
        try clear c138
        try clear c140
        try clear c141
        try clear c142
        try clear c143
        try clear c145
        try clear c146
        try clear c147
        try clear c149
        try clear c150
        try clear c154
        try clear c155
        try clear c156
        try clear c157
        try clear c158
        try clear c160
        try clear c161
        try clear c162
        try clear c163
        try clear c165
        try clear c166
        try clear c167
        try clear c169
        try clear c170
        try clear c174
        try clear c175
        try clear c176
        try clear c177
        try clear c178
        try clear c180
        try clear c181
        try clear c182
        try clear c183
        try clear hcz106_0
        try clear hcz106_1
        try clear hcz106_2
        try clear hcz119_0
        try clear hcz119_1
        try clear hcz119_2
        try clear hcz124_0
        try clear hcz124_1
        try clear hcz124_2
        try clear hcz128_0
        try clear hcz128_1
        try clear hcz128_2
        try clear hcz131_0
        try clear hcz131_1
        try clear hcz131_2
        try clear hcz139_0
        try clear hcz139_1
        try clear hcz139_2
        try clear hcz144_0
        try clear hcz144_1
        try clear hcz144_2
        try clear hcz148_0
        try clear hcz148_1
        try clear hcz148_2
        try clear hcz14_0
        try clear hcz14_1
        try clear hcz14_2
        try clear hcz151_0
        try clear hcz151_1
        try clear hcz151_2
        try clear hcz159_0
        try clear hcz159_1
        try clear hcz159_2
        try clear hcz164_0
        try clear hcz164_1
        try clear hcz164_2
        try clear hcz168_0
        try clear hcz168_1
        try clear hcz168_2
        try clear hcz171_0
        try clear hcz171_1
        try clear hcz171_2
        try clear hcz179_0
        try clear hcz179_1
        try clear hcz179_2
        try clear hcz17_0
        try clear hcz17_1
        try clear hcz17_2
        try clear hcz184_0
        try clear hcz184_1
        try clear hcz184_2
        try clear hcz18_0
        try clear hcz18_1
        try clear hcz18_2
        try clear hcz21_0
        try clear hcz21_1
        try clear hcz21_2
        try clear hcz22_0
        try clear hcz22_1
        try clear hcz22_2
        try clear hcz25_0
        try clear hcz25_1
        try clear hcz25_2
        try clear hcz26_0
        try clear hcz26_1
        try clear hcz26_2
        try clear hcz29_0
        try clear hcz29_1
        try clear hcz29_2
        try clear hcz30_0
        try clear hcz30_1
        try clear hcz30_2
        try clear hcz32_0
        try clear hcz32_1
        try clear hcz32_2
        try clear hcz33_0
        try clear hcz33_1
        try clear hcz33_2
        try clear hcz39_0
        try clear hcz39_1
        try clear hcz39_2
        try clear hcz45_0
        try clear hcz45_1
        try clear hcz45_2
        try clear hcz46_0
        try clear hcz46_1
        try clear hcz46_2
        try clear hcz53_0
        try clear hcz53_1
        try clear hcz53_2
        try clear hcz62_0
        try clear hcz62_1
        try clear hcz62_2
        try clear hcz68_0
        try clear hcz68_1
        try clear hcz68_2
        try clear hcz72_0
        try clear hcz72_1
        try clear hcz72_2
        try clear hcz75_0
        try clear hcz75_1
        try clear hcz75_2
        try clear hcz79_0
        try clear hcz79_1
        try clear hcz79_2
        try clear hcz86_0
        try clear hcz86_1
        try clear hcz86_2
        try clear hcz94_0
        try clear hcz94_1
        try clear hcz94_2
        try clear hcz97_0
        try clear hcz97_1
        try clear hcz97_2
        try clear hfz106_0
        try clear hfz106_1
        try clear hfz106_2
        try clear hfz119_0
        try clear hfz119_1
        try clear hfz119_2
        try clear hfz124_0
        try clear hfz124_1
        try clear hfz124_2
        try clear hfz128_0
        try clear hfz128_1
        try clear hfz128_2
        try clear hfz131_0
        try clear hfz131_1
        try clear hfz131_2
        try clear hfz139_0
        try clear hfz139_1
        try clear hfz139_2
        try clear hfz144_0
        try clear hfz144_1
        try clear hfz144_2
        try clear hfz148_0
        try clear hfz148_1
        try clear hfz148_2
        try clear hfz14_0
        try clear hfz14_1
        try clear hfz14_2
        try clear hfz151_0
        try clear hfz151_1
        try clear hfz151_2
        try clear hfz159_0
        try clear hfz159_1
        try clear hfz159_2
        try clear hfz164_0
        try clear hfz164_1
        try clear hfz164_2
        try clear hfz168_0
        try clear hfz168_1
        try clear hfz168_2
        try clear hfz171_0
        try clear hfz171_1
        try clear hfz171_2
        try clear hfz179_0
        try clear hfz179_1
        try clear hfz179_2
        try clear hfz17_0
        try clear hfz17_1
        try clear hfz17_2
        try clear hfz184_0
        try clear hfz184_1
        try clear hfz184_2
        try clear hfz18_0
        try clear hfz18_1
        try clear hfz18_2
        try clear hfz21_0
        try clear hfz21_1
        try clear hfz21_2
        try clear hfz22_0
        try clear hfz22_1
        try clear hfz22_2
        try clear hfz25_0
        try clear hfz25_1
        try clear hfz25_2
        try clear hfz26_0
        try clear hfz26_1
        try clear hfz26_2
        try clear hfz29_0
        try clear hfz29_1
        try clear hfz29_2
        try clear hfz30_0
        try clear hfz30_1
        try clear hfz30_2
        try clear hfz32_0
        try clear hfz32_1
        try clear hfz32_2
        try clear hfz33_0
        try clear hfz33_1
        try clear hfz33_2
        try clear hfz39_0
        try clear hfz39_1
        try clear hfz39_2
        try clear hfz45_0
        try clear hfz45_1
        try clear hfz45_2
        try clear hfz46_0
        try clear hfz46_1
        try clear hfz46_2
        try clear hfz53_0
        try clear hfz53_1
        try clear hfz53_2
        try clear hfz62_0
        try clear hfz62_1
        try clear hfz62_2
        try clear hfz68_0
        try clear hfz68_1
        try clear hfz68_2
        try clear hfz72_0
        try clear hfz72_1
        try clear hfz72_2
        try clear hfz75_0
        try clear hfz75_1
        try clear hfz75_2
        try clear hfz79_0
        try clear hfz79_1
        try clear hfz79_2
        try clear hfz86_0
        try clear hfz86_1
        try clear hfz86_2
        try clear hfz94_0
        try clear hfz94_1
        try clear hfz94_2
        try clear hfz97_0
        try clear hfz97_1
        try clear hfz97_2
        try clear p2
        obtain ⟨kq, x167_81, rfl, HA, HJ81, HO_21, HO_24, HO_1099000, HO_1109000, HO_1119000, HO_1129000, BK1086, BK1087, BK1098, BK1108, BK1118, BK1128, HB⟩ := hcut
        cases kq with
        | zero => exact absurd HA.out (by simp [reedpipelaw13_LapForgets.j2])
        | succ kj81 =>
         have H := HA.out
         clear HA
         simp only [reedpipelaw13_LapForgets.j2] at H
         by_cases c187 : x167_81 = true
         ·subst c187
          have H1 : (some false) = some r := by rw [if_pos rfl] at H; exact H
          clear H
          have H := H1
          clear H1
          obtain rfl := Option.some.inj H
          go_wp2
          repeat (go_quiet (fail); try go_wp2)
          go_ret
          exact ⟨by first | rfl | (simp [errW_none, errW_some] <;> rfl) | (simp [*, errW_none, errW_some] <;> rfl), by repeat (first | (with_reducible first | exact HB.out | apply below_alloc | apply pw_below_drewN | apply below_drew1 | refine below_set ?_ GE1086.out | refine below_set ?_ GE1087.out | refine below_set ?_ GE1098.out | refine below_set ?_ GE1108.out | refine below_set ?_ GE1118.out | refine below_set ?_ GE1128.out) | exact HB.out)⟩
         ·replace c187 := Bool.eq_false_iff.mpr c187
          subst c187
          have H1 : (reedpipelaw13_LapForgets.l0 kj81 t1088 t1114 t1124 0 t1089 t1092 t1093 t1099 t1102 t1103) = some r := by rw [if_neg (show ¬ (false = true) by decide)] at H; exact H
          clear H
          have H := H1
          clear H1
          have H' := Aside0.mk H
          clear H
          go_wp2
          repeat (go_quiet (fail); try go_wp2)
          go_loopg [26] kj81 (fun kq v26 w' => ∃ (x26_4 : Int), v26 = .int .i64 x26_4 ∧ Aside0 (reedpipelaw13_LapForgets.l0 kq t1088 t1114 t1124 x26_4 t1089 t1092 t1093 t1099 t1102 t1103 = some r) ∧ Aside0 (kq ≤ kj81) ∧ Aside0 (Kd.R (Kd.int .i64) 3 w' w.heap.size (fun k_ => some k_ ≠ (v1125 : Value).ownBlock ∧ some k_ ≠ ((.slice Ao42 t1089.length co42) : Value).ownBlock ∧ some k_ ≠ ((.slice Ao49 t1099.length co49) : Value).ownBlock ∧ some k_ ≠ ((.slice Ao89 t1109.length co89) : Value).ownBlock ∧ some k_ ≠ ((.slice Ao100 t1119.length co100) : Value).ownBlock) v1115 t1114) ∧ Aside0 (Kd.R (Kd.int .i64) 3 w' w.heap.size (fun k_ => some k_ ≠ (v1115 : Value).ownBlock ∧ some k_ ≠ ((.slice Ao42 t1089.length co42) : Value).ownBlock ∧ some k_ ≠ ((.slice Ao49 t1099.length co49) : Value).ownBlock ∧ some k_ ≠ ((.slice Ao89 t1109.length co89) : Value).ownBlock ∧ some k_ ≠ ((.slice Ao100 t1119.length co100) : Value).ownBlock) v1125 t1124) ∧ Aside0 (Kd.R (Kd.int .i64) 3 w' w.heap.size (fun k_ => some k_ ≠ (v1115 : Value).ownBlock ∧ some k_ ≠ (v1125 : Value).ownBlock ∧ some k_ ≠ ((.slice Ao49 t1099.length co49) : Value).ownBlock ∧ some k_ ≠ ((.slice Ao89 t1109.length co89) : Value).ownBlock ∧ some k_ ≠ ((.slice Ao100 t1119.length co100) : Value).ownBlock) (.slice Ao42 t1089.length co42) t1089) ∧ Aside0 (Kd.R (Kd.int .i64) 3 w' w.heap.size (fun k_ => some k_ ≠ (v1115 : Value).ownBlock ∧ some k_ ≠ (v1125 : Value).ownBlock ∧ some k_ ≠ ((.slice Ao42 t1089.length co42) : Value).ownBlock ∧ some k_ ≠ ((.slice Ao89 t1109.length co89) : Value).ownBlock ∧ some k_ ≠ ((.slice Ao100 t1119.length co100) : Value).ownBlock) (.slice Ao49 t1099.length co49) t1099) ∧ Aside0 (Kd.R (Kd.int .i64) 3 w' w.heap.size (fun k_ => some k_ ≠ (v1115 : Value).ownBlock ∧ some k_ ≠ (v1125 : Value).ownBlock ∧ some k_ ≠ ((.slice Ao42 t1089.length co42) : Value).ownBlock ∧ some k_ ≠ ((.slice Ao49 t1099.length co49) : Value).ownBlock ∧ some k_ ≠ ((.slice Ao100 t1119.length co100) : Value).ownBlock) (.slice Ao89 t1109.length co89) t1109) ∧ Aside0 (Kd.R (Kd.int .i64) 3 w' w.heap.size (fun k_ => some k_ ≠ (v1115 : Value).ownBlock ∧ some k_ ≠ (v1125 : Value).ownBlock ∧ some k_ ≠ ((.slice Ao42 t1089.length co42) : Value).ownBlock ∧ some k_ ≠ ((.slice Ao49 t1099.length co49) : Value).ownBlock ∧ some k_ ≠ ((.slice Ao89 t1109.length co89) : Value).ownBlock) (.slice Ao100 t1119.length co100) t1119) ∧ Aside0 (w'.heap[gb1086]? = some (.cells #[(.slice A0_0 l0_0.length c0_0), .int .u8 a0_1, .int .u8 a0_2] 31 (0, 0))) ∧ Aside0 (w'.heap[gb1087]? = some (.cells #[(.slice A1_0 l1_0.length c1_0), .int .u8 a1_1, .int .u8 a1_2] 31 (0, 0))) ∧ Aside0 (w'.heap[gb1098]? = some (.cells #[(.slice Ao42 t1089.length co42), .int .u8 t1092, .int .u8 t1093] 31 (0, 0))) ∧ Aside0 (w'.heap[gb1108]? = some (.cells #[(.slice Ao49 t1099.length co49), .int .u8 t1102, .int .u8 t1103] 31 (0, 0))) ∧ Aside0 (w'.heap[gb1118]? = some (.cells #[(.slice Ao89 t1109.length co89), .int .u8 t1112, .int .u8 t1113] 31 (0, 0))) ∧ Aside0 (w'.heap[gb1128]? = some (.cells #[(.slice Ao100 t1119.length co100), .int .u8 t1122, .int .u8 t1123] 31 (0, 0))) ∧ Aside0 (Below w.heap.size w w'))
          case atStart => exact ⟨(0), (by first | rfl | (simp; done) | (simp [*]; done)), H', ⟨Nat.le_refl _⟩, ⟨by (with_reducible repeat (first | apply Kd.R_alloc | apply Kd.R_drewN | apply Kd.R_drew)); exact HO_21.out⟩, ⟨by (with_reducible repeat (first | apply Kd.R_alloc | apply Kd.R_drewN | apply Kd.R_drew)); exact HO_24.out⟩, ⟨by (with_reducible repeat (first | apply Kd.R_alloc | apply Kd.R_drewN | apply Kd.R_drew)); exact HO_1099000.out⟩, ⟨by (with_reducible repeat (first | apply Kd.R_alloc | apply Kd.R_drewN | apply Kd.R_drew)); exact HO_1109000.out⟩, ⟨by (with_reducible repeat (first | apply Kd.R_alloc | apply Kd.R_drewN | apply Kd.R_drew)); exact HO_1119000.out⟩, ⟨by (with_reducible repeat (first | apply Kd.R_alloc | apply Kd.R_drewN | apply Kd.R_drew)); exact HO_1129000.out⟩, ⟨by (with_reducible repeat (first | refine blk_drewN ?_ _ | refine blk_drew ?_ | refine blk_alloc ?_ _)); exact BK1086.out⟩, ⟨by (with_reducible repeat (first | refine blk_drewN ?_ _ | refine blk_drew ?_ | refine blk_alloc ?_ _)); exact BK1087.out⟩, ⟨by (with_reducible repeat (first | refine blk_drewN ?_ _ | refine blk_drew ?_ | refine blk_alloc ?_ _)); exact BK1098.out⟩, ⟨by (with_reducible repeat (first | refine blk_drewN ?_ _ | refine blk_drew ?_ | refine blk_alloc ?_ _)); exact BK1108.out⟩, ⟨by (with_reducible repeat (first | refine blk_drewN ?_ _ | refine blk_drew ?_ | refine blk_alloc ?_ _)); exact BK1118.out⟩, ⟨by (with_reducible repeat (first | refine blk_drewN ?_ _ | refine blk_drew ?_ | refine blk_alloc ?_ _)); exact BK1128.out⟩, ⟨by repeat (first | (with_reducible first | exact HB.out | apply below_alloc | apply pw_below_drewN | apply below_drew1 | refine below_set ?_ GE1086.out | refine below_set ?_ GE1087.out | refine below_set ?_ GE1098.out | refine below_set ?_ GE1108.out | refine below_set ?_ GE1118.out | refine below_set ?_ GE1128.out) | exact HB.out)⟩⟩
          case round => as_aux_lemma =>
           clear H'
           try clear c1
           try clear c2
           try clear p2
           try clear c3
           try clear c4
           try clear c5
           try clear c6
           try clear c7
           try clear c8
           try clear c9
           try clear c10
           try clear c11
           try clear c12
           try clear c12b0
           try clear c12b1
           try clear c13
           try clear c14
           try clear c15
           try clear c15b0
           try clear c15b1
           try clear c16
           try clear c17
           try clear c18
           try clear c19
           try clear c19b0
           try clear c19b1
           try clear c20
           try clear c23
           try clear c23b0
           try clear c23b1
           try clear c24
           try clear c27
           try clear c28
           try clear c31
           try clear c34
           try clear c38
           try clear c43
           try clear c44
           try clear c50
           try clear c51
           try clear c52
           try clear c54
           try clear c54b0
           try clear c54b1
           try clear c55
           try clear c56
           try clear c57
           try clear c57b0
           try clear c57b1
           try clear c58
           try clear c58b0
           try clear c58b1
           try clear c59
           try clear c60
           try clear c61
           try clear c63
           try clear c63b0
           try clear c63b1
           try clear c63b2
           try clear c64
           try clear c64b0
           try clear c64b1
           try clear c65
           try clear c66
           try clear c67
           try clear c69
           try clear c70
           try clear c71
           try clear c73
           try clear c74
           try clear c76
           try clear c77
           try clear c78
           try clear c83
           try clear c84
           try clear c85
           try clear c90
           try clear c91
           try clear c92
           try clear c93
           try clear c95
           try clear c96
           try clear c101
           try clear c102
           try clear c103
           try clear c104
           try clear c105
           try clear c107
           try clear c107b0
           try clear c107b1
           try clear c108
           try clear c108b0
           try clear c108b1
           try clear c108b2
           try clear c109
           try clear c109b0
           try clear c109b1
           try clear c109b2
           try clear c110
           try clear c110b0
           try clear c110b1
           try clear c110b2
           try clear c111
           try clear c111b0
           try clear c111b1
           try clear c114
           try clear c115
           try clear c116
           try clear c117
           try clear c118
           try clear c120
           try clear c121
           try clear c122
           try clear c123
           try clear c125
           try clear c126
           try clear c127
           try clear c129
           try clear c130
           try clear c134
           try clear c135
           try clear c136
           try clear c137
           try clear c138
           try clear c140
           try clear c141
           try clear c142
           try clear c143
           try clear c145
           try clear c146
           try clear c147
           try clear c149
           try clear c150
           try clear c154
           try clear c155
           try clear c156
           try clear c157
           try clear c158
           try clear c160
           try clear c161
           try clear c162
           try clear c163
           try clear c165
           try clear c166
           try clear c167
           try clear c169
           try clear c170
           try clear c174
           try clear c175
           try clear c176
           try clear c177
           try clear c178
           try clear c180
           try clear c181
           try clear c182
           try clear c183
           try clear c187
           try clear hcz106_0
           try clear hcz106_1
           try clear hcz106_2
           try clear hcz119_0
           try clear hcz119_1
           try clear hcz119_2
           try clear hcz124_0
           try clear hcz124_1
           try clear hcz124_2
           try clear hcz128_0
           try clear hcz128_1
           try clear hcz128_2
           try clear hcz131_0
           try clear hcz131_1
           try clear hcz131_2
           try clear hcz139_0
           try clear hcz139_1
           try clear hcz139_2
           try clear hcz144_0
           try clear hcz144_1
           try clear hcz144_2
           try clear hcz148_0
           try clear hcz148_1
           try clear hcz148_2
           try clear hcz14_0
           try clear hcz14_1
           try clear hcz14_2
           try clear hcz151_0
           try clear hcz151_1
           try clear hcz151_2
           try clear hcz159_0
           try clear hcz159_1
           try clear hcz159_2
           try clear hcz164_0
           try clear hcz164_1
           try clear hcz164_2
           try clear hcz168_0
           try clear hcz168_1
           try clear hcz168_2
           try clear hcz171_0
           try clear hcz171_1
           try clear hcz171_2
           try clear hcz179_0
           try clear hcz179_1
           try clear hcz179_2
           try clear hcz17_0
           try clear hcz17_1
           try clear hcz17_2
           try clear hcz184_0
           try clear hcz184_1
           try clear hcz184_2
           try clear hcz18_0
           try clear hcz18_1
           try clear hcz18_2
           try clear hcz21_0
           try clear hcz21_1
           try clear hcz21_2
           try clear hcz22_0
           try clear hcz22_1
           try clear hcz22_2
           try clear hcz25_0
           try clear hcz25_1
           try clear hcz25_2
           try clear hcz26_0
           try clear hcz26_1
           try clear hcz26_2
           try clear hcz29_0
           try clear hcz29_1
           try clear hcz29_2
           try clear hcz30_0
           try clear hcz30_1
           try clear hcz30_2
           try clear hcz32_0
           try clear hcz32_1
           try clear hcz32_2
           try clear hcz33_0
           try clear hcz33_1
           try clear hcz33_2
           try clear hcz39_0
           try clear hcz39_1
           try clear hcz39_2
           try clear hcz45_0
           try clear hcz45_1
           try clear hcz45_2
           try clear hcz46_0
           try clear hcz46_1
           try clear hcz46_2
           try clear hcz53_0
           try clear hcz53_1
           try clear hcz53_2
           try clear hcz62_0
           try clear hcz62_1
           try clear hcz62_2
           try clear hcz68_0
           try clear hcz68_1
           try clear hcz68_2
           try clear hcz72_0
           try clear hcz72_1
           try clear hcz72_2
           try clear hcz75_0
           try clear hcz75_1
           try clear hcz75_2
           try clear hcz79_0
           try clear hcz79_1
           try clear hcz79_2
           try clear hcz86_0
           try clear hcz86_1
           try clear hcz86_2
           try clear hcz94_0
           try clear hcz94_1
           try clear hcz94_2
           try clear hcz97_0
           try clear hcz97_1
           try clear hcz97_2
           try clear hfz106_0
           try clear hfz106_1
           try clear hfz106_2
           try clear hfz119_0
           try clear hfz119_1
           try clear hfz119_2
           try clear hfz124_0
           try clear hfz124_1
           try clear hfz124_2
           try clear hfz128_0
           try clear hfz128_1
           try clear hfz128_2
           try clear hfz131_0
           try clear hfz131_1
           try clear hfz131_2
           try clear hfz139_0
           try clear hfz139_1
           try clear hfz139_2
           try clear hfz144_0
           try clear hfz144_1
           try clear hfz144_2
           try clear hfz148_0
           try clear hfz148_1
           try clear hfz148_2
           try clear hfz14_0
           try clear hfz14_1
           try clear hfz14_2
           try clear hfz151_0
           try clear hfz151_1
           try clear hfz151_2
           try clear hfz159_0
           try clear hfz159_1
           try clear hfz159_2
           try clear hfz164_0
           try clear hfz164_1
           try clear hfz164_2
           try clear hfz168_0
           try clear hfz168_1
           try clear hfz168_2
           try clear hfz171_0
           try clear hfz171_1
           try clear hfz171_2
           try clear hfz179_0
           try clear hfz179_1
           try clear hfz179_2
           try clear hfz17_0
           try clear hfz17_1
           try clear hfz17_2
           try clear hfz184_0
           try clear hfz184_1
           try clear hfz184_2
           try clear hfz18_0
           try clear hfz18_1
           try clear hfz18_2
           try clear hfz21_0
           try clear hfz21_1
           try clear hfz21_2
           try clear hfz22_0
           try clear hfz22_1
           try clear hfz22_2
           try clear hfz25_0
           try clear hfz25_1
           try clear hfz25_2
           try clear hfz26_0
           try clear hfz26_1
           try clear hfz26_2
           try clear hfz29_0
           try clear hfz29_1
           try clear hfz29_2
           try clear hfz30_0
           try clear hfz30_1
           try clear hfz30_2
           try clear hfz32_0
           try clear hfz32_1
           try clear hfz32_2
           try clear hfz33_0
           try clear hfz33_1
           try clear hfz33_2
           try clear hfz39_0
           try clear hfz39_1
           try clear hfz39_2
           try clear hfz45_0
           try clear hfz45_1
           try clear hfz45_2
           try clear hfz46_0
           try clear hfz46_1
           try clear hfz46_2
           try clear hfz53_0
           try clear hfz53_1
           try clear hfz53_2
           try clear hfz62_0
           try clear hfz62_1
           try clear hfz62_2
           try clear hfz68_0
           try clear hfz68_1
           try clear hfz68_2
           try clear hfz72_0
           try clear hfz72_1
           try clear hfz72_2
           try clear hfz75_0
           try clear hfz75_1
           try clear hfz75_2
           try clear hfz79_0
           try clear hfz79_1
           try clear hfz79_2
           try clear hfz86_0
           try clear hfz86_1
           try clear hfz86_2
           try clear hfz94_0
           try clear hfz94_1
           try clear hfz94_2
           try clear hfz97_0
           try clear hfz97_1
           try clear hfz97_2
           try clear p2
           obtain ⟨x26_4, rfl, HA, HK4, HO_21, HO_24, HO_1099000, HO_1109000, HO_1119000, HO_1129000, BK1086, BK1087, BK1098, BK1108, BK1118, BK1128, HB⟩ := hrel
           cases gk with
           | zero => exact absurd HA.out (by simp [reedpipelaw13_LapForgets.l0])
           | succ k4 =>
            have H := HA.out
            clear HA
            simp only [reedpipelaw13_LapForgets.l0] at H
            by_cases c188 : x26_4 < (t1089.length : Int)
            ·rw [if_pos c188] at H
             have c188b0 : decide (x26_4 < (t1089.length : Int)) = true := decide_eq_true c188
             clear c188
             by_cases c189 : 0 ≤ x26_4
             ·rw [if_pos c189] at H
              have c189b0 : decide (0 ≤ x26_4) = true := decide_eq_true c189
              clear c189
              by_cases c190 : x26_4 < (t1099.length : Int)
              ·rw [if_pos c190] at H
               have c190b0 : decide (x26_4 < (t1099.length : Int)) = true := decide_eq_true c190
               clear c190
               by_cases c191 : (rd t1089 x26_4) = (rd t1099 x26_4)
               ·rw [if_pos c191] at H
                have c191b0 : ((rd t1089 x26_4) == (rd t1099 x26_4)) = true := beq_iff_eq.mpr c191
                have c191b1 : ((rd t1089 x26_4) != (rd t1099 x26_4)) = false := bne_eq_false_iff_eq.mpr c191
                clear c191
                have H' := Aside0.mk H
                clear H
                have hnb192 := NB1098_1086.out
                have hnc192 := NB1086_1098.out
                have hnb193 := NB1098_1087.out
                have hnc193 := NB1087_1098.out
                have hnb194 := NB1098_1108.out
                have hnc194 := NB1108_1098.out
                have hnb195 := NB1098_1118.out
                have hnc195 := NB1118_1098.out
                have hnb196 := NB1098_1128.out
                have hnc196 := NB1128_1098.out
                have hcz197_0 : wr.cell? ⟨gb1098, 0, none⟩ = some (.slice Ao42 t1089.length co42) := (blk_cell BK1098.out 0).trans rfl
                have hcz197_1 : wr.cell? ⟨gb1098, 1, none⟩ = some (.int .u8 t1092) := (blk_cell BK1098.out 1).trans rfl
                have hcz197_2 : wr.cell? ⟨gb1098, 2, none⟩ = some (.int .u8 t1093) := (blk_cell BK1098.out 2).trans rfl
                have hfz197_0 := blk_frozen BK1098.out 0
                have hfz197_1 := blk_frozen BK1098.out 1
                have hfz197_2 := blk_frozen BK1098.out 2
                have p1129 : 0 ≤ (x26_4 : Int) := of_decide_eq_true (by first | (with_reducible assumption) | assumption)
                have q1129 : x26_4 < (t1089.length : Int) := of_decide_eq_true (by first | (with_reducible assumption) | assumption)
                obtain ⟨ad1129, e1129, hx1129_0⟩ := Kd.at_int (Kd.R_reads' HO_1099000.out).2.2 x26_4 p1129 q1129
                cases e1129
                replace p1129 := eq_true p1129
                replace q1129 := eq_true q1129
                have hnb198 := NB1108_1086.out
                have hnc198 := NB1086_1108.out
                have hnb199 := NB1108_1087.out
                have hnc199 := NB1087_1108.out
                have hnb200 := NB1108_1118.out
                have hnc200 := NB1118_1108.out
                have hnb201 := NB1108_1128.out
                have hnc201 := NB1128_1108.out
                have hcz202_0 : wr.cell? ⟨gb1108, 0, none⟩ = some (.slice Ao49 t1099.length co49) := (blk_cell BK1108.out 0).trans rfl
                have hcz202_1 : wr.cell? ⟨gb1108, 1, none⟩ = some (.int .u8 t1102) := (blk_cell BK1108.out 1).trans rfl
                have hcz202_2 : wr.cell? ⟨gb1108, 2, none⟩ = some (.int .u8 t1103) := (blk_cell BK1108.out 2).trans rfl
                have hfz202_0 := blk_frozen BK1108.out 0
                have hfz202_1 := blk_frozen BK1108.out 1
                have hfz202_2 := blk_frozen BK1108.out 2
                have p1130 : 0 ≤ (x26_4 : Int) := of_decide_eq_true (by first | (with_reducible assumption) | assumption)
                have q1130 : x26_4 < (t1099.length : Int) := of_decide_eq_true (by first | (with_reducible assumption) | assumption)
                obtain ⟨ad1130, e1130, hx1130_0⟩ := Kd.at_int (Kd.R_reads' HO_1109000.out).2.2 x26_4 p1130 q1130
                cases e1130
                replace p1130 := eq_true p1130
                replace q1130 := eq_true q1130
                go_wp2
                repeat (go_quiet (fail); try go_wp2)
                go_roundg k4
                case measure => have := HJ7.out; have := HJ36.out; have := HJ81.out; have := HK4.out; omega
                case rel => exact ⟨(wrap64 (x26_4 + 1)), (by first | rfl | (simp; done) | (simp [*]; done)), H', ⟨by have := HJ7.out; have := HJ36.out; have := HJ81.out; have := HK4.out; omega⟩, ⟨by (with_reducible repeat (first | apply Kd.R_alloc | apply Kd.R_drewN | apply Kd.R_drew)); exact HO_21.out⟩, ⟨by (with_reducible repeat (first | apply Kd.R_alloc | apply Kd.R_drewN | apply Kd.R_drew)); exact HO_24.out⟩, ⟨by (with_reducible repeat (first | apply Kd.R_alloc | apply Kd.R_drewN | apply Kd.R_drew)); exact HO_1099000.out⟩, ⟨by (with_reducible repeat (first | apply Kd.R_alloc | apply Kd.R_drewN | apply Kd.R_drew)); exact HO_1109000.out⟩, ⟨by (with_reducible repeat (first | apply Kd.R_alloc | apply Kd.R_drewN | apply Kd.R_drew)); exact HO_1119000.out⟩, ⟨by (with_reducible repeat (first | apply Kd.R_alloc | apply Kd.R_drewN | apply Kd.R_drew)); exact HO_1129000.out⟩, ⟨by (with_reducible repeat (first | refine blk_drewN ?_ _ | refine blk_drew ?_ | refine blk_alloc ?_ _)); exact BK1086.out⟩, ⟨by (with_reducible repeat (first | refine blk_drewN ?_ _ | refine blk_drew ?_ | refine blk_alloc ?_ _)); exact BK1087.out⟩, ⟨by (with_reducible repeat (first | refine blk_drewN ?_ _ | refine blk_drew ?_ | refine blk_alloc ?_ _)); exact BK1098.out⟩, ⟨by (with_reducible repeat (first | refine blk_drewN ?_ _ | refine blk_drew ?_ | refine blk_alloc ?_ _)); exact BK1108.out⟩, ⟨by (with_reducible repeat (first | refine blk_drewN ?_ _ | refine blk_drew ?_ | refine blk_alloc ?_ _)); exact BK1118.out⟩, ⟨by (with_reducible repeat (first | refine blk_drewN ?_ _ | refine blk_drew ?_ | refine blk_alloc ?_ _)); exact BK1128.out⟩, ⟨by repeat (first | (with_reducible first | exact HB.out | apply below_alloc | apply pw_below_drewN | apply below_drew1 | refine below_set ?_ GE1086.out | refine below_set ?_ GE1087.out | refine below_set ?_ GE1098.out | refine below_set ?_ GE1108.out | refine below_set ?_ GE1118.out | refine below_set ?_ GE1128.out) | exact HB.out)⟩⟩
               ·rw [if_neg c191] at H
                have c191b0 : ((rd t1089 x26_4) == (rd t1099 x26_4)) = false := beq_eq_false_iff_ne.mpr c191
                have c191b1 : ((rd t1089 x26_4) != (rd t1099 x26_4)) = true := bne_iff_ne.mpr c191
                obtain rfl := Option.some.inj H
                have hnb203 := NB1098_1086.out
                have hnc203 := NB1086_1098.out
                have hnb204 := NB1098_1087.out
                have hnc204 := NB1087_1098.out
                have hnb205 := NB1098_1108.out
                have hnc205 := NB1108_1098.out
                have hnb206 := NB1098_1118.out
                have hnc206 := NB1118_1098.out
                have hnb207 := NB1098_1128.out
                have hnc207 := NB1128_1098.out
                have hcz208_0 : wr.cell? ⟨gb1098, 0, none⟩ = some (.slice Ao42 t1089.length co42) := (blk_cell BK1098.out 0).trans rfl
                have hcz208_1 : wr.cell? ⟨gb1098, 1, none⟩ = some (.int .u8 t1092) := (blk_cell BK1098.out 1).trans rfl
                have hcz208_2 : wr.cell? ⟨gb1098, 2, none⟩ = some (.int .u8 t1093) := (blk_cell BK1098.out 2).trans rfl
                have hfz208_0 := blk_frozen BK1098.out 0
                have hfz208_1 := blk_frozen BK1098.out 1
                have hfz208_2 := blk_frozen BK1098.out 2
                have p1129 : 0 ≤ (x26_4 : Int) := of_decide_eq_true (by first | (with_reducible assumption) | assumption)
                have q1129 : x26_4 < (t1089.length : Int) := of_decide_eq_true (by first | (with_reducible assumption) | assumption)
                obtain ⟨ad1129, e1129, hx1129_0⟩ := Kd.at_int (Kd.R_reads' HO_1099000.out).2.2 x26_4 p1129 q1129
                cases e1129
                replace p1129 := eq_true p1129
                replace q1129 := eq_true q1129
                have hnb209 := NB1108_1086.out
                have hnc209 := NB1086_1108.out
                have hnb210 := NB1108_1087.out
                have hnc210 := NB1087_1108.out
                have hnb211 := NB1108_1118.out
                have hnc211 := NB1118_1108.out
                have hnb212 := NB1108_1128.out
                have hnc212 := NB1128_1108.out
                have hcz213_0 : wr.cell? ⟨gb1108, 0, none⟩ = some (.slice Ao49 t1099.length co49) := (blk_cell BK1108.out 0).trans rfl
                have hcz213_1 : wr.cell? ⟨gb1108, 1, none⟩ = some (.int .u8 t1102) := (blk_cell BK1108.out 1).trans rfl
                have hcz213_2 : wr.cell? ⟨gb1108, 2, none⟩ = some (.int .u8 t1103) := (blk_cell BK1108.out 2).trans rfl
                have hfz213_0 := blk_frozen BK1108.out 0
                have hfz213_1 := blk_frozen BK1108.out 1
                have hfz213_2 := blk_frozen BK1108.out 2
                have p1130 : 0 ≤ (x26_4 : Int) := of_decide_eq_true (by first | (with_reducible assumption) | assumption)
                have q1130 : x26_4 < (t1099.length : Int) := of_decide_eq_true (by first | (with_reducible assumption) | assumption)
                obtain ⟨ad1130, e1130, hx1130_0⟩ := Kd.at_int (Kd.R_reads' HO_1109000.out).2.2 x26_4 p1130 q1130
                cases e1130
                replace p1130 := eq_true p1130
                replace q1130 := eq_true q1130
                go_wp2
                repeat (go_quiet (fail); try go_wp2)
                go_ret
                exact ⟨by first | rfl | (simp [errW_none, errW_some] <;> rfl) | (simp [*, errW_none, errW_some] <;> rfl), by repeat (first | (with_reducible first | exact HB.out | apply below_alloc | apply pw_below_drewN | apply below_drew1 | refine below_set ?_ GE1086.out | refine below_set ?_ GE1087.out | refine below_set ?_ GE1098.out | refine below_set ?_ GE1108.out | refine below_set ?_ GE1118.out | refine below_set ?_ GE1128.out) | exact HB.out)⟩
              ·rw [if_neg c190] at H
               exact absurd H (by simp)
             ·rw [if_neg c189] at H
              exact absurd H (by simp)
            ·rw [if_neg c188] at H
             have c188b0 : decide (x26_4 < (t1089.length : Int)) = false := decide_eq_false c188
             clear c188
             have H' := Aside0.mk H
             clear H
             have hnb214 := NB1098_1086.out
             have hnc214 := NB1086_1098.out
             have hnb215 := NB1098_1087.out
             have hnc215 := NB1087_1098.out
             have hnb216 := NB1098_1108.out
             have hnc216 := NB1108_1098.out
             have hnb217 := NB1098_1118.out
             have hnc217 := NB1118_1098.out
             have hnb218 := NB1098_1128.out
             have hnc218 := NB1128_1098.out
             have hcz219_0 : wr.cell? ⟨gb1098, 0, none⟩ = some (.slice Ao42 t1089.length co42) := (blk_cell BK1098.out 0).trans rfl
             have hcz219_1 : wr.cell? ⟨gb1098, 1, none⟩ = some (.int .u8 t1092) := (blk_cell BK1098.out 1).trans rfl
             have hcz219_2 : wr.cell? ⟨gb1098, 2, none⟩ = some (.int .u8 t1093) := (blk_cell BK1098.out 2).trans rfl
             have hfz219_0 := blk_frozen BK1098.out 0
             have hfz219_1 := blk_frozen BK1098.out 1
             have hfz219_2 := blk_frozen BK1098.out 2
             go_wp2
             repeat (go_quiet (fail); try go_wp2)
             go_loopg [27] k4 (fun kq v27 w' => ∃ (x27_5 : Int), v27 = .int .i64 x27_5 ∧ Aside0 (reedpipelaw13_LapForgets.l1 kq t1088 t1114 t1124 x27_5 = some r) ∧ Aside0 (kq ≤ k4) ∧ Aside0 (Kd.R (Kd.int .i64) 3 w' w.heap.size (fun k_ => some k_ ≠ (v1125 : Value).ownBlock ∧ some k_ ≠ ((.slice Ao42 t1089.length co42) : Value).ownBlock ∧ some k_ ≠ ((.slice Ao49 t1099.length co49) : Value).ownBlock ∧ some k_ ≠ ((.slice Ao89 t1109.length co89) : Value).ownBlock ∧ some k_ ≠ ((.slice Ao100 t1119.length co100) : Value).ownBlock) v1115 t1114) ∧ Aside0 (Kd.R (Kd.int .i64) 3 w' w.heap.size (fun k_ => some k_ ≠ (v1115 : Value).ownBlock ∧ some k_ ≠ ((.slice Ao42 t1089.length co42) : Value).ownBlock ∧ some k_ ≠ ((.slice Ao49 t1099.length co49) : Value).ownBlock ∧ some k_ ≠ ((.slice Ao89 t1109.length co89) : Value).ownBlock ∧ some k_ ≠ ((.slice Ao100 t1119.length co100) : Value).ownBlock) v1125 t1124) ∧ Aside0 (Kd.R (Kd.int .i64) 3 w' w.heap.size (fun k_ => some k_ ≠ (v1115 : Value).ownBlock ∧ some k_ ≠ (v1125 : Value).ownBlock ∧ some k_ ≠ ((.slice Ao49 t1099.length co49) : Value).ownBlock ∧ some k_ ≠ ((.slice Ao89 t1109.length co89) : Value).ownBlock ∧ some k_ ≠ ((.slice Ao100 t1119.length co100) : Value).ownBlock) (.slice Ao42 t1089.length co42) t1089) ∧ Aside0 (Kd.R (Kd.int .i64) 3 w' w.heap.size (fun k_ => some k_ ≠ (v1115 : Value).ownBlock ∧ some k_ ≠ (v1125 : Value).ownBlock ∧ some k_ ≠ ((.slice Ao42 t1089.length co42) : Value).ownBlock ∧ some k_ ≠ ((.slice Ao89 t1109.length co89) : Value).ownBlock ∧ some k_ ≠ ((.slice Ao100 t1119.length co100) : Value).ownBlock) (.slice Ao49 t1099.length co49) t1099) ∧ Aside0 (Kd.R (Kd.int .i64) 3 w' w.heap.size (fun k_ => some k_ ≠ (v1115 : Value).ownBlock ∧ some k_ ≠ (v1125 : Value).ownBlock ∧ some k_ ≠ ((.slice Ao42 t1089.length co42) : Value).ownBlock ∧ some k_ ≠ ((.slice Ao49 t1099.length co49) : Value).ownBlock ∧ some k_ ≠ ((.slice Ao100 t1119.length co100) : Value).ownBlock) (.slice Ao89 t1109.length co89) t1109) ∧ Aside0 (Kd.R (Kd.int .i64) 3 w' w.heap.size (fun k_ => some k_ ≠ (v1115 : Value).ownBlock ∧ some k_ ≠ (v1125 : Value).ownBlock ∧ some k_ ≠ ((.slice Ao42 t1089.length co42) : Value).ownBlock ∧ some k_ ≠ ((.slice Ao49 t1099.length co49) : Value).ownBlock ∧ some k_ ≠ ((.slice Ao89 t1109.length co89) : Value).ownBlock) (.slice Ao100 t1119.length co100) t1119) ∧ Aside0 (w'.heap[gb1086]? = some (.cells #[(.slice A0_0 l0_0.length c0_0), .int .u8 a0_1, .int .u8 a0_2] 31 (0, 0))) ∧ Aside0 (w'.heap[gb1087]? = some (.cells #[(.slice A1_0 l1_0.length c1_0), .int .u8 a1_1, .int .u8 a1_2] 31 (0, 0))) ∧ Aside0 (w'.heap[gb1098]? = some (.cells #[(.slice Ao42 t1089.length co42), .int .u8 t1092, .int .u8 t1093] 31 (0, 0))) ∧ Aside0 (w'.heap[gb1108]? = some (.cells #[(.slice Ao49 t1099.length co49), .int .u8 t1102, .int .u8 t1103] 31 (0, 0))) ∧ Aside0 (w'.heap[gb1118]? = some (.cells #[(.slice Ao89 t1109.length co89), .int .u8 t1112, .int .u8 t1113] 31 (0, 0))) ∧ Aside0 (w'.heap[gb1128]? = some (.cells #[(.slice Ao100 t1119.length co100), .int .u8 t1122, .int .u8 t1123] 31 (0, 0))) ∧ Aside0 (Below w.heap.size w w'))
             case atStart => exact ⟨(0), (by first | rfl | (simp; done) | (simp [*]; done)), H', ⟨Nat.le_refl _⟩, ⟨by (with_reducible repeat (first | apply Kd.R_alloc | apply Kd.R_drewN | apply Kd.R_drew)); exact HO_21.out⟩, ⟨by (with_reducible repeat (first | apply Kd.R_alloc | apply Kd.R_drewN | apply Kd.R_drew)); exact HO_24.out⟩, ⟨by (with_reducible repeat (first | apply Kd.R_alloc | apply Kd.R_drewN | apply Kd.R_drew)); exact HO_1099000.out⟩, ⟨by (with_reducible repeat (first | apply Kd.R_alloc | apply Kd.R_drewN | apply Kd.R_drew)); exact HO_1109000.out⟩, ⟨by (with_reducible repeat (first | apply Kd.R_alloc | apply Kd.R_drewN | apply Kd.R_drew)); exact HO_1119000.out⟩, ⟨by (with_reducible repeat (first | apply Kd.R_alloc | apply Kd.R_drewN | apply Kd.R_drew)); exact HO_1129000.out⟩, ⟨by (with_reducible repeat (first | refine blk_drewN ?_ _ | refine blk_drew ?_ | refine blk_alloc ?_ _)); exact BK1086.out⟩, ⟨by (with_reducible repeat (first | refine blk_drewN ?_ _ | refine blk_drew ?_ | refine blk_alloc ?_ _)); exact BK1087.out⟩, ⟨by (with_reducible repeat (first | refine blk_drewN ?_ _ | refine blk_drew ?_ | refine blk_alloc ?_ _)); exact BK1098.out⟩, ⟨by (with_reducible repeat (first | refine blk_drewN ?_ _ | refine blk_drew ?_ | refine blk_alloc ?_ _)); exact BK1108.out⟩, ⟨by (with_reducible repeat (first | refine blk_drewN ?_ _ | refine blk_drew ?_ | refine blk_alloc ?_ _)); exact BK1118.out⟩, ⟨by (with_reducible repeat (first | refine blk_drewN ?_ _ | refine blk_drew ?_ | refine blk_alloc ?_ _)); exact BK1128.out⟩, ⟨by repeat (first | (with_reducible first | exact HB.out | apply below_alloc | apply pw_below_drewN | apply below_drew1 | refine below_set ?_ GE1086.out | refine below_set ?_ GE1087.out | refine below_set ?_ GE1098.out | refine below_set ?_ GE1108.out | refine below_set ?_ GE1118.out | refine below_set ?_ GE1128.out) | exact HB.out)⟩⟩
             case round => as_aux_lemma =>
              clear H'
              try clear c1
              try clear p1
              try clear q1
              try clear hx1
              try clear c2
              try clear p2
              try clear c3
              try clear c4
              try clear c5
              try clear c6
              try clear p6
              try clear c7
              try clear c8
              try clear c9
              try clear c10
              try clear c11
              try clear p11
              try clear q11
              try clear hx11
              try clear c12
              try clear c12b0
              try clear c12b1
              try clear c13
              try clear c14
              try clear c15
              try clear c15b0
              try clear c15b1
              try clear c16
              try clear c17
              try clear c18
              try clear c19
              try clear c19b0
              try clear c19b1
              try clear c20
              try clear c21
              try clear c23
              try clear c23b0
              try clear c23b1
              try clear c24
              try clear c27
              try clear c28
              try clear c31
              try clear c34
              try clear c38
              try clear c43
              try clear c44
              try clear c50
              try clear c51
              try clear c52
              try clear c54
              try clear c54b0
              try clear c54b1
              try clear c55
              try clear c56
              try clear c57
              try clear c57b0
              try clear c57b1
              try clear c58
              try clear c58b0
              try clear c58b1
              try clear c59
              try clear c60
              try clear c61
              try clear c63
              try clear c63b0
              try clear c63b1
              try clear c63b2
              try clear c64
              try clear c64b0
              try clear c64b1
              try clear p64
              try clear c65
              try clear c66
              try clear c67
              try clear c69
              try clear c70
              try clear c71
              try clear c73
              try clear c74
              try clear c76
              try clear c77
              try clear c78
              try clear c83
              try clear c84
              try clear c85
              try clear c90
              try clear c91
              try clear c92
              try clear c93
              try clear c95
              try clear c96
              try clear c101
              try clear c102
              try clear c103
              try clear c104
              try clear c105
              try clear c107
              try clear c107b0
              try clear c107b1
              try clear c108
              try clear c108b0
              try clear c108b1
              try clear c108b2
              try clear c109
              try clear c109b0
              try clear c109b1
              try clear c109b2
              try clear c110
              try clear c110b0
              try clear c110b1
              try clear c110b2
              try clear c111
              try clear c111b0
              try clear c111b1
              try clear p112
              try clear q112
              try clear hx112
              try clear p113
              try clear q113
              try clear hx113
              try clear c114
              try clear c115
              try clear c116
              try clear c117
              try clear c118
              try clear c120
              try clear c121
              try clear c122
              try clear c123
              try clear c125
              try clear c126
              try clear c127
              try clear c129
              try clear c130
              try clear c134
              try clear c135
              try clear c136
              try clear c137
              try clear c138
              try clear c140
              try clear c141
              try clear c142
              try clear c143
              try clear c145
              try clear c146
              try clear c147
              try clear c149
              try clear c150
              try clear c154
              try clear c155
              try clear c156
              try clear c157
              try clear c158
              try clear c160
              try clear c161
              try clear c162
              try clear c163
              try clear c165
              try clear c166
              try clear c167
              try clear c169
              try clear c170
              try clear c174
              try clear c175
              try clear c176
              try clear c177
              try clear c178
              try clear c180
              try clear c181
              try clear c182
              try clear c183
              try clear c187
              try clear c188
              try clear c188b0
              try clear c189
              try clear c189b0
              try clear c190
              try clear c190b0
              try clear c191
              try clear c191b0
              try clear c191b1
              try clear c192
              try clear c193
              try clear c194
              try clear c195
              try clear c196
              try clear c198
              try clear c199
              try clear c200
              try clear c201
              try clear c203
              try clear c204
              try clear c205
              try clear c206
              try clear c207
              try clear c209
              try clear c210
              try clear c211
              try clear c212
              try clear c214
              try clear c215
              try clear c216
              try clear c217
              try clear c218
              try clear hcz106_0
              try clear hcz106_1
              try clear hcz106_2
              try clear hcz119_0
              try clear hcz119_1
              try clear hcz119_2
              try clear hcz124_0
              try clear hcz124_1
              try clear hcz124_2
              try clear hcz128_0
              try clear hcz128_1
              try clear hcz128_2
              try clear hcz131_0
              try clear hcz131_1
              try clear hcz131_2
              try clear hcz139_0
              try clear hcz139_1
              try clear hcz139_2
              try clear hcz144_0
              try clear hcz144_1
              try clear hcz144_2
              try clear hcz148_0
              try clear hcz148_1
              try clear hcz148_2
              try clear hcz14_0
              try clear hcz14_1
              try clear hcz14_2
              try clear hcz151_0
              try clear hcz151_1
              try clear hcz151_2
              try clear hcz159_0
              try clear hcz159_1
              try clear hcz159_2
              try clear hcz164_0
              try clear hcz164_1
              try clear hcz164_2
              try clear hcz168_0
              try clear hcz168_1
              try clear hcz168_2
              try clear hcz171_0
              try clear hcz171_1
              try clear hcz171_2
              try clear hcz179_0
              try clear hcz179_1
              try clear hcz179_2
              try clear hcz17_0
              try clear hcz17_1
              try clear hcz17_2
              try clear hcz184_0
              try clear hcz184_1
              try clear hcz184_2
              try clear hcz18_0
              try clear hcz18_1
              try clear hcz18_2
              try clear hcz197_0
              try clear hcz197_1
              try clear hcz197_2
              try clear hcz202_0
              try clear hcz202_1
              try clear hcz202_2
              try clear hcz208_0
              try clear hcz208_1
              try clear hcz208_2
              try clear hcz213_0
              try clear hcz213_1
              try clear hcz213_2
              try clear hcz219_0
              try clear hcz219_1
              try clear hcz219_2
              try clear hcz21_0
              try clear hcz21_1
              try clear hcz21_2
              try clear hcz22_0
              try clear hcz22_1
              try clear hcz22_2
              try clear hcz25_0
              try clear hcz25_1
              try clear hcz25_2
              try clear hcz26_0
              try clear hcz26_1
              try clear hcz26_2
              try clear hcz29_0
              try clear hcz29_1
              try clear hcz29_2
              try clear hcz30_0
              try clear hcz30_1
              try clear hcz30_2
              try clear hcz32_0
              try clear hcz32_1
              try clear hcz32_2
              try clear hcz33_0
              try clear hcz33_1
              try clear hcz33_2
              try clear hcz39_0
              try clear hcz39_1
              try clear hcz39_2
              try clear hcz45_0
              try clear hcz45_1
              try clear hcz45_2
              try clear hcz46_0
              try clear hcz46_1
              try clear hcz46_2
              try clear hcz53_0
              try clear hcz53_1
              try clear hcz53_2
              try clear hcz62_0
              try clear hcz62_1
              try clear hcz62_2
              try clear hcz68_0
              try clear hcz68_1
              try clear hcz68_2
              try clear hcz72_0
              try clear hcz72_1
              try clear hcz72_2
              try clear hcz75_0
              try clear hcz75_1
              try clear hcz75_2
              try clear hcz79_0
              try clear hcz79_1
              try clear hcz79_2
              try clear hcz86_0
              try clear hcz86_1
              try clear hcz86_2
              try clear hcz94_0
              try clear hcz94_1
              try clear hcz94_2
              try clear hcz97_0
              try clear hcz97_1
              try clear hcz97_2
              try clear hfz106_0
              try clear hfz106_1
              try clear hfz106_2
              try clear hfz119_0
              try clear hfz119_1
              try clear hfz119_2
              try clear hfz124_0
              try clear hfz124_1
              try clear hfz124_2
              try clear hfz128_0
              try clear hfz128_1
              try clear hfz128_2
              try clear hfz131_0
              try clear hfz131_1
              try clear hfz131_2
              try clear hfz139_0
              try clear hfz139_1
              try clear hfz139_2
              try clear hfz144_0
              try clear hfz144_1
              try clear hfz144_2
              try clear hfz148_0
              try clear hfz148_1
              try clear hfz148_2
              try clear hfz14_0
              try clear hfz14_1
              try clear hfz14_2
              try clear hfz151_0
              try clear hfz151_1
              try clear hfz151_2
              try clear hfz159_0
              try clear hfz159_1
              try clear hfz159_2
              try clear hfz164_0
              try clear hfz164_1
              try clear hfz164_2
              try clear hfz168_0
              try clear hfz168_1
              try clear hfz168_2
              try clear hfz171_0
              try clear hfz171_1
              try clear hfz171_2
              try clear hfz179_0
              try clear hfz179_1
              try clear hfz179_2
              try clear hfz17_0
              try clear hfz17_1
              try clear hfz17_2
              try clear hfz184_0
              try clear hfz184_1
              try clear hfz184_2
              try clear hfz18_0
              try clear hfz18_1
              try clear hfz18_2
              try clear hfz197_0
              try clear hfz197_1
              try clear hfz197_2
              try clear hfz202_0
              try clear hfz202_1
              try clear hfz202_2
              try clear hfz208_0
              try clear hfz208_1
              try clear hfz208_2
              try clear hfz213_0
              try clear hfz213_1
              try clear hfz213_2
              try clear hfz219_0
              try clear hfz219_1
              try clear hfz219_2
              try clear hfz21_0
              try clear hfz21_1
              try clear hfz21_2
              try clear hfz22_0
              try clear hfz22_1
              try clear hfz22_2
              try clear hfz25_0
              try clear hfz25_1
              try clear hfz25_2
              try clear hfz26_0
              try clear hfz26_1
              try clear hfz26_2
              try clear hfz29_0
              try clear hfz29_1
              try clear hfz29_2
              try clear hfz30_0
              try clear hfz30_1
              try clear hfz30_2
              try clear hfz32_0
              try clear hfz32_1
              try clear hfz32_2
              try clear hfz33_0
              try clear hfz33_1
              try clear hfz33_2
              try clear hfz39_0
              try clear hfz39_1
              try clear hfz39_2
              try clear hfz45_0
              try clear hfz45_1
              try clear hfz45_2
              try clear hfz46_0
              try clear hfz46_1
              try clear hfz46_2
              try clear hfz53_0
              try clear hfz53_1
              try clear hfz53_2
              try clear hfz62_0
              try clear hfz62_1
              try clear hfz62_2
              try clear hfz68_0
              try clear hfz68_1
              try clear hfz68_2
              try clear hfz72_0
              try clear hfz72_1
              try clear hfz72_2
              try clear hfz75_0
              try clear hfz75_1
              try clear hfz75_2
              try clear hfz79_0
              try clear hfz79_1
              try clear hfz79_2
              try clear hfz86_0
              try clear hfz86_1
              try clear hfz86_2
              try clear hfz94_0
              try clear hfz94_1
              try clear hfz94_2
              try clear hfz97_0
              try clear hfz97_1
              try clear hfz97_2
              try clear hx1129_0
              try clear hx1130_0
              try clear p1129
              try clear p1130
              try clear p2
              try clear q1129
              try clear q1130
              obtain ⟨x27_5, rfl, HA, HK5, HO_21, HO_24, HO_1099000, HO_1109000, HO_1119000, HO_1129000, BK1086, BK1087, BK1098, BK1108, BK1118, BK1128, HB⟩ := hrel
              cases gk with
              | zero => exact absurd HA.out (by simp [reedpipelaw13_LapForgets.l1])
              | succ k5 =>
               have H := HA.out
               clear HA
               simp only [reedpipelaw13_LapForgets.l1] at H
               by_cases c220 : x27_5 < (t1114.length : Int)
               ·rw [if_pos c220] at H
                have c220b0 : decide (x27_5 < (t1114.length : Int)) = true := decide_eq_true c220
                clear c220
                by_cases c221 : 0 ≤ x27_5
                ·rw [if_pos c221] at H
                 have c221b0 : decide (0 ≤ x27_5) = true := decide_eq_true c221
                 clear c221
                 by_cases c222 : x27_5 < (t1124.length : Int)
                 ·rw [if_pos c222] at H
                  have c222b0 : decide (x27_5 < (t1124.length : Int)) = true := decide_eq_true c222
                  clear c222
                  by_cases c223 : (rd t1114 x27_5) = (rd t1124 x27_5)
                  ·rw [if_pos c223] at H
                   have c223b0 : ((rd t1114 x27_5) == (rd t1124 x27_5)) = true := beq_iff_eq.mpr c223
                   have c223b1 : ((rd t1114 x27_5) != (rd t1124 x27_5)) = false := bne_eq_false_iff_eq.mpr c223
                   clear c223
                   by_cases c224 : (rd t1114 x27_5) < (-32768)
                   ·rw [if_pos c224] at H
                    have c224b0 : decide ((rd t1114 x27_5) < (-32768)) = true := decide_eq_true c224
                    clear c224
                    obtain rfl := Option.some.inj H
                    obtain ⟨Ao225, co225, eo225⟩ := Kd.R_slice HO_21.out
                    subst eo225
                    have p1131 : 0 ≤ (x27_5 : Int) := of_decide_eq_true (by first | (with_reducible assumption) | assumption)
                    have q1131 : x27_5 < (t1114.length : Int) := of_decide_eq_true (by first | (with_reducible assumption) | assumption)
                    obtain ⟨ad1131, e1131, hx1131_0⟩ := Kd.at_int (Kd.R_reads' HO_21.out).2.2 x27_5 p1131 q1131
                    cases e1131
                    replace p1131 := eq_true p1131
                    replace q1131 := eq_true q1131
                    obtain ⟨Ao226, co226, eo226⟩ := Kd.R_slice HO_24.out
                    subst eo226
                    have p1132 : 0 ≤ (x27_5 : Int) := of_decide_eq_true (by first | (with_reducible assumption) | assumption)
                    have q1132 : x27_5 < (t1124.length : Int) := of_decide_eq_true (by first | (with_reducible assumption) | assumption)
                    obtain ⟨ad1132, e1132, hx1132_0⟩ := Kd.at_int (Kd.R_reads' HO_24.out).2.2 x27_5 p1132 q1132
                    cases e1132
                    replace p1132 := eq_true p1132
                    replace q1132 := eq_true q1132
                    have p1133 : 0 ≤ (x27_5 : Int) := of_decide_eq_true (by first | (with_reducible assumption) | assumption)
                    have q1133 : x27_5 < (t1114.length : Int) := of_decide_eq_true (by first | (with_reducible assumption) | assumption)
                    obtain ⟨ad1133, e1133, hx1133_0⟩ := Kd.at_int (Kd.R_reads' HO_21.out).2.2 x27_5 p1133 q1133
                    obtain rfl : ad1131 = ad1133 := (by injection e1133)
                    replace p1133 := eq_true p1133
                    replace q1133 := eq_true q1133
                    go_wp2
                    repeat (go_quiet (fail); try go_wp2)
                    go_ret
                    exact ⟨by first | rfl | (simp [errW_none, errW_some] <;> rfl) | (simp [*, errW_none, errW_some] <;> rfl), by repeat (first | (with_reducible first | exact HB.out | apply below_alloc | apply pw_below_drewN | apply below_drew1 | refine below_set ?_ GE1086.out | refine below_set ?_ GE1087.out | refine below_set ?_ GE1098.out | refine below_set ?_ GE1108.out | refine below_set ?_ GE1118.out | refine below_set ?_ GE1128.out) | exact HB.out)⟩
                   ·rw [if_neg c224] at H
                    have c224b0 : decide ((rd t1114 x27_5) < (-32768)) = false := decide_eq_false c224
                    clear c224
                    by_cases c227 : (rd t1114 x27_5) > 32767
                    ·rw [if_pos c227] at H
                     have c227b0 : decide (32767 < (rd t1114 x27_5)) = true := decide_eq_true c227
                     clear c227
                     obtain rfl := Option.some.inj H
                     obtain ⟨Ao228, co228, eo228⟩ := Kd.R_slice HO_21.out
                     subst eo228
                     have p1131 : 0 ≤ (x27_5 : Int) := of_decide_eq_true (by first | (with_reducible assumption) | assumption)
                     have q1131 : x27_5 < (t1114.length : Int) := of_decide_eq_true (by first | (with_reducible assumption) | assumption)
                     obtain ⟨ad1131, e1131, hx1131_0⟩ := Kd.at_int (Kd.R_reads' HO_21.out).2.2 x27_5 p1131 q1131
                     cases e1131
                     replace p1131 := eq_true p1131
                     replace q1131 := eq_true q1131
                     obtain ⟨Ao229, co229, eo229⟩ := Kd.R_slice HO_24.out
                     subst eo229
                     have p1132 : 0 ≤ (x27_5 : Int) := of_decide_eq_true (by first | (with_reducible assumption) | assumption)
                     have q1132 : x27_5 < (t1124.length : Int) := of_decide_eq_true (by first | (with_reducible assumption) | assumption)
                     obtain ⟨ad1132, e1132, hx1132_0⟩ := Kd.at_int (Kd.R_reads' HO_24.out).2.2 x27_5 p1132 q1132
                     cases e1132
                     replace p1132 := eq_true p1132
                     replace q1132 := eq_true q1132
                     have p1133 : 0 ≤ (x27_5 : Int) := of_decide_eq_true (by first | (with_reducible assumption) | assumption)
                     have q1133 : x27_5 < (t1114.length : Int) := of_decide_eq_true (by first | (with_reducible assumption) | assumption)
                     obtain ⟨ad1133, e1133, hx1133_0⟩ := Kd.at_int (Kd.R_reads' HO_21.out).2.2 x27_5 p1133 q1133
                     obtain rfl : ad1131 = ad1133 := (by injection e1133)
                     replace p1133 := eq_true p1133
                     replace q1133 := eq_true q1133
                     have p1134 : 0 ≤ (x27_5 : Int) := of_decide_eq_true (by first | (with_reducible assumption) | assumption)
                     have q1134 : x27_5 < (t1114.length : Int) := of_decide_eq_true (by first | (with_reducible assumption) | assumption)
                     obtain ⟨ad1134, e1134, hx1134_0⟩ := Kd.at_int (Kd.R_reads' HO_21.out).2.2 x27_5 p1134 q1134
                     obtain rfl : ad1131 = ad1134 := (by injection e1134)
                     replace p1134 := eq_true p1134
                     replace q1134 := eq_true q1134
                     go_wp2
                     repeat (go_quiet (fail); try go_wp2)
                     go_ret
                     exact ⟨by first | rfl | (simp [errW_none, errW_some] <;> rfl) | (simp [*, errW_none, errW_some] <;> rfl), by repeat (first | (with_reducible first | exact HB.out | apply below_alloc | apply pw_below_drewN | apply below_drew1 | refine below_set ?_ GE1086.out | refine below_set ?_ GE1087.out | refine below_set ?_ GE1098.out | refine below_set ?_ GE1108.out | refine below_set ?_ GE1118.out | refine below_set ?_ GE1128.out) | exact HB.out)⟩
                    ·rw [if_neg c227] at H
                     have c227b0 : decide (32767 < (rd t1114 x27_5)) = false := decide_eq_false c227
                     clear c227
                     have H' := Aside0.mk H
                     clear H
                     obtain ⟨Ao230, co230, eo230⟩ := Kd.R_slice HO_21.out
                     subst eo230
                     have p1131 : 0 ≤ (x27_5 : Int) := of_decide_eq_true (by first | (with_reducible assumption) | assumption)
                     have q1131 : x27_5 < (t1114.length : Int) := of_decide_eq_true (by first | (with_reducible assumption) | assumption)
                     obtain ⟨ad1131, e1131, hx1131_0⟩ := Kd.at_int (Kd.R_reads' HO_21.out).2.2 x27_5 p1131 q1131
                     cases e1131
                     replace p1131 := eq_true p1131
                     replace q1131 := eq_true q1131
                     obtain ⟨Ao231, co231, eo231⟩ := Kd.R_slice HO_24.out
                     subst eo231
                     have p1132 : 0 ≤ (x27_5 : Int) := of_decide_eq_true (by first | (with_reducible assumption) | assumption)
                     have q1132 : x27_5 < (t1124.length : Int) := of_decide_eq_true (by first | (with_reducible assumption) | assumption)
                     obtain ⟨ad1132, e1132, hx1132_0⟩ := Kd.at_int (Kd.R_reads' HO_24.out).2.2 x27_5 p1132 q1132
                     cases e1132
                     replace p1132 := eq_true p1132
                     replace q1132 := eq_true q1132
                     have p1133 : 0 ≤ (x27_5 : Int) := of_decide_eq_true (by first | (with_reducible assumption) | assumption)
                     have q1133 : x27_5 < (t1114.length : Int) := of_decide_eq_true (by first | (with_reducible assumption) | assumption)
                     obtain ⟨ad1133, e1133, hx1133_0⟩ := Kd.at_int (Kd.R_reads' HO_21.out).2.2 x27_5 p1133 q1133
                     obtain rfl : ad1131 = ad1133 := (by injection e1133)
                     replace p1133 := eq_true p1133
                     replace q1133 := eq_true q1133
                     have p1134 : 0 ≤ (x27_5 : Int) := of_decide_eq_true (by first | (with_reducible assumption) | assumption)
                     have q1134 : x27_5 < (t1114.length : Int) := of_decide_eq_true (by first | (with_reducible assumption) | assumption)
                     obtain ⟨ad1134, e1134, hx1134_0⟩ := Kd.at_int (Kd.R_reads' HO_21.out).2.2 x27_5 p1134 q1134
                     obtain rfl : ad1131 = ad1134 := (by injection e1134)
                     replace p1134 := eq_true p1134
                     replace q1134 := eq_true q1134
                     go_wp2
                     repeat (go_quiet (fail); try go_wp2)
                     go_roundg k5
                     case measure => have := HJ7.out; have := HJ36.out; have := HJ81.out; have := HK4.out; have := HK5.out; omega
                     case rel => exact ⟨(wrap64 (x27_5 + 1)), (by first | rfl | (simp; done) | (simp [*]; done)), H', ⟨by have := HJ7.out; have := HJ36.out; have := HJ81.out; have := HK4.out; have := HK5.out; omega⟩, ⟨by (with_reducible repeat (first | apply Kd.R_alloc | apply Kd.R_drewN | apply Kd.R_drew)); exact HO_21.out⟩, ⟨by (with_reducible repeat (first | apply Kd.R_alloc | apply Kd.R_drewN | apply Kd.R_drew)); exact HO_24.out⟩, ⟨by (with_reducible repeat (first | apply Kd.R_alloc | apply Kd.R_drewN | apply Kd.R_drew)); exact HO_1099000.out⟩, ⟨by (with_reducible repeat (first | apply Kd.R_alloc | apply Kd.R_drewN | apply Kd.R_drew)); exact HO_1109000.out⟩, ⟨by (with_reducible repeat (first | apply Kd.R_alloc | apply Kd.R_drewN | apply Kd.R_drew)); exact HO_1119000.out⟩, ⟨by (with_reducible repeat (first | apply Kd.R_alloc | apply Kd.R_drewN | apply Kd.R_drew)); exact HO_1129000.out⟩, ⟨by (with_reducible repeat (first | refine blk_drewN ?_ _ | refine blk_drew ?_ | refine blk_alloc ?_ _)); exact BK1086.out⟩, ⟨by (with_reducible repeat (first | refine blk_drewN ?_ _ | refine blk_drew ?_ | refine blk_alloc ?_ _)); exact BK1087.out⟩, ⟨by (with_reducible repeat (first | refine blk_drewN ?_ _ | refine blk_drew ?_ | refine blk_alloc ?_ _)); exact BK1098.out⟩, ⟨by (with_reducible repeat (first | refine blk_drewN ?_ _ | refine blk_drew ?_ | refine blk_alloc ?_ _)); exact BK1108.out⟩, ⟨by (with_reducible repeat (first | refine blk_drewN ?_ _ | refine blk_drew ?_ | refine blk_alloc ?_ _)); exact BK1118.out⟩, ⟨by (with_reducible repeat (first | refine blk_drewN ?_ _ | refine blk_drew ?_ | refine blk_alloc ?_ _)); exact BK1128.out⟩, ⟨by repeat (first | (with_reducible first | exact HB.out | apply below_alloc | apply pw_below_drewN | apply below_drew1 | refine below_set ?_ GE1086.out | refine below_set ?_ GE1087.out | refine below_set ?_ GE1098.out | refine below_set ?_ GE1108.out | refine below_set ?_ GE1118.out | refine below_set ?_ GE1128.out) | exact HB.out)⟩⟩
                  ·rw [if_neg c223] at H
                   have c223b0 : ((rd t1114 x27_5) == (rd t1124 x27_5)) = false := beq_eq_false_iff_ne.mpr c223
                   have c223b1 : ((rd t1114 x27_5) != (rd t1124 x27_5)) = true := bne_iff_ne.mpr c223
                   obtain rfl := Option.some.inj H
                   obtain ⟨Ao232, co232, eo232⟩ := Kd.R_slice HO_21.out
                   subst eo232
                   have p1131 : 0 ≤ (x27_5 : Int) := of_decide_eq_true (by first | (with_reducible assumption) | assumption)
                   have q1131 : x27_5 < (t1114.length : Int) := of_decide_eq_true (by first | (with_reducible assumption) | assumption)
                   obtain ⟨ad1131, e1131, hx1131_0⟩ := Kd.at_int (Kd.R_reads' HO_21.out).2.2 x27_5 p1131 q1131
                   cases e1131
                   replace p1131 := eq_true p1131
                   replace q1131 := eq_true q1131
                   obtain ⟨Ao233, co233, eo233⟩ := Kd.R_slice HO_24.out
                   subst eo233
                   have p1132 : 0 ≤ (x27_5 : Int) := of_decide_eq_true (by first | (with_reducible assumption) | assumption)
                   have q1132 : x27_5 < (t1124.length : Int) := of_decide_eq_true (by first | (with_reducible assumption) | assumption)
                   obtain ⟨ad1132, e1132, hx1132_0⟩ := Kd.at_int (Kd.R_reads' HO_24.out).2.2 x27_5 p1132 q1132
                   cases e1132
                   replace p1132 := eq_true p1132
                   replace q1132 := eq_true q1132
                   go_wp2
                   repeat (go_quiet (fail); try go_wp2)
                   go_ret
                   exact ⟨by first | rfl | (simp [errW_none, errW_some] <;> rfl) | (simp [*, errW_none, errW_some] <;> rfl), by repeat (first | (with_reducible first | exact HB.out | apply below_alloc | apply pw_below_drewN | apply below_drew1 | refine below_set ?_ GE1086.out | refine below_set ?_ GE1087.out | refine below_set ?_ GE1098.out | refine below_set ?_ GE1108.out | refine below_set ?_ GE1118.out | refine below_set ?_ GE1128.out) | exact HB.out)⟩
                 ·rw [if_neg c222] at H
                  exact absurd H (by simp)
                ·rw [if_neg c221] at H
                 exact absurd H (by simp)
               ·rw [if_neg c220] at H
                have c220b0 : decide (x27_5 < (t1114.length : Int)) = false := decide_eq_false c220
                clear c220
                obtain rfl := Option.some.inj H
                obtain ⟨Ao234, co234, eo234⟩ := Kd.R_slice HO_21.out
                subst eo234
                go_wp2
                repeat (go_quiet (fail); try go_wp2)
                go_ret
                exact ⟨by first | rfl | (simp [errW_none, errW_some] <;> rfl) | (simp [*, errW_none, errW_some] <;> rfl), by repeat (first | (with_reducible first | exact HB.out | apply below_alloc | apply pw_below_drewN | apply below_drew1 | refine below_set ?_ GE1086.out | refine below_set ?_ GE1087.out | refine below_set ?_ GE1098.out | refine below_set ?_ GE1108.out | refine below_set ?_ GE1118.out | refine below_set ?_ GE1128.out) | exact HB.out)⟩

end Go.Proofs.Ytpoppdaaodmicaa.Q
