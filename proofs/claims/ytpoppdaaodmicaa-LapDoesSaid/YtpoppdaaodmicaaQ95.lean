-- Written by a program of this session's (wip/mk.py, over the kit's print.py); Lean checks it.
import Derived.Test.YtpoppdaaodmicaaQ0
import Derived.Test.YtpoppdaaodmicaaBRefTrigJ
import Derived.Test.YtpoppdaaodmicaaQ93
import Derived.Test.YtpoppdaaodmicaaQ119
namespace Go.Proofs.Ytpoppdaaodmicaa.Q
open Go.RowKit Go.Proofs.YtpoppdaaodmicaaW.PrintWords Go.Proofs.YtpoppdaaodmicaaW.PrintLast Go.Proofs.YtpoppdaaodmicaaW.PrintMore
attribute [local go_sem] max2_int min2_int max_two min_two max_three min_three max_four min_four   -- for this text's walks alone
set_option linter.unusedVariables false
set_option linter.unusedSimpArgs false

def reedpiperef13_Done.l0 : Nat → Int → Int → List Int → List Int → Int → List Int → Int → Int → Option (List Int × Int × Int × List Int)
 | 0, _, _, _, _, _, _, _, _ => none
 | k + 1, x1, x2, x10, x11, x12, x995000, x995001, x995002 => if x12 < 256 then (if 0 ≤ x12 then (if x12 < (x995000.length : Int) then (if x12 < (x10.length : Int) then ((reedpiperef03_Down.f (wrap64 ((rd x995000 x12) + (rd x10 x12))) 4).bind fun t1001 => ((reedpiperef03_Kept.f t1001 16).bind fun t1002 => (if x11.length < 17592186044416 then (reedpiperef13_Done.l0 k x1 x2 x10 (x11 ++ [t1002]) (wrap64 (x12 + 1)) x995000 x995001 x995002) else (none)))) else (none)) else (none)) else (none)) else (if 256 ≤ (x10.length : Int) then ((some (x10.drop 256 : List Int)).bind fun y1006 => (if ([] : List Int).length + y1006.length < 17592186044416 then (some ((([] : List Int) ++ y1006), x1, x2, x11)) else (none))) else (none))
def reedpiperef13_Done.f (k : Nat) (l0_0 : List Int) (a0_1 : Int) (a0_2 : Int) (a1 : Int) (a2 : Int) (l3 : List Int) : Option (List Int × Int × Int × List Int) := (reedpiperef12_Numbers.f k a1 a0_2 a2 l3).bind fun t996 => (reedpiperef13_Done.l0 k a1 a2 t996 ([] : List Int) 0 l0_0 a0_1 a0_2)
def reedpiperef13_Done.T6 : Bool × List (List Nat × List Nat) := (true, [([], []), ([], []), ([1], [1]), ([], []), ([2, 3], [2, 3]), ([4], [4]), ([], []), ([], []), ([6, 7], [6, 7]), ([8], [8]), ([5, 9], [5, 9]), ([10], [10]), ([11, 11], [11]), ([12], [12]), ([0, 13, 12], [0, 13]), ([14, 14, 0, 1, 2, 3, 4, 5, 6, 7, 8, 9, 10, 11, 12, 13, 14], [0, 14])])
def reedpiperef13_Done.B6 : List Nat := [0, 0, 2, 0, 14, 30, 0, 0, 192, 448, 1022, 2046, 4094, 8190, 16383, 32767]
theorem reedpiperef13_Done.tab6 : rtab .any (opsOf Try.f95 6) = reedpiperef13_Done.T6 := by kernel_rfl
theorem reedpiperef13_Done.bits6 : waitsOk reedpiperef13_Done.T6.2 reedpiperef13_Done.B6 = true := by kernel_rfl
set_option maxHeartbeats 8000000 in
set_option maxRecDepth 100000 in
theorem reedpiperef13_Done.calls (k : Nat) (A0_0 : Option Addr) (c0_0 : Nat) (l0_0 : List Int) (a0_1 : Int) (a0_2 : Int) (a1 : Int) (a2 : Int) (A3 : Option Addr) (c3 : Nat) (l3 : List Int) (r1 : List Int) (r2 : Int) (r3 : Int) (r4 : List Int) (w : World) (hr0_0 : Kd.C (Kd.int .i64) w A0_0 l0_0.length l0_0) (hc0_0 : l0_0.length ≤ c0_0) (hr3 : Kd.C (Kd.int .i64) w A3 l3.length l3) (hc3 : l3.length ≤ c3) (h : reedpiperef13_Done.f k l0_0 a0_1 a0_2 a1 a2 l3 = some (r1, r2, r3, r4)) :
  Calls Try.prog 95 #[.agg #[.slice A0_0 l0_0.length c0_0, .int .u8 a0_1, .int .u8 a0_2], .int .u8 a1, .int .u8 a2, .slice A3 l3.length c3] w fun e w' => ∃ v0_ v3_ : Value, e = .returned (.tuple #[.agg #[v0_, .int .u8 r2, .int .u8 r3], v3_]) ∧ Kd.R (Kd.int .i64) 3 w' w.heap.size (fun k_ => some k_ ≠ (v3_ : Value).ownBlock) v0_ r1 ∧ Kd.R (Kd.int .i64) 3 w' w.heap.size (fun k_ => some k_ ≠ (v0_ : Value).ownBlock) v3_ r4 ∧ Below w.heap.size w w' := by
 have hu31 := Try.underlying31
 have HR0_0 := Aside0.mk hr0_0
 have HC0_0 := Aside0.mk hc0_0
 clear hr0_0 hc0_0
 have HR3 := Aside0.mk hr3
 have HC3 := Aside0.mk hc3
 clear hr3 hc3
 have HB := Aside0.mk (Below.refl w.heap.size w)
 have H : ((reedpiperef12_Numbers.f k a1 a0_2 a2 l3).bind fun t996 => (reedpiperef13_Done.l0 k a1 a2 t996 ([] : List Int) 0 l0_0 a0_1 a0_2)) = some (r1, r2, r3, r4) := h
 clear h
 replace H := Option.bind_eq_some_iff.mp H
 obtain ⟨t996, A50, H⟩ := H
 replace H : (reedpiperef13_Done.l0 k a1 a2 t996 ([] : List Int) 0 l0_0 a0_1 a0_2) = some (r1, r2, r3, r4) := H
 have A5 := Aside0.mk A50
 clear A50
 have H' := Aside0.mk H
 clear H
 go_enter Try.func95, Try.ntmps95
 go_wp2_with (first | ((with_reducible refine gate_dst (N := 4) rfl ?_); refine box_event ?hg (N := 4) ?hd (cs := #[.slice A0_0 l0_0.length c0_0, .int .u8 a0_1, .int .u8 a0_2]) (t := 31) ?hr ?_; (case hd => rfl); (case hg => rfl); (case hr => first | (go_simp; done) | (go_simp; rfl)); intro gb994 hg w6 hbox hb; have n0_ := Aside0.mk (below_step (by repeat (first | (with_reducible first | exact HB.out | apply below_alloc | apply pw_below_drewN | apply below_drew1) | exact HB.out)) hb); have n1_ := Aside0.mk (hbox); have n2_ := Aside0.mk ((by rw [hg]; exact (below_size (by repeat (first | (with_reducible first | exact HB.out | apply below_alloc | apply pw_below_drewN | apply below_drew1) | exact HB.out))) : w.heap.size ≤ gb994)); have n3_ := Aside0.mk ((by rw [hg]; exact (below_size (by repeat (first | (with_reducible first | exact HB.out | apply below_alloc | apply pw_below_drewN | apply below_drew1) | exact HB.out))) : w.heap.size ≤ gb994)); clear HB; have HB := n0_; have BK994 := n1_; have GW994 := n2_; have GE994 := n3_; clear n0_ n1_ n2_ n3_; clear hb hbox hg) | ((with_reducible refine gate_dst (N := 8) rfl ?_); refine box_event ?hg (N := 8) ?hd (cs := #[.slice none 0 0, .int .u8 0, .int .u8 0]) (t := 31) ?hr ?_; (case hd => rfl); (case hg => rfl); (case hr => first | (go_simp; done) | (go_simp; rfl)); intro gb995 hg w7 hbox hb; have n0_ := Aside0.mk (blk_below (g := gb994) (o := .cells #[.slice A0_0 l0_0.length c0_0, .int .u8 a0_1, .int .u8 a0_2] 31 (0, 0)) (by (with_reducible repeat (first | refine blk_drewN ?_ _ | refine blk_drew ?_ | refine blk_alloc ?_ _)); exact BK994.out) hb); have n1_ := Aside0.mk (below_step (by repeat (first | (with_reducible first | exact HB.out | apply below_alloc | apply pw_below_drewN | apply below_drew1 | refine below_set ?_ GE994.out) | exact HB.out)) hb); have n2_ := Aside0.mk (hbox); have n3_ := Aside0.mk ((by rw [hg]; exact (below_size (by repeat (first | (with_reducible first | exact HB.out | apply below_alloc | apply pw_below_drewN | apply below_drew1 | refine below_set ?_ GE994.out) | exact HB.out))) : w.heap.size ≤ gb995)); have n4_ := Aside0.mk ((by rw [hg]; exact (below_size (by repeat (first | (with_reducible first | exact HB.out | apply below_alloc | apply pw_below_drewN | apply below_drew1 | refine below_set ?_ GE994.out) | exact HB.out))) : w.heap.size ≤ gb995)); have n5_ := Aside0.mk ((by rw [hg]; exact Nat.ne_of_lt (blk_lt (g := gb994) (o := .cells #[.slice A0_0 l0_0.length c0_0, .int .u8 a0_1, .int .u8 a0_2] 31 (0, 0)) (by (with_reducible repeat (first | refine blk_drewN ?_ _ | refine blk_drew ?_ | refine blk_alloc ?_ _)); exact BK994.out)) : gb994 ≠ gb995)); have n6_ := Aside0.mk ((by rw [hg]; exact Nat.ne_of_gt (blk_lt (g := gb994) (o := .cells #[.slice A0_0 l0_0.length c0_0, .int .u8 a0_1, .int .u8 a0_2] 31 (0, 0)) (by (with_reducible repeat (first | refine blk_drewN ?_ _ | refine blk_drew ?_ | refine blk_alloc ?_ _)); exact BK994.out)) : gb995 ≠ gb994)); clear BK994; clear HB; have BK994 := n0_; have HB := n1_; have BK995 := n2_; have GW995 := n3_; have GE995 := n4_; have NB994_995 := n5_; have NB995_994 := n6_; clear n0_ n1_ n2_ n3_ n4_ n5_ n6_; clear hb hbox hg; have hnb8 := NB994_995.out; have hnc8 := NB995_994.out; have hcz9_0 : w7.cell? ⟨gb994, 0, none⟩ = some (.slice A0_0 l0_0.length c0_0) := (blk_cell BK994.out 0).trans rfl; have hcz9_1 : w7.cell? ⟨gb994, 1, none⟩ = some (.int .u8 a0_1) := (blk_cell BK994.out 1).trans rfl; have hcz9_2 : w7.cell? ⟨gb994, 2, none⟩ = some (.int .u8 a0_2) := (blk_cell BK994.out 2).trans rfl; have hfz9_0 := blk_frozen BK994.out 0; have hfz9_1 := blk_frozen BK994.out 1; have hfz9_2 := blk_frozen BK994.out 2) | ((with_reducible refine gate_callee (f := 93) rfl ?_); refine goesL_ (some 18) rfl rfl Try.func93 (by kernel_rfl) rfl #[.int .u8 a1, .int .u8 a0_2, .int .u8 a2, .slice A3 l3.length c3] rfl (by (try simp only [List.map_toArray, List.map_cons, List.map_nil]); first | done | rfl | (simp only [List.length_drop, List.length_take]; rfl)) ?_; (with_reducible refine (reedpiperef12_Numbers.calls k a1 a0_2 a2 _ _ l3 t996 _ ?side1 ?side2 A5.out).mono ?_); (case side1 => repeat (first | exact (Kd.C_below HR3.out HB.out) | (with_reducible refine Kd.C_alloc ?_ _) | (with_reducible refine Kd.C_drewN ?_ _) | (with_reducible refine Kd.C_drew ?_))); (case side2 => exact HC3.out); rintro e w10 ⟨v997, rfl, ho0, hb⟩; refine ⟨_, rfl, ?_⟩; have n0_ := Aside0.mk (Kd.R_lower ho0 (below_size (by repeat (first | (with_reducible first | exact HB.out | apply below_alloc | apply pw_below_drewN | apply below_drew1 | refine below_set ?_ GE994.out | refine below_set ?_ GE995.out) | exact HB.out)))); have n1_ := Aside0.mk (blk_below (g := gb994) (o := .cells #[.slice A0_0 l0_0.length c0_0, .int .u8 a0_1, .int .u8 a0_2] 31 (0, 0)) (by (with_reducible repeat (first | refine blk_drewN ?_ _ | refine blk_drew ?_ | refine blk_alloc ?_ _)); exact BK994.out) hb); have n2_ := Aside0.mk (blk_below (g := gb995) (o := .cells #[.slice none 0 0, .int .u8 0, .int .u8 0] 31 (0, 0)) (by (with_reducible repeat (first | refine blk_drewN ?_ _ | refine blk_drew ?_ | refine blk_alloc ?_ _)); exact BK995.out) hb); have n3_ := Aside0.mk (below_step (by repeat (first | (with_reducible first | exact HB.out | apply below_alloc | apply pw_below_drewN | apply below_drew1 | refine below_set ?_ GE994.out | refine below_set ?_ GE995.out) | exact HB.out)) hb); clear BK994; clear BK995; clear HB; have HO998 := n0_; have BK994 := n1_; have BK995 := n2_; have HB := n3_; clear n0_ n1_ n2_ n3_; (try clear hb); (try clear hb2); (try clear hk); (try clear hi); (try clear ho0)))
 go_loopg [11, 12] k (fun kq v11 v12 w' => ∃ (x11_1 : List Int) (x12_1 : Int), v12 = .int .i64 x12_1 ∧ Aside0 (reedpiperef13_Done.l0 kq a1 a2 t996 x11_1 x12_1 l0_0 a0_1 a0_2 = some (r1, r2, r3, r4)) ∧ Aside0 (kq ≤ k) ∧ Aside0 (Kd.R (Kd.int .i64) 3 w' w.heap.size (fun k_ => some k_ ≠ (v11 : Value).ownBlock) v997 t996) ∧ Aside0 (Kd.R (Kd.int .i64) 3 w' w.heap.size (fun k_ => some k_ ≠ (v997 : Value).ownBlock) v11 x11_1) ∧ Aside0 (w'.heap[gb994]? = some (.cells #[(.slice A0_0 l0_0.length c0_0), .int .u8 a0_1, .int .u8 a0_2] 31 (0, 0))) ∧ Aside0 (w'.heap[gb995]? = some (.cells #[(.slice none 0 0), .int .u8 0, .int .u8 0] 31 (0, 0))) ∧ Aside0 (Below w.heap.size w w'))
 case atStart => exact ⟨(([] : List Int)), (0), (by first | rfl | (simp; done) | (simp [*]; done)), H', ⟨Nat.le_refl _⟩, ⟨by (with_reducible repeat (first | apply Kd.R_alloc | apply Kd.R_drewN | apply Kd.R_drew)); exact Kd.R_mono HO998.out (fun _ hk => (by simp [Value.ownBlock]))⟩, ⟨by first | exact Kd.R_nil _ _ _ _ _ | exact Kd.N_nil _ _ _ _ _ | exact Kd.V_nil _ _ _ _ _ | exact Kd.Q_nil _ _ _ _ _ | exact Kd.S_nil _ _ _ _ _⟩, ⟨by (with_reducible repeat (first | refine blk_drewN ?_ _ | refine blk_drew ?_ | refine blk_alloc ?_ _)); exact BK994.out⟩, ⟨by (with_reducible repeat (first | refine blk_drewN ?_ _ | refine blk_drew ?_ | refine blk_alloc ?_ _)); exact BK995.out⟩, ⟨by repeat (first | (with_reducible first | exact HB.out | apply below_alloc | apply pw_below_drewN | apply below_drew1 | refine below_set ?_ GE994.out | refine below_set ?_ GE995.out) | exact HB.out)⟩⟩
 case round =>
  clear H'
  try clear p2
  try clear c3
  try clear c8
  try clear c9
  try clear hcz9_0
  try clear hcz9_1
  try clear hcz9_2
  try clear hfz9_0
  try clear hfz9_1
  try clear hfz9_2
  obtain ⟨x11_1, x12_1, rfl, HA, HK1, HO_10, HO_11, BK994, BK995, HB⟩ := hrel
  cases gk with
  | zero => exact absurd HA.out (by simp [reedpiperef13_Done.l0])
  | succ k1 =>
   have H := HA.out
   clear HA
   simp only [reedpiperef13_Done.l0] at H
   by_cases c11 : x12_1 < 256
   ·rw [if_pos c11] at H
    have c11b0 : decide (x12_1 < 256) = true := decide_eq_true c11
    clear c11
    by_cases c12 : 0 ≤ x12_1
    ·rw [if_pos c12] at H
     have c12b0 : decide (0 ≤ x12_1) = true := decide_eq_true c12
     clear c12
     by_cases c13 : x12_1 < (l0_0.length : Int)
     ·rw [if_pos c13] at H
      have c13b0 : decide (x12_1 < (l0_0.length : Int)) = true := decide_eq_true c13
      clear c13
      by_cases c14 : x12_1 < (t996.length : Int)
      ·rw [if_pos c14] at H
       have c14b0 : decide (x12_1 < (t996.length : Int)) = true := decide_eq_true c14
       clear c14
       replace H := Option.bind_eq_some_iff.mp H
       obtain ⟨t1001, A150, H⟩ := H
       replace H : ((reedpiperef03_Kept.f t1001 16).bind fun t1002 => (if x11_1.length < 17592186044416 then (reedpiperef13_Done.l0 k1 a1 a2 t996 (x11_1 ++ [t1002]) (wrap64 (x12_1 + 1)) l0_0 a0_1 a0_2) else (none))) = some (r1, r2, r3, r4) := H
       have A15 := Aside0.mk A150
       clear A150
       replace H := Option.bind_eq_some_iff.mp H
       obtain ⟨t1002, A160, H⟩ := H
       replace H : (if x11_1.length < 17592186044416 then (reedpiperef13_Done.l0 k1 a1 a2 t996 (x11_1 ++ [t1002]) (wrap64 (x12_1 + 1)) l0_0 a0_1 a0_2) else (none)) = some (r1, r2, r3, r4) := H
       have A16 := Aside0.mk A160
       clear A160
       by_cases c17 : x11_1.length < 17592186044416
       ·rw [if_pos c17] at H
        have LMc17 := Aside0.mk c17
        clear c17
        obtain ⟨y1003, hy1003⟩ : ∃ y_ : List Int, y_ = (x11_1 ++ [t1002]) := ⟨_, rfl⟩
        replace H : (reedpiperef13_Done.l0 k1 a1 a2 t996 y1003 (wrap64 (x12_1 + 1)) l0_0 a0_1 a0_2) = some (r1, r2, r3, r4) := by first | (rw [hy1003]; with_reducible exact H) | (have H2_ := (Option.bind_some _ _).symm.trans H; rw [hy1003]; with_reducible exact H2_) | (have H2_ := (Option.bind_some _ _).symm.trans H; with_reducible exact H2_) | with_reducible exact H | (rw [hy1003]; exact H) | exact H
        have Ny1003 := Aside0.mk hy1003
        clear hy1003
        have H' := Aside0.mk H
        clear H
        try go_wp2
        have n0_ := Aside0.mk (Kd.R_drew HO_10.out)
        have n1_ := Aside0.mk (Kd.R_drew HO_11.out)
        have n2_ := Aside0.mk (blk_drew BK994.out)
        have n3_ := Aside0.mk (blk_drew BK995.out)
        have n4_ := Aside0.mk (below_drew1 HB.out)
        clear HO_10
        clear HO_11
        clear BK994
        clear BK995
        clear HB
        have HO_10 := n0_
        have HO_11 := n1_
        have BK994 := n2_
        have BK995 := n3_
        have HB := n4_
        clear n0_ n1_ n2_ n3_ n4_
        have p999 : 0 ≤ (x12_1 : Int) := of_decide_eq_true (by first | (with_reducible assumption) | assumption)
        have q999 : x12_1 < (l0_0.length : Int) := of_decide_eq_true (by first | (with_reducible assumption) | assumption)
        obtain ⟨ad999, e999, hx999_0⟩ := Kd.at_int HR0_0.out x12_1 p999 q999
        have hw999_0 := hx999_0
        cases e999
        replace hx999_0 := (HB.out.cell (World.block_lt_of_cell? w _ hx999_0)).trans hx999_0
        replace p999 := eq_true p999
        replace q999 := eq_true q999
        obtain ⟨Ao19, co19, eo19⟩ := Kd.R_slice HO_10.out
        (first | subst eo19 | (injection eo19 with f1_ f2_ f3_; have f4_ := f1_.symm; have f5_ := f3_.symm; clear f1_ f2_ f3_; subst f4_; subst f5_))
        have p1000 : 0 ≤ (x12_1 : Int) := of_decide_eq_true (by first | (with_reducible assumption) | assumption)
        have q1000 : x12_1 < (t996.length : Int) := of_decide_eq_true (by first | (with_reducible assumption) | assumption)
        obtain ⟨ad1000, e1000, hx1000_0⟩ := Kd.at_int (Kd.R_reads' HO_10.out).2.2 x12_1 p1000 q1000
        cases e1000
        replace p1000 := eq_true p1000
        replace q1000 := eq_true q1000
        refine start_ (n := 16) (S := fun w' => w'.cell? ⟨gb994, 0, none⟩ = some (.slice (some ad999) l0_0.length c0_0) ∧ w'.cell? ⟨gb994, 1, none⟩ = some (.int .u8 a0_1) ∧ w'.cell? ⟨gb994, 2, none⟩ = some (.int .u8 a0_2) ∧ w'.cell? (ad999.add (x12_1).toNat) = some (.int .i64 (rd l0_0 x12_1)) ∧ w'.cell? (ad1000.add (x12_1).toNat) = some (.int .i64 (rd t996 x12_1))) (ds := [13, 14]) #[false, false, false, false, false, false, false, false, false, false, false, false, false, false, false, false] (by kernel_rfl) rfl rfl ⟨(blk_cell BK994.out 0).trans rfl, (blk_cell BK994.out 1).trans rfl, (blk_cell BK994.out 2).trans rfl, ((HB.out.cell (World.block_lt_of_cell? w _ hw999_0)).trans hw999_0), hx1000_0⟩ (fun hHeld => ?_); refine with_tabW reedpiperef13_Done.tab6 reedpiperef13_Done.bits6 (fun HT_ HW_ => ?_)
        generalize wr.drew = w18 at HO_10 HO_11 BK994 BK995 HB hx1000_0 hx999_0 hHeld ⊢
        refine pure_ (i := 0) (N := some 23) (v := ?_) (a' := ?_) #[true, false, false, false, false, false, false, false, false, false, false, false, false, false, false, false] rfl rfl (any_of HT_.out (by kernel_rfl)) (fun _ _ _ h => h) (Or.inl ⟨by rfl, ?_⟩) ?_ ?_
        rotate_left
        ·intro w'
         go_simp
         with_reducible rfl
        rotate_left
        ·simp only [Act.put, List.setIfInBounds_toArray, List.set_cons_zero, List.set_cons_succ, i64_w, i32_w]
         rfl
        refine pure_ (i := 1) (N := some 24) (v := ?_) (a' := ?_) #[true, true, false, false, false, false, false, false, false, false, false, false, false, false, false, false] rfl rfl (any_of HT_.out (by kernel_rfl)) (fun _ _ _ h => h) (Or.inl ⟨by rfl, ?_⟩) ?_ ?_
        rotate_left
        ·intro w'
         go_simp
         with_reducible rfl
        rotate_left
        ·simp only [Act.put, List.setIfInBounds_toArray, List.set_cons_zero, List.set_cons_succ, i64_w, i32_w]
         rfl
        refine pure_ (i := 3) (N := some 26) (v := ?_) (a' := ?_) #[true, true, false, true, false, false, false, false, false, false, false, false, false, false, false, false] rfl rfl (any_of HT_.out (by kernel_rfl)) (fun _ _ _ h => h) (Or.inl ⟨by rfl, ?_⟩) ?_ ?_
        rotate_left
        ·intro w'
         go_simp
         with_reducible rfl
        rotate_left
        ·simp only [Act.put, List.setIfInBounds_toArray, List.set_cons_zero, List.set_cons_succ, i64_w, i32_w]
         rfl
        refine pure_ (i := 6) (N := some 29) (v := ?_) (a' := ?_) #[true, true, false, true, false, false, true, false, false, false, false, false, false, false, false, false] rfl rfl (any_of HT_.out (by kernel_rfl)) (fun _ _ _ h => h) (Or.inl ⟨by rfl, ?_⟩) ?_ ?_
        rotate_left
        ·intro w'
         go_simp
         with_reducible rfl
        rotate_left
        ·simp only [Act.put, List.setIfInBounds_toArray, List.set_cons_zero, List.set_cons_succ, i64_w, i32_w]
         rfl
        refine pure_ (i := 7) (N := some 30) (v := ?_) (a' := ?_) #[true, true, false, true, false, false, true, true, false, false, false, false, false, false, false, false] rfl rfl (any_of HT_.out (by kernel_rfl)) (fun _ _ _ h => h) (Or.inl ⟨by rfl, ?_⟩) ?_ ?_
        rotate_left
        ·intro w'
         go_simp
         with_reducible rfl
        rotate_left
        ·simp only [Act.put, List.setIfInBounds_toArray, List.set_cons_zero, List.set_cons_succ, i64_w, i32_w]
         rfl
        refine pure_ (i := 8) (N := some 31) (v := ?_) (a' := ?_) #[true, true, false, true, false, false, true, true, true, false, false, false, false, false, false, false] rfl rfl (any_of HT_.out (by kernel_rfl)) (fun _ _ _ h => h) (Or.inl ⟨by rfl, ?_⟩) ?_ ?_
        rotate_left
        ·intro w'
         go_simp
         with_reducible rfl
        rotate_left
        ·simp only [Act.put, List.setIfInBounds_toArray, List.set_cons_zero, List.set_cons_succ, i64_w, i32_w]
         rfl
        refine take_ (i := 2) (N := some 25) (v := ?_) (a' := ?_) #[true, true, true, true, false, false, true, true, true, false, false, false, false, false, false, false] rfl rfl (take_ofW HT_.out HW_.out (by kernel_rfl)) (fun _ _ _ h => h) (Or.inl ⟨by rfl, ?_⟩) hHeld ?_ ?_
        rotate_left
        ·rintro w' ⟨s0, s1, s2, s3, s4⟩
         go_simp
         with_reducible rfl
        rotate_left
        ·simp only [Act.put, List.setIfInBounds_toArray, List.set_cons_zero, List.set_cons_succ, i64_w, i32_w]
         rfl
        refine pure_ (i := 4) (N := some 27) (v := ?_) (a' := ?_) #[true, true, true, true, true, false, true, true, true, false, false, false, false, false, false, false] rfl rfl (any_of HT_.out (by kernel_rfl)) (fun _ _ _ h => h) (Or.inl ⟨by rfl, ?_⟩) ?_ ?_
        rotate_left
        ·intro w'
         go_simp
         with_reducible rfl
        rotate_left
        ·simp only [Act.put, List.setIfInBounds_toArray, List.set_cons_zero, List.set_cons_succ, i64_w, i32_w]
         rfl
        refine take_ (i := 5) (N := some 28) (v := ?_) (a' := ?_) #[true, true, true, true, true, true, true, true, true, false, false, false, false, false, false, false] rfl rfl (take_ofW HT_.out HW_.out (by kernel_rfl)) (fun _ _ _ h => h) (Or.inl ⟨by rfl, ?_⟩) hHeld ?_ ?_
        rotate_left
        ·rintro w' ⟨s0, s1, s2, s3, s4⟩
         go_simp
         with_reducible rfl
        rotate_left
        ·simp only [Act.put, List.setIfInBounds_toArray, List.set_cons_zero, List.set_cons_succ, i64_w, i32_w]
         rfl
        refine take_ (i := 9) (N := some 32) (v := ?_) (a' := ?_) #[true, true, true, true, true, true, true, true, true, true, false, false, false, false, false, false] rfl rfl (take_ofW HT_.out HW_.out (by kernel_rfl)) (fun _ _ _ h => h) (Or.inl ⟨by rfl, ?_⟩) hHeld ?_ ?_
        rotate_left
        ·rintro w' ⟨s0, s1, s2, s3, s4⟩
         go_simp
         with_reducible rfl
        rotate_left
        ·simp only [Act.put, List.setIfInBounds_toArray, List.set_cons_zero, List.set_cons_succ, i64_w, i32_w]
         rfl
        refine pure_ (i := 10) (N := some 33) (v := ?_) (a' := ?_) #[true, true, true, true, true, true, true, true, true, true, true, false, false, false, false, false] rfl rfl (any_of HT_.out (by kernel_rfl)) (fun _ _ _ h => h) (Or.inl ⟨by rfl, ?_⟩) ?_ ?_
        rotate_left
        ·intro w'
         go_simp
         with_reducible rfl
        rotate_left
        ·simp only [Act.put, List.setIfInBounds_toArray, List.set_cons_zero, List.set_cons_succ, i64_w, i32_w]
         rfl
        refine one_ (i := 11) (N := some 34) #[true, true, true, true, true, true, true, true, true, true, true, true, false, false, false, false] rfl rfl (one_of HT_.out (by kernel_rfl)) (by decide) (fun K hK => ?_)
        refine goes_ Try.func63 (by kernel_rfl) rfl #[.int .i64 (wrap64 ((rd l0_0 x12_1) + (rd t996 x12_1))), .int .i64 4] (by rfl) rfl rfl (by (try simp only [List.map_toArray, List.map_cons, List.map_nil]); first | done | rfl | (simp only [List.length_drop, List.length_take]; rfl)) ?_
        with_reducible refine (reedpiperef03_Down.calls (wrap64 ((rd l0_0 x12_1) + (rd t996 x12_1))) 4 t1001 _ A15.out).mono ?_
        rintro e w' ⟨rfl, ⟨nd, rfl⟩⟩
        refine ⟨_, rfl, ?_⟩
        refine hK.out _ _ ⟨(blk_cell BK994.out 0).trans rfl, (blk_cell BK994.out 1).trans rfl, (blk_cell BK994.out 2).trans rfl, ((HB.out.cell (World.block_lt_of_cell? w _ hw999_0)).trans hw999_0), hHeld.2.2.2.2⟩ (fun hHeld => ?_)
        clear hK K
        refine norm_ (a' := ?_) ?_ ?_
        rotate_left
        ·show Act.put _ (some 34) _ = _
         simp only [Act.put, List.setIfInBounds_toArray, List.set_cons_zero, List.set_cons_succ, i64_w, i32_w]
         rfl
        refine one_ (i := 12) (N := some 35) #[true, true, true, true, true, true, true, true, true, true, true, true, true, false, false, false] rfl rfl (one_of HT_.out (by kernel_rfl)) (by decide) (fun K hK => ?_)
        refine goes_ Try.func119 (by kernel_rfl) rfl #[.int .i64 t1001, .int .i64 16] (by rfl) rfl rfl (by (try simp only [List.map_toArray, List.map_cons, List.map_nil]); first | done | rfl | (simp only [List.length_drop, List.length_take]; rfl)) ?_
        with_reducible refine (reedpiperef03_Kept.calls t1001 16 t1002 _ A16.out).mono ?_
        rintro e w20 ⟨rfl, hb⟩
        have HS4_ := (hb.cell (World.block_lt_of_cell? _ _ (hHeld.2.2.2.2))).trans (hHeld.2.2.2.2)
        refine ⟨_, rfl, ?_⟩
        have n0_ := Aside0.mk (Kd.R_below (by (with_reducible repeat (first | apply Kd.R_alloc | apply Kd.R_drewN | apply Kd.R_drew)); exact HO_10.out) hb)
        have n1_ := Aside0.mk (Kd.R_below (by (with_reducible repeat (first | apply Kd.R_alloc | apply Kd.R_drewN | apply Kd.R_drew)); exact HO_11.out) hb)
        have n2_ := Aside0.mk (blk_below (g := gb994) (o := .cells #[.slice (some ad999) l0_0.length c0_0, .int .u8 a0_1, .int .u8 a0_2] 31 (0, 0)) (by (with_reducible repeat (first | refine blk_drewN ?_ _ | refine blk_drew ?_ | refine blk_alloc ?_ _)); exact BK994.out) hb)
        have n3_ := Aside0.mk (blk_below (g := gb995) (o := .cells #[.slice none 0 0, .int .u8 0, .int .u8 0] 31 (0, 0)) (by (with_reducible repeat (first | refine blk_drewN ?_ _ | refine blk_drew ?_ | refine blk_alloc ?_ _)); exact BK995.out) hb)
        have n4_ := Aside0.mk (below_step (by repeat (first | (with_reducible first | exact HB.out | apply below_alloc | apply pw_below_drewN | apply below_drew1 | refine below_set ?_ GE994.out | refine below_set ?_ GE995.out) | exact HB.out)) hb)
        clear HO_10
        clear HO_11
        clear BK994
        clear BK995
        clear HB
        have HO_10 := n0_
        have HO_11 := n1_
        have BK994 := n2_
        have BK995 := n3_
        have HB := n4_
        clear n0_ n1_ n2_ n3_ n4_
        (try clear hb)
        (try clear hb2)
        (try clear hk)
        (try clear hi)
        refine hK.out _ _ ⟨(blk_cell BK994.out 0).trans rfl, (blk_cell BK994.out 1).trans rfl, (blk_cell BK994.out 2).trans rfl, ((HB.out.cell (World.block_lt_of_cell? w _ hw999_0)).trans hw999_0), HS4_⟩ (fun hHeld => ?_)
        clear hK K
        refine norm_ (a' := ?_) ?_ ?_
        rotate_left
        ·show Act.put _ (some 35) _ = _
         simp only [Act.put, List.setIfInBounds_toArray, List.set_cons_zero, List.set_cons_succ, i64_w, i32_w]
         rfl
        refine last_ (i := 13) (N := some 36) #[true, true, true, true, true, true, true, true, true, true, true, true, true, true, false, false] rfl rfl (one_of HT_.out (by kernel_rfl)) (by decide) (fun K hK => ?_)
        refine value_ (w1 := ?_) (v := ?_) (by rfl) rfl ?_ ?_
        rotate_left 2
        ·go_simp
         constructor
         ·rfl
         ·rfl
        refine hK.out _ _ ?_
        clear hK K
        refine norm_ (a' := ?_) ?_ ?_
        rotate_left
        ·show Act.put _ (some 36) _ = _
         simp only [Act.put, List.setIfInBounds_toArray, List.set_cons_zero, List.set_cons_succ, i64_w, i32_w]
         rfl
        refine last_ (i := 14) (N := some 37) #[true, true, true, true, true, true, true, true, true, true, true, true, true, true, true, false] rfl rfl (one_of HT_.out (by kernel_rfl)) (by decide) (fun K hK => ?_)
        refine Kd.R_append_step (Kd.int .i64) (w0 := w) w.heap.size (by rfl) (.tmp 23) (.tmp 36) 29 3 (.int .i64 0) 8 rfl Try.underlying29 info3 rfl (by decide) (by omega) u11 x11_1 t1002 [.int .i64 t1002] (fun k_ => some k_ ≠ (.slice (some ad1000) t996.length co19 : Value).ownBlock) (fun _ => False) rfl rfl ?aP (fun _ hk => hk.elim) ?aF ?aO ?aB ?aS ?aL ?_
        (case aP => exact rfl)
        (case aB => exact (by repeat (first | (with_reducible first | exact HB.out | apply below_alloc | apply pw_below_drewN | apply below_drew1 | refine below_set ?_ GE994.out | refine below_set ?_ GE995.out) | exact HB.out)))
        (case aF => exact (fun k_ hk => Kd.fresh' (Kd.R_lt (by (with_reducible repeat (first | apply Kd.R_alloc | apply Kd.R_drewN | apply Kd.R_drew)); exact HO_10.out)) k_ hk))
        (case aO => exact (by (with_reducible repeat (first | apply Kd.R_alloc | apply Kd.R_drewN | apply Kd.R_drew)); exact HO_11.out))
        (case aS => exact (below_size (by repeat (first | (with_reducible first | exact HB.out | apply below_alloc | apply pw_below_drewN | apply below_drew1 | refine below_set ?_ GE994.out | refine below_set ?_ GE995.out) | exact HB.out))))
        (case aL => have := LMc17.out; omega)
        intro v1004 w21 ho hb hg hat
        rw [← Ny1003.out] at ho
        have n0_ := Aside0.mk (Kd.R_after (ok := (fun _ => True)) (by (with_reducible repeat (first | apply Kd.R_alloc | apply Kd.R_drewN | apply Kd.R_drew)); exact Kd.R_mono HO_10.out (fun _ hk => ⟨trivial, hk⟩)) hg hat)
        have n1_ := Aside0.mk (blk_grown (g := gb994) (o := .cells #[.slice (some ad999) l0_0.length c0_0, .int .u8 a0_1, .int .u8 a0_2] 31 (0, 0)) (by (with_reducible repeat (first | refine blk_drewN ?_ _ | refine blk_drew ?_ | refine blk_alloc ?_ _)); exact BK994.out) hg (Kd.R_ne HO_11.out BK994.out (by decide)))
        have n2_ := Aside0.mk (blk_grown (g := gb995) (o := .cells #[.slice none 0 0, .int .u8 0, .int .u8 0] 31 (0, 0)) (by (with_reducible repeat (first | refine blk_drewN ?_ _ | refine blk_drew ?_ | refine blk_alloc ?_ _)); exact BK995.out) hg (Kd.R_ne HO_11.out BK995.out (by decide)))
        have n3_ := Aside0.mk (hb)
        have n4_ := Aside0.mk (ho)
        clear HO_10
        clear BK994
        clear BK995
        clear HB
        clear HO_11
        have HO_10 := n0_
        have BK994 := n1_
        have BK995 := n2_
        have HB := n3_
        have HO1005 := n4_
        clear n0_ n1_ n2_ n3_ n4_
        clear ho hb hg hat
        refine hK.out _ _ ?_
        clear hK K
        refine norm_ (a' := ?_) ?_ ?_
        rotate_left
        ·show Act.put _ (some 37) _ = _
         simp only [Act.put, List.setIfInBounds_toArray, List.set_cons_zero, List.set_cons_succ, i64_w, i32_w]
         rfl
        refine pure_ (i := 15) (N := some 11) (v := ?_) (a' := ?_) #[true, true, true, true, true, true, true, true, true, true, true, true, true, true, true, true] rfl rfl (any_of HT_.out (by kernel_rfl)) (fun _ _ _ h => h) (Or.inl ⟨by rfl, ?_⟩) ?_ ?_
        rotate_left
        ·intro w'
         go_simp
         with_reducible rfl
        rotate_left
        ·simp only [Act.put, List.setIfInBounds_toArray, List.set_cons_zero, List.set_cons_succ, i64_w, i32_w]
         rfl
        refine done_ (done_of HT_.out (by kernel_rfl)) ?_
        try go_wp2
        go_roundg k1
        case measure => have := HK1.out; omega
        case rel => exact ⟨(y1003), (wrap64 (x12_1 + 1)), (by first | rfl | (simp; done) | (simp [*]; done)), H', ⟨by have := HK1.out; omega⟩, ⟨by (with_reducible repeat (first | apply Kd.R_alloc | apply Kd.R_drewN | apply Kd.R_drew)); exact Kd.R_mono HO_10.out (fun _ hk => hk.2)⟩, ⟨by (with_reducible repeat (first | apply Kd.R_alloc | apply Kd.R_drewN | apply Kd.R_drew)); exact HO1005.out⟩, ⟨by (with_reducible repeat (first | refine blk_drewN ?_ _ | refine blk_drew ?_ | refine blk_alloc ?_ _)); exact BK994.out⟩, ⟨by (with_reducible repeat (first | refine blk_drewN ?_ _ | refine blk_drew ?_ | refine blk_alloc ?_ _)); exact BK995.out⟩, ⟨by repeat (first | (with_reducible first | exact HB.out | apply below_alloc | apply pw_below_drewN | apply below_drew1 | refine below_set ?_ GE994.out | refine below_set ?_ GE995.out) | exact HB.out)⟩⟩
       ·rw [if_neg c17] at H
        exact absurd H (by simp)
      ·rw [if_neg c14] at H
       exact absurd H (by simp)
     ·rw [if_neg c13] at H
      exact absurd H (by simp)
    ·rw [if_neg c12] at H
     exact absurd H (by simp)
   ·rw [if_neg c11] at H
    have c11b0 : decide (x12_1 < 256) = false := decide_eq_false c11
    clear c11
    by_cases c22 : 256 ≤ (t996.length : Int)
    ·rw [if_pos c22] at H
     have c22b0 := eq_true c22
     have c22b1 : decide (256 ≤ (t996.length : Int)) = true := decide_eq_true c22
     clear c22
     obtain ⟨y1006, hy1006⟩ : ∃ y_ : List Int, y_ = (t996.drop 256) := ⟨_, rfl⟩
     replace H : (if ([] : List Int).length + y1006.length < 17592186044416 then (some ((([] : List Int) ++ y1006), a1, a2, x11_1)) else (none)) = some (r1, r2, r3, r4) := by first | (rw [hy1006]; with_reducible exact H) | (have H2_ := (Option.bind_some _ _).symm.trans H; rw [hy1006]; with_reducible exact H2_) | (have H2_ := (Option.bind_some _ _).symm.trans H; with_reducible exact H2_) | with_reducible exact H | (rw [hy1006]; exact H) | exact H
     have Ny1006 := Aside0.mk hy1006
     clear hy1006
     by_cases c23 : ([] : List Int).length + y1006.length < 17592186044416
     ·rw [if_pos c23] at H
      have LMc23 := Aside0.mk c23
      clear c23
      obtain ⟨y1010, hy1010⟩ : ∃ y_ : List Int, y_ = (([] : List Int) ++ y1006) := ⟨_, rfl⟩
      replace H : (some (y1010, a1, a2, x11_1)) = some (r1, r2, r3, r4) := by first | (rw [hy1010]; with_reducible exact H) | (have H2_ := (Option.bind_some _ _).symm.trans H; rw [hy1010]; with_reducible exact H2_) | (have H2_ := (Option.bind_some _ _).symm.trans H; with_reducible exact H2_) | with_reducible exact H | (rw [hy1010]; exact H) | exact H
      have Ny1010 := Aside0.mk hy1010
      clear hy1010
      simp only [Option.some.injEq, Prod.mk.injEq] at H
      obtain ⟨rfl, rfl, rfl, rfl⟩ := H
      obtain ⟨Ao25, co25, eo25⟩ := Kd.R_slice HO_10.out
      subst eo25
      have q24 : (256 : Int) ≤ ((t996.length : Int) : Int) := of_decide_eq_true (by first | (with_reducible assumption) | assumption)
      obtain ⟨i024, hi024, _, hsz24, _⟩ := info_parts info3
      have hroom24 : t996.length ≤ co25 := (Kd.R_reads' HO_10.out).2.1
      have hC24 : Kd.C (Kd.int .i64) _ Ao25 t996.length t996 := (Kd.R_reads' HO_10.out).2.2
      have hcut24 := cut_from (P := Try.prog) 29 3 .i64 Try.underlying29 hi024 1 hsz24 Ao25 t996.length co25 256 (by omega) q24
      have hr24 := Kd.C_drop (m := (256 : Int).toNat) (c := co25) hC24 (by omega) hroom24
      obtain ⟨A24, hA24⟩ : ∃ A1, A1 = (if co25 = (256 : Int).toNat then Ao25 else (Ao25 : Option Addr).map (·.add ((256 : Int).toNat * 1))) := ⟨_, rfl⟩
      obtain ⟨c24, hc24⟩ : ∃ c1, c1 = co25 - (256 : Int).toNat := ⟨_, rfl⟩
      have hy24 : y1006.length = t996.length - (256 : Int).toNat := (by rw [Ny1006.out, List.length_drop] <;> omega)
      rw [show (t996).drop (256 : Int).toNat = y1006 from Ny1006.out.symm] at hr24
      replace hr24 : Kd.C (Kd.int .i64) _ A24 y1006.length y1006 := (by rw [hA24]; exact hr24)
      rw [← hy24, ← hA24, ← hc24] at hcut24
      have HR1009 := Aside0.mk hr24
      have HC1009 := Aside0.mk (show y1006.length ≤ c24 from by rw [hy24, hc24]; exact Nat.sub_le_sub_right hroom24 _)
      clear hr24 hC24 hroom24 hi024 hsz24 hc24
      have KY24 := Aside0.mk hy24
      have KA24 := Aside0.mk hA24
      clear hy24 hA24
      have KL24 := Aside0.mk (show 256 ≤ t996.length from by omega)
      replace q24 := eq_true q24
      go_wp2_with (first | ((with_reducible refine gate_builtin (b := .append) (xs := #[.const (.slice none 0 0), .tmp 39]) rfl ?_); at_builtin; refine Kd.R_append_rows (Kd.int .i64) (w0 := w) w.heap.size rfl (.const (.slice none 0 0)) (.tmp 39) 29 3 (.int .i64 0) 8 rfl Try.underlying29 info3 rfl (by decide) (by omega) (.slice none 0 0) ([] : List Int) y1006 _ _ _ (fun k_ => some k_ ≠ (.slice Ao25 t996.length co25 : Value).ownBlock ∧ some k_ ≠ (u11 : Value).ownBlock) (fun _ => False) rfl rfl ?aO ?aR (fun _ _ h => h) (fun _ h => h.elim) ?aF ?aB ?aS ?aL ?_; (case aR => repeat (first | exact (by repeat (first | (with_reducible exact HR1009.out) | (with_reducible refine Kd.C_alloc ?_ _) | (with_reducible refine Kd.C_drewN ?_ _) | (with_reducible refine Kd.C_drew ?_) | exact HR1009.out)) | (with_reducible refine Kd.C_alloc ?_ _) | (with_reducible refine Kd.C_drewN ?_ _) | (with_reducible refine Kd.C_drew ?_))); (case aB => exact (by repeat (first | (with_reducible first | exact HB.out | apply below_alloc | apply pw_below_drewN | apply below_drew1 | refine below_set ?_ GE994.out | refine below_set ?_ GE995.out) | exact HB.out))); (case aF => exact (fun k_ hk => ⟨Kd.fresh' (Kd.R_lt (by (with_reducible repeat (first | apply Kd.R_alloc | apply Kd.R_drewN | apply Kd.R_drew)); exact HO_10.out)) k_ hk, Kd.fresh' (Kd.R_lt (by (with_reducible repeat (first | apply Kd.R_alloc | apply Kd.R_drewN | apply Kd.R_drew)); exact HO_11.out)) k_ hk⟩)); (case aO => exact ((Kd.R_nil _ _ _ _ (fun k_ => some k_ ≠ (.slice Ao25 t996.length co25 : Value).ownBlock ∧ some k_ ≠ (u11 : Value).ownBlock)))); (case aS => exact (below_size (by repeat (first | (with_reducible first | exact HB.out | apply below_alloc | apply pw_below_drewN | apply below_drew1 | refine below_set ?_ GE994.out | refine below_set ?_ GE995.out) | exact HB.out)))); (case aL => have := LMc23.out; omega); intro v1011 w26 ho hb hg hat; rw [← Ny1010.out] at ho; have n0_ := Aside0.mk (Kd.R_after (Kd.R_apart_nil (by (with_reducible repeat (first | apply Kd.R_alloc | apply Kd.R_drewN | apply Kd.R_drew)); exact HO_10.out)) hg hat); have n1_ := Aside0.mk (Kd.R_after (Kd.R_apart_nil (by (with_reducible repeat (first | apply Kd.R_alloc | apply Kd.R_drewN | apply Kd.R_drew)); exact HO_11.out)) hg hat); have n2_ := Aside0.mk (blk_grown (g := gb994) (o := .cells #[.slice A0_0 l0_0.length c0_0, .int .u8 a0_1, .int .u8 a0_2] 31 (0, 0)) (by (with_reducible repeat (first | refine blk_drewN ?_ _ | refine blk_drew ?_ | refine blk_alloc ?_ _)); exact BK994.out) hg (by simp [Value.ownBlock])); have n3_ := Aside0.mk (blk_grown (g := gb995) (o := .cells #[.slice none 0 0, .int .u8 0, .int .u8 0] 31 (0, 0)) (by (with_reducible repeat (first | refine blk_drewN ?_ _ | refine blk_drew ?_ | refine blk_alloc ?_ _)); exact BK995.out) hg (by simp [Value.ownBlock])); have n4_ := Aside0.mk (hb); have n5_ := Aside0.mk ((show Kd.C (Kd.int .i64) w26 A24 y1006.length y1006 from by rw [Ny1006.out, KA24.out]; exact Kd.C_drop (m := 256) (c := co25) ((Kd.R_reads' (Kd.R_after (Kd.R_apart_nil (by (with_reducible repeat (first | apply Kd.R_alloc | apply Kd.R_drewN | apply Kd.R_drew)); exact HO_10.out)) hg hat)).2.2) KL24.out ((Kd.R_reads' (Kd.R_after (Kd.R_apart_nil (by (with_reducible repeat (first | apply Kd.R_alloc | apply Kd.R_drewN | apply Kd.R_drew)); exact HO_10.out)) hg hat)).2.1))); have n6_ := Aside0.mk (ho); clear HO_10; clear HO_11; clear BK994; clear BK995; clear HB; clear HR1009; have HO_10 := n0_; have HO_11 := n1_; have BK994 := n2_; have BK995 := n3_; have HB := n4_; have HR1009 := n5_; have HO1012 := n6_; clear n0_ n1_ n2_ n3_ n4_ n5_ n6_; clear ho hb hg hat; obtain ⟨Ao27, co27, eo27⟩ := Kd.R_slice HO1012.out; subst eo27; have hnb28 := NB995_994.out; have hnc28 := NB994_995.out; have hcz29_0 : w26.cell? ⟨gb995, 0, none⟩ = some (.slice none 0 0) := (blk_cell BK995.out 0).trans rfl; have hcz29_1 : w26.cell? ⟨gb995, 1, none⟩ = some (.int .u8 0) := (blk_cell BK995.out 1).trans rfl; have hcz29_2 : w26.cell? ⟨gb995, 2, none⟩ = some (.int .u8 0) := (blk_cell BK995.out 2).trans rfl; have hfz29_0 := blk_frozen BK995.out 0; have hfz29_1 := blk_frozen BK995.out 1; have hfz29_2 := blk_frozen BK995.out 2))
      refine bodyPost_ret (results_ct rfl _ _ gb995 31 #[.slice Ao27 y1010.length co27, .int .u8 a1, .int .u8 a2] (0, 0) _ rfl (by (with_reducible repeat (first | refine blk_drewN ?_ _ | refine blk_drew ?_ | refine blk_alloc ?_ _)); refine blk_put (cs := #[.slice Ao27 y1010.length co27, .int .u8 a1, .int .u8 0]) ?_ 2 _ rfl; (with_reducible repeat (first | refine blk_drewN ?_ _ | refine blk_drew ?_ | refine blk_alloc ?_ _)); refine blk_put (cs := #[.slice Ao27 y1010.length co27, .int .u8 0, .int .u8 0]) ?_ 1 _ rfl; (with_reducible repeat (first | refine blk_drewN ?_ _ | refine blk_drew ?_ | refine blk_alloc ?_ _)); refine blk_put (cs := #[.slice none 0 0, .int .u8 0, .int .u8 0]) ?_ 0 _ rfl; (with_reducible repeat (first | refine blk_drewN ?_ _ | refine blk_drew ?_ | refine blk_alloc ?_ _)); exact BK995.out) Try.underlying31 rfl (by kernel_rfl)) rfl ?_
      exact ⟨_, _, by first | rfl | (simp [errW_none, errW_some] <;> rfl) | (simp [*, errW_none, errW_some] <;> rfl), by (with_reducible repeat (first | apply Kd.R_alloc | apply Kd.R_drewN | apply Kd.R_drew)); exact Kd.R_mono (Kd.R_far (p := ⟨gb995, 2, none⟩) (Kd.R_far (p := ⟨gb995, 1, none⟩) (Kd.R_far (p := ⟨gb995, 0, none⟩) (Kd.R_types HO1012.out BK995.out (by decide)) (fun _ hk => hk.2) (.slice Ao27 y1010.length co27)) (fun _ hk => hk.2) (.int .u8 a1)) (fun _ hk => hk.2) (.int .u8 a2)) (fun _ hk => hk.1.2), by (with_reducible repeat (first | apply Kd.R_alloc | apply Kd.R_drewN | apply Kd.R_drew)); exact Kd.R_mono (Kd.R_far (p := ⟨gb995, 2, none⟩) (Kd.R_far (p := ⟨gb995, 1, none⟩) (Kd.R_far (p := ⟨gb995, 0, none⟩) (Kd.R_types HO_11.out BK995.out (by decide)) (fun _ hk => hk.2) (.slice Ao27 y1010.length co27)) (fun _ hk => hk.2) (.int .u8 a1)) (fun _ hk => hk.2) (.int .u8 a2)) (fun _ hk => hk.1.2), by repeat (first | (with_reducible first | exact HB.out | apply below_alloc | apply pw_below_drewN | apply below_drew1 | refine below_set ?_ GE994.out | refine below_set ?_ GE995.out) | exact HB.out)⟩
     ·rw [if_neg c23] at H
      exact absurd H (by simp)
    ·rw [if_neg c22] at H
     exact absurd H (by simp)

end Go.Proofs.Ytpoppdaaodmicaa.Q
