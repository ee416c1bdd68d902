-- Written by a program of this session's (wip/mk.py, over the kit's print.py); Lean checks it.
import Derived.Test.YtpoppdaaodmicaaQ0
import Derived.Test.YtpoppdaaodmicaaBSynthJ
import Derived.Test.YtpoppdaaodmicaaBRefTrigJ
import Derived.Test.YtpoppdaaodmicaaQ58
import Derived.Test.YtpoppdaaodmicaaQ59
import Derived.Test.YtpoppdaaodmicaaQ60
import Derived.Test.YtpoppdaaodmicaaQ61
namespace Go.Proofs.Ytpoppdaaodmicaa.Q
open Go.RowKit Go.Proofs.YtpoppdaaodmicaaW.PrintWords Go.Proofs.YtpoppdaaodmicaaW.PrintLast Go.Proofs.YtpoppdaaodmicaaW.PrintMore
attribute [local go_sem] max2_int min2_int max_two min_two max_three min_three max_four min_four   -- for this text's walks alone
set_option linter.unusedVariables false
set_option linter.unusedSimpArgs false

mutual
def reedpipelaw13_LapDoes.j0 : Nat → Int → Int → List Int → Bool → List Int → Int → Int → Option (Bool)
 | 0, _, _, _, _, _, _, _ => none
 | k + 1, x1, x2, x3, x27, x1039000, x1039001, x1039002 => if x27 = true then (some true) else (if ([] : List Int).length + x1039000.length < 17592186044416 then ((some (([] : List Int) ++ x1039000 : List Int)).bind fun y1039 => (if ([] : List Int).length + x3.length < 17592186044416 then ((some (([] : List Int) ++ x3 : List Int)).bind fun y1043 => ((lap_Next.f y1039 x1039001 x1039002 x1 x2 y1043).bind fun bt1046 => ((reedpiperef13_Next.f k x1039000 x1039001 x1039002 x1 x2 x3).bind fun bt1056 => ((reedpiperef13_Same.f k bt1046.1 bt1046.2.1 bt1046.2.2.1 bt1056.1 bt1056.2.1 bt1056.2.2.1).bind fun t1066 => (if t1066 = true then ((reedpiperef11_Same.f k bt1046.2.2.2.1 bt1056.2.2.2.1).bind fun t1067 => (if t1067 = true then (if bt1046.2.2.2.2 = bt1056.2.2.2.2 then ((lap_Check.f y1039 x1039001 x1039002).bind fun t1068 => ((reedpiperef13_Check.f k x1039000 x1039001 x1039002).bind fun t1069 => (if t1068 = t1069 then ((lap_New.f).bind fun bt1070 => ((reedpiperef13_New.f).bind fun bt1075 => ((reedpiperef13_Same.f k bt1070.1 bt1070.2.1 bt1070.2.2 bt1075.1 bt1075.2.1 bt1075.2.2).bind fun t1080 => (reedpipelaw13_LapDoes.j1 k x3 y1043 bt1046.2.2.2.1 (!t1080) x1039000 x1039001 x1039002 y1039 x1039001 x1039002 bt1046.1 bt1046.2.1 bt1046.2.2.1)))) else (reedpipelaw13_LapDoes.j1 k x3 y1043 bt1046.2.2.2.1 true x1039000 x1039001 x1039002 y1039 x1039001 x1039002 bt1046.1 bt1046.2.1 bt1046.2.2.1)))) else (reedpipelaw13_LapDoes.j1 k x3 y1043 bt1046.2.2.2.1 true x1039000 x1039001 x1039002 y1039 x1039001 x1039002 bt1046.1 bt1046.2.1 bt1046.2.2.1)) else (reedpipelaw13_LapDoes.j1 k x3 y1043 bt1046.2.2.2.1 true x1039000 x1039001 x1039002 y1039 x1039001 x1039002 bt1046.1 bt1046.2.1 bt1046.2.2.1))) else (reedpipelaw13_LapDoes.j1 k x3 y1043 bt1046.2.2.2.1 true x1039000 x1039001 x1039002 y1039 x1039001 x1039002 bt1046.1 bt1046.2.1 bt1046.2.2.1)))))) else (none))) else (none))
def reedpipelaw13_LapDoes.j1 : Nat → List Int → List Int → List Int → Bool → List Int → Int → Int → List Int → Int → Int → List Int → Int → Int → Option (Bool)
 | 0, _, _, _, _, _, _, _, _, _, _, _, _, _ => none
 | k + 1, x3, x10, x12, x83, x1039000, x1039001, x1039002, x1043000, x1043001, x1043002, x1056000, x1056001, x1056002 => if x83 = true then (some false) else (reedpipelaw13_LapDoes.l0 k x3 x10 x12 0 x1039000 x1039001 x1039002 x1043000 x1043001 x1043002 x1056000 x1056001 x1056002)
def reedpipelaw13_LapDoes.l0 : Nat → List Int → List Int → List Int → Int → List Int → Int → Int → List Int → Int → Int → List Int → Int → Int → Option (Bool)
 | 0, _, _, _, _, _, _, _, _, _, _, _, _, _ => none
 | k + 1, x3, x10, x12, x17, x1039000, x1039001, x1039002, x1043000, x1043001, x1043002, x1056000, x1056001, x1056002 => if x17 < (x1056000.length : Int) then (if 0 ≤ x17 then (reedpipelaw13_LapDoes.l0 k x3 x10 x12 (wrap64 (x17 + 1)) x1039000 x1039001 x1039002 x1043000 x1043001 x1043002 (x1056000.set (x17 : Int).toNat (wrap64 ((rd x1056000 x17) + 1))) x1056001 x1056002) else (none)) else (reedpipelaw13_LapDoes.l1 k x3 x10 x12 0 x1039000 x1039001 x1039002 x1043000 x1043001 x1043002)
def reedpipelaw13_LapDoes.l1 : Nat → List Int → List Int → List Int → Int → List Int → Int → Int → List Int → Int → Int → Option (Bool)
 | 0, _, _, _, _, _, _, _, _, _, _ => none
 | k + 1, x3, x10, x12, x18, x1039000, x1039001, x1039002, x1043000, x1043001, x1043002 => if x18 < (x12.length : Int) then (if 0 ≤ x18 then (reedpipelaw13_LapDoes.l1 k x3 x10 (x12.set (x18 : Int).toNat 0) (wrap64 (x18 + 1)) x1039000 x1039001 x1039002 x1043000 x1043001 x1043002) else (none)) else ((reedpiperef13_Same.f k x1043000 x1043001 x1043002 x1039000 x1039001 x1039002).bind fun t1084 => (if t1084 = true then ((reedpiperef11_Same.f k x10 x3).bind fun t1085 => (some t1085)) else (some false)))
end
def reedpipelaw13_LapDoes.f (k : Nat) (l0_0 : List Int) (a0_1 : Int) (a0_2 : Int) (a1 : Int) (a2 : Int) (l3 : List Int) : Option (Bool) := if (l0_0.length : Int) > 1000 then (reedpipelaw13_LapDoes.j0 k a1 a2 l3 true l0_0 a0_1 a0_2) else (reedpipelaw13_LapDoes.j0 k a1 a2 l3 (decide ((l3.length : Int) > 1000)) l0_0 a0_1 a0_2)
def reedpipelaw13_LapDoes.T3 : Bool × List (List Nat × List Nat) := (true, [([], []), ([0], [0]), ([1], [1]), ([], []), ([3], [3]), ([], []), ([5], [5]), ([2, 4, 6], [2, 4, 6]), ([], []), ([8, 7, 2, 0, 1, 2, 3, 4, 5, 6, 7, 8], [7, 8])])
def reedpipelaw13_LapDoes.B3 : List Nat := [0, 1, 3, 0, 8, 0, 32, 127, 0, 511]
theorem reedpipelaw13_LapDoes.tab3 : rtab .any (opsOf Try.f27 3) = reedpipelaw13_LapDoes.T3 := by kernel_rfl
theorem reedpipelaw13_LapDoes.bits3 : waitsOk reedpipelaw13_LapDoes.T3.2 reedpipelaw13_LapDoes.B3 = true := by kernel_rfl
def reedpipelaw13_LapDoes.T7 : Bool × List (List Nat × List Nat) := (true, [([], []), ([], []), ([0, 1], [0, 1]), ([2], [2]), ([3, 2], [3]), ([4], [4]), ([4], [4]), ([5, 6, 4, 4], [4, 5, 6]), ([7, 4], [4, 7]), ([4, 8], [4, 8]), ([9, 7], [9]), ([10], [10]), ([10], [10]), ([11, 12, 10], [10, 11, 12]), ([10, 13], [10, 13]), ([14, 10], [14]), ([15], [15]), ([16, 15, 15], [15, 16]), ([15], [15]), ([18, 17, 15], [15, 18]), ([17, 19, 15], [15, 17, 19]), ([15, 20], [15, 20]), ([21, 19], [21]), ([22, 22], [22]), ([23, 22], [22]), ([23, 24, 24, 22], [22, 23, 24]), ([25, 22], [22, 25]), ([22, 26], [22, 26])])
def reedpipelaw13_LapDoes.B7 : List Nat := [0, 0, 3, 7, 15, 31, 31, 127, 255, 511, 1023, 2047, 2047, 8191, 16383, 32767, 65535, 131071, 65535, 524287, 1048575, 2097151, 4194303, 8388607, 16777215, 33554431, 67108863, 134217727]
theorem reedpipelaw13_LapDoes.tab7 : rtab .any (opsOf Try.f27 7) = reedpipelaw13_LapDoes.T7 := by kernel_rfl
theorem reedpipelaw13_LapDoes.bits7 : waitsOk reedpipelaw13_LapDoes.T7.2 reedpipelaw13_LapDoes.B7 = true := by kernel_rfl
def reedpipelaw13_LapDoes.T12 : Bool × List (List Nat × List Nat) := (true, [([], []), ([0], [0]), ([], []), ([], []), ([3], [3]), ([], []), ([4, 5], [4, 5]), ([6], [6]), ([7], [7]), ([1, 2, 0, 1, 2, 3, 4, 5, 6, 7, 8], [1, 2]), ([9, 8, 0, 1, 2, 3, 4, 5, 6, 7, 8], [8, 9])])
def reedpipelaw13_LapDoes.B12 : List Nat := [0, 1, 0, 0, 8, 0, 56, 120, 248, 511, 1023]
theorem reedpipelaw13_LapDoes.tab12 : rtab .any (opsOf Try.f27 12) = reedpipelaw13_LapDoes.T12 := by kernel_rfl
theorem reedpipelaw13_LapDoes.bits12 : waitsOk reedpipelaw13_LapDoes.T12.2 reedpipelaw13_LapDoes.B12 = true := by kernel_rfl
set_option maxHeartbeats 8000000 in
set_option maxRecDepth 100000 in
theorem reedpipelaw13_LapDoes.calls (k : Nat) (A0_0 : Option Addr) (c0_0 : Nat) (l0_0 : List Int) (a0_1 : Int) (a0_2 : Int) (a1 : Int) (a2 : Int) (A3 : Option Addr) (c3 : Nat) (l3 : List Int) (r : Bool) (hrt : r = true) (w : World) (hr0_0 : Kd.C (Kd.int .i64) w A0_0 l0_0.length l0_0) (hc0_0 : l0_0.length ≤ c0_0) (hr3 : Kd.C (Kd.int .i64) w A3 l3.length l3) (hc3 : l3.length ≤ c3) (h : reedpipelaw13_LapDoes.f k l0_0 a0_1 a0_2 a1 a2 l3 = some r) :
  Calls Try.prog 27 #[.agg #[.slice A0_0 l0_0.length c0_0, .int .u8 a0_1, .int .u8 a0_2], .int .u8 a1, .int .u8 a2, .slice A3 l3.length c3] w fun e w' => e = .returned (.bool r) ∧ Below w.heap.size w w' := by
 have HRT := Aside0.mk hrt
 clear hrt
 have hu31 := Try.underlying31
 have HR0_0 := Aside0.mk hr0_0
 have HC0_0 := Aside0.mk hc0_0
 clear hr0_0 hc0_0
 have HR3 := Aside0.mk hr3
 have HC3 := Aside0.mk hc3
 clear hr3 hc3
 have HB := Aside0.mk (Below.refl w.heap.size w)
 have H : (if (l0_0.length : Int) > 1000 then (reedpipelaw13_LapDoes.j0 k a1 a2 l3 true l0_0 a0_1 a0_2) else (reedpipelaw13_LapDoes.j0 k a1 a2 l3 (decide ((l3.length : Int) > 1000)) l0_0 a0_1 a0_2)) = some r := h
 clear h
 have HC5 := Aside0.mk H
 clear H
 go_enter Try.func27, Try.ntmps27
 go_upto_region 1 with (first | ((with_reducible refine gate_dst (N := 4) rfl ?_); (try (refine gate_guard (by rfl) ?_; dsimp only)); refine box_event ?hg (N := 4) ?hd (cs := #[.slice A0_0 l0_0.length c0_0, .int .u8 a0_1, .int .u8 a0_2]) (t := 31) ?hr ?_; (case hd => rfl); (case hg => rfl); (case hr => first | (go_simp; done) | (go_simp; rfl)); intro gb1038 hg w6 hbox hb; have n0_ := Aside0.mk (below_step (by repeat (first | (with_reducible first | exact HB.out | apply below_alloc | apply pw_below_drewN | apply below_drew1) | exact HB.out)) hb); have n1_ := Aside0.mk (hbox); have n2_ := Aside0.mk ((by rw [hg]; exact (below_size (by repeat (first | (with_reducible first | exact HB.out | apply below_alloc | apply pw_below_drewN | apply below_drew1) | exact HB.out))) : w.heap.size ≤ gb1038)); have n3_ := Aside0.mk ((by rw [hg]; exact (below_size (by repeat (first | (with_reducible first | exact HB.out | apply below_alloc | apply pw_below_drewN | apply below_drew1) | exact HB.out))) : w.heap.size ≤ gb1038)); clear HB; have HB := n0_; have BK1038 := n1_; have GW1038 := n2_; have GE1038 := n3_; clear n0_ n1_ n2_ n3_; clear hb hbox hg))
 (try simp only [Act.put, List.setIfInBounds_toArray, List.set_cons_zero, List.set_cons_succ])
 go_cut [27] (fun v27 wc => ∃ (kq : Nat) (x27_4 : Bool), v27 = .bool x27_4 ∧ Aside0 (reedpipelaw13_LapDoes.j0 kq a1 a2 l3 x27_4 l0_0 a0_1 a0_2 = some r) ∧ Aside0 (kq ≤ k) ∧ Aside0 (wc.heap[gb1038]? = some (.cells #[(.slice A0_0 l0_0.length c0_0), .int .u8 a0_1, .int .u8 a0_2] 31 (0, 0))) ∧ Aside0 (Below w.heap.size w wc))
 case first => as_aux_lemma =>
  have H := HC5.out
  clear HC5
  by_cases c7 : (l0_0.length : Int) > 1000
  ·rw [if_pos c7] at H
   have c7b0 : decide (1000 < (l0_0.length : Int)) = true := decide_eq_true c7
   have c7b1 : decide (1000 < l0_0.length) = true := decide_eq_true (by omega)
   clear c7
   (first | rw [c7b0] | (simp only [i64_w, i32_w]; rw [c7b0]) | skip)
   have H' := Aside0.mk H
   clear H
   have hcz8_0 : w6.cell? ⟨gb1038, 0, none⟩ = some (.slice A0_0 l0_0.length c0_0) := (blk_cell BK1038.out 0).trans rfl
   have hcz8_1 : w6.cell? ⟨gb1038, 1, none⟩ = some (.int .u8 a0_1) := (blk_cell BK1038.out 1).trans rfl
   have hcz8_2 : w6.cell? ⟨gb1038, 2, none⟩ = some (.int .u8 a0_2) := (blk_cell BK1038.out 2).trans rfl
   have hfz8_0 := blk_frozen BK1038.out 0
   have hfz8_1 := blk_frozen BK1038.out 1
   have hfz8_2 := blk_frozen BK1038.out 2
   go_wp2
   go_meet
   case rel => exact ⟨_, (true), (by first | rfl | (simp; done) | (simp [*]; done)), H', ⟨by first | omega | exact Nat.le_refl _⟩, ⟨by (with_reducible repeat (first | refine blk_drewN ?_ _ | refine blk_drew ?_ | refine blk_alloc ?_ _)); exact BK1038.out⟩, ⟨by repeat (first | (with_reducible first | exact HB.out | apply below_alloc | apply pw_below_drewN | apply below_drew1 | refine below_set ?_ GE1038.out) | exact HB.out)⟩⟩
  ·rw [if_neg c7] at H
   have c7b0 : decide (1000 < (l0_0.length : Int)) = false := decide_eq_false c7
   have c7b1 : decide (1000 < l0_0.length) = false := decide_eq_false (by omega)
   clear c7
   (first | rw [c7b0] | (simp only [i64_w, i32_w]; rw [c7b0]) | skip)
   have H' := Aside0.mk H
   clear H
   have hcz9_0 : w6.cell? ⟨gb1038, 0, none⟩ = some (.slice A0_0 l0_0.length c0_0) := (blk_cell BK1038.out 0).trans rfl
   have hcz9_1 : w6.cell? ⟨gb1038, 1, none⟩ = some (.int .u8 a0_1) := (blk_cell BK1038.out 1).trans rfl
   have hcz9_2 : w6.cell? ⟨gb1038, 2, none⟩ = some (.int .u8 a0_2) := (blk_cell BK1038.out 2).trans rfl
   have hfz9_0 := blk_frozen BK1038.out 0
   have hfz9_1 := blk_frozen BK1038.out 1
   have hfz9_2 := blk_frozen BK1038.out 2
   go_wp2
   go_meet
   case rel => exact ⟨_, (decide ((l3.length : Int) > 1000)), (by first | rfl | (simp; done) | (simp [*]; done)), H', ⟨by first | omega | exact Nat.le_refl _⟩, ⟨by (with_reducible repeat (first | refine blk_drewN ?_ _ | refine blk_drew ?_ | refine blk_alloc ?_ _)); exact BK1038.out⟩, ⟨by repeat (first | (with_reducible first | exact HB.out | apply below_alloc | apply pw_below_drewN | apply below_drew1 | refine below_set ?_ GE1038.out) | exact HB.out)⟩⟩
 case rest => as_aux_lemma =>
  clear HC5
  try clear c2
  try clear p2
  try clear c3
  try clear c7
  try clear c7b0
  try clear c7b1
  try clear hcz8_0
  try clear hcz8_1
  try clear hcz8_2
  try clear hcz9_0
  try clear hcz9_1
  try clear hcz9_2
  try clear hfz8_0
  try clear hfz8_1
  try clear hfz8_2
  try clear hfz9_0
  try clear hfz9_1
  try clear hfz9_2
  obtain ⟨kq, x27_4, rfl, HA, HJ4, BK1038, HB⟩ := hcut
  cases kq with
  | zero => exact absurd HA.out (by simp [reedpipelaw13_LapDoes.j0])
  | succ kj4 =>
   have H := HA.out
   clear HA
   simp only [reedpipelaw13_LapDoes.j0] at H
   by_cases c10 : x27_4 = true
   ·subst c10
    have H1 : (some true) = some r := by rw [if_pos rfl] at H; exact H
    clear H
    have H := H1
    clear H1
    obtain rfl := Option.some.inj H
    go_wp2
    go_ret
    exact ⟨by first | rfl | (simp [errW_none, errW_some] <;> rfl) | (simp [*, errW_none, errW_some] <;> rfl), by repeat (first | (with_reducible first | exact HB.out | apply below_alloc | apply pw_below_drewN | apply below_drew1 | refine below_set ?_ GE1038.out) | exact HB.out)⟩
   ·replace c10 := Bool.eq_false_iff.mpr c10
    subst c10
    have H1 : (if ([] : List Int).length + l0_0.length < 17592186044416 then ((some (([] : List Int) ++ l0_0 : List Int)).bind fun y1039 => (if ([] : List Int).length + l3.length < 17592186044416 then ((some (([] : List Int) ++ l3 : List Int)).bind fun y1043 => ((lap_Next.f y1039 a0_1 a0_2 a1 a2 y1043).bind fun bt1046 => ((reedpiperef13_Next.f kj4 l0_0 a0_1 a0_2 a1 a2 l3).bind fun bt1056 => ((reedpiperef13_Same.f kj4 bt1046.1 bt1046.2.1 bt1046.2.2.1 bt1056.1 bt1056.2.1 bt1056.2.2.1).bind fun t1066 => (if t1066 = true then ((reedpiperef11_Same.f kj4 bt1046.2.2.2.1 bt1056.2.2.2.1).bind fun t1067 => (if t1067 = true then (if bt1046.2.2.2.2 = bt1056.2.2.2.2 then ((lap_Check.f y1039 a0_1 a0_2).bind fun t1068 => ((reedpiperef13_Check.f kj4 l0_0 a0_1 a0_2).bind fun t1069 => (if t1068 = t1069 then ((lap_New.f).bind fun bt1070 => ((reedpiperef13_New.f).bind fun bt1075 => ((reedpiperef13_Same.f kj4 bt1070.1 bt1070.2.1 bt1070.2.2 bt1075.1 bt1075.2.1 bt1075.2.2).bind fun t1080 => (reedpipelaw13_LapDoes.j1 kj4 l3 y1043 bt1046.2.2.2.1 (!t1080) l0_0 a0_1 a0_2 y1039 a0_1 a0_2 bt1046.1 bt1046.2.1 bt1046.2.2.1)))) else (reedpipelaw13_LapDoes.j1 kj4 l3 y1043 bt1046.2.2.2.1 true l0_0 a0_1 a0_2 y1039 a0_1 a0_2 bt1046.1 bt1046.2.1 bt1046.2.2.1)))) else (reedpipelaw13_LapDoes.j1 kj4 l3 y1043 bt1046.2.2.2.1 true l0_0 a0_1 a0_2 y1039 a0_1 a0_2 bt1046.1 bt1046.2.1 bt1046.2.2.1)) else (reedpipelaw13_LapDoes.j1 kj4 l3 y1043 bt1046.2.2.2.1 true l0_0 a0_1 a0_2 y1039 a0_1 a0_2 bt1046.1 bt1046.2.1 bt1046.2.2.1))) else (reedpipelaw13_LapDoes.j1 kj4 l3 y1043 bt1046.2.2.2.1 true l0_0 a0_1 a0_2 y1039 a0_1 a0_2 bt1046.1 bt1046.2.1 bt1046.2.2.1)))))) else (none))) else (none)) = some r := by rw [if_neg (show ¬ (false = true) by decide)] at H; exact H
    clear H
    have H := H1
    clear H1
    by_cases c11 : ([] : List Int).length + l0_0.length < 17592186044416
    ·rw [if_pos c11] at H
     have LMc11 := Aside0.mk c11
     clear c11
     obtain ⟨y1039, hy1039⟩ : ∃ y_ : List Int, y_ = (([] : List Int) ++ l0_0) := ⟨_, rfl⟩
     replace H : (if ([] : List Int).length + l3.length < 17592186044416 then ((some (([] : List Int) ++ l3 : List Int)).bind fun y1043 => ((lap_Next.f y1039 a0_1 a0_2 a1 a2 y1043).bind fun bt1046 => ((reedpiperef13_Next.f kj4 l0_0 a0_1 a0_2 a1 a2 l3).bind fun bt1056 => ((reedpiperef13_Same.f kj4 bt1046.1 bt1046.2.1 bt1046.2.2.1 bt1056.1 bt1056.2.1 bt1056.2.2.1).bind fun t1066 => (if t1066 = true then ((reedpiperef11_Same.f kj4 bt1046.2.2.2.1 bt1056.2.2.2.1).bind fun t1067 => (if t1067 = true then (if bt1046.2.2.2.2 = bt1056.2.2.2.2 then ((lap_Check.f y1039 a0_1 a0_2).bind fun t1068 => ((reedpiperef13_Check.f kj4 l0_0 a0_1 a0_2).bind fun t1069 => (if t1068 = t1069 then ((lap_New.f).bind fun bt1070 => ((reedpiperef13_New.f).bind fun bt1075 => ((reedpiperef13_Same.f kj4 bt1070.1 bt1070.2.1 bt1070.2.2 bt1075.1 bt1075.2.1 bt1075.2.2).bind fun t1080 => (reedpipelaw13_LapDoes.j1 kj4 l3 y1043 bt1046.2.2.2.1 (!t1080) l0_0 a0_1 a0_2 y1039 a0_1 a0_2 bt1046.1 bt1046.2.1 bt1046.2.2.1)))) else (reedpipelaw13_LapDoes.j1 kj4 l3 y1043 bt1046.2.2.2.1 true l0_0 a0_1 a0_2 y1039 a0_1 a0_2 bt1046.1 bt1046.2.1 bt1046.2.2.1)))) else (reedpipelaw13_LapDoes.j1 kj4 l3 y1043 bt1046.2.2.2.1 true l0_0 a0_1 a0_2 y1039 a0_1 a0_2 bt1046.1 bt1046.2.1 bt1046.2.2.1)) else (reedpipelaw13_LapDoes.j1 kj4 l3 y1043 bt1046.2.2.2.1 true l0_0 a0_1 a0_2 y1039 a0_1 a0_2 bt1046.1 bt1046.2.1 bt1046.2.2.1))) else (reedpipelaw13_LapDoes.j1 kj4 l3 y1043 bt1046.2.2.2.1 true l0_0 a0_1 a0_2 y1039 a0_1 a0_2 bt1046.1 bt1046.2.1 bt1046.2.2.1)))))) else (none)) = some r := by first | (rw [hy1039]; with_reducible exact H) | (have H2_ := (Option.bind_some _ _).symm.trans H; rw [hy1039]; with_reducible exact H2_) | (have H2_ := (Option.bind_some _ _).symm.trans H; with_reducible exact H2_) | with_reducible exact H | (rw [hy1039]; exact H) | exact H
     have Ny1039 := Aside0.mk hy1039
     clear hy1039
     by_cases c12 : ([] : List Int).length + l3.length < 17592186044416
     ·rw [if_pos c12] at H
      have LMc12 := Aside0.mk c12
      clear c12
      obtain ⟨y1043, hy1043⟩ : ∃ y_ : List Int, y_ = (([] : List Int) ++ l3) := ⟨_, rfl⟩
      replace H : ((lap_Next.f y1039 a0_1 a0_2 a1 a2 y1043).bind fun bt1046 => ((reedpiperef13_Next.f kj4 l0_0 a0_1 a0_2 a1 a2 l3).bind fun bt1056 => ((reedpiperef13_Same.f kj4 bt1046.1 bt1046.2.1 bt1046.2.2.1 bt1056.1 bt1056.2.1 bt1056.2.2.1).bind fun t1066 => (if t1066 = true then ((reedpiperef11_Same.f kj4 bt1046.2.2.2.1 bt1056.2.2.2.1).bind fun t1067 => (if t1067 = true then (if bt1046.2.2.2.2 = bt1056.2.2.2.2 then ((lap_Check.f y1039 a0_1 a0_2).bind fun t1068 => ((reedpiperef13_Check.f kj4 l0_0 a0_1 a0_2).bind fun t1069 => (if t1068 = t1069 then ((lap_New.f).bind fun bt1070 => ((reedpiperef13_New.f).bind fun bt1075 => ((reedpiperef13_Same.f kj4 bt1070.1 bt1070.2.1 bt1070.2.2 bt1075.1 bt1075.2.1 bt1075.2.2).bind fun t1080 => (reedpipelaw13_LapDoes.j1 kj4 l3 y1043 bt1046.2.2.2.1 (!t1080) l0_0 a0_1 a0_2 y1039 a0_1 a0_2 bt1046.1 bt1046.2.1 bt1046.2.2.1)))) else (reedpipelaw13_LapDoes.j1 kj4 l3 y1043 bt1046.2.2.2.1 true l0_0 a0_1 a0_2 y1039 a0_1 a0_2 bt1046.1 bt1046.2.1 bt1046.2.2.1)))) else (reedpipelaw13_LapDoes.j1 kj4 l3 y1043 bt1046.2.2.2.1 true l0_0 a0_1 a0_2 y1039 a0_1 a0_2 bt1046.1 bt1046.2.1 bt1046.2.2.1)) else (reedpipelaw13_LapDoes.j1 kj4 l3 y1043 bt1046.2.2.2.1 true l0_0 a0_1 a0_2 y1039 a0_1 a0_2 bt1046.1 bt1046.2.1 bt1046.2.2.1))) else (reedpipelaw13_LapDoes.j1 kj4 l3 y1043 bt1046.2.2.2.1 true l0_0 a0_1 a0_2 y1039 a0_1 a0_2 bt1046.1 bt1046.2.1 bt1046.2.2.1))))) = some r := by first | (rw [hy1043]; with_reducible exact H) | (have H2_ := (Option.bind_some _ _).symm.trans H; rw [hy1043]; with_reducible exact H2_) | (have H2_ := (Option.bind_some _ _).symm.trans H; with_reducible exact H2_) | with_reducible exact H | (rw [hy1043]; exact H) | exact H
      have Ny1043 := Aside0.mk hy1043
      clear hy1043
      replace H := Option.bind_eq_some_iff.mp H
      obtain ⟨⟨t1046, t1049, t1050, t1051, t1054⟩, A130, H⟩ := H
      replace H : ((reedpiperef13_Next.f kj4 l0_0 a0_1 a0_2 a1 a2 l3).bind fun bt1056 => ((reedpiperef13_Same.f kj4 t1046 t1049 t1050 bt1056.1 bt1056.2.1 bt1056.2.2.1).bind fun t1066 => (if t1066 = true then ((reedpiperef11_Same.f kj4 t1051 bt1056.2.2.2.1).bind fun t1067 => (if t1067 = true then (if t1054 = bt1056.2.2.2.2 then ((lap_Check.f y1039 a0_1 a0_2).bind fun t1068 => ((reedpiperef13_Check.f kj4 l0_0 a0_1 a0_2).bind fun t1069 => (if t1068 = t1069 then ((lap_New.f).bind fun bt1070 => ((reedpiperef13_New.f).bind fun bt1075 => ((reedpiperef13_Same.f kj4 bt1070.1 bt1070.2.1 bt1070.2.2 bt1075.1 bt1075.2.1 bt1075.2.2).bind fun t1080 => (reedpipelaw13_LapDoes.j1 kj4 l3 y1043 t1051 (!t1080) l0_0 a0_1 a0_2 y1039 a0_1 a0_2 t1046 t1049 t1050)))) else (reedpipelaw13_LapDoes.j1 kj4 l3 y1043 t1051 true l0_0 a0_1 a0_2 y1039 a0_1 a0_2 t1046 t1049 t1050)))) else (reedpipelaw13_LapDoes.j1 kj4 l3 y1043 t1051 true l0_0 a0_1 a0_2 y1039 a0_1 a0_2 t1046 t1049 t1050)) else (reedpipelaw13_LapDoes.j1 kj4 l3 y1043 t1051 true l0_0 a0_1 a0_2 y1039 a0_1 a0_2 t1046 t1049 t1050))) else (reedpipelaw13_LapDoes.j1 kj4 l3 y1043 t1051 true l0_0 a0_1 a0_2 y1039 a0_1 a0_2 t1046 t1049 t1050)))) = some r := H
      have A13 := Aside0.mk A130
      clear A130
      replace H := Option.bind_eq_some_iff.mp H
      obtain ⟨⟨t1056, t1059, t1060, t1061, t1064⟩, A140, H⟩ := H
      replace H : ((reedpiperef13_Same.f kj4 t1046 t1049 t1050 t1056 t1059 t1060).bind fun t1066 => (if t1066 = true then ((reedpiperef11_Same.f kj4 t1051 t1061).bind fun t1067 => (if t1067 = true then (if t1054 = t1064 then ((lap_Check.f y1039 a0_1 a0_2).bind fun t1068 => ((reedpiperef13_Check.f kj4 l0_0 a0_1 a0_2).bind fun t1069 => (if t1068 = t1069 then ((lap_New.f).bind fun bt1070 => ((reedpiperef13_New.f).bind fun bt1075 => ((reedpiperef13_Same.f kj4 bt1070.1 bt1070.2.1 bt1070.2.2 bt1075.1 bt1075.2.1 bt1075.2.2).bind fun t1080 => (reedpipelaw13_LapDoes.j1 kj4 l3 y1043 t1051 (!t1080) l0_0 a0_1 a0_2 y1039 a0_1 a0_2 t1046 t1049 t1050)))) else (reedpipelaw13_LapDoes.j1 kj4 l3 y1043 t1051 true l0_0 a0_1 a0_2 y1039 a0_1 a0_2 t1046 t1049 t1050)))) else (reedpipelaw13_LapDoes.j1 kj4 l3 y1043 t1051 true l0_0 a0_1 a0_2 y1039 a0_1 a0_2 t1046 t1049 t1050)) else (reedpipelaw13_LapDoes.j1 kj4 l3 y1043 t1051 true l0_0 a0_1 a0_2 y1039 a0_1 a0_2 t1046 t1049 t1050))) else (reedpipelaw13_LapDoes.j1 kj4 l3 y1043 t1051 true l0_0 a0_1 a0_2 y1039 a0_1 a0_2 t1046 t1049 t1050))) = some r := H
      have A14 := Aside0.mk A140
      clear A140
      have HC15 := Aside0.mk H
      clear H
      try go_wp2
      have n0_ := Aside0.mk (blk_drew BK1038.out)
      have n1_ := Aside0.mk (below_drew1 HB.out)
      clear BK1038
      clear HB
      have BK1038 := n0_
      have HB := n1_
      clear n0_ n1_
      refine start_ (n := 10) (S := fun w' => w'.cell? ⟨gb1038, 0, none⟩ = some (.slice A0_0 l0_0.length c0_0) ∧ w'.cell? ⟨gb1038, 1, none⟩ = some (.int .u8 a0_1) ∧ w'.cell? ⟨gb1038, 2, none⟩ = some (.int .u8 a0_2)) (ds := []) #[false, false, false, false, false, false, false, false, false, false] (by kernel_rfl) rfl rfl ⟨(blk_cell BK1038.out 0).trans rfl, (blk_cell BK1038.out 1).trans rfl, (blk_cell BK1038.out 2).trans rfl⟩ (fun hHeld => ?_); refine with_tabW reedpipelaw13_LapDoes.tab3 reedpipelaw13_LapDoes.bits3 (fun HT_ HW_ => ?_)
      generalize wc.drew = w16 at BK1038 HB hHeld ⊢
      refine pure_ (i := 0) (N := some 28) (v := ?_) (a' := ?_) #[true, false, false, false, false, false, false, false, false, false] rfl rfl (any_of HT_.out (by kernel_rfl)) (fun _ _ _ h => h) (Or.inl ⟨by rfl, ?_⟩) ?_ ?_
      rotate_left
      ·intro w'
       go_simp
       with_reducible rfl
      rotate_left
      ·simp only [Act.put, List.setIfInBounds_toArray, List.set_cons_zero, List.set_cons_succ, i64_w, i32_w]
       rfl
      refine pure_ (i := 3) (N := some 31) (v := ?_) (a' := ?_) #[true, false, false, true, false, false, false, false, false, false] rfl rfl (any_of HT_.out (by kernel_rfl)) (fun _ _ _ h => h) (Or.inl ⟨by rfl, ?_⟩) ?_ ?_
      rotate_left
      ·intro w'
       go_simp
       with_reducible rfl
      rotate_left
      ·simp only [Act.put, List.setIfInBounds_toArray, List.set_cons_zero, List.set_cons_succ, i64_w, i32_w]
       rfl
      refine pure_ (i := 5) (N := some 33) (v := ?_) (a' := ?_) #[true, false, false, true, false, true, false, false, false, false] rfl rfl (any_of HT_.out (by kernel_rfl)) (fun _ _ _ h => h) (Or.inl ⟨by rfl, ?_⟩) ?_ ?_
      rotate_left
      ·intro w'
       go_simp
       with_reducible rfl
      rotate_left
      ·simp only [Act.put, List.setIfInBounds_toArray, List.set_cons_zero, List.set_cons_succ, i64_w, i32_w]
       rfl
      refine take_ (i := 1) (N := some 29) (v := ?_) (a' := ?_) #[true, true, false, true, false, true, false, false, false, false] rfl rfl (take_ofW HT_.out HW_.out (by kernel_rfl)) (fun _ _ _ h => h) (Or.inl ⟨by rfl, ?_⟩) hHeld ?_ ?_
      rotate_left
      ·rintro w' ⟨s0, s1, s2⟩
       go_simp
       with_reducible rfl
      rotate_left
      ·simp only [Act.put, List.setIfInBounds_toArray, List.set_cons_zero, List.set_cons_succ, i64_w, i32_w]
       rfl
      refine take_ (i := 4) (N := some 32) (v := ?_) (a' := ?_) #[true, true, false, true, true, true, false, false, false, false] rfl rfl (take_ofW HT_.out HW_.out (by kernel_rfl)) (fun _ _ _ h => h) (Or.inl ⟨by rfl, ?_⟩) hHeld ?_ ?_
      rotate_left
      ·rintro w' ⟨s0, s1, s2⟩
       go_simp
       with_reducible rfl
      rotate_left
      ·simp only [Act.put, List.setIfInBounds_toArray, List.set_cons_zero, List.set_cons_succ, i64_w, i32_w]
       rfl
      refine take_ (i := 6) (N := some 34) (v := ?_) (a' := ?_) #[true, true, false, true, true, true, true, false, false, false] rfl rfl (take_ofW HT_.out HW_.out (by kernel_rfl)) (fun _ _ _ h => h) (Or.inl ⟨by rfl, ?_⟩) hHeld ?_ ?_
      rotate_left
      ·rintro w' ⟨s0, s1, s2⟩
       go_simp
       with_reducible rfl
      rotate_left
      ·simp only [Act.put, List.setIfInBounds_toArray, List.set_cons_zero, List.set_cons_succ, i64_w, i32_w]
       rfl
      refine join_ (σ := Value × Nat) 1 #[true, true, true, true, true, true, true, true, true, false] (fun s_ => [(30, s_.1), (9, .pointer (some ⟨s_.2, 0, none⟩)), (35, .agg #[s_.1, .int .u8 a0_1, .int .u8 a0_2])]) (fun s_ w' => (w'.cell? ⟨gb1038, 0, none⟩ = some (.slice A0_0 l0_0.length c0_0) ∧ w'.cell? ⟨gb1038, 1, none⟩ = some (.int .u8 a0_1) ∧ w'.cell? ⟨gb1038, 2, none⟩ = some (.int .u8 a0_2)) ∧ (Kd.R (Kd.int .i64) 3 w' w.heap.size (fun _ => True) s_.1 y1039) ∧ (w'.heap[gb1038]? = some (.cells #[.slice A0_0 l0_0.length c0_0, .int .u8 a0_1, .int .u8 a0_2] 31 (0, 0))) ∧ (w'.heap[s_.2]? = some (.cells #[.slice none 0 0, .int .u8 0, .int .u8 0] 31 (0, 0))) ∧ (w.heap.size ≤ s_.2) ∧ (w.heap.size ≤ s_.2) ∧ (gb1038 ≠ s_.2) ∧ (s_.2 ≠ gb1038) ∧ (Below w.heap.size w w')) ?_ ?_
      rotate_left
      ·intro hCont
       refine two_ (i := 2) (j := 8) (Ni := some 30) (Nj := some 9) #[true, true, true, true, true, true, true, false, false, false] #[true, true, false, true, true, true, true, false, true, false] rfl rfl rfl rfl (two_of HT_.out (by kernel_rfl)) (by decide) (by decide) (fun K hK => ?_) (fun K hK => ?_)
       ·skip
        refine Kd.R_append_rows_step (Kd.int .i64) (w0 := w) w.heap.size rfl (.const (.slice none 0 0)) (.tmp 29) 29 3 (.int .i64 0) 8 rfl Try.underlying29 info3 rfl (by decide) (by omega) (.slice none 0 0) ([] : List Int) l0_0 _ _ _ (fun _ => True) (fun _ => False) rfl rfl ?aO ?aR (fun _ _ h => h) (fun _ h => h.elim) ?aF ?aB ?aS ?aL ?_
        (case aR => repeat (first | exact (Kd.C_below HR0_0.out HB.out) | (with_reducible refine Kd.C_alloc ?_ _) | (with_reducible refine Kd.C_drewN ?_ _) | (with_reducible refine Kd.C_drew ?_)))
        (case aB => exact (by repeat (first | (with_reducible first | exact HB.out | apply below_alloc | apply pw_below_drewN | apply below_drew1 | refine below_set ?_ GE1038.out) | exact HB.out)))
        (case aF => exact (fun _ _ => trivial))
        (case aO => exact ((Kd.R_nil _ _ _ _ (fun _ => True))))
        (case aS => exact (below_size (by repeat (first | (with_reducible first | exact HB.out | apply below_alloc | apply pw_below_drewN | apply below_drew1 | refine below_set ?_ GE1038.out) | exact HB.out))))
        (case aL => have := LMc11.out; omega)
        intro v1040 w17 ho hb hg hat
        rw [← Ny1039.out] at ho
        have n0_ := Aside0.mk (blk_grown (g := gb1038) (o := .cells #[.slice A0_0 l0_0.length c0_0, .int .u8 a0_1, .int .u8 a0_2] 31 (0, 0)) (by (with_reducible repeat (first | refine blk_drewN ?_ _ | refine blk_drew ?_ | refine blk_alloc ?_ _)); exact BK1038.out) hg (by simp [Value.ownBlock]))
        have n1_ := Aside0.mk (hb)
        have n2_ := Aside0.mk (ho)
        clear BK1038
        clear HB
        have BK1038 := n0_
        have HB := n1_
        have HO1041 := n2_
        clear n0_ n1_ n2_
        clear ho hb hg hat
        obtain ⟨Ao18, co18, eo18⟩ := Kd.R_slice HO1041.out
        (first | subst eo18 | (injection eo18 with f1_ f2_ f3_; have f4_ := f1_.symm; have f5_ := f3_.symm; clear f1_ f2_ f3_; subst f4_; subst f5_))
        refine hK.out _ _ ⟨(blk_cell BK1038.out 0).trans rfl, (blk_cell BK1038.out 1).trans rfl, (blk_cell BK1038.out 2).trans rfl⟩ (fun hHeld => ?_)
        clear hK K
        refine norm_ (a' := ?_) ?_ ?_
        rotate_left
        ·show Act.put _ (some 30) _ = _
         simp only [Act.put, List.setIfInBounds_toArray, List.set_cons_zero, List.set_cons_succ, i64_w, i32_w]
         rfl
        refine pure_ (i := 7) (N := some 35) (v := ?_) (a' := ?_) #[true, true, true, true, true, true, true, true, false, false] rfl rfl (any_of HT_.out (by kernel_rfl)) (fun _ _ _ h => h) (Or.inl ⟨by rfl, ?_⟩) ?_ ?_
        rotate_left
        ·intro w'
         go_simp
         with_reducible rfl
        rotate_left
        ·simp only [Act.put, List.setIfInBounds_toArray, List.set_cons_zero, List.set_cons_succ, i64_w, i32_w]
         rfl
        refine one_ (i := 8) (N := some 9) #[true, true, true, true, true, true, true, true, true, false] rfl rfl (one_of HT_.out (by kernel_rfl)) (by decide) (fun K hK => ?_)
        refine box_step ?hg (N := 9) ?hd (cs := #[.slice none 0 0, .int .u8 0, .int .u8 0]) (t := 31) ?hr ?_; (case hd => rfl); (case hg => rfl); (case hr => first | (go_simp; done) | (go_simp; rfl))
        intro gb1042 hg w19 hbox hb
        have n0_ := Aside0.mk (Kd.R_below (by (with_reducible repeat (first | apply Kd.R_alloc | apply Kd.R_drewN | apply Kd.R_drew)); exact HO1041.out) hb)
        have n1_ := Aside0.mk (blk_below (g := gb1038) (o := .cells #[.slice A0_0 l0_0.length c0_0, .int .u8 a0_1, .int .u8 a0_2] 31 (0, 0)) (by (with_reducible repeat (first | refine blk_drewN ?_ _ | refine blk_drew ?_ | refine blk_alloc ?_ _)); exact BK1038.out) hb)
        have n2_ := Aside0.mk (below_step (by repeat (first | (with_reducible first | exact HB.out | apply below_alloc | apply pw_below_drewN | apply below_drew1 | refine below_set ?_ GE1038.out) | exact HB.out)) hb)
        have n3_ := Aside0.mk (hbox)
        have n4_ := Aside0.mk ((by rw [hg]; exact (below_size (by repeat (first | (with_reducible first | exact HB.out | apply below_alloc | apply pw_below_drewN | apply below_drew1 | refine below_set ?_ GE1038.out) | exact HB.out))) : w.heap.size ≤ gb1042))
        have n5_ := Aside0.mk ((by rw [hg]; exact (below_size (by repeat (first | (with_reducible first | exact HB.out | apply below_alloc | apply pw_below_drewN | apply below_drew1 | refine below_set ?_ GE1038.out) | exact HB.out))) : w.heap.size ≤ gb1042))
        have n6_ := Aside0.mk ((by rw [hg]; exact Nat.ne_of_lt (blk_lt (g := gb1038) (o := .cells #[.slice A0_0 l0_0.length c0_0, .int .u8 a0_1, .int .u8 a0_2] 31 (0, 0)) (by (with_reducible repeat (first | refine blk_drewN ?_ _ | refine blk_drew ?_ | refine blk_alloc ?_ _)); exact BK1038.out)) : gb1038 ≠ gb1042))
        have n7_ := Aside0.mk ((by rw [hg]; exact Nat.ne_of_gt (blk_lt (g := gb1038) (o := .cells #[.slice A0_0 l0_0.length c0_0, .int .u8 a0_1, .int .u8 a0_2] 31 (0, 0)) (by (with_reducible repeat (first | refine blk_drewN ?_ _ | refine blk_drew ?_ | refine blk_alloc ?_ _)); exact BK1038.out)) : gb1042 ≠ gb1038))
        clear HO1041
        clear BK1038
        clear HB
        have HO1041 := n0_
        have BK1038 := n1_
        have HB := n2_
        have BK1042 := n3_
        have GW1042 := n4_
        have GE1042 := n5_
        have NB1038_1042 := n6_
        have NB1042_1038 := n7_
        clear n0_ n1_ n2_ n3_ n4_ n5_ n6_ n7_
        clear hb hbox hg
        refine hK.out _ _ ⟨(blk_cell BK1038.out 0).trans rfl, (blk_cell BK1038.out 1).trans rfl, (blk_cell BK1038.out 2).trans rfl⟩ (fun hHeld => ?_)
        clear hK K
        refine norm_ (a' := ?_) ?_ ?_
        rotate_left
        ·show Act.put _ (some 9) _ = _
         simp only [Act.put, List.setIfInBounds_toArray, List.set_cons_zero, List.set_cons_succ, i64_w, i32_w]
         rfl
        exact norm_ (by simp only [putAll, Act.put, List.setIfInBounds_toArray, List.set_cons_zero, List.set_cons_succ]) (hCont (.slice Ao18 y1039.length co18, gb1042) _ ⟨hHeld, (by (with_reducible repeat (first | apply Kd.R_alloc | apply Kd.R_drewN | apply Kd.R_drew)); exact HO1041.out), (by (with_reducible repeat (first | refine blk_drewN ?_ _ | refine blk_drew ?_ | refine blk_alloc ?_ _)); exact BK1038.out), (by (with_reducible repeat (first | refine blk_drewN ?_ _ | refine blk_drew ?_ | refine blk_alloc ?_ _)); exact BK1042.out), GW1042.out, GE1042.out, NB1038_1042.out, NB1042_1038.out, (by repeat (first | (with_reducible first | exact HB.out | apply below_alloc | apply pw_below_drewN | apply below_drew1 | refine below_set ?_ GE1038.out | refine below_set ?_ GE1042.out) | exact HB.out))⟩)
       ·skip
        refine box_step ?hg (N := 9) ?hd (cs := #[.slice none 0 0, .int .u8 0, .int .u8 0]) (t := 31) ?hr ?_; (case hd => rfl); (case hg => rfl); (case hr => first | (go_simp; done) | (go_simp; rfl))
        intro gb1042 hg w17 hbox hb
        have n0_ := Aside0.mk (blk_below (g := gb1038) (o := .cells #[.slice A0_0 l0_0.length c0_0, .int .u8 a0_1, .int .u8 a0_2] 31 (0, 0)) (by (with_reducible repeat (first | refine blk_drewN ?_ _ | refine blk_drew ?_ | refine blk_alloc ?_ _)); exact BK1038.out) hb)
        have n1_ := Aside0.mk (below_step (by repeat (first | (with_reducible first | exact HB.out | apply below_alloc | apply pw_below_drewN | apply below_drew1 | refine below_set ?_ GE1038.out) | exact HB.out)) hb)
        have n2_ := Aside0.mk (hbox)
        have n3_ := Aside0.mk ((by rw [hg]; exact (below_size (by repeat (first | (with_reducible first | exact HB.out | apply below_alloc | apply pw_below_drewN | apply below_drew1 | refine below_set ?_ GE1038.out) | exact HB.out))) : w.heap.size ≤ gb1042))
        have n4_ := Aside0.mk ((by rw [hg]; exact (below_size (by repeat (first | (with_reducible first | exact HB.out | apply below_alloc | apply pw_below_drewN | apply below_drew1 | refine below_set ?_ GE1038.out) | exact HB.out))) : w.heap.size ≤ gb1042))
        have n5_ := Aside0.mk ((by rw [hg]; exact Nat.ne_of_lt (blk_lt (g := gb1038) (o := .cells #[.slice A0_0 l0_0.length c0_0, .int .u8 a0_1, .int .u8 a0_2] 31 (0, 0)) (by (with_reducible repeat (first | refine blk_drewN ?_ _ | refine blk_drew ?_ | refine blk_alloc ?_ _)); exact BK1038.out)) : gb1038 ≠ gb1042))
        have n6_ := Aside0.mk ((by rw [hg]; exact Nat.ne_of_gt (blk_lt (g := gb1038) (o := .cells #[.slice A0_0 l0_0.length c0_0, .int .u8 a0_1, .int .u8 a0_2] 31 (0, 0)) (by (with_reducible repeat (first | refine blk_drewN ?_ _ | refine blk_drew ?_ | refine blk_alloc ?_ _)); exact BK1038.out)) : gb1042 ≠ gb1038))
        clear BK1038
        clear HB
        have BK1038 := n0_
        have HB := n1_
        have BK1042 := n2_
        have GW1042 := n3_
        have GE1042 := n4_
        have NB1038_1042 := n5_
        have NB1042_1038 := n6_
        clear n0_ n1_ n2_ n3_ n4_ n5_ n6_
        clear hb hbox hg
        refine hK.out _ _ ⟨(blk_cell BK1038.out 0).trans rfl, (blk_cell BK1038.out 1).trans rfl, (blk_cell BK1038.out 2).trans rfl⟩ (fun hHeld => ?_)
        clear hK K
        refine norm_ (a' := ?_) ?_ ?_
        rotate_left
        ·show Act.put _ (some 9) _ = _
         simp only [Act.put, List.setIfInBounds_toArray, List.set_cons_zero, List.set_cons_succ, i64_w, i32_w]
         rfl
        refine one_ (i := 2) (N := some 30) #[true, true, true, true, true, true, true, false, true, false] rfl rfl (one_of HT_.out (by kernel_rfl)) (by decide) (fun K hK => ?_)
        refine Kd.R_append_rows_step (Kd.int .i64) (w0 := w) w.heap.size rfl (.const (.slice none 0 0)) (.tmp 29) 29 3 (.int .i64 0) 8 rfl Try.underlying29 info3 rfl (by decide) (by omega) (.slice none 0 0) ([] : List Int) l0_0 _ _ _ (fun _ => True) (fun _ => False) rfl rfl ?aO ?aR (fun _ _ h => h) (fun _ h => h.elim) ?aF ?aB ?aS ?aL ?_
        (case aR => repeat (first | exact (Kd.C_below HR0_0.out HB.out) | (with_reducible refine Kd.C_alloc ?_ _) | (with_reducible refine Kd.C_drewN ?_ _) | (with_reducible refine Kd.C_drew ?_)))
        (case aB => exact (by repeat (first | (with_reducible first | exact HB.out | apply below_alloc | apply pw_below_drewN | apply below_drew1 | refine below_set ?_ GE1038.out | refine below_set ?_ GE1042.out) | exact HB.out)))
        (case aF => exact (fun _ _ => trivial))
        (case aO => exact ((Kd.R_nil _ _ _ _ (fun _ => True))))
        (case aS => exact (below_size (by repeat (first | (with_reducible first | exact HB.out | apply below_alloc | apply pw_below_drewN | apply below_drew1 | refine below_set ?_ GE1038.out | refine below_set ?_ GE1042.out) | exact HB.out))))
        (case aL => have := LMc11.out; omega)
        intro v1040 w18 ho hb hg hat
        rw [← Ny1039.out] at ho
        have n0_ := Aside0.mk (blk_grown (g := gb1038) (o := .cells #[.slice A0_0 l0_0.length c0_0, .int .u8 a0_1, .int .u8 a0_2] 31 (0, 0)) (by (with_reducible repeat (first | refine blk_drewN ?_ _ | refine blk_drew ?_ | refine blk_alloc ?_ _)); exact BK1038.out) hg (by simp [Value.ownBlock]))
        have n1_ := Aside0.mk (blk_grown (g := gb1042) (o := .cells #[.slice none 0 0, .int .u8 0, .int .u8 0] 31 (0, 0)) (by (with_reducible repeat (first | refine blk_drewN ?_ _ | refine blk_drew ?_ | refine blk_alloc ?_ _)); exact BK1042.out) hg (by simp [Value.ownBlock]))
        have n2_ := Aside0.mk (hb)
        have n3_ := Aside0.mk (ho)
        clear BK1038
        clear BK1042
        clear HB
        have BK1038 := n0_
        have BK1042 := n1_
        have HB := n2_
        have HO1041 := n3_
        clear n0_ n1_ n2_ n3_
        clear ho hb hg hat
        obtain ⟨Ao19, co19, eo19⟩ := Kd.R_slice HO1041.out
        (first | subst eo19 | (injection eo19 with f1_ f2_ f3_; have f4_ := f1_.symm; have f5_ := f3_.symm; clear f1_ f2_ f3_; subst f4_; subst f5_))
        refine hK.out _ _ ⟨(blk_cell BK1038.out 0).trans rfl, (blk_cell BK1038.out 1).trans rfl, (blk_cell BK1038.out 2).trans rfl⟩ (fun hHeld => ?_)
        clear hK K
        refine norm_ (a' := ?_) ?_ ?_
        rotate_left
        ·show Act.put _ (some 30) _ = _
         simp only [Act.put, List.setIfInBounds_toArray, List.set_cons_zero, List.set_cons_succ, i64_w, i32_w]
         rfl
        refine pure_ (i := 7) (N := some 35) (v := ?_) (a' := ?_) #[true, true, true, true, true, true, true, true, true, false] rfl rfl (any_of HT_.out (by kernel_rfl)) (fun _ _ _ h => h) (Or.inl ⟨by rfl, ?_⟩) ?_ ?_
        rotate_left
        ·intro w'
         go_simp
         with_reducible rfl
        rotate_left
        ·simp only [Act.put, List.setIfInBounds_toArray, List.set_cons_zero, List.set_cons_succ, i64_w, i32_w]
         rfl
        exact norm_ (by simp only [putAll, Act.put, List.setIfInBounds_toArray, List.set_cons_zero, List.set_cons_succ]) (hCont (.slice Ao19 y1039.length co19, gb1042) _ ⟨hHeld, (by (with_reducible repeat (first | apply Kd.R_alloc | apply Kd.R_drewN | apply Kd.R_drew)); exact HO1041.out), (by (with_reducible repeat (first | refine blk_drewN ?_ _ | refine blk_drew ?_ | refine blk_alloc ?_ _)); exact BK1038.out), (by (with_reducible repeat (first | refine blk_drewN ?_ _ | refine blk_drew ?_ | refine blk_alloc ?_ _)); exact BK1042.out), GW1042.out, GE1042.out, NB1038_1042.out, NB1042_1038.out, (by repeat (first | (with_reducible first | exact HB.out | apply below_alloc | apply pw_below_drewN | apply below_drew1 | refine below_set ?_ GE1038.out | refine below_set ?_ GE1042.out) | exact HB.out))⟩)
      rintro ⟨v1040, gb1042⟩ w20 ⟨hS_, h0_, h1_, h2_, h3_, h4_, h5_, h6_, h7_⟩
      have n0_ : Aside0 (Kd.R (Kd.int .i64) 3 w20 w.heap.size (fun _ => True) v1040 y1039) := ⟨h0_⟩
      have n1_ : Aside0 (w20.heap[gb1038]? = some (.cells #[.slice A0_0 l0_0.length c0_0, .int .u8 a0_1, .int .u8 a0_2] 31 (0, 0))) := ⟨h1_⟩
      have n2_ : Aside0 (w20.heap[gb1042]? = some (.cells #[.slice none 0 0, .int .u8 0, .int .u8 0] 31 (0, 0))) := ⟨h2_⟩
      have n3_ : Aside0 (w.heap.size ≤ gb1042) := ⟨h3_⟩
      have n4_ : Aside0 (w.heap.size ≤ gb1042) := ⟨h4_⟩
      have n5_ : Aside0 (gb1038 ≠ gb1042) := ⟨h5_⟩
      have n6_ : Aside0 (gb1042 ≠ gb1038) := ⟨h6_⟩
      have n7_ : Aside0 (Below w.heap.size w w20) := ⟨h7_⟩
      clear BK1038
      clear HB
      clear h0_ h1_ h2_ h3_ h4_ h5_ h6_ h7_
      have HO1041 := n0_
      have BK1038 := n1_
      have BK1042 := n2_
      have GW1042 := n3_
      have GE1042 := n4_
      have NB1038_1042 := n5_
      have NB1042_1038 := n6_
      have HB := n7_
      clear n0_ n1_ n2_ n3_ n4_ n5_ n6_ n7_
      have hHeld : w20.cell? ⟨gb1038, 0, none⟩ = some (.slice A0_0 l0_0.length c0_0) ∧ w20.cell? ⟨gb1038, 1, none⟩ = some (.int .u8 a0_1) ∧ w20.cell? ⟨gb1038, 2, none⟩ = some (.int .u8 a0_2) := hS_
      obtain ⟨Ao21, co21, eo21⟩ := Kd.R_slice HO1041.out
      (first | subst eo21 | (injection eo21 with f1_ f2_ f3_; have f4_ := f1_.symm; have f5_ := f3_.symm; clear f1_ f2_ f3_; subst f4_; subst f5_))
      refine norm_ (a' := ?_) ?_ ?_
      rotate_left
      ·simp only [putAll, Act.put, List.setIfInBounds_toArray, List.set_cons_zero, List.set_cons_succ]
       rfl
      refine one_ (i := 9) (N := none) #[true, true, true, true, true, true, true, true, true, true] rfl rfl (one_of HT_.out (by kernel_rfl)) (by decide) (fun K hK => ?_)
      have hs22 : w20.cell? ⟨gb1042, 0, none⟩ = some (.slice none 0 0) := (blk_cell BK1042.out 0).trans rfl
      have hfs22 := blk_frozen BK1042.out 0
      have hns22_0 := NB1038_1042.out
      have hms22_0 := NB1042_1038.out
      have hs23 : w20.cell? ⟨gb1042, 1, none⟩ = some (.int .u8 0) := (blk_cell BK1042.out 1).trans rfl
      have hfs23 := blk_frozen BK1042.out 1
      have hns23_0 := NB1038_1042.out
      have hms23_0 := NB1042_1038.out
      have hs24 : w20.cell? ⟨gb1042, 2, none⟩ = some (.int .u8 0) := (blk_cell BK1042.out 2).trans rfl
      have hfs24 := blk_frozen BK1042.out 2
      have hns24_0 := NB1038_1042.out
      have hms24_0 := NB1042_1038.out
      refine skip_ (w1 := ?_) (by rfl) rfl ?_ ?_
      rotate_left
      ·go_simp
       rfl
      refine hK.out _ _ ⟨((cell_far (p := ⟨gb1042, _, none⟩) NB1038_1042.out _).trans (((cell_far (p := ⟨gb1042, _, none⟩) NB1038_1042.out _).trans (((cell_far (p := ⟨gb1042, _, none⟩) NB1038_1042.out _).trans (hHeld.1)))))), ((cell_far (p := ⟨gb1042, _, none⟩) NB1038_1042.out _).trans (((cell_far (p := ⟨gb1042, _, none⟩) NB1038_1042.out _).trans (((cell_far (p := ⟨gb1042, _, none⟩) NB1038_1042.out _).trans (hHeld.2.1)))))), ((cell_far (p := ⟨gb1042, _, none⟩) NB1038_1042.out _).trans (((cell_far (p := ⟨gb1042, _, none⟩) NB1038_1042.out _).trans (((cell_far (p := ⟨gb1042, _, none⟩) NB1038_1042.out _).trans (hHeld.2.2))))))⟩ (fun hHeld => ?_)
      clear hK K
      refine done_ (done_of HT_.out (by kernel_rfl)) ?_
      go_upto_region 7 with (first | ((with_reducible refine gate_builtin (b := .append) (xs := #[.const (.slice none 0 0), .tmp 36]) rfl ?_); (try (refine gate_guard (by rfl) ?_; dsimp only)); at_builtin; refine Kd.R_append_rows (Kd.int .i64) (w0 := w) w.heap.size rfl (.const (.slice none 0 0)) (.tmp 36) 29 3 (.int .i64 0) 8 rfl Try.underlying29 info3 rfl (by decide) (by omega) (.slice none 0 0) ([] : List Int) l3 _ _ _ (fun k_ => some k_ ≠ (.slice Ao21 y1039.length co21 : Value).ownBlock) (fun _ => False) rfl rfl ?aO ?aR (fun _ _ h => h) (fun _ h => h.elim) ?aF ?aB ?aS ?aL ?_; (case aR => exact Kd.C_below HR3.out (by repeat (first | (with_reducible first | exact HB.out | apply below_alloc | apply pw_below_drewN | apply below_drew1 | refine below_set ?_ GE1038.out | refine below_set ?_ GE1042.out) | exact HB.out))); (case aB => exact (by repeat (first | (with_reducible first | exact HB.out | apply below_alloc | apply pw_below_drewN | apply below_drew1 | refine below_set ?_ GE1038.out | refine below_set ?_ GE1042.out) | exact HB.out))); (case aF => exact (fun k_ hk => Kd.fresh' (Kd.R_lt (by (with_reducible repeat (first | apply Kd.R_alloc | apply Kd.R_drewN | apply Kd.R_drew)); exact (Kd.R_mono (Kd.R_far (p := ⟨gb1042, 2, none⟩) (Kd.R_far (p := ⟨gb1042, 1, none⟩) (Kd.R_far (p := ⟨gb1042, 0, none⟩) (Kd.R_types HO1041.out BK1042.out (by decide)) (fun _ hk => hk.2) (.slice Ao21 y1039.length co21)) (fun _ hk => hk.2) (.int .u8 a0_1)) (fun _ hk => hk.2) (.int .u8 a0_2)) (fun _ h_ => h_.1)))) k_ hk)); (case aO => exact ((Kd.R_nil _ _ _ _ (fun k_ => some k_ ≠ (.slice Ao21 y1039.length co21 : Value).ownBlock)))); (case aS => exact (below_size (by repeat (first | (with_reducible first | exact HB.out | apply below_alloc | apply pw_below_drewN | apply below_drew1 | refine below_set ?_ GE1038.out | refine below_set ?_ GE1042.out) | exact HB.out)))); (case aL => have := LMc12.out; omega); intro v1044 w25 ho hb hg hat; rw [← Ny1043.out] at ho; have n0_ := Aside0.mk (blk_grown (g := gb1038) (o := .cells #[.slice A0_0 l0_0.length c0_0, .int .u8 a0_1, .int .u8 a0_2] 31 (0, 0)) (by (with_reducible repeat (first | refine blk_drewN ?_ _ | refine blk_drew ?_ | refine blk_alloc ?_ _)); refine blk_far ?_ NB1038_1042.out _; (with_reducible repeat (first | refine blk_drewN ?_ _ | refine blk_drew ?_ | refine blk_alloc ?_ _)); refine blk_far ?_ NB1038_1042.out _; (with_reducible repeat (first | refine blk_drewN ?_ _ | refine blk_drew ?_ | refine blk_alloc ?_ _)); refine blk_far ?_ NB1038_1042.out _; (with_reducible repeat (first | refine blk_drewN ?_ _ | refine blk_drew ?_ | refine blk_alloc ?_ _)); exact BK1038.out) hg (by simp [Value.ownBlock])); have n1_ := Aside0.mk (Kd.R_after (Kd.R_apart_nil (by (with_reducible repeat (first | apply Kd.R_alloc | apply Kd.R_drewN | apply Kd.R_drew)); exact (Kd.R_mono (Kd.R_far (p := ⟨gb1042, 2, none⟩) (Kd.R_far (p := ⟨gb1042, 1, none⟩) (Kd.R_far (p := ⟨gb1042, 0, none⟩) (Kd.R_types HO1041.out BK1042.out (by decide)) (fun _ hk => hk.2) (.slice Ao21 y1039.length co21)) (fun _ hk => hk.2) (.int .u8 a0_1)) (fun _ hk => hk.2) (.int .u8 a0_2)) (fun _ h_ => h_.1)))) hg hat); have n2_ := Aside0.mk (blk_grown (g := gb1042) (o := .cells #[.slice Ao21 y1039.length co21, .int .u8 a0_1, .int .u8 a0_2] 31 (0, 0)) (by (with_reducible repeat (first | refine blk_drewN ?_ _ | refine blk_drew ?_ | refine blk_alloc ?_ _)); refine blk_put (cs := #[.slice Ao21 y1039.length co21, .int .u8 a0_1, .int .u8 0]) ?_ 2 _ rfl; (with_reducible repeat (first | refine blk_drewN ?_ _ | refine blk_drew ?_ | refine blk_alloc ?_ _)); refine blk_put (cs := #[.slice Ao21 y1039.length co21, .int .u8 0, .int .u8 0]) ?_ 1 _ rfl; (with_reducible repeat (first | refine blk_drewN ?_ _ | refine blk_drew ?_ | refine blk_alloc ?_ _)); refine blk_put (cs := #[.slice none 0 0, .int .u8 0, .int .u8 0]) ?_ 0 _ rfl; (with_reducible repeat (first | refine blk_drewN ?_ _ | refine blk_drew ?_ | refine blk_alloc ?_ _)); exact BK1042.out) hg (by simp [Value.ownBlock])); have n3_ := Aside0.mk (hb); have n4_ := Aside0.mk (ho); clear BK1038; clear HO1041; clear BK1042; clear HB; have BK1038 := n0_; have HO1041 := n1_; have BK1042 := n2_; have HB := n3_; have HO1045 := n4_; clear n0_ n1_ n2_ n3_ n4_; clear ho hb hg hat; have hnb26 := NB1042_1038.out; have hnc26 := NB1038_1042.out; have hcz27_0 : w25.cell? ⟨gb1042, 0, none⟩ = some (.slice Ao21 y1039.length co21) := (blk_cell BK1042.out 0).trans rfl; have hcz27_1 : w25.cell? ⟨gb1042, 1, none⟩ = some (.int .u8 a0_1) := (blk_cell BK1042.out 1).trans rfl; have hcz27_2 : w25.cell? ⟨gb1042, 2, none⟩ = some (.int .u8 a0_2) := (blk_cell BK1042.out 2).trans rfl; have hfz27_0 := blk_frozen BK1042.out 0; have hfz27_1 := blk_frozen BK1042.out 1; have hfz27_2 := blk_frozen BK1042.out 2; obtain ⟨Ao28, co28, eo28⟩ := Kd.R_slice HO1045.out; subst eo28) | ((with_reducible refine gate_callee (f := 35) rfl ?_); refine goesL_ (some 43) rfl rfl Try.func35 (by kernel_rfl) rfl #[.agg #[.slice Ao21 y1039.length co21, .int .u8 a0_1, .int .u8 a0_2], .int .u8 a1, .int .u8 a2, .slice Ao28 y1043.length co28] rfl (by (try simp only [List.map_toArray, List.map_cons, List.map_nil]); first | done | rfl | (simp only [List.length_drop, List.length_take]; rfl)) ?_; (with_reducible refine (lap_Next.calls _ _ y1039 a0_1 a0_2 a1 a2 _ _ y1043 t1046 t1049 t1050 t1051 t1054 _ ?side1 ?side2 ?side3 ?side4 A13.out).mono ?_); (case side1 => repeat (first | exact (Kd.R_reads' HO1041.out).2.2 | (with_reducible refine Kd.C_alloc ?_ _) | (with_reducible refine Kd.C_drewN ?_ _) | (with_reducible refine Kd.C_drew ?_))); (case side2 => exact (Kd.R_reads' HO1041.out).2.1); (case side3 => repeat (first | exact (Kd.R_reads' HO1045.out).2.2 | (with_reducible refine Kd.C_alloc ?_ _) | (with_reducible refine Kd.C_drewN ?_ _) | (with_reducible refine Kd.C_drew ?_))); (case side4 => exact (Kd.R_reads' HO1045.out).2.1); rintro e w29 ⟨v1047, v1052, rfl, ho0, ho1, hb⟩; refine ⟨_, rfl, ?_⟩; have n0_ := Aside0.mk (Kd.R_mono (Kd.R_told (Kd.R_told (Kd.R_old (by (with_reducible repeat (first | apply Kd.R_alloc | apply Kd.R_drewN | apply Kd.R_drew)); exact HO1041.out) hb) (Kd.R_base ho0)) (Kd.R_base ho1)) (fun _ h_ => h_.1)); have n1_ := Aside0.mk (Kd.R_mono (Kd.R_told (Kd.R_told (Kd.R_old (by (with_reducible repeat (first | apply Kd.R_alloc | apply Kd.R_drewN | apply Kd.R_drew)); exact HO1045.out) hb) (Kd.R_base ho0)) (Kd.R_base ho1)) (fun _ h_ => h_.1)); have n2_ := Aside0.mk (Kd.R_lower (Kd.R_new' (Kd.R_new' ho0 (Kd.R_lt (by (with_reducible repeat (first | apply Kd.R_alloc | apply Kd.R_drewN | apply Kd.R_drew)); exact HO1041.out))) (Kd.R_lt (by (with_reducible repeat (first | apply Kd.R_alloc | apply Kd.R_drewN | apply Kd.R_drew)); exact HO1045.out))) (below_size (by repeat (first | (with_reducible first | exact HB.out | apply below_alloc | apply pw_below_drewN | apply below_drew1 | refine below_set ?_ GE1038.out | refine below_set ?_ GE1042.out) | exact HB.out)))); have n3_ := Aside0.mk (Kd.R_lower (Kd.R_new' (Kd.R_new' ho1 (Kd.R_lt (by (with_reducible repeat (first | apply Kd.R_alloc | apply Kd.R_drewN | apply Kd.R_drew)); exact HO1041.out))) (Kd.R_lt (by (with_reducible repeat (first | apply Kd.R_alloc | apply Kd.R_drewN | apply Kd.R_drew)); exact HO1045.out))) (below_size (by repeat (first | (with_reducible first | exact HB.out | apply below_alloc | apply pw_below_drewN | apply below_drew1 | refine below_set ?_ GE1038.out | refine below_set ?_ GE1042.out) | exact HB.out)))); have n4_ := Aside0.mk (blk_below (g := gb1038) (o := .cells #[.slice A0_0 l0_0.length c0_0, .int .u8 a0_1, .int .u8 a0_2] 31 (0, 0)) (by (with_reducible repeat (first | refine blk_drewN ?_ _ | refine blk_drew ?_ | refine blk_alloc ?_ _)); exact BK1038.out) hb); have n5_ := Aside0.mk (blk_below (g := gb1042) (o := .cells #[.slice Ao21 y1039.length co21, .int .u8 a0_1, .int .u8 a0_2] 31 (0, 0)) (by (with_reducible repeat (first | refine blk_drewN ?_ _ | refine blk_drew ?_ | refine blk_alloc ?_ _)); exact BK1042.out) hb); have n6_ := Aside0.mk (below_step (by repeat (first | (with_reducible first | exact HB.out | apply below_alloc | apply pw_below_drewN | apply below_drew1 | refine below_set ?_ GE1038.out | refine below_set ?_ GE1042.out) | exact HB.out)) hb); clear HO1041; clear HO1045; clear BK1038; clear BK1042; clear HB; have HO1041 := n0_; have HO1045 := n1_; have HO1048 := n2_; have HO1053 := n3_; have BK1038 := n4_; have BK1042 := n5_; have HB := n6_; clear n0_ n1_ n2_ n3_ n4_ n5_ n6_; (try clear hb); (try clear hb2); (try clear hk); (try clear hi); (try clear ho0); (try clear ho1)) | ((with_reducible refine gate_dst (N := 11) rfl ?_); (try (refine gate_guard (by rfl) ?_; dsimp only)); refine box_event ?hg (N := 11) ?hd (cs := #[.slice none 0 0, .int .u8 0, .int .u8 0]) (t := 31) ?hr ?_; (case hd => rfl); (case hg => rfl); (case hr => first | (go_simp; done) | (go_simp; rfl)); intro gb1055 hg w30 hbox hb; have n0_ := Aside0.mk (Kd.R_below (by (with_reducible repeat (first | apply Kd.R_alloc | apply Kd.R_drewN | apply Kd.R_drew)); exact HO1041.out) hb); have n1_ := Aside0.mk (Kd.R_below (by (with_reducible repeat (first | apply Kd.R_alloc | apply Kd.R_drewN | apply Kd.R_drew)); exact HO1045.out) hb); have n2_ := Aside0.mk (Kd.R_below (by (with_reducible repeat (first | apply Kd.R_alloc | apply Kd.R_drewN | apply Kd.R_drew)); exact HO1048.out) hb); have n3_ := Aside0.mk (Kd.R_below (by (with_reducible repeat (first | apply Kd.R_alloc | apply Kd.R_drewN | apply Kd.R_drew)); exact HO1053.out) hb); have n4_ := Aside0.mk (blk_below (g := gb1038) (o := .cells #[.slice A0_0 l0_0.length c0_0, .int .u8 a0_1, .int .u8 a0_2] 31 (0, 0)) (by (with_reducible repeat (first | refine blk_drewN ?_ _ | refine blk_drew ?_ | refine blk_alloc ?_ _)); exact BK1038.out) hb); have n5_ := Aside0.mk (blk_below (g := gb1042) (o := .cells #[.slice Ao21 y1039.length co21, .int .u8 a0_1, .int .u8 a0_2] 31 (0, 0)) (by (with_reducible repeat (first | refine blk_drewN ?_ _ | refine blk_drew ?_ | refine blk_alloc ?_ _)); exact BK1042.out) hb); have n6_ := Aside0.mk (below_step (by repeat (first | (with_reducible first | exact HB.out | apply below_alloc | apply pw_below_drewN | apply below_drew1 | refine below_set ?_ GE1038.out | refine below_set ?_ GE1042.out) | exact HB.out)) hb); have n7_ := Aside0.mk (hbox); have n8_ := Aside0.mk ((by rw [hg]; exact (below_size (by repeat (first | (with_reducible first | exact HB.out | apply below_alloc | apply pw_below_drewN | apply below_drew1 | refine below_set ?_ GE1038.out | refine below_set ?_ GE1042.out) | exact HB.out))) : w.heap.size ≤ gb1055)); have n9_ := Aside0.mk ((by rw [hg]; exact (below_size (by repeat (first | (with_reducible first | exact HB.out | apply below_alloc | apply pw_below_drewN | apply below_drew1 | refine below_set ?_ GE1038.out | refine below_set ?_ GE1042.out) | exact HB.out))) : w.heap.size ≤ gb1055)); have n10_ := Aside0.mk ((by rw [hg]; exact Nat.ne_of_lt (blk_lt (g := gb1038) (o := .cells #[.slice A0_0 l0_0.length c0_0, .int .u8 a0_1, .int .u8 a0_2] 31 (0, 0)) (by (with_reducible repeat (first | refine blk_drewN ?_ _ | refine blk_drew ?_ | refine blk_alloc ?_ _)); exact BK1038.out)) : gb1038 ≠ gb1055)); have n11_ := Aside0.mk ((by rw [hg]; exact Nat.ne_of_gt (blk_lt (g := gb1038) (o := .cells #[.slice A0_0 l0_0.length c0_0, .int .u8 a0_1, .int .u8 a0_2] 31 (0, 0)) (by (with_reducible repeat (first | refine blk_drewN ?_ _ | refine blk_drew ?_ | refine blk_alloc ?_ _)); exact BK1038.out)) : gb1055 ≠ gb1038)); have n12_ := Aside0.mk ((by rw [hg]; exact Nat.ne_of_lt (blk_lt (g := gb1042) (o := .cells #[.slice Ao21 y1039.length co21, .int .u8 a0_1, .int .u8 a0_2] 31 (0, 0)) (by (with_reducible repeat (first | refine blk_drewN ?_ _ | refine blk_drew ?_ | refine blk_alloc ?_ _)); exact BK1042.out)) : gb1042 ≠ gb1055)); have n13_ := Aside0.mk ((by rw [hg]; exact Nat.ne_of_gt (blk_lt (g := gb1042) (o := .cells #[.slice Ao21 y1039.length co21, .int .u8 a0_1, .int .u8 a0_2] 31 (0, 0)) (by (with_reducible repeat (first | refine blk_drewN ?_ _ | refine blk_drew ?_ | refine blk_alloc ?_ _)); exact BK1042.out)) : gb1055 ≠ gb1042)); clear HO1041; clear HO1045; clear HO1048; clear HO1053; clear BK1038; clear BK1042; clear HB; have HO1041 := n0_; have HO1045 := n1_; have HO1048 := n2_; have HO1053 := n3_; have BK1038 := n4_; have BK1042 := n5_; have HB := n6_; have BK1055 := n7_; have GW1055 := n8_; have GE1055 := n9_; have NB1038_1055 := n10_; have NB1055_1038 := n11_; have NB1042_1055 := n12_; have NB1055_1042 := n13_; clear n0_ n1_ n2_ n3_ n4_ n5_ n6_ n7_ n8_ n9_ n10_ n11_ n12_ n13_; clear hb hbox hg; obtain ⟨Ao31, co31, eo31⟩ := Kd.R_slice HO1048.out; subst eo31; have hnb32 := NB1055_1038.out; have hnc32 := NB1038_1055.out; have hnb33 := NB1055_1042.out; have hnc33 := NB1042_1055.out; have hcz34_0 : w30.cell? ⟨gb1055, 0, none⟩ = some (.slice none 0 0) := (blk_cell BK1055.out 0).trans rfl; have hcz34_1 : w30.cell? ⟨gb1055, 1, none⟩ = some (.int .u8 0) := (blk_cell BK1055.out 1).trans rfl; have hcz34_2 : w30.cell? ⟨gb1055, 2, none⟩ = some (.int .u8 0) := (blk_cell BK1055.out 2).trans rfl; have hfz34_0 := blk_frozen BK1055.out 0; have hfz34_1 := blk_frozen BK1055.out 1; have hfz34_2 := blk_frozen BK1055.out 2; have hcz35_0 : w30.cell? ⟨gb1038, 0, none⟩ = some (.slice A0_0 l0_0.length c0_0) := (blk_cell BK1038.out 0).trans rfl; have hcz35_1 : w30.cell? ⟨gb1038, 1, none⟩ = some (.int .u8 a0_1) := (blk_cell BK1038.out 1).trans rfl; have hcz35_2 : w30.cell? ⟨gb1038, 2, none⟩ = some (.int .u8 a0_2) := (blk_cell BK1038.out 2).trans rfl; have hfz35_0 := blk_frozen BK1038.out 0; have hfz35_1 := blk_frozen BK1038.out 1; have hfz35_2 := blk_frozen BK1038.out 2) | ((with_reducible refine gate_callee (f := 58) rfl ?_); refine goesL_ (some 52) rfl rfl Try.func58 (by kernel_rfl) rfl #[.agg #[.slice A0_0 l0_0.length c0_0, .int .u8 a0_1, .int .u8 a0_2], .int .u8 a1, .int .u8 a2, .slice A3 l3.length c3] rfl (by (try simp only [List.map_toArray, List.map_cons, List.map_nil]); first | done | rfl | (simp only [List.length_drop, List.length_take]; rfl)) ?_; (with_reducible refine (reedpiperef13_Next.calls kj4 _ _ l0_0 a0_1 a0_2 a1 a2 _ _ l3 t1056 t1059 t1060 t1061 t1064 _ ?side1 ?side2 ?side3 ?side4 A14.out).mono ?_); (case side1 => exact Kd.C_below HR0_0.out (by repeat (first | (with_reducible first | exact HB.out | apply below_alloc | apply pw_below_drewN | apply below_drew1 | refine below_set ?_ GE1038.out | refine below_set ?_ GE1042.out | refine below_set ?_ GE1055.out) | exact HB.out))); (case side2 => exact HC0_0.out); (case side3 => exact Kd.C_below HR3.out (by repeat (first | (with_reducible first | exact HB.out | apply below_alloc | apply pw_below_drewN | apply below_drew1 | refine below_set ?_ GE1038.out | refine below_set ?_ GE1042.out | refine below_set ?_ GE1055.out) | exact HB.out))); (case side4 => exact HC3.out); rintro e w36 ⟨v1057, v1062, rfl, ho0, ho1, hb⟩; refine ⟨_, rfl, ?_⟩; have n0_ := Aside0.mk (Kd.R_mono (Kd.R_told (Kd.R_told (Kd.R_old (by (with_reducible repeat (first | apply Kd.R_alloc | apply Kd.R_drewN | apply Kd.R_drew)); exact (Kd.R_mono (Kd.R_far (p := ⟨gb1055, 2, none⟩) (Kd.R_far (p := ⟨gb1055, 1, none⟩) (Kd.R_far (p := ⟨gb1055, 0, none⟩) (Kd.R_types HO1041.out BK1055.out (by decide)) (fun _ hk => hk.2) (.slice Ao31 t1046.length co31)) (fun _ hk => hk.2) (.int .u8 t1049)) (fun _ hk => hk.2) (.int .u8 t1050)) (fun _ h_ => h_.1))) hb) (Kd.R_base ho0)) (Kd.R_base ho1)) (fun _ h_ => h_.1)); have n1_ := Aside0.mk (Kd.R_mono (Kd.R_told (Kd.R_told (Kd.R_old (by (with_reducible repeat (first | apply Kd.R_alloc | apply Kd.R_drewN | apply Kd.R_drew)); exact (Kd.R_mono (Kd.R_far (p := ⟨gb1055, 2, none⟩) (Kd.R_far (p := ⟨gb1055, 1, none⟩) (Kd.R_far (p := ⟨gb1055, 0, none⟩) (Kd.R_types HO1045.out BK1055.out (by decide)) (fun _ hk => hk.2) (.slice Ao31 t1046.length co31)) (fun _ hk => hk.2) (.int .u8 t1049)) (fun _ hk => hk.2) (.int .u8 t1050)) (fun _ h_ => h_.1))) hb) (Kd.R_base ho0)) (Kd.R_base ho1)) (fun _ h_ => h_.1)); have n2_ := Aside0.mk (Kd.R_mono (Kd.R_told (Kd.R_told (Kd.R_old (by (with_reducible repeat (first | apply Kd.R_alloc | apply Kd.R_drewN | apply Kd.R_drew)); exact (Kd.R_mono (Kd.R_far (p := ⟨gb1055, 2, none⟩) (Kd.R_far (p := ⟨gb1055, 1, none⟩) (Kd.R_far (p := ⟨gb1055, 0, none⟩) (Kd.R_types HO1048.out BK1055.out (by decide)) (fun _ hk => hk.2) (.slice Ao31 t1046.length co31)) (fun _ hk => hk.2) (.int .u8 t1049)) (fun _ hk => hk.2) (.int .u8 t1050)) (fun _ h_ => h_.1))) hb) (Kd.R_base ho0)) (Kd.R_base ho1)) (fun _ h_ => h_.1)); have n3_ := Aside0.mk (Kd.R_mono (Kd.R_told (Kd.R_told (Kd.R_old (by (with_reducible repeat (first | apply Kd.R_alloc | apply Kd.R_drewN | apply Kd.R_drew)); exact (Kd.R_mono (Kd.R_far (p := ⟨gb1055, 2, none⟩) (Kd.R_far (p := ⟨gb1055, 1, none⟩) (Kd.R_far (p := ⟨gb1055, 0, none⟩) (Kd.R_types HO1053.out BK1055.out (by decide)) (fun _ hk => hk.2) (.slice Ao31 t1046.length co31)) (fun _ hk => hk.2) (.int .u8 t1049)) (fun _ hk => hk.2) (.int .u8 t1050)) (fun _ h_ => h_.1))) hb) (Kd.R_base ho0)) (Kd.R_base ho1)) (fun _ h_ => h_.1)); have n4_ := Aside0.mk (Kd.R_lower (Kd.R_new' (Kd.R_new' (Kd.R_new' (Kd.R_new' ho0 (Kd.R_lt (by (with_reducible repeat (first | apply Kd.R_alloc | apply Kd.R_drewN | apply Kd.R_drew)); exact (Kd.R_mono (Kd.R_far (p := ⟨gb1055, 2, none⟩) (Kd.R_far (p := ⟨gb1055, 1, none⟩) (Kd.R_far (p := ⟨gb1055, 0, none⟩) (Kd.R_types HO1041.out BK1055.out (by decide)) (fun _ hk => hk.2) (.slice Ao31 t1046.length co31)) (fun _ hk => hk.2) (.int .u8 t1049)) (fun _ hk => hk.2) (.int .u8 t1050)) (fun _ h_ => h_.1))))) (Kd.R_lt (by (with_reducible repeat (first | apply Kd.R_alloc | apply Kd.R_drewN | apply Kd.R_drew)); exact (Kd.R_mono (Kd.R_far (p := ⟨gb1055, 2, none⟩) (Kd.R_far (p := ⟨gb1055, 1, none⟩) (Kd.R_far (p := ⟨gb1055, 0, none⟩) (Kd.R_types HO1045.out BK1055.out (by decide)) (fun _ hk => hk.2) (.slice Ao31 t1046.length co31)) (fun _ hk => hk.2) (.int .u8 t1049)) (fun _ hk => hk.2) (.int .u8 t1050)) (fun _ h_ => h_.1))))) (Kd.R_lt (by (with_reducible repeat (first | apply Kd.R_alloc | apply Kd.R_drewN | apply Kd.R_drew)); exact (Kd.R_mono (Kd.R_far (p := ⟨gb1055, 2, none⟩) (Kd.R_far (p := ⟨gb1055, 1, none⟩) (Kd.R_far (p := ⟨gb1055, 0, none⟩) (Kd.R_types HO1048.out BK1055.out (by decide)) (fun _ hk => hk.2) (.slice Ao31 t1046.length co31)) (fun _ hk => hk.2) (.int .u8 t1049)) (fun _ hk => hk.2) (.int .u8 t1050)) (fun _ h_ => h_.1))))) (Kd.R_lt (by (with_reducible repeat (first | apply Kd.R_alloc | apply Kd.R_drewN | apply Kd.R_drew)); exact (Kd.R_mono (Kd.R_far (p := ⟨gb1055, 2, none⟩) (Kd.R_far (p := ⟨gb1055, 1, none⟩) (Kd.R_far (p := ⟨gb1055, 0, none⟩) (Kd.R_types HO1053.out BK1055.out (by decide)) (fun _ hk => hk.2) (.slice Ao31 t1046.length co31)) (fun _ hk => hk.2) (.int .u8 t1049)) (fun _ hk => hk.2) (.int .u8 t1050)) (fun _ h_ => h_.1))))) (below_size (by repeat (first | (with_reducible first | exact HB.out | apply below_alloc | apply pw_below_drewN | apply below_drew1 | refine below_set ?_ GE1038.out | refine below_set ?_ GE1042.out | refine below_set ?_ GE1055.out) | exact HB.out)))); have n5_ := Aside0.mk (Kd.R_lower (Kd.R_new' (Kd.R_new' (Kd.R_new' (Kd.R_new' ho1 (Kd.R_lt (by (with_reducible repeat (first | apply Kd.R_alloc | apply Kd.R_drewN | apply Kd.R_drew)); exact (Kd.R_mono (Kd.R_far (p := ⟨gb1055, 2, none⟩) (Kd.R_far (p := ⟨gb1055, 1, none⟩) (Kd.R_far (p := ⟨gb1055, 0, none⟩) (Kd.R_types HO1041.out BK1055.out (by decide)) (fun _ hk => hk.2) (.slice Ao31 t1046.length co31)) (fun _ hk => hk.2) (.int .u8 t1049)) (fun _ hk => hk.2) (.int .u8 t1050)) (fun _ h_ => h_.1))))) (Kd.R_lt (by (with_reducible repeat (first | apply Kd.R_alloc | apply Kd.R_drewN | apply Kd.R_drew)); exact (Kd.R_mono (Kd.R_far (p := ⟨gb1055, 2, none⟩) (Kd.R_far (p := ⟨gb1055, 1, none⟩) (Kd.R_far (p := ⟨gb1055, 0, none⟩) (Kd.R_types HO1045.out BK1055.out (by decide)) (fun _ hk => hk.2) (.slice Ao31 t1046.length co31)) (fun _ hk => hk.2) (.int .u8 t1049)) (fun _ hk => hk.2) (.int .u8 t1050)) (fun _ h_ => h_.1))))) (Kd.R_lt (by (with_reducible repeat (first | apply Kd.R_alloc | apply Kd.R_drewN | apply Kd.R_drew)); exact (Kd.R_mono (Kd.R_far (p := ⟨gb1055, 2, none⟩) (Kd.R_far (p := ⟨gb1055, 1, none⟩) (Kd.R_far (p := ⟨gb1055, 0, none⟩) (Kd.R_types HO1048.out BK1055.out (by decide)) (fun _ hk => hk.2) (.slice Ao31 t1046.length co31)) (fun _ hk => hk.2) (.int .u8 t1049)) (fun _ hk => hk.2) (.int .u8 t1050)) (fun _ h_ => h_.1))))) (Kd.R_lt (by (with_reducible repeat (first | apply Kd.R_alloc | apply Kd.R_drewN | apply Kd.R_drew)); exact (Kd.R_mono (Kd.R_far (p := ⟨gb1055, 2, none⟩) (Kd.R_far (p := ⟨gb1055, 1, none⟩) (Kd.R_far (p := ⟨gb1055, 0, none⟩) (Kd.R_types HO1053.out BK1055.out (by decide)) (fun _ hk => hk.2) (.slice Ao31 t1046.length co31)) (fun _ hk => hk.2) (.int .u8 t1049)) (fun _ hk => hk.2) (.int .u8 t1050)) (fun _ h_ => h_.1))))) (below_size (by repeat (first | (with_reducible first | exact HB.out | apply below_alloc | apply pw_below_drewN | apply below_drew1 | refine below_set ?_ GE1038.out | refine below_set ?_ GE1042.out | refine below_set ?_ GE1055.out) | exact HB.out)))); have n6_ := Aside0.mk (blk_below (g := gb1038) (o := .cells #[.slice A0_0 l0_0.length c0_0, .int .u8 a0_1, .int .u8 a0_2] 31 (0, 0)) (by (with_reducible repeat (first | refine blk_drewN ?_ _ | refine blk_drew ?_ | refine blk_alloc ?_ _)); refine blk_far ?_ NB1038_1055.out _; (with_reducible repeat (first | refine blk_drewN ?_ _ | refine blk_drew ?_ | refine blk_alloc ?_ _)); refine blk_far ?_ NB1038_1055.out _; (with_reducible repeat (first | refine blk_drewN ?_ _ | refine blk_drew ?_ | refine blk_alloc ?_ _)); refine blk_far ?_ NB1038_1055.out _; (with_reducible repeat (first | refine blk_drewN ?_ _ | refine blk_drew ?_ | refine blk_alloc ?_ _)); exact BK1038.out) hb); have n7_ := Aside0.mk (blk_below (g := gb1042) (o := .cells #[.slice Ao21 y1039.length co21, .int .u8 a0_1, .int .u8 a0_2] 31 (0, 0)) (by (with_reducible repeat (first | refine blk_drewN ?_ _ | refine blk_drew ?_ | refine blk_alloc ?_ _)); refine blk_far ?_ NB1042_1055.out _; (with_reducible repeat (first | refine blk_drewN ?_ _ | refine blk_drew ?_ | refine blk_alloc ?_ _)); refine blk_far ?_ NB1042_1055.out _; (with_reducible repeat (first | refine blk_drewN ?_ _ | refine blk_drew ?_ | refine blk_alloc ?_ _)); refine blk_far ?_ NB1042_1055.out _; (with_reducible repeat (first | refine blk_drewN ?_ _ | refine blk_drew ?_ | refine blk_alloc ?_ _)); exact BK1042.out) hb); have n8_ := Aside0.mk (blk_below (g := gb1055) (o := .cells #[.slice Ao31 t1046.length co31, .int .u8 t1049, .int .u8 t1050] 31 (0, 0)) (by (with_reducible repeat (first | refine blk_drewN ?_ _ | refine blk_drew ?_ | refine blk_alloc ?_ _)); refine blk_put (cs := #[.slice Ao31 t1046.length co31, .int .u8 t1049, .int .u8 0]) ?_ 2 _ rfl; (with_reducible repeat (first | refine blk_drewN ?_ _ | refine blk_drew ?_ | refine blk_alloc ?_ _)); refine blk_put (cs := #[.slice Ao31 t1046.length co31, .int .u8 0, .int .u8 0]) ?_ 1 _ rfl; (with_reducible repeat (first | refine blk_drewN ?_ _ | refine blk_drew ?_ | refine blk_alloc ?_ _)); refine blk_put (cs := #[.slice none 0 0, .int .u8 0, .int .u8 0]) ?_ 0 _ rfl; (with_reducible repeat (first | refine blk_drewN ?_ _ | refine blk_drew ?_ | refine blk_alloc ?_ _)); exact BK1055.out) hb); have n9_ := Aside0.mk (below_step (by repeat (first | (with_reducible first | exact HB.out | apply below_alloc | apply pw_below_drewN | apply below_drew1 | refine below_set ?_ GE1038.out | refine below_set ?_ GE1042.out | refine below_set ?_ GE1055.out) | exact HB.out)) hb); clear HO1041; clear HO1045; clear HO1048; clear HO1053; clear BK1038; clear BK1042; clear BK1055; clear HB; have HO1041 := n0_; have HO1045 := n1_; have HO1048 := n2_; have HO1053 := n3_; have HO1058 := n4_; have HO1063 := n5_; have BK1038 := n6_; have BK1042 := n7_; have BK1055 := n8_; have HB := n9_; clear n0_ n1_ n2_ n3_ n4_ n5_ n6_ n7_ n8_ n9_; (try clear hb); (try clear hb2); (try clear hk); (try clear hi); (try clear ho0); (try clear ho1)) | ((with_reducible refine gate_dst (N := 14) rfl ?_); (try (refine gate_guard (by rfl) ?_; dsimp only)); refine box_event ?hg (N := 14) ?hd (cs := #[.slice none 0 0, .int .u8 0, .int .u8 0]) (t := 31) ?hr ?_; (case hd => rfl); (case hg => rfl); (case hr => first | (go_simp; done) | (go_simp; rfl)); intro gb1065 hg w37 hbox hb; have n0_ := Aside0.mk (Kd.R_below (by (with_reducible repeat (first | apply Kd.R_alloc | apply Kd.R_drewN | apply Kd.R_drew)); exact HO1041.out) hb); have n1_ := Aside0.mk (Kd.R_below (by (with_reducible repeat (first | apply Kd.R_alloc | apply Kd.R_drewN | apply Kd.R_drew)); exact HO1045.out) hb); have n2_ := Aside0.mk (Kd.R_below (by (with_reducible repeat (first | apply Kd.R_alloc | apply Kd.R_drewN | apply Kd.R_drew)); exact HO1048.out) hb); have n3_ := Aside0.mk (Kd.R_below (by (with_reducible repeat (first | apply Kd.R_alloc | apply Kd.R_drewN | apply Kd.R_drew)); exact HO1053.out) hb); have n4_ := Aside0.mk (Kd.R_below (by (with_reducible repeat (first | apply Kd.R_alloc | apply Kd.R_drewN | apply Kd.R_drew)); exact HO1058.out) hb); have n5_ := Aside0.mk (Kd.R_below (by (with_reducible repeat (first | apply Kd.R_alloc | apply Kd.R_drewN | apply Kd.R_drew)); exact HO1063.out) hb); have n6_ := Aside0.mk (blk_below (g := gb1038) (o := .cells #[.slice A0_0 l0_0.length c0_0, .int .u8 a0_1, .int .u8 a0_2] 31 (0, 0)) (by (with_reducible repeat (first | refine blk_drewN ?_ _ | refine blk_drew ?_ | refine blk_alloc ?_ _)); exact BK1038.out) hb); have n7_ := Aside0.mk (blk_below (g := gb1042) (o := .cells #[.slice Ao21 y1039.length co21, .int .u8 a0_1, .int .u8 a0_2] 31 (0, 0)) (by (with_reducible repeat (first | refine blk_drewN ?_ _ | refine blk_drew ?_ | refine blk_alloc ?_ _)); exact BK1042.out) hb); have n8_ := Aside0.mk (blk_below (g := gb1055) (o := .cells #[.slice Ao31 t1046.length co31, .int .u8 t1049, .int .u8 t1050] 31 (0, 0)) (by (with_reducible repeat (first | refine blk_drewN ?_ _ | refine blk_drew ?_ | refine blk_alloc ?_ _)); exact BK1055.out) hb); have n9_ := Aside0.mk (below_step (by repeat (first | (with_reducible first | exact HB.out | apply below_alloc | apply pw_below_drewN | apply below_drew1 | refine below_set ?_ GE1038.out | refine below_set ?_ GE1042.out | refine below_set ?_ GE1055.out) | exact HB.out)) hb); have n10_ := Aside0.mk (hbox); have n11_ := Aside0.mk ((by rw [hg]; exact (below_size (by repeat (first | (with_reducible first | exact HB.out | apply below_alloc | apply pw_below_drewN | apply below_drew1 | refine below_set ?_ GE1038.out | refine below_set ?_ GE1042.out | refine below_set ?_ GE1055.out) | exact HB.out))) : w.heap.size ≤ gb1065)); have n12_ := Aside0.mk ((by rw [hg]; exact (below_size (by repeat (first | (with_reducible first | exact HB.out | apply below_alloc | apply pw_below_drewN | apply below_drew1 | refine below_set ?_ GE1038.out | refine below_set ?_ GE1042.out | refine below_set ?_ GE1055.out) | exact HB.out))) : w.heap.size ≤ gb1065)); have n13_ := Aside0.mk ((by rw [hg]; exact Nat.ne_of_lt (blk_lt (g := gb1038) (o := .cells #[.slice A0_0 l0_0.length c0_0, .int .u8 a0_1, .int .u8 a0_2] 31 (0, 0)) (by (with_reducible repeat (first | refine blk_drewN ?_ _ | refine blk_drew ?_ | refine blk_alloc ?_ _)); exact BK1038.out)) : gb1038 ≠ gb1065)); have n14_ := Aside0.mk ((by rw [hg]; exact Nat.ne_of_gt (blk_lt (g := gb1038) (o := .cells #[.slice A0_0 l0_0.length c0_0, .int .u8 a0_1, .int .u8 a0_2] 31 (0, 0)) (by (with_reducible repeat (first | refine blk_drewN ?_ _ | refine blk_drew ?_ | refine blk_alloc ?_ _)); exact BK1038.out)) : gb1065 ≠ gb1038)); have n15_ := Aside0.mk ((by rw [hg]; exact Nat.ne_of_lt (blk_lt (g := gb1042) (o := .cells #[.slice Ao21 y1039.length co21, .int .u8 a0_1, .int .u8 a0_2] 31 (0, 0)) (by (with_reducible repeat (first | refine blk_drewN ?_ _ | refine blk_drew ?_ | refine blk_alloc ?_ _)); exact BK1042.out)) : gb1042 ≠ gb1065)); have n16_ := Aside0.mk ((by rw [hg]; exact Nat.ne_of_gt (blk_lt (g := gb1042) (o := .cells #[.slice Ao21 y1039.length co21, .int .u8 a0_1, .int .u8 a0_2] 31 (0, 0)) (by (with_reducible repeat (first | refine blk_drewN ?_ _ | refine blk_drew ?_ | refine blk_alloc ?_ _)); exact BK1042.out)) : gb1065 ≠ gb1042)); have n17_ := Aside0.mk ((by rw [hg]; exact Nat.ne_of_lt (blk_lt (g := gb1055) (o := .cells #[.slice Ao31 t1046.length co31, .int .u8 t1049, .int .u8 t1050] 31 (0, 0)) (by (with_reducible repeat (first | refine blk_drewN ?_ _ | refine blk_drew ?_ | refine blk_alloc ?_ _)); exact BK1055.out)) : gb1055 ≠ gb1065)); have n18_ := Aside0.mk ((by rw [hg]; exact Nat.ne_of_gt (blk_lt (g := gb1055) (o := .cells #[.slice Ao31 t1046.length co31, .int .u8 t1049, .int .u8 t1050] 31 (0, 0)) (by (with_reducible repeat (first | refine blk_drewN ?_ _ | refine blk_drew ?_ | refine blk_alloc ?_ _)); exact BK1055.out)) : gb1065 ≠ gb1055)); clear HO1041; clear HO1045; clear HO1048; clear HO1053; clear HO1058; clear HO1063; clear BK1038; clear BK1042; clear BK1055; clear HB; have HO1041 := n0_; have HO1045 := n1_; have HO1048 := n2_; have HO1053 := n3_; have HO1058 := n4_; have HO1063 := n5_; have BK1038 := n6_; have BK1042 := n7_; have BK1055 := n8_; have HB := n9_; have BK1065 := n10_; have GW1065 := n11_; have GE1065 := n12_; have NB1038_1065 := n13_; have NB1065_1038 := n14_; have NB1042_1065 := n15_; have NB1065_1042 := n16_; have NB1055_1065 := n17_; have NB1065_1055 := n18_; clear n0_ n1_ n2_ n3_ n4_ n5_ n6_ n7_ n8_ n9_ n10_ n11_ n12_ n13_ n14_ n15_ n16_ n17_ n18_; clear hb hbox hg; obtain ⟨Ao38, co38, eo38⟩ := Kd.R_slice HO1058.out; subst eo38; have hnb39 := NB1065_1038.out; have hnc39 := NB1038_1065.out; have hnb40 := NB1065_1042.out; have hnc40 := NB1042_1065.out; have hnb41 := NB1065_1055.out; have hnc41 := NB1055_1065.out; have hcz42_0 : w37.cell? ⟨gb1065, 0, none⟩ = some (.slice none 0 0) := (blk_cell BK1065.out 0).trans rfl; have hcz42_1 : w37.cell? ⟨gb1065, 1, none⟩ = some (.int .u8 0) := (blk_cell BK1065.out 1).trans rfl; have hcz42_2 : w37.cell? ⟨gb1065, 2, none⟩ = some (.int .u8 0) := (blk_cell BK1065.out 2).trans rfl; have hfz42_0 := blk_frozen BK1065.out 0; have hfz42_1 := blk_frozen BK1065.out 1; have hfz42_2 := blk_frozen BK1065.out 2))
      (try simp only [Act.put, List.setIfInBounds_toArray, List.set_cons_zero, List.set_cons_succ])
      go_cut [83] (fun v83 wc => ∃ (kq : Nat) (x83_14 : Bool), v83 = .bool x83_14 ∧ Aside0 (reedpipelaw13_LapDoes.j1 kq l3 y1043 t1051 x83_14 l0_0 a0_1 a0_2 y1039 a0_1 a0_2 t1046 t1049 t1050 = some r) ∧ Aside0 (kq ≤ kj4) ∧ Aside0 (Kd.R (Kd.int .i64) 3 wc w.heap.size (fun k_ => some k_ ≠ (v1052 : Value).ownBlock ∧ some k_ ≠ ((.slice Ao21 y1039.length co21) : Value).ownBlock ∧ some k_ ≠ ((.slice Ao31 t1046.length co31) : Value).ownBlock ∧ some k_ ≠ ((.slice Ao38 t1056.length co38) : Value).ownBlock) (.slice Ao28 y1043.length co28) y1043) ∧ Aside0 (Kd.R (Kd.int .i64) 3 wc w.heap.size (fun k_ => some k_ ≠ ((.slice Ao28 y1043.length co28) : Value).ownBlock ∧ some k_ ≠ ((.slice Ao21 y1039.length co21) : Value).ownBlock ∧ some k_ ≠ ((.slice Ao31 t1046.length co31) : Value).ownBlock ∧ some k_ ≠ ((.slice Ao38 t1056.length co38) : Value).ownBlock) v1052 t1051) ∧ Aside0 (Kd.R (Kd.int .i64) 3 wc w.heap.size (fun k_ => some k_ ≠ ((.slice Ao28 y1043.length co28) : Value).ownBlock ∧ some k_ ≠ (v1052 : Value).ownBlock ∧ some k_ ≠ ((.slice Ao31 t1046.length co31) : Value).ownBlock ∧ some k_ ≠ ((.slice Ao38 t1056.length co38) : Value).ownBlock) (.slice Ao21 y1039.length co21) y1039) ∧ Aside0 (Kd.R (Kd.int .i64) 3 wc w.heap.size (fun k_ => some k_ ≠ ((.slice Ao28 y1043.length co28) : Value).ownBlock ∧ some k_ ≠ (v1052 : Value).ownBlock ∧ some k_ ≠ ((.slice Ao21 y1039.length co21) : Value).ownBlock ∧ some k_ ≠ ((.slice Ao38 t1056.length co38) : Value).ownBlock) (.slice Ao31 t1046.length co31) t1046) ∧ Aside0 (Kd.R (Kd.int .i64) 3 wc w.heap.size (fun k_ => some k_ ≠ ((.slice Ao28 y1043.length co28) : Value).ownBlock ∧ some k_ ≠ (v1052 : Value).ownBlock ∧ some k_ ≠ ((.slice Ao21 y1039.length co21) : Value).ownBlock ∧ some k_ ≠ ((.slice Ao31 t1046.length co31) : Value).ownBlock) (.slice Ao38 t1056.length co38) t1056) ∧ Aside0 (wc.heap[gb1038]? = some (.cells #[(.slice A0_0 l0_0.length c0_0), .int .u8 a0_1, .int .u8 a0_2] 31 (0, 0))) ∧ Aside0 (wc.heap[gb1042]? = some (.cells #[(.slice Ao21 y1039.length co21), .int .u8 a0_1, .int .u8 a0_2] 31 (0, 0))) ∧ Aside0 (wc.heap[gb1055]? = some (.cells #[(.slice Ao31 t1046.length co31), .int .u8 t1049, .int .u8 t1050] 31 (0, 0))) ∧ Aside0 (wc.heap[gb1065]? = some (.cells #[(.slice Ao38 t1056.length co38), .int .u8 t1059, .int .u8 t1060] 31 (0, 0))) ∧ Aside0 (Below w.heap.size w wc))
      case first => as_aux_lemma =>
       have H := HC15.out
       clear HC15
       replace H := Option.bind_eq_some_iff.mp H
       obtain ⟨t1066, A430, H⟩ := H
       replace H : (if t1066 = true then ((reedpiperef11_Same.f kj4 t1051 t1061).bind fun t1067 => (if t1067 = true then (if t1054 = t1064 then ((lap_Check.f y1039 a0_1 a0_2).bind fun t1068 => ((reedpiperef13_Check.f kj4 l0_0 a0_1 a0_2).bind fun t1069 => (if t1068 = t1069 then ((lap_New.f).bind fun bt1070 => ((reedpiperef13_New.f).bind fun bt1075 => ((reedpiperef13_Same.f kj4 bt1070.1 bt1070.2.1 bt1070.2.2 bt1075.1 bt1075.2.1 bt1075.2.2).bind fun t1080 => (reedpipelaw13_LapDoes.j1 kj4 l3 y1043 t1051 (!t1080) l0_0 a0_1 a0_2 y1039 a0_1 a0_2 t1046 t1049 t1050)))) else (reedpipelaw13_LapDoes.j1 kj4 l3 y1043 t1051 true l0_0 a0_1 a0_2 y1039 a0_1 a0_2 t1046 t1049 t1050)))) else (reedpipelaw13_LapDoes.j1 kj4 l3 y1043 t1051 true l0_0 a0_1 a0_2 y1039 a0_1 a0_2 t1046 t1049 t1050)) else (reedpipelaw13_LapDoes.j1 kj4 l3 y1043 t1051 true l0_0 a0_1 a0_2 y1039 a0_1 a0_2 t1046 t1049 t1050))) else (reedpipelaw13_LapDoes.j1 kj4 l3 y1043 t1051 true l0_0 a0_1 a0_2 y1039 a0_1 a0_2 t1046 t1049 t1050)) = some r := H
       have A43 := Aside0.mk A430
       clear A430
       by_cases c44 : t1066 = true
       ·subst c44
        have H1 : ((reedpiperef11_Same.f kj4 t1051 t1061).bind fun t1067 => (if t1067 = true then (if t1054 = t1064 then ((lap_Check.f y1039 a0_1 a0_2).bind fun t1068 => ((reedpiperef13_Check.f kj4 l0_0 a0_1 a0_2).bind fun t1069 => (if t1068 = t1069 then ((lap_New.f).bind fun bt1070 => ((reedpiperef13_New.f).bind fun bt1075 => ((reedpiperef13_Same.f kj4 bt1070.1 bt1070.2.1 bt1070.2.2 bt1075.1 bt1075.2.1 bt1075.2.2).bind fun t1080 => (reedpipelaw13_LapDoes.j1 kj4 l3 y1043 t1051 (!t1080) l0_0 a0_1 a0_2 y1039 a0_1 a0_2 t1046 t1049 t1050)))) else (reedpipelaw13_LapDoes.j1 kj4 l3 y1043 t1051 true l0_0 a0_1 a0_2 y1039 a0_1 a0_2 t1046 t1049 t1050)))) else (reedpipelaw13_LapDoes.j1 kj4 l3 y1043 t1051 true l0_0 a0_1 a0_2 y1039 a0_1 a0_2 t1046 t1049 t1050)) else (reedpipelaw13_LapDoes.j1 kj4 l3 y1043 t1051 true l0_0 a0_1 a0_2 y1039 a0_1 a0_2 t1046 t1049 t1050))) = some r := by rw [if_pos rfl] at H; exact H
        clear H
        have H := H1
        clear H1
        replace H := Option.bind_eq_some_iff.mp H
        obtain ⟨t1067, A450, H⟩ := H
        replace H : (if t1067 = true then (if t1054 = t1064 then ((lap_Check.f y1039 a0_1 a0_2).bind fun t1068 => ((reedpiperef13_Check.f kj4 l0_0 a0_1 a0_2).bind fun t1069 => (if t1068 = t1069 then ((lap_New.f).bind fun bt1070 => ((reedpiperef13_New.f).bind fun bt1075 => ((reedpiperef13_Same.f kj4 bt1070.1 bt1070.2.1 bt1070.2.2 bt1075.1 bt1075.2.1 bt1075.2.2).bind fun t1080 => (reedpipelaw13_LapDoes.j1 kj4 l3 y1043 t1051 (!t1080) l0_0 a0_1 a0_2 y1039 a0_1 a0_2 t1046 t1049 t1050)))) else (reedpipelaw13_LapDoes.j1 kj4 l3 y1043 t1051 true l0_0 a0_1 a0_2 y1039 a0_1 a0_2 t1046 t1049 t1050)))) else (reedpipelaw13_LapDoes.j1 kj4 l3 y1043 t1051 true l0_0 a0_1 a0_2 y1039 a0_1 a0_2 t1046 t1049 t1050)) else (reedpipelaw13_LapDoes.j1 kj4 l3 y1043 t1051 true l0_0 a0_1 a0_2 y1039 a0_1 a0_2 t1046 t1049 t1050)) = some r := H
        have A45 := Aside0.mk A450
        clear A450
        by_cases c46 : t1067 = true
        ·subst c46
         have H1 : (if t1054 = t1064 then ((lap_Check.f y1039 a0_1 a0_2).bind fun t1068 => ((reedpiperef13_Check.f kj4 l0_0 a0_1 a0_2).bind fun t1069 => (if t1068 = t1069 then ((lap_New.f).bind fun bt1070 => ((reedpiperef13_New.f).bind fun bt1075 => ((reedpiperef13_Same.f kj4 bt1070.1 bt1070.2.1 bt1070.2.2 bt1075.1 bt1075.2.1 bt1075.2.2).bind fun t1080 => (reedpipelaw13_LapDoes.j1 kj4 l3 y1043 t1051 (!t1080) l0_0 a0_1 a0_2 y1039 a0_1 a0_2 t1046 t1049 t1050)))) else (reedpipelaw13_LapDoes.j1 kj4 l3 y1043 t1051 true l0_0 a0_1 a0_2 y1039 a0_1 a0_2 t1046 t1049 t1050)))) else (reedpipelaw13_LapDoes.j1 kj4 l3 y1043 t1051 true l0_0 a0_1 a0_2 y1039 a0_1 a0_2 t1046 t1049 t1050)) = some r := by rw [if_pos rfl] at H; exact H
         clear H
         have H := H1
         clear H1
         by_cases c47 : t1054 = t1064
         ·rw [if_pos c47] at H
          have c47b0 : (t1054 == t1064) = true := beq_iff_eq.mpr c47
          have c47b1 : (t1054 != t1064) = false := bne_eq_false_iff_eq.mpr c47
          clear c47
          (first | rw [c47b0] | (simp only [i64_w, i32_w]; rw [c47b0]) | skip)
          replace H := Option.bind_eq_some_iff.mp H
          obtain ⟨t1068, A480, H⟩ := H
          replace H : ((reedpiperef13_Check.f kj4 l0_0 a0_1 a0_2).bind fun t1069 => (if t1068 = t1069 then ((lap_New.f).bind fun bt1070 => ((reedpiperef13_New.f).bind fun bt1075 => ((reedpiperef13_Same.f kj4 bt1070.1 bt1070.2.1 bt1070.2.2 bt1075.1 bt1075.2.1 bt1075.2.2).bind fun t1080 => (reedpipelaw13_LapDoes.j1 kj4 l3 y1043 t1051 (!t1080) l0_0 a0_1 a0_2 y1039 a0_1 a0_2 t1046 t1049 t1050)))) else (reedpipelaw13_LapDoes.j1 kj4 l3 y1043 t1051 true l0_0 a0_1 a0_2 y1039 a0_1 a0_2 t1046 t1049 t1050))) = some r := H
          have A48 := Aside0.mk A480
          clear A480
          replace H := Option.bind_eq_some_iff.mp H
          obtain ⟨t1069, A490, H⟩ := H
          replace H : (if t1068 = t1069 then ((lap_New.f).bind fun bt1070 => ((reedpiperef13_New.f).bind fun bt1075 => ((reedpiperef13_Same.f kj4 bt1070.1 bt1070.2.1 bt1070.2.2 bt1075.1 bt1075.2.1 bt1075.2.2).bind fun t1080 => (reedpipelaw13_LapDoes.j1 kj4 l3 y1043 t1051 (!t1080) l0_0 a0_1 a0_2 y1039 a0_1 a0_2 t1046 t1049 t1050)))) else (reedpipelaw13_LapDoes.j1 kj4 l3 y1043 t1051 true l0_0 a0_1 a0_2 y1039 a0_1 a0_2 t1046 t1049 t1050)) = some r := H
          have A49 := Aside0.mk A490
          clear A490
          by_cases c50 : t1068 = t1069
          ·rw [if_pos c50] at H
           have c50b0 : (t1068 == t1069) = true := beq_iff_eq.mpr c50
           have c50b1 : (t1068 != t1069) = false := bne_eq_false_iff_eq.mpr c50
           clear c50
           replace H := Option.bind_eq_some_iff.mp H
           obtain ⟨⟨t1070, t1073, t1074⟩, A510, H⟩ := H
           replace H : ((reedpiperef13_New.f).bind fun bt1075 => ((reedpiperef13_Same.f kj4 t1070 t1073 t1074 bt1075.1 bt1075.2.1 bt1075.2.2).bind fun t1080 => (reedpipelaw13_LapDoes.j1 kj4 l3 y1043 t1051 (!t1080) l0_0 a0_1 a0_2 y1039 a0_1 a0_2 t1046 t1049 t1050))) = some r := H
           have A51 := Aside0.mk A510
           clear A510
           replace H := Option.bind_eq_some_iff.mp H
           obtain ⟨⟨t1075, t1078, t1079⟩, A520, H⟩ := H
           replace H : ((reedpiperef13_Same.f kj4 t1070 t1073 t1074 t1075 t1078 t1079).bind fun t1080 => (reedpipelaw13_LapDoes.j1 kj4 l3 y1043 t1051 (!t1080) l0_0 a0_1 a0_2 y1039 a0_1 a0_2 t1046 t1049 t1050)) = some r := H
           have A52 := Aside0.mk A520
           clear A520
           replace H := Option.bind_eq_some_iff.mp H
           obtain ⟨t1080, A530, H⟩ := H
           replace H : (reedpipelaw13_LapDoes.j1 kj4 l3 y1043 t1051 (!t1080) l0_0 a0_1 a0_2 y1039 a0_1 a0_2 t1046 t1049 t1050) = some r := H
           have A53 := Aside0.mk A530
           clear A530
           have H' := Aside0.mk H
           clear H
           try go_wp2
           have n0_ : Aside0 (Kd.R (Kd.int .i64) 3 (((w37.setCell ⟨gb1065, 0, none⟩ (.slice Ao38 t1056.length co38)).setCell ⟨gb1065, 1, none⟩ (.int .u8 t1059)).setCell ⟨gb1065, 2, none⟩ (.int .u8 t1060)) w.heap.size (fun k_ => some k_ ≠ (.slice Ao28 y1043.length co28 : Value).ownBlock ∧ some k_ ≠ (.slice Ao31 t1046.length co31 : Value).ownBlock ∧ some k_ ≠ (v1052 : Value).ownBlock ∧ some k_ ≠ (.slice Ao38 t1056.length co38 : Value).ownBlock ∧ some k_ ≠ (v1062 : Value).ownBlock) (.slice Ao21 y1039.length co21) y1039) := ⟨by (with_reducible repeat (first | apply Kd.R_alloc | apply Kd.R_drewN | apply Kd.R_drew)); exact Kd.R_mono (Kd.R_far (p := ⟨gb1065, 2, none⟩) (Kd.R_far (p := ⟨gb1065, 1, none⟩) (Kd.R_far (p := ⟨gb1065, 0, none⟩) (Kd.R_types HO1041.out BK1065.out (by decide)) (fun _ hk => hk.2) (.slice Ao38 t1056.length co38)) (fun _ hk => hk.2) (.int .u8 t1059)) (fun _ hk => hk.2) (.int .u8 t1060)) (fun _ hk => ⟨hk.1.1.1.1.1.2, ⟨hk.1.1.1.1.2, ⟨hk.1.1.1.2, ⟨hk.1.1.2, hk.1.2⟩⟩⟩⟩)⟩
           have n1_ : Aside0 (Kd.R (Kd.int .i64) 3 (((w37.setCell ⟨gb1065, 0, none⟩ (.slice Ao38 t1056.length co38)).setCell ⟨gb1065, 1, none⟩ (.int .u8 t1059)).setCell ⟨gb1065, 2, none⟩ (.int .u8 t1060)) w.heap.size (fun k_ => some k_ ≠ (.slice Ao21 y1039.length co21 : Value).ownBlock ∧ some k_ ≠ (.slice Ao31 t1046.length co31 : Value).ownBlock ∧ some k_ ≠ (v1052 : Value).ownBlock ∧ some k_ ≠ (.slice Ao38 t1056.length co38 : Value).ownBlock ∧ some k_ ≠ (v1062 : Value).ownBlock) (.slice Ao28 y1043.length co28) y1043) := ⟨by (with_reducible repeat (first | apply Kd.R_alloc | apply Kd.R_drewN | apply Kd.R_drew)); exact Kd.R_mono (Kd.R_far (p := ⟨gb1065, 2, none⟩) (Kd.R_far (p := ⟨gb1065, 1, none⟩) (Kd.R_far (p := ⟨gb1065, 0, none⟩) (Kd.R_types HO1045.out BK1065.out (by decide)) (fun _ hk => hk.2) (.slice Ao38 t1056.length co38)) (fun _ hk => hk.2) (.int .u8 t1059)) (fun _ hk => hk.2) (.int .u8 t1060)) (fun _ hk => ⟨hk.1.1.1.1.1, ⟨hk.1.1.1.1.2, ⟨hk.1.1.1.2, ⟨hk.1.1.2, hk.1.2⟩⟩⟩⟩)⟩
           have n2_ : Aside0 (Kd.R (Kd.int .i64) 3 (((w37.setCell ⟨gb1065, 0, none⟩ (.slice Ao38 t1056.length co38)).setCell ⟨gb1065, 1, none⟩ (.int .u8 t1059)).setCell ⟨gb1065, 2, none⟩ (.int .u8 t1060)) w.heap.size (fun k_ => some k_ ≠ (.slice Ao21 y1039.length co21 : Value).ownBlock ∧ some k_ ≠ (.slice Ao28 y1043.length co28 : Value).ownBlock ∧ some k_ ≠ (v1052 : Value).ownBlock ∧ some k_ ≠ (.slice Ao38 t1056.length co38 : Value).ownBlock ∧ some k_ ≠ (v1062 : Value).ownBlock) (.slice Ao31 t1046.length co31) t1046) := ⟨by (with_reducible repeat (first | apply Kd.R_alloc | apply Kd.R_drewN | apply Kd.R_drew)); exact Kd.R_mono (Kd.R_far (p := ⟨gb1065, 2, none⟩) (Kd.R_far (p := ⟨gb1065, 1, none⟩) (Kd.R_far (p := ⟨gb1065, 0, none⟩) (Kd.R_types HO1048.out BK1065.out (by decide)) (fun _ hk => hk.2) (.slice Ao38 t1056.length co38)) (fun _ hk => hk.2) (.int .u8 t1059)) (fun _ hk => hk.2) (.int .u8 t1060)) (fun _ hk => ⟨hk.1.1.1.1.2, ⟨hk.1.1.1.2, ⟨hk.1.1.1.1.1, ⟨hk.1.1.2, hk.1.2⟩⟩⟩⟩)⟩
           have n3_ : Aside0 (Kd.R (Kd.int .i64) 3 (((w37.setCell ⟨gb1065, 0, none⟩ (.slice Ao38 t1056.length co38)).setCell ⟨gb1065, 1, none⟩ (.int .u8 t1059)).setCell ⟨gb1065, 2, none⟩ (.int .u8 t1060)) w.heap.size (fun k_ => some k_ ≠ (.slice Ao21 y1039.length co21 : Value).ownBlock ∧ some k_ ≠ (.slice Ao28 y1043.length co28 : Value).ownBlock ∧ some k_ ≠ (.slice Ao31 t1046.length co31 : Value).ownBlock ∧ some k_ ≠ (.slice Ao38 t1056.length co38 : Value).ownBlock ∧ some k_ ≠ (v1062 : Value).ownBlock) v1052 t1051) := ⟨by (with_reducible repeat (first | apply Kd.R_alloc | apply Kd.R_drewN | apply Kd.R_drew)); exact Kd.R_mono (Kd.R_far (p := ⟨gb1065, 2, none⟩) (Kd.R_far (p := ⟨gb1065, 1, none⟩) (Kd.R_far (p := ⟨gb1065, 0, none⟩) (Kd.R_types HO1053.out BK1065.out (by decide)) (fun _ hk => hk.2) (.slice Ao38 t1056.length co38)) (fun _ hk => hk.2) (.int .u8 t1059)) (fun _ hk => hk.2) (.int .u8 t1060)) (fun _ hk => ⟨hk.1.1.1.1.2, ⟨hk.1.1.1.2, ⟨hk.1.1.1.1.1, ⟨hk.1.1.2, hk.1.2⟩⟩⟩⟩)⟩
           have n4_ : Aside0 (Kd.R (Kd.int .i64) 3 (((w37.setCell ⟨gb1065, 0, none⟩ (.slice Ao38 t1056.length co38)).setCell ⟨gb1065, 1, none⟩ (.int .u8 t1059)).setCell ⟨gb1065, 2, none⟩ (.int .u8 t1060)) w.heap.size (fun k_ => some k_ ≠ (.slice Ao21 y1039.length co21 : Value).ownBlock ∧ some k_ ≠ (.slice Ao28 y1043.length co28 : Value).ownBlock ∧ some k_ ≠ (.slice Ao31 t1046.length co31 : Value).ownBlock ∧ some k_ ≠ (v1052 : Value).ownBlock ∧ some k_ ≠ (v1062 : Value).ownBlock) (.slice Ao38 t1056.length co38) t1056) := ⟨by (with_reducible repeat (first | apply Kd.R_alloc | apply Kd.R_drewN | apply Kd.R_drew)); exact Kd.R_mono (Kd.R_far (p := ⟨gb1065, 2, none⟩) (Kd.R_far (p := ⟨gb1065, 1, none⟩) (Kd.R_far (p := ⟨gb1065, 0, none⟩) (Kd.R_types HO1058.out BK1065.out (by decide)) (fun _ hk => hk.2) (.slice Ao38 t1056.length co38)) (fun _ hk => hk.2) (.int .u8 t1059)) (fun _ hk => hk.2) (.int .u8 t1060)) (fun _ hk => ⟨hk.1.1.1.1.2, ⟨hk.1.1.1.2, ⟨hk.1.1.2, ⟨hk.1.2, hk.1.1.1.1.1⟩⟩⟩⟩)⟩
           have n5_ : Aside0 (Kd.R (Kd.int .i64) 3 (((w37.setCell ⟨gb1065, 0, none⟩ (.slice Ao38 t1056.length co38)).setCell ⟨gb1065, 1, none⟩ (.int .u8 t1059)).setCell ⟨gb1065, 2, none⟩ (.int .u8 t1060)) w.heap.size (fun k_ => some k_ ≠ (.slice Ao21 y1039.length co21 : Value).ownBlock ∧ some k_ ≠ (.slice Ao28 y1043.length co28 : Value).ownBlock ∧ some k_ ≠ (.slice Ao31 t1046.length co31 : Value).ownBlock ∧ some k_ ≠ (v1052 : Value).ownBlock ∧ some k_ ≠ (.slice Ao38 t1056.length co38 : Value).ownBlock) v1062 t1061) := ⟨by (with_reducible repeat (first | apply Kd.R_alloc | apply Kd.R_drewN | apply Kd.R_drew)); exact Kd.R_mono (Kd.R_far (p := ⟨gb1065, 2, none⟩) (Kd.R_far (p := ⟨gb1065, 1, none⟩) (Kd.R_far (p := ⟨gb1065, 0, none⟩) (Kd.R_types HO1063.out BK1065.out (by decide)) (fun _ hk => hk.2) (.slice Ao38 t1056.length co38)) (fun _ hk => hk.2) (.int .u8 t1059)) (fun _ hk => hk.2) (.int .u8 t1060)) (fun _ hk => ⟨hk.1.1.1.1.2, ⟨hk.1.1.1.2, ⟨hk.1.1.2, ⟨hk.1.2, hk.1.1.1.1.1⟩⟩⟩⟩)⟩
           have n6_ : Aside0 ((((w37.setCell ⟨gb1065, 0, none⟩ (.slice Ao38 t1056.length co38)).setCell ⟨gb1065, 1, none⟩ (.int .u8 t1059)).setCell ⟨gb1065, 2, none⟩ (.int .u8 t1060)).heap[gb1038]? = some (.cells #[.slice A0_0 l0_0.length c0_0, .int .u8 a0_1, .int .u8 a0_2] 31 (0, 0))) := ⟨by (with_reducible repeat (first | refine blk_drewN ?_ _ | refine blk_drew ?_ | refine blk_alloc ?_ _)); refine blk_far ?_ NB1038_1065.out _; (with_reducible repeat (first | refine blk_drewN ?_ _ | refine blk_drew ?_ | refine blk_alloc ?_ _)); refine blk_far ?_ NB1038_1065.out _; (with_reducible repeat (first | refine blk_drewN ?_ _ | refine blk_drew ?_ | refine blk_alloc ?_ _)); refine blk_far ?_ NB1038_1065.out _; (with_reducible repeat (first | refine blk_drewN ?_ _ | refine blk_drew ?_ | refine blk_alloc ?_ _)); exact BK1038.out⟩
           have n7_ : Aside0 ((((w37.setCell ⟨gb1065, 0, none⟩ (.slice Ao38 t1056.length co38)).setCell ⟨gb1065, 1, none⟩ (.int .u8 t1059)).setCell ⟨gb1065, 2, none⟩ (.int .u8 t1060)).heap[gb1042]? = some (.cells #[.slice Ao21 y1039.length co21, .int .u8 a0_1, .int .u8 a0_2] 31 (0, 0))) := ⟨by (with_reducible repeat (first | refine blk_drewN ?_ _ | refine blk_drew ?_ | refine blk_alloc ?_ _)); refine blk_far ?_ NB1042_1065.out _; (with_reducible repeat (first | refine blk_drewN ?_ _ | refine blk_drew ?_ | refine blk_alloc ?_ _)); refine blk_far ?_ NB1042_1065.out _; (with_reducible repeat (first | refine blk_drewN ?_ _ | refine blk_drew ?_ | refine blk_alloc ?_ _)); refine blk_far ?_ NB1042_1065.out _; (with_reducible repeat (first | refine blk_drewN ?_ _ | refine blk_drew ?_ | refine blk_alloc ?_ _)); exact BK1042.out⟩
           have n8_ : Aside0 ((((w37.setCell ⟨gb1065, 0, none⟩ (.slice Ao38 t1056.length co38)).setCell ⟨gb1065, 1, none⟩ (.int .u8 t1059)).setCell ⟨gb1065, 2, none⟩ (.int .u8 t1060)).heap[gb1055]? = some (.cells #[.slice Ao31 t1046.length co31, .int .u8 t1049, .int .u8 t1050] 31 (0, 0))) := ⟨by (with_reducible repeat (first | refine blk_drewN ?_ _ | refine blk_drew ?_ | refine blk_alloc ?_ _)); refine blk_far ?_ NB1055_1065.out _; (with_reducible repeat (first | refine blk_drewN ?_ _ | refine blk_drew ?_ | refine blk_alloc ?_ _)); refine blk_far ?_ NB1055_1065.out _; (with_reducible repeat (first | refine blk_drewN ?_ _ | refine blk_drew ?_ | refine blk_alloc ?_ _)); refine blk_far ?_ NB1055_1065.out _; (with_reducible repeat (first | refine blk_drewN ?_ _ | refine blk_drew ?_ | refine blk_alloc ?_ _)); exact BK1055.out⟩
           have n9_ : Aside0 ((((w37.setCell ⟨gb1065, 0, none⟩ (.slice Ao38 t1056.length co38)).setCell ⟨gb1065, 1, none⟩ (.int .u8 t1059)).setCell ⟨gb1065, 2, none⟩ (.int .u8 t1060)).heap[gb1065]? = some (.cells #[.slice Ao38 t1056.length co38, .int .u8 t1059, .int .u8 t1060] 31 (0, 0))) := ⟨by (with_reducible repeat (first | refine blk_drewN ?_ _ | refine blk_drew ?_ | refine blk_alloc ?_ _)); refine blk_put (cs := #[.slice Ao38 t1056.length co38, .int .u8 t1059, .int .u8 0]) ?_ 2 _ rfl; (with_reducible repeat (first | refine blk_drewN ?_ _ | refine blk_drew ?_ | refine blk_alloc ?_ _)); refine blk_put (cs := #[.slice Ao38 t1056.length co38, .int .u8 0, .int .u8 0]) ?_ 1 _ rfl; (with_reducible repeat (first | refine blk_drewN ?_ _ | refine blk_drew ?_ | refine blk_alloc ?_ _)); refine blk_put (cs := #[.slice none 0 0, .int .u8 0, .int .u8 0]) ?_ 0 _ rfl; (with_reducible repeat (first | refine blk_drewN ?_ _ | refine blk_drew ?_ | refine blk_alloc ?_ _)); exact BK1065.out⟩
           have n10_ : Aside0 (Below w.heap.size w (((w37.setCell ⟨gb1065, 0, none⟩ (.slice Ao38 t1056.length co38)).setCell ⟨gb1065, 1, none⟩ (.int .u8 t1059)).setCell ⟨gb1065, 2, none⟩ (.int .u8 t1060))) := ⟨by repeat (first | (with_reducible first | exact HB.out | apply below_alloc | apply pw_below_drewN | apply below_drew1 | refine below_set ?_ GE1038.out | refine below_set ?_ GE1042.out | refine below_set ?_ GE1055.out | refine below_set ?_ GE1065.out) | exact HB.out)⟩
           (try clear HO1041)
           (try clear HO1045)
           (try clear HO1048)
           (try clear HO1053)
           (try clear HO1058)
           (try clear HO1063)
           (try clear BK1038)
           (try clear BK1042)
           (try clear BK1055)
           (try clear BK1065)
           (try clear HB)
           generalize (((w37.setCell ⟨gb1065, 0, none⟩ (.slice Ao38 t1056.length co38)).setCell ⟨gb1065, 1, none⟩ (.int .u8 t1059)).setCell ⟨gb1065, 2, none⟩ (.int .u8 t1060)) = w54 at n0_ n1_ n2_ n3_ n4_ n5_ n6_ n7_ n8_ n9_ n10_ ⊢
           have HO1041 := n0_
           have HO1045 := n1_
           have HO1048 := n2_
           have HO1053 := n3_
           have HO1058 := n4_
           have HO1063 := n5_
           have BK1038 := n6_
           have BK1042 := n7_
           have BK1055 := n8_
           have BK1065 := n9_
           have HB := n10_
           clear n0_ n1_ n2_ n3_ n4_ n5_ n6_ n7_ n8_ n9_ n10_
           have n0_ := Aside0.mk (Kd.R_drew HO1041.out)
           have n1_ := Aside0.mk (Kd.R_drew HO1045.out)
           have n2_ := Aside0.mk (Kd.R_drew HO1048.out)
           have n3_ := Aside0.mk (Kd.R_drew HO1053.out)
           have n4_ := Aside0.mk (Kd.R_drew HO1058.out)
           have n5_ := Aside0.mk (Kd.R_drew HO1063.out)
           have n6_ := Aside0.mk (blk_drew BK1038.out)
           have n7_ := Aside0.mk (blk_drew BK1042.out)
           have n8_ := Aside0.mk (blk_drew BK1055.out)
           have n9_ := Aside0.mk (blk_drew BK1065.out)
           have n10_ := Aside0.mk (below_drew1 HB.out)
           clear HO1041
           clear HO1045
           clear HO1048
           clear HO1053
           clear HO1058
           clear HO1063
           clear BK1038
           clear BK1042
           clear BK1055
           clear BK1065
           clear HB
           have HO1041 := n0_
           have HO1045 := n1_
           have HO1048 := n2_
           have HO1053 := n3_
           have HO1058 := n4_
           have HO1063 := n5_
           have BK1038 := n6_
           have BK1042 := n7_
           have BK1055 := n8_
           have BK1065 := n9_
           have HB := n10_
           clear n0_ n1_ n2_ n3_ n4_ n5_ n6_ n7_ n8_ n9_ n10_
           refine start_ (n := 28) (S := fun w' => w'.cell? ⟨gb1055, 0, none⟩ = some (.slice Ao31 t1046.length co31) ∧ w'.cell? ⟨gb1055, 1, none⟩ = some (.int .u8 t1049) ∧ w'.cell? ⟨gb1055, 2, none⟩ = some (.int .u8 t1050) ∧ w'.cell? ⟨gb1065, 0, none⟩ = some (.slice Ao38 t1056.length co38) ∧ w'.cell? ⟨gb1065, 1, none⟩ = some (.int .u8 t1059) ∧ w'.cell? ⟨gb1065, 2, none⟩ = some (.int .u8 t1060) ∧ w'.cell? ⟨gb1042, 0, none⟩ = some (.slice Ao21 y1039.length co21) ∧ w'.cell? ⟨gb1042, 1, none⟩ = some (.int .u8 a0_1) ∧ w'.cell? ⟨gb1042, 2, none⟩ = some (.int .u8 a0_2) ∧ w'.cell? ⟨gb1038, 0, none⟩ = some (.slice A0_0 l0_0.length c0_0) ∧ w'.cell? ⟨gb1038, 1, none⟩ = some (.int .u8 a0_1) ∧ w'.cell? ⟨gb1038, 2, none⟩ = some (.int .u8 a0_2)) (ds := []) #[false, false, false, false, false, false, false, false, false, false, false, false, false, false, false, false, false, false, false, false, false, false, false, false, false, false, false, false] (by kernel_rfl) rfl rfl ⟨(blk_cell BK1055.out 0).trans rfl, (blk_cell BK1055.out 1).trans rfl, (blk_cell BK1055.out 2).trans rfl, (blk_cell BK1065.out 0).trans rfl, (blk_cell BK1065.out 1).trans rfl, (blk_cell BK1065.out 2).trans rfl, (blk_cell BK1042.out 0).trans rfl, (blk_cell BK1042.out 1).trans rfl, (blk_cell BK1042.out 2).trans rfl, (blk_cell BK1038.out 0).trans rfl, (blk_cell BK1038.out 1).trans rfl, (blk_cell BK1038.out 2).trans rfl⟩ (fun hHeld => ?_); refine with_tabW reedpipelaw13_LapDoes.tab7 reedpipelaw13_LapDoes.bits7 (fun HT_ HW_ => ?_)
           generalize w54.drew = w55 at HO1041 HO1045 HO1048 HO1053 HO1058 HO1063 BK1038 BK1042 BK1055 BK1065 HB hHeld ⊢
           refine take_ (i := 0) (N := some 56) (v := ?_) (a' := ?_) #[true, false, false, false, false, false, false, false, false, false, false, false, false, false, false, false, false, false, false, false, false, false, false, false, false, false, false, false] rfl rfl (take_ofW HT_.out HW_.out (by kernel_rfl)) (fun _ _ _ h => h) (Or.inl ⟨by rfl, ?_⟩) hHeld ?_ ?_
           rotate_left
           ·rintro w' ⟨s0, s1, s2, s3, s4, s5, s6, s7, s8, s9, s10, s11⟩
            go_simp
            with_reducible rfl
           rotate_left
           ·simp only [Act.put, List.setIfInBounds_toArray, List.set_cons_zero, List.set_cons_succ, i64_w, i32_w]
            rfl
           refine take_ (i := 1) (N := some 57) (v := ?_) (a' := ?_) #[true, true, false, false, false, false, false, false, false, false, false, false, false, false, false, false, false, false, false, false, false, false, false, false, false, false, false, false] rfl rfl (take_ofW HT_.out HW_.out (by kernel_rfl)) (fun _ _ _ h => h) (Or.inl ⟨by rfl, ?_⟩) hHeld ?_ ?_
           rotate_left
           ·rintro w' ⟨s0, s1, s2, s3, s4, s5, s6, s7, s8, s9, s10, s11⟩
            go_simp
            with_reducible rfl
           rotate_left
           ·simp only [Act.put, List.setIfInBounds_toArray, List.set_cons_zero, List.set_cons_succ, i64_w, i32_w]
            rfl
           refine one_ (i := 2) (N := some 58) #[true, true, true, false, false, false, false, false, false, false, false, false, false, false, false, false, false, false, false, false, false, false, false, false, false, false, false, false] rfl rfl (one_of HT_.out (by kernel_rfl)) (by decide) (fun K hK => ?_)
           refine goes_ Try.func59 (by kernel_rfl) rfl #[.agg #[.slice Ao31 t1046.length co31, .int .u8 t1049, .int .u8 t1050], .agg #[.slice Ao38 t1056.length co38, .int .u8 t1059, .int .u8 t1060]] (by rfl) rfl rfl (by (try simp only [List.map_toArray, List.map_cons, List.map_nil]); first | done | rfl | (simp only [List.length_drop, List.length_take]; rfl)) ?_
           with_reducible refine (reedpiperef13_Same.calls kj4 _ _ t1046 t1049 t1050 _ _ t1056 t1059 t1060 true _ ?side1 ?side2 ?side3 ?side4 A43.out).mono ?_
           (case side1 => repeat (first | exact (Kd.R_reads' HO1048.out).2.2 | (with_reducible refine Kd.C_alloc ?_ _) | (with_reducible refine Kd.C_drewN ?_ _) | (with_reducible refine Kd.C_drew ?_)))
           (case side2 => exact (Kd.R_reads' HO1048.out).2.1)
           (case side3 => repeat (first | exact (Kd.R_reads' HO1058.out).2.2 | (with_reducible refine Kd.C_alloc ?_ _) | (with_reducible refine Kd.C_drewN ?_ _) | (with_reducible refine Kd.C_drew ?_)))
           (case side4 => exact (Kd.R_reads' HO1058.out).2.1)
           rintro e w56 ⟨rfl, hb⟩
           refine ⟨_, rfl, ?_⟩
           have n0_ := Aside0.mk (Kd.R_below (by (with_reducible repeat (first | apply Kd.R_alloc | apply Kd.R_drewN | apply Kd.R_drew)); exact HO1041.out) hb)
           have n1_ := Aside0.mk (Kd.R_below (by (with_reducible repeat (first | apply Kd.R_alloc | apply Kd.R_drewN | apply Kd.R_drew)); exact HO1045.out) hb)
           have n2_ := Aside0.mk (Kd.R_below (by (with_reducible repeat (first | apply Kd.R_alloc | apply Kd.R_drewN | apply Kd.R_drew)); exact HO1048.out) hb)
           have n3_ := Aside0.mk (Kd.R_below (by (with_reducible repeat (first | apply Kd.R_alloc | apply Kd.R_drewN | apply Kd.R_drew)); exact HO1053.out) hb)
           have n4_ := Aside0.mk (Kd.R_below (by (with_reducible repeat (first | apply Kd.R_alloc | apply Kd.R_drewN | apply Kd.R_drew)); exact HO1058.out) hb)
           have n5_ := Aside0.mk (Kd.R_below (by (with_reducible repeat (first | apply Kd.R_alloc | apply Kd.R_drewN | apply Kd.R_drew)); exact HO1063.out) hb)
           have n6_ := Aside0.mk (blk_below (g := gb1038) (o := .cells #[.slice A0_0 l0_0.length c0_0, .int .u8 a0_1, .int .u8 a0_2] 31 (0, 0)) (by (with_reducible repeat (first | refine blk_drewN ?_ _ | refine blk_drew ?_ | refine blk_alloc ?_ _)); exact BK1038.out) hb)
           have n7_ := Aside0.mk (blk_below (g := gb1042) (o := .cells #[.slice Ao21 y1039.length co21, .int .u8 a0_1, .int .u8 a0_2] 31 (0, 0)) (by (with_reducible repeat (first | refine blk_drewN ?_ _ | refine blk_drew ?_ | refine blk_alloc ?_ _)); exact BK1042.out) hb)
           have n8_ := Aside0.mk (blk_below (g := gb1055) (o := .cells #[.slice Ao31 t1046.length co31, .int .u8 t1049, .int .u8 t1050] 31 (0, 0)) (by (with_reducible repeat (first | refine blk_drewN ?_ _ | refine blk_drew ?_ | refine blk_alloc ?_ _)); exact BK1055.out) hb)
           have n9_ := Aside0.mk (blk_below (g := gb1065) (o := .cells #[.slice Ao38 t1056.length co38, .int .u8 t1059, .int .u8 t1060] 31 (0, 0)) (by (with_reducible repeat (first | refine blk_drewN ?_ _ | refine blk_drew ?_ | refine blk_alloc ?_ _)); exact BK1065.out) hb)
           have n10_ := Aside0.mk (below_step (by repeat (first | (with_reducible first | exact HB.out | apply below_alloc | apply pw_below_drewN | apply below_drew1 | refine below_set ?_ GE1038.out | refine below_set ?_ GE1042.out | refine below_set ?_ GE1055.out | refine below_set ?_ GE1065.out) | exact HB.out)) hb)
           clear HO1041
           clear HO1045
           clear HO1048
           clear HO1053
           clear HO1058
           clear HO1063
           clear BK1038
           clear BK1042
           clear BK1055
           clear BK1065
           clear HB
           have HO1041 := n0_
           have HO1045 := n1_
           have HO1048 := n2_
           have HO1053 := n3_
           have HO1058 := n4_
           have HO1063 := n5_
           have BK1038 := n6_
           have BK1042 := n7_
           have BK1055 := n8_
           have BK1065 := n9_
           have HB := n10_
           clear n0_ n1_ n2_ n3_ n4_ n5_ n6_ n7_ n8_ n9_ n10_
           (try clear hb)
           (try clear hb2)
           (try clear hk)
           (try clear hi)
           obtain ⟨Ao57, co57, eo57⟩ := Kd.R_slice HO1053.out
           (first | subst eo57 | (injection eo57 with f1_ f2_ f3_; have f4_ := f1_.symm; have f5_ := f3_.symm; clear f1_ f2_ f3_; subst f4_; subst f5_))
           obtain ⟨Ao58, co58, eo58⟩ := Kd.R_slice HO1063.out
           (first | subst eo58 | (injection eo58 with f1_ f2_ f3_; have f4_ := f1_.symm; have f5_ := f3_.symm; clear f1_ f2_ f3_; subst f4_; subst f5_))
           refine hK.out _ _ ⟨(blk_cell BK1055.out 0).trans rfl, (blk_cell BK1055.out 1).trans rfl, (blk_cell BK1055.out 2).trans rfl, (blk_cell BK1065.out 0).trans rfl, (blk_cell BK1065.out 1).trans rfl, (blk_cell BK1065.out 2).trans rfl, (blk_cell BK1042.out 0).trans rfl, (blk_cell BK1042.out 1).trans rfl, (blk_cell BK1042.out 2).trans rfl, (blk_cell BK1038.out 0).trans rfl, (blk_cell BK1038.out 1).trans rfl, (blk_cell BK1038.out 2).trans rfl⟩ (fun hHeld => ?_)
           clear hK K
           refine norm_ (a' := ?_) ?_ ?_
           rotate_left
           ·show Act.put _ (some 58) _ = _
            simp only [Act.put, List.setIfInBounds_toArray, List.set_cons_zero, List.set_cons_succ, i64_w, i32_w]
            rfl
           refine pure_ (i := 3) (N := some 59) (v := ?_) (a' := ?_) #[true, true, true, true, false, false, false, false, false, false, false, false, false, false, false, false, false, false, false, false, false, false, false, false, false, false, false, false] rfl rfl (any_of HT_.out (by kernel_rfl)) (fun _ _ _ h => h) (Or.inl ⟨by rfl, ?_⟩) ?_ ?_
           rotate_left
           ·intro w'
            go_simp
            with_reducible rfl
           rotate_left
           ·simp only [Act.put, List.setIfInBounds_toArray, List.set_cons_zero, List.set_cons_succ, i64_w, i32_w]
            rfl
           refine pure_ (i := 4) (N := some 60) (v := ?_) (a' := ?_) #[true, true, true, true, true, false, false, false, false, false, false, false, false, false, false, false, false, false, false, false, false, false, false, false, false, false, false, false] rfl rfl (any_of HT_.out (by kernel_rfl)) (fun _ _ _ h => h) (Or.inl ⟨by rfl, ?_⟩) ?_ ?_
           rotate_left
           ·intro w'
            go_simp
            with_reducible rfl
           rotate_left
           ·simp only [Act.put, List.setIfInBounds_toArray, List.set_cons_zero, List.set_cons_succ, i64_w, i32_w]
            rfl
           refine pure_ (i := 5) (N := some 61) (v := ?_) (a' := ?_) #[true, true, true, true, true, true, false, false, false, false, false, false, false, false, false, false, false, false, false, false, false, false, false, false, false, false, false, false] rfl rfl (any_of HT_.out (by kernel_rfl)) (fun _ _ _ h => h) (Or.inl ⟨by rfl, ?_⟩) ?_ ?_
           rotate_left
           ·intro w'
            go_simp
            with_reducible rfl
           rotate_left
           ·simp only [Act.put, List.setIfInBounds_toArray, List.set_cons_zero, List.set_cons_succ, i64_w, i32_w]
            rfl
           refine pure_ (i := 6) (N := some 62) (v := ?_) (a' := ?_) #[true, true, true, true, true, true, true, false, false, false, false, false, false, false, false, false, false, false, false, false, false, false, false, false, false, false, false, false] rfl rfl (any_of HT_.out (by kernel_rfl)) (fun _ _ _ h => h) (Or.inl ⟨by rfl, ?_⟩) ?_ ?_
           rotate_left
           ·intro w'
            go_simp
            with_reducible rfl
           rotate_left
           ·simp only [Act.put, List.setIfInBounds_toArray, List.set_cons_zero, List.set_cons_succ, i64_w, i32_w]
            rfl
           refine one_ (i := 7) (N := some 63) #[true, true, true, true, true, true, true, true, false, false, false, false, false, false, false, false, false, false, false, false, false, false, false, false, false, false, false, false] rfl rfl (one_of HT_.out (by kernel_rfl)) (by decide) (fun K hK => ?_)
           refine goes_ Try.func50 (by kernel_rfl) rfl #[.slice Ao57 t1051.length co57, .slice Ao58 t1061.length co58] (by rfl) rfl rfl (by (try simp only [List.map_toArray, List.map_cons, List.map_nil]); first | done | rfl | (simp only [List.length_drop, List.length_take]; rfl)) ?_
           with_reducible refine (reedpiperef11_Same.calls kj4 _ _ t1051 _ _ t1061 true _ ?side1 ?side2 ?side3 ?side4 A45.out).mono ?_
           (case side1 => repeat (first | exact (Kd.R_reads' HO1053.out).2.2 | (with_reducible refine Kd.C_alloc ?_ _) | (with_reducible refine Kd.C_drewN ?_ _) | (with_reducible refine Kd.C_drew ?_)))
           (case side2 => exact (Kd.R_reads' HO1053.out).2.1)
           (case side3 => repeat (first | exact (Kd.R_reads' HO1063.out).2.2 | (with_reducible refine Kd.C_alloc ?_ _) | (with_reducible refine Kd.C_drewN ?_ _) | (with_reducible refine Kd.C_drew ?_)))
           (case side4 => exact (Kd.R_reads' HO1063.out).2.1)
           rintro e w' ⟨rfl, ⟨nd, rfl⟩⟩
           refine ⟨_, rfl, ?_⟩
           refine hK.out _ _ ⟨(blk_cell BK1055.out 0).trans rfl, (blk_cell BK1055.out 1).trans rfl, (blk_cell BK1055.out 2).trans rfl, (blk_cell BK1065.out 0).trans rfl, (blk_cell BK1065.out 1).trans rfl, (blk_cell BK1065.out 2).trans rfl, (blk_cell BK1042.out 0).trans rfl, (blk_cell BK1042.out 1).trans rfl, (blk_cell BK1042.out 2).trans rfl, (blk_cell BK1038.out 0).trans rfl, (blk_cell BK1038.out 1).trans rfl, (blk_cell BK1038.out 2).trans rfl⟩ (fun hHeld => ?_)
           clear hK K
           refine norm_ (a' := ?_) ?_ ?_
           rotate_left
           ·show Act.put _ (some 63) _ = _
            simp only [Act.put, List.setIfInBounds_toArray, List.set_cons_zero, List.set_cons_succ, i64_w, i32_w]
            rfl
           refine pure_ (i := 8) (N := some 64) (v := ?_) (a' := ?_) #[true, true, true, true, true, true, true, true, true, false, false, false, false, false, false, false, false, false, false, false, false, false, false, false, false, false, false, false] rfl rfl (any_of HT_.out (by kernel_rfl)) (fun _ _ _ h => h) (Or.inl ⟨by rfl, ?_⟩) ?_ ?_
           rotate_left
           ·intro w'
            go_simp
            with_reducible rfl
           rotate_left
           ·simp only [Act.put, List.setIfInBounds_toArray, List.set_cons_zero, List.set_cons_succ, i64_w, i32_w]
            rfl
           refine pure_ (i := 9) (N := some 65) (v := ?_) (a' := ?_) #[true, true, true, true, true, true, true, true, true, true, false, false, false, false, false, false, false, false, false, false, false, false, false, false, false, false, false, false] rfl rfl (any_of HT_.out (by kernel_rfl)) (fun _ _ _ h => h) (Or.inl ⟨by rfl, ?_⟩) ?_ ?_
           rotate_left
           ·intro w'
            go_simp
            with_reducible rfl
           rotate_left
           ·simp only [Act.put, List.setIfInBounds_toArray, List.set_cons_zero, List.set_cons_succ, i64_w, i32_w]
            rfl
           refine pure_ (i := 10) (N := some 66) (v := ?_) (a' := ?_) #[true, true, true, true, true, true, true, true, true, true, true, false, false, false, false, false, false, false, false, false, false, false, false, false, false, false, false, false] rfl rfl (any_of HT_.out (by kernel_rfl)) (fun _ _ _ h => h) (Or.inl ⟨by rfl, ?_⟩) ?_ ?_
           rotate_left
           ·intro w'
            go_simp
            with_reducible rfl
           rotate_left
           ·simp only [Act.put, List.setIfInBounds_toArray, List.set_cons_zero, List.set_cons_succ, i64_w, i32_w]
            rfl
           refine pure_ (i := 11) (N := some 67) (v := ?_) (a' := ?_) #[true, true, true, true, true, true, true, true, true, true, true, true, false, false, false, false, false, false, false, false, false, false, false, false, false, false, false, false] rfl rfl (any_of HT_.out (by kernel_rfl)) (fun _ _ _ h => h) (Or.inl ⟨by rfl, ?_⟩) ?_ ?_
           rotate_left
           ·intro w'
            go_simp
            with_reducible rfl
           rotate_left
           ·simp only [Act.put, List.setIfInBounds_toArray, List.set_cons_zero, List.set_cons_succ, i64_w, i32_w]
            rfl
           refine pure_ (i := 12) (N := some 68) (v := ?_) (a' := ?_) #[true, true, true, true, true, true, true, true, true, true, true, true, true, false, false, false, false, false, false, false, false, false, false, false, false, false, false, false] rfl rfl (any_of HT_.out (by kernel_rfl)) (fun _ _ _ h => h) (Or.inl ⟨by rfl, ?_⟩) ?_ ?_
           rotate_left
           ·intro w'
            go_simp
            with_reducible rfl
           rotate_left
           ·simp only [Act.put, List.setIfInBounds_toArray, List.set_cons_zero, List.set_cons_succ, i64_w, i32_w]
            rfl
           refine pure_ (i := 13) (N := some 69) (v := ?_) (a' := ?_) #[true, true, true, true, true, true, true, true, true, true, true, true, true, true, false, false, false, false, false, false, false, false, false, false, false, false, false, false] rfl rfl (any_of HT_.out (by kernel_rfl)) (fun _ _ _ h => h) (Or.inl ⟨by rfl, ?_⟩) ?_ ?_
           rotate_left
           ·intro w'
            go_simp
            with_reducible rfl
           rotate_left
           ·simp only [Act.put, List.setIfInBounds_toArray, List.set_cons_zero, List.set_cons_succ, i64_w, i32_w]
            rfl
           refine pure_ (i := 14) (N := some 70) (v := ?_) (a' := ?_) #[true, true, true, true, true, true, true, true, true, true, true, true, true, true, true, false, false, false, false, false, false, false, false, false, false, false, false, false] rfl rfl (any_of HT_.out (by kernel_rfl)) (fun _ _ _ h => h) (Or.inl ⟨by rfl, ?_⟩) ?_ ?_
           rotate_left
           ·intro w'
            go_simp
            with_reducible rfl
           rotate_left
           ·simp only [Act.put, List.setIfInBounds_toArray, List.set_cons_zero, List.set_cons_succ, i64_w, i32_w]
            rfl
           refine pure_ (i := 15) (N := some 71) (v := ?_) (a' := ?_) #[true, true, true, true, true, true, true, true, true, true, true, true, true, true, true, true, false, false, false, false, false, false, false, false, false, false, false, false] rfl rfl (any_of HT_.out (by kernel_rfl)) (fun _ _ _ h => h) (Or.inl ⟨by rfl, ?_⟩) ?_ ?_
           rotate_left
           ·intro w'
            go_simp
            with_reducible rfl
           rotate_left
           ·simp only [Act.put, List.setIfInBounds_toArray, List.set_cons_zero, List.set_cons_succ, i64_w, i32_w]
            rfl
           refine take_ (i := 16) (N := some 72) (v := ?_) (a' := ?_) #[true, true, true, true, true, true, true, true, true, true, true, true, true, true, true, true, true, false, false, false, false, false, false, false, false, false, false, false] rfl rfl (take_ofW HT_.out HW_.out (by kernel_rfl)) (fun _ _ _ h => h) (Or.inl ⟨by rfl, ?_⟩) hHeld ?_ ?_
           rotate_left
           ·rintro w' ⟨s0, s1, s2, s3, s4, s5, s6, s7, s8, s9, s10, s11⟩
            go_simp
            with_reducible rfl
           rotate_left
           ·simp only [Act.put, List.setIfInBounds_toArray, List.set_cons_zero, List.set_cons_succ, i64_w, i32_w]
            rfl
           refine take_ (i := 18) (N := some 74) (v := ?_) (a' := ?_) #[true, true, true, true, true, true, true, true, true, true, true, true, true, true, true, true, true, false, true, false, false, false, false, false, false, false, false, false] rfl rfl (take_ofW HT_.out HW_.out (by kernel_rfl)) (fun _ _ _ h => h) (Or.inl ⟨by rfl, ?_⟩) hHeld ?_ ?_
           rotate_left
           ·rintro w' ⟨s0, s1, s2, s3, s4, s5, s6, s7, s8, s9, s10, s11⟩
            go_simp
            with_reducible rfl
           rotate_left
           ·simp only [Act.put, List.setIfInBounds_toArray, List.set_cons_zero, List.set_cons_succ, i64_w, i32_w]
            rfl
           refine one_ (i := 17) (N := some 73) #[true, true, true, true, true, true, true, true, true, true, true, true, true, true, true, true, true, true, true, false, false, false, false, false, false, false, false, false] rfl rfl (one_of HT_.out (by kernel_rfl)) (by decide) (fun K hK => ?_)
           refine goes_ Try.func43 (by kernel_rfl) rfl #[.agg #[.slice Ao21 y1039.length co21, .int .u8 a0_1, .int .u8 a0_2]] (by rfl) rfl rfl (by (try simp only [List.map_toArray, List.map_cons, List.map_nil]); first | done | rfl | (simp only [List.length_drop, List.length_take]; rfl)) ?_
           with_reducible refine (lap_Check.calls _ _ y1039 a0_1 a0_2 t1068 _ ?side1 ?side2 A48.out).mono ?_
           (case side1 => repeat (first | exact (Kd.R_reads' HO1041.out).2.2 | (with_reducible refine Kd.C_alloc ?_ _) | (with_reducible refine Kd.C_drewN ?_ _) | (with_reducible refine Kd.C_drew ?_)))
           (case side2 => exact (Kd.R_reads' HO1041.out).2.1)
           rintro e w59 ⟨rfl, hb⟩
           refine ⟨_, rfl, ?_⟩
           have n0_ := Aside0.mk (Kd.R_below (by (with_reducible repeat (first | apply Kd.R_alloc | apply Kd.R_drewN | apply Kd.R_drew)); exact HO1041.out) hb)
           have n1_ := Aside0.mk (Kd.R_below (by (with_reducible repeat (first | apply Kd.R_alloc | apply Kd.R_drewN | apply Kd.R_drew)); exact HO1045.out) hb)
           have n2_ := Aside0.mk (Kd.R_below (by (with_reducible repeat (first | apply Kd.R_alloc | apply Kd.R_drewN | apply Kd.R_drew)); exact HO1048.out) hb)
           have n3_ := Aside0.mk (Kd.R_below (by (with_reducible repeat (first | apply Kd.R_alloc | apply Kd.R_drewN | apply Kd.R_drew)); exact HO1053.out) hb)
           have n4_ := Aside0.mk (Kd.R_below (by (with_reducible repeat (first | apply Kd.R_alloc | apply Kd.R_drewN | apply Kd.R_drew)); exact HO1058.out) hb)
           have n5_ := Aside0.mk (Kd.R_below (by (with_reducible repeat (first | apply Kd.R_alloc | apply Kd.R_drewN | apply Kd.R_drew)); exact HO1063.out) hb)
           have n6_ := Aside0.mk (blk_below (g := gb1038) (o := .cells #[.slice A0_0 l0_0.length c0_0, .int .u8 a0_1, .int .u8 a0_2] 31 (0, 0)) (by (with_reducible repeat (first | refine blk_drewN ?_ _ | refine blk_drew ?_ | refine blk_alloc ?_ _)); exact BK1038.out) hb)
           have n7_ := Aside0.mk (blk_below (g := gb1042) (o := .cells #[.slice Ao21 y1039.length co21, .int .u8 a0_1, .int .u8 a0_2] 31 (0, 0)) (by (with_reducible repeat (first | refine blk_drewN ?_ _ | refine blk_drew ?_ | refine blk_alloc ?_ _)); exact BK1042.out) hb)
           have n8_ := Aside0.mk (blk_below (g := gb1055) (o := .cells #[.slice Ao31 t1046.length co31, .int .u8 t1049, .int .u8 t1050] 31 (0, 0)) (by (with_reducible repeat (first | refine blk_drewN ?_ _ | refine blk_drew ?_ | refine blk_alloc ?_ _)); exact BK1055.out) hb)
           have n9_ := Aside0.mk (blk_below (g := gb1065) (o := .cells #[.slice Ao38 t1056.length co38, .int .u8 t1059, .int .u8 t1060] 31 (0, 0)) (by (with_reducible repeat (first | refine blk_drewN ?_ _ | refine blk_drew ?_ | refine blk_alloc ?_ _)); exact BK1065.out) hb)
           have n10_ := Aside0.mk (below_step (by repeat (first | (with_reducible first | exact HB.out | apply below_alloc | apply pw_below_drewN | apply below_drew1 | refine below_set ?_ GE1038.out | refine below_set ?_ GE1042.out | refine below_set ?_ GE1055.out | refine below_set ?_ GE1065.out) | exact HB.out)) hb)
           clear HO1041
           clear HO1045
           clear HO1048
           clear HO1053
           clear HO1058
           clear HO1063
           clear BK1038
           clear BK1042
           clear BK1055
           clear BK1065
           clear HB
           have HO1041 := n0_
           have HO1045 := n1_
           have HO1048 := n2_
           have HO1053 := n3_
           have HO1058 := n4_
           have HO1063 := n5_
           have BK1038 := n6_
           have BK1042 := n7_
           have BK1055 := n8_
           have BK1065 := n9_
           have HB := n10_
           clear n0_ n1_ n2_ n3_ n4_ n5_ n6_ n7_ n8_ n9_ n10_
           (try clear hb)
           (try clear hb2)
           (try clear hk)
           (try clear hi)
           refine hK.out _ _ ⟨(blk_cell BK1055.out 0).trans rfl, (blk_cell BK1055.out 1).trans rfl, (blk_cell BK1055.out 2).trans rfl, (blk_cell BK1065.out 0).trans rfl, (blk_cell BK1065.out 1).trans rfl, (blk_cell BK1065.out 2).trans rfl, (blk_cell BK1042.out 0).trans rfl, (blk_cell BK1042.out 1).trans rfl, (blk_cell BK1042.out 2).trans rfl, (blk_cell BK1038.out 0).trans rfl, (blk_cell BK1038.out 1).trans rfl, (blk_cell BK1038.out 2).trans rfl⟩ (fun hHeld => ?_)
           clear hK K
           refine norm_ (a' := ?_) ?_ ?_
           rotate_left
           ·show Act.put _ (some 73) _ = _
            simp only [Act.put, List.setIfInBounds_toArray, List.set_cons_zero, List.set_cons_succ, i64_w, i32_w]
            rfl
           refine one_ (i := 19) (N := some 75) #[true, true, true, true, true, true, true, true, true, true, true, true, true, true, true, true, true, true, true, true, false, false, false, false, false, false, false, false] rfl rfl (one_of HT_.out (by kernel_rfl)) (by decide) (fun K hK => ?_)
           refine goes_ Try.func60 (by kernel_rfl) rfl #[.agg #[.slice A0_0 l0_0.length c0_0, .int .u8 a0_1, .int .u8 a0_2]] (by rfl) rfl rfl (by (try simp only [List.map_toArray, List.map_cons, List.map_nil]); first | done | rfl | (simp only [List.length_drop, List.length_take]; rfl)) ?_
           with_reducible refine (reedpiperef13_Check.calls kj4 _ _ l0_0 a0_1 a0_2 t1069 _ ?side1 ?side2 A49.out).mono ?_
           (case side1 => repeat (first | exact (Kd.C_below HR0_0.out HB.out) | (with_reducible refine Kd.C_alloc ?_ _) | (with_reducible refine Kd.C_drewN ?_ _) | (with_reducible refine Kd.C_drew ?_)))
           (case side2 => exact HC0_0.out)
           rintro e w60 ⟨rfl, hb⟩
           refine ⟨_, rfl, ?_⟩
           have n0_ := Aside0.mk (Kd.R_below (by (with_reducible repeat (first | apply Kd.R_alloc | apply Kd.R_drewN | apply Kd.R_drew)); exact HO1041.out) hb)
           have n1_ := Aside0.mk (Kd.R_below (by (with_reducible repeat (first | apply Kd.R_alloc | apply Kd.R_drewN | apply Kd.R_drew)); exact HO1045.out) hb)
           have n2_ := Aside0.mk (Kd.R_below (by (with_reducible repeat (first | apply Kd.R_alloc | apply Kd.R_drewN | apply Kd.R_drew)); exact HO1048.out) hb)
           have n3_ := Aside0.mk (Kd.R_below (by (with_reducible repeat (first | apply Kd.R_alloc | apply Kd.R_drewN | apply Kd.R_drew)); exact HO1053.out) hb)
           have n4_ := Aside0.mk (Kd.R_below (by (with_reducible repeat (first | apply Kd.R_alloc | apply Kd.R_drewN | apply Kd.R_drew)); exact HO1058.out) hb)
           have n5_ := Aside0.mk (Kd.R_below (by (with_reducible repeat (first | apply Kd.R_alloc | apply Kd.R_drewN | apply Kd.R_drew)); exact HO1063.out) hb)
           have n6_ := Aside0.mk (blk_below (g := gb1038) (o := .cells #[.slice A0_0 l0_0.length c0_0, .int .u8 a0_1, .int .u8 a0_2] 31 (0, 0)) (by (with_reducible repeat (first | refine blk_drewN ?_ _ | refine blk_drew ?_ | refine blk_alloc ?_ _)); exact BK1038.out) hb)
           have n7_ := Aside0.mk (blk_below (g := gb1042) (o := .cells #[.slice Ao21 y1039.length co21, .int .u8 a0_1, .int .u8 a0_2] 31 (0, 0)) (by (with_reducible repeat (first | refine blk_drewN ?_ _ | refine blk_drew ?_ | refine blk_alloc ?_ _)); exact BK1042.out) hb)
           have n8_ := Aside0.mk (blk_below (g := gb1055) (o := .cells #[.slice Ao31 t1046.length co31, .int .u8 t1049, .int .u8 t1050] 31 (0, 0)) (by (with_reducible repeat (first | refine blk_drewN ?_ _ | refine blk_drew ?_ | refine blk_alloc ?_ _)); exact BK1055.out) hb)
           have n9_ := Aside0.mk (blk_below (g := gb1065) (o := .cells #[.slice Ao38 t1056.length co38, .int .u8 t1059, .int .u8 t1060] 31 (0, 0)) (by (with_reducible repeat (first | refine blk_drewN ?_ _ | refine blk_drew ?_ | refine blk_alloc ?_ _)); exact BK1065.out) hb)
           have n10_ := Aside0.mk (below_step (by repeat (first | (with_reducible first | exact HB.out | apply below_alloc | apply pw_below_drewN | apply below_drew1 | refine below_set ?_ GE1038.out | refine below_set ?_ GE1042.out | refine below_set ?_ GE1055.out | refine below_set ?_ GE1065.out) | exact HB.out)) hb)
           clear HO1041
           clear HO1045
           clear HO1048
           clear HO1053
           clear HO1058
           clear HO1063
           clear BK1038
           clear BK1042
           clear BK1055
           clear BK1065
           clear HB
           have HO1041 := n0_
           have HO1045 := n1_
           have HO1048 := n2_
           have HO1053 := n3_
           have HO1058 := n4_
           have HO1063 := n5_
           have BK1038 := n6_
           have BK1042 := n7_
           have BK1055 := n8_
           have BK1065 := n9_
           have HB := n10_
           clear n0_ n1_ n2_ n3_ n4_ n5_ n6_ n7_ n8_ n9_ n10_
           (try clear hb)
           (try clear hb2)
           (try clear hk)
           (try clear hi)
           refine hK.out _ _ ⟨(blk_cell BK1055.out 0).trans rfl, (blk_cell BK1055.out 1).trans rfl, (blk_cell BK1055.out 2).trans rfl, (blk_cell BK1065.out 0).trans rfl, (blk_cell BK1065.out 1).trans rfl, (blk_cell BK1065.out 2).trans rfl, (blk_cell BK1042.out 0).trans rfl, (blk_cell BK1042.out 1).trans rfl, (blk_cell BK1042.out 2).trans rfl, (blk_cell BK1038.out 0).trans rfl, (blk_cell BK1038.out 1).trans rfl, (blk_cell BK1038.out 2).trans rfl⟩ (fun hHeld => ?_)
           clear hK K
           refine norm_ (a' := ?_) ?_ ?_
           rotate_left
           ·show Act.put _ (some 75) _ = _
            simp only [Act.put, List.setIfInBounds_toArray, List.set_cons_zero, List.set_cons_succ, i64_w, i32_w]
            rfl
           refine pure_ (i := 20) (N := some 76) (v := ?_) (a' := ?_) #[true, true, true, true, true, true, true, true, true, true, true, true, true, true, true, true, true, true, true, true, true, false, false, false, false, false, false, false] rfl rfl (any_of HT_.out (by kernel_rfl)) (fun _ _ _ h => h) (Or.inl ⟨by rfl, ?_⟩) ?_ ?_
           rotate_left
           ·intro w'
            go_simp
            with_reducible rfl
           rotate_left
           ·simp only [Act.put, List.setIfInBounds_toArray, List.set_cons_zero, List.set_cons_succ, i64_w, i32_w]
            rfl
           refine pure_ (i := 21) (N := some 77) (v := ?_) (a' := ?_) #[true, true, true, true, true, true, true, true, true, true, true, true, true, true, true, true, true, true, true, true, true, true, false, false, false, false, false, false] rfl rfl (any_of HT_.out (by kernel_rfl)) (fun _ _ _ h => h) (Or.inl ⟨by rfl, ?_⟩) ?_ ?_
           rotate_left
           ·intro w'
            go_simp
            with_reducible rfl
           rotate_left
           ·simp only [Act.put, List.setIfInBounds_toArray, List.set_cons_zero, List.set_cons_succ, i64_w, i32_w]
            rfl
           refine pure_ (i := 22) (N := some 78) (v := ?_) (a' := ?_) #[true, true, true, true, true, true, true, true, true, true, true, true, true, true, true, true, true, true, true, true, true, true, true, false, false, false, false, false] rfl rfl (any_of HT_.out (by kernel_rfl)) (fun _ _ _ h => h) (Or.inl ⟨by rfl, ?_⟩) ?_ ?_
           rotate_left
           ·intro w'
            go_simp
            with_reducible rfl
           rotate_left
           ·simp only [Act.put, List.setIfInBounds_toArray, List.set_cons_zero, List.set_cons_succ, i64_w, i32_w]
            rfl
           refine one_ (i := 23) (N := some 79) #[true, true, true, true, true, true, true, true, true, true, true, true, true, true, true, true, true, true, true, true, true, true, true, true, false, false, false, false] rfl rfl (one_of HT_.out (by kernel_rfl)) (by decide) (fun K hK => ?_)
           refine goes_ Try.func40 (by kernel_rfl) rfl #[] (by rfl) rfl rfl (by (try simp only [List.map_toArray, List.map_cons, List.map_nil]); first | done | rfl | (simp only [List.length_drop, List.length_take]; rfl)) ?_
           with_reducible refine (lap_New.calls  t1070 t1073 t1074 _ A51.out).mono ?_
           rintro e w61 ⟨v1071, rfl, ho0, hb⟩
           refine ⟨_, rfl, ?_⟩
           have n0_ := Aside0.mk (Kd.R_elder' (by (with_reducible repeat (first | apply Kd.R_alloc | apply Kd.R_drewN | apply Kd.R_drew)); exact HO1041.out) (Kd.R_base ho0) hb)
           have n1_ := Aside0.mk (Kd.R_elder' (by (with_reducible repeat (first | apply Kd.R_alloc | apply Kd.R_drewN | apply Kd.R_drew)); exact HO1045.out) (Kd.R_base ho0) hb)
           have n2_ := Aside0.mk (Kd.R_elder' (by (with_reducible repeat (first | apply Kd.R_alloc | apply Kd.R_drewN | apply Kd.R_drew)); exact HO1048.out) (Kd.R_base ho0) hb)
           have n3_ := Aside0.mk (Kd.R_elder' (by (with_reducible repeat (first | apply Kd.R_alloc | apply Kd.R_drewN | apply Kd.R_drew)); exact HO1053.out) (Kd.R_base ho0) hb)
           have n4_ := Aside0.mk (Kd.R_elder' (by (with_reducible repeat (first | apply Kd.R_alloc | apply Kd.R_drewN | apply Kd.R_drew)); exact HO1058.out) (Kd.R_base ho0) hb)
           have n5_ := Aside0.mk (Kd.R_elder' (by (with_reducible repeat (first | apply Kd.R_alloc | apply Kd.R_drewN | apply Kd.R_drew)); exact HO1063.out) (Kd.R_base ho0) hb)
           have n6_ := Aside0.mk (Kd.R_lower (Kd.R_new' (Kd.R_new' (Kd.R_new' (Kd.R_new' (Kd.R_new' (Kd.R_new' ho0 (Kd.R_lt (by (with_reducible repeat (first | apply Kd.R_alloc | apply Kd.R_drewN | apply Kd.R_drew)); exact HO1041.out))) (Kd.R_lt (by (with_reducible repeat (first | apply Kd.R_alloc | apply Kd.R_drewN | apply Kd.R_drew)); exact HO1045.out))) (Kd.R_lt (by (with_reducible repeat (first | apply Kd.R_alloc | apply Kd.R_drewN | apply Kd.R_drew)); exact HO1048.out))) (Kd.R_lt (by (with_reducible repeat (first | apply Kd.R_alloc | apply Kd.R_drewN | apply Kd.R_drew)); exact HO1053.out))) (Kd.R_lt (by (with_reducible repeat (first | apply Kd.R_alloc | apply Kd.R_drewN | apply Kd.R_drew)); exact HO1058.out))) (Kd.R_lt (by (with_reducible repeat (first | apply Kd.R_alloc | apply Kd.R_drewN | apply Kd.R_drew)); exact HO1063.out))) (below_size (by repeat (first | (with_reducible first | exact HB.out | apply below_alloc | apply pw_below_drewN | apply below_drew1 | refine below_set ?_ GE1038.out | refine below_set ?_ GE1042.out | refine below_set ?_ GE1055.out | refine below_set ?_ GE1065.out) | exact HB.out))))
           have n7_ := Aside0.mk (blk_below (g := gb1038) (o := .cells #[.slice A0_0 l0_0.length c0_0, .int .u8 a0_1, .int .u8 a0_2] 31 (0, 0)) (by (with_reducible repeat (first | refine blk_drewN ?_ _ | refine blk_drew ?_ | refine blk_alloc ?_ _)); exact BK1038.out) hb)
           have n8_ := Aside0.mk (blk_below (g := gb1042) (o := .cells #[.slice Ao21 y1039.length co21, .int .u8 a0_1, .int .u8 a0_2] 31 (0, 0)) (by (with_reducible repeat (first | refine blk_drewN ?_ _ | refine blk_drew ?_ | refine blk_alloc ?_ _)); exact BK1042.out) hb)
           have n9_ := Aside0.mk (blk_below (g := gb1055) (o := .cells #[.slice Ao31 t1046.length co31, .int .u8 t1049, .int .u8 t1050] 31 (0, 0)) (by (with_reducible repeat (first | refine blk_drewN ?_ _ | refine blk_drew ?_ | refine blk_alloc ?_ _)); exact BK1055.out) hb)
           have n10_ := Aside0.mk (blk_below (g := gb1065) (o := .cells #[.slice Ao38 t1056.length co38, .int .u8 t1059, .int .u8 t1060] 31 (0, 0)) (by (with_reducible repeat (first | refine blk_drewN ?_ _ | refine blk_drew ?_ | refine blk_alloc ?_ _)); exact BK1065.out) hb)
           have n11_ := Aside0.mk (below_step (by repeat (first | (with_reducible first | exact HB.out | apply below_alloc | apply pw_below_drewN | apply below_drew1 | refine below_set ?_ GE1038.out | refine below_set ?_ GE1042.out | refine below_set ?_ GE1055.out | refine below_set ?_ GE1065.out) | exact HB.out)) hb)
           clear HO1041
           clear HO1045
           clear HO1048
           clear HO1053
           clear HO1058
           clear HO1063
           clear BK1038
           clear BK1042
           clear BK1055
           clear BK1065
           clear HB
           have HO1041 := n0_
           have HO1045 := n1_
           have HO1048 := n2_
           have HO1053 := n3_
           have HO1058 := n4_
           have HO1063 := n5_
           have HO1072 := n6_
           have BK1038 := n7_
           have BK1042 := n8_
           have BK1055 := n9_
           have BK1065 := n10_
           have HB := n11_
           clear n0_ n1_ n2_ n3_ n4_ n5_ n6_ n7_ n8_ n9_ n10_ n11_
           (try clear hb)
           (try clear hb2)
           (try clear hk)
           (try clear hi)
           (try clear ho0)
           refine hK.out _ _ ⟨(blk_cell BK1055.out 0).trans rfl, (blk_cell BK1055.out 1).trans rfl, (blk_cell BK1055.out 2).trans rfl, (blk_cell BK1065.out 0).trans rfl, (blk_cell BK1065.out 1).trans rfl, (blk_cell BK1065.out 2).trans rfl, (blk_cell BK1042.out 0).trans rfl, (blk_cell BK1042.out 1).trans rfl, (blk_cell BK1042.out 2).trans rfl, (blk_cell BK1038.out 0).trans rfl, (blk_cell BK1038.out 1).trans rfl, (blk_cell BK1038.out 2).trans rfl⟩ (fun hHeld => ?_)
           clear hK K
           refine norm_ (a' := ?_) ?_ ?_
           rotate_left
           ·show Act.put _ (some 79) _ = _
            simp only [Act.put, List.setIfInBounds_toArray, List.set_cons_zero, List.set_cons_succ, i64_w, i32_w]
            rfl
           refine one_ (i := 24) (N := some 80) #[true, true, true, true, true, true, true, true, true, true, true, true, true, true, true, true, true, true, true, true, true, true, true, true, true, false, false, false] rfl rfl (one_of HT_.out (by kernel_rfl)) (by decide) (fun K hK => ?_)
           refine goes_ Try.func61 (by kernel_rfl) rfl #[] (by rfl) rfl rfl (by (try simp only [List.map_toArray, List.map_cons, List.map_nil]); first | done | rfl | (simp only [List.length_drop, List.length_take]; rfl)) ?_
           with_reducible refine (reedpiperef13_New.calls  t1075 t1078 t1079 _ A52.out).mono ?_
           rintro e w62 ⟨v1076, rfl, ho0, hb⟩
           refine ⟨_, rfl, ?_⟩
           have n0_ := Aside0.mk (Kd.R_elder' (by (with_reducible repeat (first | apply Kd.R_alloc | apply Kd.R_drewN | apply Kd.R_drew)); exact HO1041.out) (Kd.R_base ho0) hb)
           have n1_ := Aside0.mk (Kd.R_elder' (by (with_reducible repeat (first | apply Kd.R_alloc | apply Kd.R_drewN | apply Kd.R_drew)); exact HO1045.out) (Kd.R_base ho0) hb)
           have n2_ := Aside0.mk (Kd.R_elder' (by (with_reducible repeat (first | apply Kd.R_alloc | apply Kd.R_drewN | apply Kd.R_drew)); exact HO1048.out) (Kd.R_base ho0) hb)
           have n3_ := Aside0.mk (Kd.R_elder' (by (with_reducible repeat (first | apply Kd.R_alloc | apply Kd.R_drewN | apply Kd.R_drew)); exact HO1053.out) (Kd.R_base ho0) hb)
           have n4_ := Aside0.mk (Kd.R_elder' (by (with_reducible repeat (first | apply Kd.R_alloc | apply Kd.R_drewN | apply Kd.R_drew)); exact HO1058.out) (Kd.R_base ho0) hb)
           have n5_ := Aside0.mk (Kd.R_elder' (by (with_reducible repeat (first | apply Kd.R_alloc | apply Kd.R_drewN | apply Kd.R_drew)); exact HO1063.out) (Kd.R_base ho0) hb)
           have n6_ := Aside0.mk (Kd.R_elder' (by (with_reducible repeat (first | apply Kd.R_alloc | apply Kd.R_drewN | apply Kd.R_drew)); exact HO1072.out) (Kd.R_base ho0) hb)
           have n7_ := Aside0.mk (Kd.R_lower (Kd.R_new' (Kd.R_new' (Kd.R_new' (Kd.R_new' (Kd.R_new' (Kd.R_new' (Kd.R_new' ho0 (Kd.R_lt (by (with_reducible repeat (first | apply Kd.R_alloc | apply Kd.R_drewN | apply Kd.R_drew)); exact HO1041.out))) (Kd.R_lt (by (with_reducible repeat (first | apply Kd.R_alloc | apply Kd.R_drewN | apply Kd.R_drew)); exact HO1045.out))) (Kd.R_lt (by (with_reducible repeat (first | apply Kd.R_alloc | apply Kd.R_drewN | apply Kd.R_drew)); exact HO1048.out))) (Kd.R_lt (by (with_reducible repeat (first | apply Kd.R_alloc | apply Kd.R_drewN | apply Kd.R_drew)); exact HO1053.out))) (Kd.R_lt (by (with_reducible repeat (first | apply Kd.R_alloc | apply Kd.R_drewN | apply Kd.R_drew)); exact HO1058.out))) (Kd.R_lt (by (with_reducible repeat (first | apply Kd.R_alloc | apply Kd.R_drewN | apply Kd.R_drew)); exact HO1063.out))) (Kd.R_lt (by (with_reducible repeat (first | apply Kd.R_alloc | apply Kd.R_drewN | apply Kd.R_drew)); exact HO1072.out))) (below_size (by repeat (first | (with_reducible first | exact HB.out | apply below_alloc | apply pw_below_drewN | apply below_drew1 | refine below_set ?_ GE1038.out | refine below_set ?_ GE1042.out | refine below_set ?_ GE1055.out | refine below_set ?_ GE1065.out) | exact HB.out))))
           have n8_ := Aside0.mk (blk_below (g := gb1038) (o := .cells #[.slice A0_0 l0_0.length c0_0, .int .u8 a0_1, .int .u8 a0_2] 31 (0, 0)) (by (with_reducible repeat (first | refine blk_drewN ?_ _ | refine blk_drew ?_ | refine blk_alloc ?_ _)); exact BK1038.out) hb)
           have n9_ := Aside0.mk (blk_below (g := gb1042) (o := .cells #[.slice Ao21 y1039.length co21, .int .u8 a0_1, .int .u8 a0_2] 31 (0, 0)) (by (with_reducible repeat (first | refine blk_drewN ?_ _ | refine blk_drew ?_ | refine blk_alloc ?_ _)); exact BK1042.out) hb)
           have n10_ := Aside0.mk (blk_below (g := gb1055) (o := .cells #[.slice Ao31 t1046.length co31, .int .u8 t1049, .int .u8 t1050] 31 (0, 0)) (by (with_reducible repeat (first | refine blk_drewN ?_ _ | refine blk_drew ?_ | refine blk_alloc ?_ _)); exact BK1055.out) hb)
           have n11_ := Aside0.mk (blk_below (g := gb1065) (o := .cells #[.slice Ao38 t1056.length co38, .int .u8 t1059, .int .u8 t1060] 31 (0, 0)) (by (with_reducible repeat (first | refine blk_drewN ?_ _ | refine blk_drew ?_ | refine blk_alloc ?_ _)); exact BK1065.out) hb)
           have n12_ := Aside0.mk (below_step (by repeat (first | (with_reducible first | exact HB.out | apply below_alloc | apply pw_below_drewN | apply below_drew1 | refine below_set ?_ GE1038.out | refine below_set ?_ GE1042.out | refine below_set ?_ GE1055.out | refine below_set ?_ GE1065.out) | exact HB.out)) hb)
           clear HO1041
           clear HO1045
           clear HO1048
           clear HO1053
           clear HO1058
           clear HO1063
           clear HO1072
           clear BK1038
           clear BK1042
           clear BK1055
           clear BK1065
           clear HB
           have HO1041 := n0_
           have HO1045 := n1_
           have HO1048 := n2_
           have HO1053 := n3_
           have HO1058 := n4_
           have HO1063 := n5_
           have HO1072 := n6_
           have HO1077 := n7_
           have BK1038 := n8_
           have BK1042 := n9_
           have BK1055 := n10_
           have BK1065 := n11_
           have HB := n12_
           clear n0_ n1_ n2_ n3_ n4_ n5_ n6_ n7_ n8_ n9_ n10_ n11_ n12_
           (try clear hb)
           (try clear hb2)
           (try clear hk)
           (try clear hi)
           (try clear ho0)
           obtain ⟨Ao63, co63, eo63⟩ := Kd.R_slice HO1072.out
           (first | subst eo63 | (injection eo63 with f1_ f2_ f3_; have f4_ := f1_.symm; have f5_ := f3_.symm; clear f1_ f2_ f3_; subst f4_; subst f5_))
           obtain ⟨Ao64, co64, eo64⟩ := Kd.R_slice HO1077.out
           (first | subst eo64 | (injection eo64 with f1_ f2_ f3_; have f4_ := f1_.symm; have f5_ := f3_.symm; clear f1_ f2_ f3_; subst f4_; subst f5_))
           refine hK.out _ _ ⟨(blk_cell BK1055.out 0).trans rfl, (blk_cell BK1055.out 1).trans rfl, (blk_cell BK1055.out 2).trans rfl, (blk_cell BK1065.out 0).trans rfl, (blk_cell BK1065.out 1).trans rfl, (blk_cell BK1065.out 2).trans rfl, (blk_cell BK1042.out 0).trans rfl, (blk_cell BK1042.out 1).trans rfl, (blk_cell BK1042.out 2).trans rfl, (blk_cell BK1038.out 0).trans rfl, (blk_cell BK1038.out 1).trans rfl, (blk_cell BK1038.out 2).trans rfl⟩ (fun hHeld => ?_)
           clear hK K
           refine norm_ (a' := ?_) ?_ ?_
           rotate_left
           ·show Act.put _ (some 80) _ = _
            simp only [Act.put, List.setIfInBounds_toArray, List.set_cons_zero, List.set_cons_succ, i64_w, i32_w]
            rfl
           refine one_ (i := 25) (N := some 81) #[true, true, true, true, true, true, true, true, true, true, true, true, true, true, true, true, true, true, true, true, true, true, true, true, true, true, false, false] rfl rfl (one_of HT_.out (by kernel_rfl)) (by decide) (fun K hK => ?_)
           refine goes_ Try.func59 (by kernel_rfl) rfl #[.agg #[.slice Ao63 t1070.length co63, .int .u8 t1073, .int .u8 t1074], .agg #[.slice Ao64 t1075.length co64, .int .u8 t1078, .int .u8 t1079]] (by rfl) rfl rfl (by (try simp only [List.map_toArray, List.map_cons, List.map_nil]); first | done | rfl | (simp only [List.length_drop, List.length_take]; rfl)) ?_
           with_reducible refine (reedpiperef13_Same.calls kj4 _ _ t1070 t1073 t1074 _ _ t1075 t1078 t1079 t1080 _ ?side1 ?side2 ?side3 ?side4 A53.out).mono ?_
           (case side1 => repeat (first | exact (Kd.R_reads' HO1072.out).2.2 | (with_reducible refine Kd.C_alloc ?_ _) | (with_reducible refine Kd.C_drewN ?_ _) | (with_reducible refine Kd.C_drew ?_)))
           (case side2 => exact (Kd.R_reads' HO1072.out).2.1)
           (case side3 => repeat (first | exact (Kd.R_reads' HO1077.out).2.2 | (with_reducible refine Kd.C_alloc ?_ _) | (with_reducible refine Kd.C_drewN ?_ _) | (with_reducible refine Kd.C_drew ?_)))
           (case side4 => exact (Kd.R_reads' HO1077.out).2.1)
           rintro e w65 ⟨rfl, hb⟩
           refine ⟨_, rfl, ?_⟩
           have n0_ := Aside0.mk (Kd.R_below (by (with_reducible repeat (first | apply Kd.R_alloc | apply Kd.R_drewN | apply Kd.R_drew)); exact HO1041.out) hb)
           have n1_ := Aside0.mk (Kd.R_below (by (with_reducible repeat (first | apply Kd.R_alloc | apply Kd.R_drewN | apply Kd.R_drew)); exact HO1045.out) hb)
           have n2_ := Aside0.mk (Kd.R_below (by (with_reducible repeat (first | apply Kd.R_alloc | apply Kd.R_drewN | apply Kd.R_drew)); exact HO1048.out) hb)
           have n3_ := Aside0.mk (Kd.R_below (by (with_reducible repeat (first | apply Kd.R_alloc | apply Kd.R_drewN | apply Kd.R_drew)); exact HO1053.out) hb)
           have n4_ := Aside0.mk (Kd.R_below (by (with_reducible repeat (first | apply Kd.R_alloc | apply Kd.R_drewN | apply Kd.R_drew)); exact HO1058.out) hb)
           have n5_ := Aside0.mk (Kd.R_below (by (with_reducible repeat (first | apply Kd.R_alloc | apply Kd.R_drewN | apply Kd.R_drew)); exact HO1063.out) hb)
           have n6_ := Aside0.mk (Kd.R_below (by (with_reducible repeat (first | apply Kd.R_alloc | apply Kd.R_drewN | apply Kd.R_drew)); exact HO1072.out) hb)
           have n7_ := Aside0.mk (Kd.R_below (by (with_reducible repeat (first | apply Kd.R_alloc | apply Kd.R_drewN | apply Kd.R_drew)); exact HO1077.out) hb)
           have n8_ := Aside0.mk (blk_below (g := gb1038) (o := .cells #[.slice A0_0 l0_0.length c0_0, .int .u8 a0_1, .int .u8 a0_2] 31 (0, 0)) (by (with_reducible repeat (first | refine blk_drewN ?_ _ | refine blk_drew ?_ | refine blk_alloc ?_ _)); exact BK1038.out) hb)
           have n9_ := Aside0.mk (blk_below (g := gb1042) (o := .cells #[.slice Ao21 y1039.length co21, .int .u8 a0_1, .int .u8 a0_2] 31 (0, 0)) (by (with_reducible repeat (first | refine blk_drewN ?_ _ | refine blk_drew ?_ | refine blk_alloc ?_ _)); exact BK1042.out) hb)
           have n10_ := Aside0.mk (blk_below (g := gb1055) (o := .cells #[.slice Ao31 t1046.length co31, .int .u8 t1049, .int .u8 t1050] 31 (0, 0)) (by (with_reducible repeat (first | refine blk_drewN ?_ _ | refine blk_drew ?_ | refine blk_alloc ?_ _)); exact BK1055.out) hb)
           have n11_ := Aside0.mk (blk_below (g := gb1065) (o := .cells #[.slice Ao38 t1056.length co38, .int .u8 t1059, .int .u8 t1060] 31 (0, 0)) (by (with_reducible repeat (first | refine blk_drewN ?_ _ | refine blk_drew ?_ | refine blk_alloc ?_ _)); exact BK1065.out) hb)
           have n12_ := Aside0.mk (below_step (by repeat (first | (with_reducible first | exact HB.out | apply below_alloc | apply pw_below_drewN | apply below_drew1 | refine below_set ?_ GE1038.out | refine below_set ?_ GE1042.out | refine below_set ?_ GE1055.out | refine below_set ?_ GE1065.out) | exact HB.out)) hb)
           clear HO1041
           clear HO1045
           clear HO1048
           clear HO1053
           clear HO1058
           clear HO1063
           clear HO1072
           clear HO1077
           clear BK1038
           clear BK1042
           clear BK1055
           clear BK1065
           clear HB
           have HO1041 := n0_
           have HO1045 := n1_
           have HO1048 := n2_
           have HO1053 := n3_
           have HO1058 := n4_
           have HO1063 := n5_
           have HO1072 := n6_
           have HO1077 := n7_
           have BK1038 := n8_
           have BK1042 := n9_
           have BK1055 := n10_
           have BK1065 := n11_
           have HB := n12_
           clear n0_ n1_ n2_ n3_ n4_ n5_ n6_ n7_ n8_ n9_ n10_ n11_ n12_
           (try clear hb)
           (try clear hb2)
           (try clear hk)
           (try clear hi)
           refine hK.out _ _ ⟨(blk_cell BK1055.out 0).trans rfl, (blk_cell BK1055.out 1).trans rfl, (blk_cell BK1055.out 2).trans rfl, (blk_cell BK1065.out 0).trans rfl, (blk_cell BK1065.out 1).trans rfl, (blk_cell BK1065.out 2).trans rfl, (blk_cell BK1042.out 0).trans rfl, (blk_cell BK1042.out 1).trans rfl, (blk_cell BK1042.out 2).trans rfl, (blk_cell BK1038.out 0).trans rfl, (blk_cell BK1038.out 1).trans rfl, (blk_cell BK1038.out 2).trans rfl⟩ (fun hHeld => ?_)
           clear hK K
           refine norm_ (a' := ?_) ?_ ?_
           rotate_left
           ·show Act.put _ (some 81) _ = _
            simp only [Act.put, List.setIfInBounds_toArray, List.set_cons_zero, List.set_cons_succ, i64_w, i32_w]
            rfl
           refine pure_ (i := 26) (N := some 82) (v := ?_) (a' := ?_) #[true, true, true, true, true, true, true, true, true, true, true, true, true, true, true, true, true, true, true, true, true, true, true, true, true, true, true, false] rfl rfl (any_of HT_.out (by kernel_rfl)) (fun _ _ _ h => h) (Or.inl ⟨by rfl, ?_⟩) ?_ ?_
           rotate_left
           ·intro w'
            go_simp
            with_reducible rfl
           rotate_left
           ·simp only [Act.put, List.setIfInBounds_toArray, List.set_cons_zero, List.set_cons_succ, i64_w, i32_w]
            rfl
           refine pure_ (i := 27) (N := some 83) (v := ?_) (a' := ?_) #[true, true, true, true, true, true, true, true, true, true, true, true, true, true, true, true, true, true, true, true, true, true, true, true, true, true, true, true] rfl rfl (any_of HT_.out (by kernel_rfl)) (fun _ _ _ h => h) (Or.inl ⟨by rfl, ?_⟩) ?_ ?_
           rotate_left
           ·intro w'
            go_simp
            with_reducible rfl
           rotate_left
           ·simp only [Act.put, List.setIfInBounds_toArray, List.set_cons_zero, List.set_cons_succ, i64_w, i32_w]
            rfl
           refine done_ (done_of HT_.out (by kernel_rfl)) ?_
           try go_wp2
           go_meet
           case rel => exact ⟨_, (!t1080), (by first | rfl | (simp; done) | (simp [*]; done)), H', ⟨by have := HJ4.out; first | omega | exact Nat.le_refl _⟩, ⟨by (with_reducible repeat (first | apply Kd.R_alloc | apply Kd.R_drewN | apply Kd.R_drew)); exact Kd.R_mono HO1045.out (fun _ hk => ⟨hk.1.1.2.2.1, ⟨hk.1.1.1, ⟨hk.1.1.2.1, hk.1.1.2.2.2.1⟩⟩⟩)⟩, ⟨by (with_reducible repeat (first | apply Kd.R_alloc | apply Kd.R_drewN | apply Kd.R_drew)); exact Kd.R_mono HO1053.out (fun _ hk => ⟨hk.1.1.2.1, ⟨hk.1.1.1, ⟨hk.1.1.2.2.1, hk.1.1.2.2.2.1⟩⟩⟩)⟩, ⟨by (with_reducible repeat (first | apply Kd.R_alloc | apply Kd.R_drewN | apply Kd.R_drew)); exact Kd.R_mono HO1041.out (fun _ hk => ⟨hk.1.1.1, ⟨hk.1.1.2.2.1, ⟨hk.1.1.2.1, hk.1.1.2.2.2.1⟩⟩⟩)⟩, ⟨by (with_reducible repeat (first | apply Kd.R_alloc | apply Kd.R_drewN | apply Kd.R_drew)); exact Kd.R_mono HO1048.out (fun _ hk => ⟨hk.1.1.2.1, ⟨hk.1.1.2.2.1, ⟨hk.1.1.1, hk.1.1.2.2.2.1⟩⟩⟩)⟩, ⟨by (with_reducible repeat (first | apply Kd.R_alloc | apply Kd.R_drewN | apply Kd.R_drew)); exact Kd.R_mono HO1058.out (fun _ hk => ⟨hk.1.1.2.1, ⟨hk.1.1.2.2.2.1, ⟨hk.1.1.1, hk.1.1.2.2.1⟩⟩⟩)⟩, ⟨by (with_reducible repeat (first | refine blk_drewN ?_ _ | refine blk_drew ?_ | refine blk_alloc ?_ _)); exact BK1038.out⟩, ⟨by (with_reducible repeat (first | refine blk_drewN ?_ _ | refine blk_drew ?_ | refine blk_alloc ?_ _)); exact BK1042.out⟩, ⟨by (with_reducible repeat (first | refine blk_drewN ?_ _ | refine blk_drew ?_ | refine blk_alloc ?_ _)); exact BK1055.out⟩, ⟨by (with_reducible repeat (first | refine blk_drewN ?_ _ | refine blk_drew ?_ | refine blk_alloc ?_ _)); exact BK1065.out⟩, ⟨by repeat (first | (with_reducible first | exact HB.out | apply below_alloc | apply pw_below_drewN | apply below_drew1 | refine below_set ?_ GE1038.out | refine below_set ?_ GE1042.out | refine below_set ?_ GE1055.out | refine below_set ?_ GE1065.out) | exact HB.out)⟩⟩
          ·rw [if_neg c50] at H
           have c50b0 : (t1068 == t1069) = false := beq_eq_false_iff_ne.mpr c50
           have c50b1 : (t1068 != t1069) = true := bne_iff_ne.mpr c50
           exact absurd H (by rw [HRT.out]; cases kj4 with | zero => (rw [reedpipelaw13_LapDoes.j1.eq_1]; decide) | succ n => (rw [reedpipelaw13_LapDoes.j1.eq_2, if_pos rfl]; decide))
         ·rw [if_neg c47] at H
          have c47b0 : (t1054 == t1064) = false := beq_eq_false_iff_ne.mpr c47
          have c47b1 : (t1054 != t1064) = true := bne_iff_ne.mpr c47
          (first | rw [c47b0] | (simp only [i64_w, i32_w]; rw [c47b0]) | skip)
          exact absurd H (by rw [HRT.out]; cases kj4 with | zero => (rw [reedpipelaw13_LapDoes.j1.eq_1]; decide) | succ n => (rw [reedpipelaw13_LapDoes.j1.eq_2, if_pos rfl]; decide))
        ·replace c46 := Bool.eq_false_iff.mpr c46
         subst c46
         have H1 : (reedpipelaw13_LapDoes.j1 kj4 l3 y1043 t1051 true l0_0 a0_1 a0_2 y1039 a0_1 a0_2 t1046 t1049 t1050) = some r := by rw [if_neg (show ¬ (false = true) by decide)] at H; exact H
         clear H
         have H := H1
         clear H1
         exact absurd H (by rw [HRT.out]; cases kj4 with | zero => (rw [reedpipelaw13_LapDoes.j1.eq_1]; decide) | succ n => (rw [reedpipelaw13_LapDoes.j1.eq_2, if_pos rfl]; decide))
       ·replace c44 := Bool.eq_false_iff.mpr c44
        subst c44
        have H1 : (reedpipelaw13_LapDoes.j1 kj4 l3 y1043 t1051 true l0_0 a0_1 a0_2 y1039 a0_1 a0_2 t1046 t1049 t1050) = some r := by rw [if_neg (show ¬ (false = true) by decide)] at H; exact H
        clear H
        have H := H1
        clear H1
        exact absurd H (by rw [HRT.out]; cases kj4 with | zero => (rw [reedpipelaw13_LapDoes.j1.eq_1]; decide) | succ n => (rw [reedpipelaw13_LapDoes.j1.eq_2, if_pos rfl]; decide))
      case rest => as_aux_lemma =>
       clear HC15
       try clear p2
       try clear c4
       try clear c5
       try clear c44
       try clear c50
       try clear c59
       obtain ⟨kq, x83_14, rfl, HA, HJ14, HO_10, HO_12, HO_1043000, HO_1056000, HO_1066000, BK1038, BK1042, BK1055, BK1065, HB⟩ := hcut
       cases kq with
       | zero => exact absurd HA.out (by simp [reedpipelaw13_LapDoes.j1])
       | succ kj14 =>
        have H := HA.out
        clear HA
        simp only [reedpipelaw13_LapDoes.j1] at H
        by_cases c86 : x83_14 = true
        ·subst c86
         have H1 : (some false) = some r := by rw [if_pos rfl] at H; exact H
         clear H
         have H := H1
         clear H1
         obtain rfl := Option.some.inj H
         go_wp2
         go_ret
         exact ⟨by first | rfl | (simp [errW_none, errW_some] <;> rfl) | (simp [*, errW_none, errW_some] <;> rfl), by repeat (first | (with_reducible first | exact HB.out | apply below_alloc | apply pw_below_drewN | apply below_drew1 | refine below_set ?_ GE1038.out | refine below_set ?_ GE1042.out | refine below_set ?_ GE1055.out | refine below_set ?_ GE1065.out) | exact HB.out)⟩
        ·replace c86 := Bool.eq_false_iff.mpr c86
         subst c86
         have H1 : (reedpipelaw13_LapDoes.l0 kj14 l3 y1043 t1051 0 l0_0 a0_1 a0_2 y1039 a0_1 a0_2 t1046 t1049 t1050) = some r := by rw [if_neg (show ¬ (false = true) by decide)] at H; exact H
         clear H
         have H := H1
         clear H1
         have H' := Aside0.mk H
         clear H
         go_wp2
         go_loopg [17] kj14 (fun kq v17 w' => ∃ (x10_3 : List Int) (x12_3 : List Int) (x17_3 : Int) (x1043000_3 : List Int) (x1056000_3 : List Int) (x1066000_3 : List Int) (u1043000 : Value) (u1056000 : Value) (u1066000 : Value), v17 = .int .i64 x17_3 ∧ Aside0 (reedpipelaw13_LapDoes.l0 kq l3 x10_3 x12_3 x17_3 l0_0 a0_1 a0_2 x1043000_3 a0_1 a0_2 x1056000_3 t1049 t1050 = some r) ∧ Aside0 (kq ≤ kj14) ∧ Aside0 (Kd.R (Kd.int .i64) 3 w' w.heap.size (fun k_ => some k_ ≠ (v1052 : Value).ownBlock ∧ some k_ ≠ (u1043000 : Value).ownBlock ∧ some k_ ≠ (u1056000 : Value).ownBlock ∧ some k_ ≠ (u1066000 : Value).ownBlock) (.slice Ao28 y1043.length co28) x10_3) ∧ Aside0 (Kd.R (Kd.int .i64) 3 w' w.heap.size (fun k_ => some k_ ≠ ((.slice Ao28 y1043.length co28) : Value).ownBlock ∧ some k_ ≠ (u1043000 : Value).ownBlock ∧ some k_ ≠ (u1056000 : Value).ownBlock ∧ some k_ ≠ (u1066000 : Value).ownBlock) v1052 x12_3) ∧ Aside0 (Kd.R (Kd.int .i64) 3 w' w.heap.size (fun k_ => some k_ ≠ ((.slice Ao28 y1043.length co28) : Value).ownBlock ∧ some k_ ≠ (v1052 : Value).ownBlock ∧ some k_ ≠ (u1056000 : Value).ownBlock ∧ some k_ ≠ (u1066000 : Value).ownBlock) u1043000 x1043000_3) ∧ Aside0 (Kd.R (Kd.int .i64) 3 w' w.heap.size (fun k_ => some k_ ≠ ((.slice Ao28 y1043.length co28) : Value).ownBlock ∧ some k_ ≠ (v1052 : Value).ownBlock ∧ some k_ ≠ (u1043000 : Value).ownBlock ∧ some k_ ≠ (u1066000 : Value).ownBlock) u1056000 x1056000_3) ∧ Aside0 (Kd.R (Kd.int .i64) 3 w' w.heap.size (fun k_ => some k_ ≠ ((.slice Ao28 y1043.length co28) : Value).ownBlock ∧ some k_ ≠ (v1052 : Value).ownBlock ∧ some k_ ≠ (u1043000 : Value).ownBlock ∧ some k_ ≠ (u1056000 : Value).ownBlock) u1066000 x1066000_3) ∧ Aside0 (w'.heap[gb1038]? = some (.cells #[(.slice A0_0 l0_0.length c0_0), .int .u8 a0_1, .int .u8 a0_2] 31 (0, 0))) ∧ Aside0 (w'.heap[gb1042]? = some (.cells #[u1043000, .int .u8 a0_1, .int .u8 a0_2] 31 (0, 0))) ∧ Aside0 (w'.heap[gb1055]? = some (.cells #[u1056000, .int .u8 t1049, .int .u8 t1050] 31 (0, 0))) ∧ Aside0 (w'.heap[gb1065]? = some (.cells #[u1066000, .int .u8 t1059, .int .u8 t1060] 31 (0, 0))) ∧ Aside0 (Below w.heap.size w w'))
         case atStart => exact ⟨(y1043), (t1051), (0), (y1039), (t1046), (t1056), (.slice Ao21 y1039.length co21), (.slice Ao31 t1046.length co31), (.slice Ao38 t1056.length co38), (by first | rfl | (simp; done) | (simp [*]; done)), H', ⟨Nat.le_refl _⟩, ⟨by (with_reducible repeat (first | apply Kd.R_alloc | apply Kd.R_drewN | apply Kd.R_drew)); exact HO_10.out⟩, ⟨by (with_reducible repeat (first | apply Kd.R_alloc | apply Kd.R_drewN | apply Kd.R_drew)); exact HO_12.out⟩, ⟨by (with_reducible repeat (first | apply Kd.R_alloc | apply Kd.R_drewN | apply Kd.R_drew)); exact HO_1043000.out⟩, ⟨by (with_reducible repeat (first | apply Kd.R_alloc | apply Kd.R_drewN | apply Kd.R_drew)); exact HO_1056000.out⟩, ⟨by (with_reducible repeat (first | apply Kd.R_alloc | apply Kd.R_drewN | apply Kd.R_drew)); exact HO_1066000.out⟩, ⟨by (with_reducible repeat (first | refine blk_drewN ?_ _ | refine blk_drew ?_ | refine blk_alloc ?_ _)); exact BK1038.out⟩, ⟨by (with_reducible repeat (first | refine blk_drewN ?_ _ | refine blk_drew ?_ | refine blk_alloc ?_ _)); exact BK1042.out⟩, ⟨by (with_reducible repeat (first | refine blk_drewN ?_ _ | refine blk_drew ?_ | refine blk_alloc ?_ _)); exact BK1055.out⟩, ⟨by (with_reducible repeat (first | refine blk_drewN ?_ _ | refine blk_drew ?_ | refine blk_alloc ?_ _)); exact BK1065.out⟩, ⟨by repeat (first | (with_reducible first | exact HB.out | apply below_alloc | apply pw_below_drewN | apply below_drew1 | refine below_set ?_ GE1038.out | refine below_set ?_ GE1042.out | refine below_set ?_ GE1055.out | refine below_set ?_ GE1065.out) | exact HB.out)⟩⟩
         case round => as_aux_lemma =>
          clear H'
          try clear p2
          try clear c4
          try clear c5
          try clear c8
          try clear c44
          try clear c50
          try clear c59
          try clear c86
          try clear p2
          obtain ⟨x10_3, x12_3, x17_3, x1043000_3, x1056000_3, x1066000_3, u1043000, u1056000, u1066000, rfl, HA, HK3, HO_10, HO_12, HO_1043000, HO_1056000, HO_1066000, BK1038, BK1042, BK1055, BK1065, HB⟩ := hrel
          have hl10_3 := (Kd.R_reads' HO_10.out).1
          rw [hl10_3] at HO_10
          (try simp only [hl10_3])
          (try simp only [hl10_3] at BK1038)
          (try simp only [hl10_3] at BK1042)
          (try simp only [hl10_3] at BK1055)
          (try simp only [hl10_3] at BK1065)
          (try simp only [hl10_3] at HO_12)
          (try simp only [hl10_3] at HO_1043000)
          (try simp only [hl10_3] at HO_1056000)
          (try simp only [hl10_3] at HO_1066000)
          cases gk with
          | zero => exact absurd HA.out (by simp [reedpipelaw13_LapDoes.l0])
          | succ k3 =>
           have H := HA.out
           clear HA
           simp only [reedpipelaw13_LapDoes.l0] at H
           by_cases c87 : x17_3 < (x1056000_3.length : Int)
           ·rw [if_pos c87] at H
            have c87b0 : decide (x17_3 < (x1056000_3.length : Int)) = true := decide_eq_true c87
            clear c87
            by_cases c88 : 0 ≤ x17_3
            ·rw [if_pos c88] at H
             have c88b0 : decide (0 ≤ x17_3) = true := decide_eq_true c88
             clear c88
             obtain ⟨y1082, hy1082⟩ : ∃ y_ : List Int, y_ = (x1056000_3.set (x17_3 : Int).toNat (wrap64 ((rd x1056000_3 x17_3) + 1))) := ⟨_, rfl⟩
             replace H : (reedpipelaw13_LapDoes.l0 k3 l3 x10_3 x12_3 (wrap64 (x17_3 + 1)) l0_0 a0_1 a0_2 x1043000_3 a0_1 a0_2 y1082 t1049 t1050) = some r := by first | (rw [hy1082]; with_reducible exact H) | (have H2_ := (Option.bind_some _ _).symm.trans H; rw [hy1082]; with_reducible exact H2_) | (have H2_ := (Option.bind_some _ _).symm.trans H; with_reducible exact H2_) | with_reducible exact H | (rw [hy1082]; exact H) | exact H
             have Ny1082 := Aside0.mk hy1082
             clear hy1082
             have H' := Aside0.mk H
             clear H
             have hnb90 := NB1055_1038.out
             have hnc90 := NB1038_1055.out
             have hnb91 := NB1055_1042.out
             have hnc91 := NB1042_1055.out
             have hnb92 := NB1055_1065.out
             have hnc92 := NB1065_1055.out
             have hcz93_0 : wr.cell? ⟨gb1055, 0, none⟩ = some (u1056000) := (blk_cell BK1055.out 0).trans rfl
             have hcz93_1 : wr.cell? ⟨gb1055, 1, none⟩ = some (.int .u8 t1049) := (blk_cell BK1055.out 1).trans rfl
             have hcz93_2 : wr.cell? ⟨gb1055, 2, none⟩ = some (.int .u8 t1050) := (blk_cell BK1055.out 2).trans rfl
             have hfz93_0 := blk_frozen BK1055.out 0
             have hfz93_1 := blk_frozen BK1055.out 1
             have hfz93_2 := blk_frozen BK1055.out 2
             obtain ⟨Ao94, co94, eo94⟩ := Kd.R_slice HO_1056000.out
             subst eo94
             try go_wp2
             have n0_ := Aside0.mk (Kd.R_drew HO_10.out)
             have n1_ := Aside0.mk (Kd.R_drew HO_12.out)
             have n2_ := Aside0.mk (Kd.R_drew HO_1043000.out)
             have n3_ := Aside0.mk (Kd.R_drew HO_1056000.out)
             have n4_ := Aside0.mk (Kd.R_drew HO_1066000.out)
             have n5_ := Aside0.mk (blk_drew BK1038.out)
             have n6_ := Aside0.mk (blk_drew BK1042.out)
             have n7_ := Aside0.mk (blk_drew BK1055.out)
             have n8_ := Aside0.mk (blk_drew BK1065.out)
             have n9_ := Aside0.mk (below_drew1 HB.out)
             clear HO_10
             clear HO_12
             clear HO_1043000
             clear HO_1056000
             clear HO_1066000
             clear BK1038
             clear BK1042
             clear BK1055
             clear BK1065
             clear HB
             have HO_10 := n0_
             have HO_12 := n1_
             have HO_1043000 := n2_
             have HO_1056000 := n3_
             have HO_1066000 := n4_
             have BK1038 := n5_
             have BK1042 := n6_
             have BK1055 := n7_
             have BK1065 := n8_
             have HB := n9_
             clear n0_ n1_ n2_ n3_ n4_ n5_ n6_ n7_ n8_ n9_
             have p1081 : 0 ≤ (x17_3 : Int) := of_decide_eq_true (by first | (with_reducible assumption) | assumption)
             have q1081 : x17_3 < (x1056000_3.length : Int) := of_decide_eq_true (by first | (with_reducible assumption) | assumption)
             obtain ⟨ad1081, e1081, hx1081_0⟩ := Kd.at_int (Kd.R_reads' HO_1056000.out).2.2 x17_3 p1081 q1081
             cases e1081
             replace p1081 := eq_true p1081
             replace q1081 := eq_true q1081
             have p89 : 0 ≤ (x17_3 : Int) := of_decide_eq_true (by first | (with_reducible assumption) | assumption)
             have q89 : (x17_3 : Int) < ((x1056000_3.length : Int) : Int) := of_decide_eq_true (by first | (with_reducible assumption) | assumption)
             obtain ⟨go89, co89, eo89, gb89, gl89, cl89, HG89⟩ := Kd.R_form HO_1056000.out (by omega)
             (first | cases eo89 | (injection eo89 with ea_ en_ ec_; (first | subst ea_ | (injection ea_ with ea_; subst ea_)); subst ec_; clear en_))
             have GB89 := Aside0.mk gb89
             have GG89 := Aside0.mk HG89
             clear gb89 gl89 HG89
             (first | simp only [add_plain] at hx1081_0 | skip)
             obtain ⟨hx89_0, hf89_0⟩ := Kd.R_celln 0 HO_1056000.out (x17_3 : Int) p89 q89
             replace p89 := eq_true p89
             replace q89 := eq_true q89
             have HP96 := Kd.R_putn HO_1056000.out (x17_3 : Int) (wrap64 ((rd x1056000_3 x17_3) + 1))
             rw [← Ny1082.out] at HP96
             have HQ96 := Aside0.mk HP96
             clear HP96
             refine start_ (n := 11) (S := fun w' => w'.cell? ⟨gb1055, 0, none⟩ = some (.slice (some ⟨go89, 0, none⟩) x1056000_3.length co94) ∧ w'.cell? ⟨gb1055, 1, none⟩ = some (.int .u8 t1049) ∧ w'.cell? ⟨gb1055, 2, none⟩ = some (.int .u8 t1050) ∧ w'.cell? ⟨go89, (x17_3).toNat, none⟩ = some (.int .i64 (rd x1056000_3 x17_3))) (ds := [10]) #[false, false, false, false, false, false, false, false, false, false, false] (by kernel_rfl) rfl rfl ⟨(blk_cell BK1055.out 0).trans rfl, (blk_cell BK1055.out 1).trans rfl, (blk_cell BK1055.out 2).trans rfl, hx1081_0⟩ (fun hHeld => ?_); refine with_tabW reedpipelaw13_LapDoes.tab12 reedpipelaw13_LapDoes.bits12 (fun HT_ HW_ => ?_)
             generalize wr.drew = w95 at HO_10 HO_12 HO_1043000 HO_1056000 HO_1066000 BK1038 BK1042 BK1055 BK1065 HB GG89 HQ96 hf89_0 hx1081_0 hx89_0 hHeld ⊢
             refine pure_ (i := 0) (N := some 91) (v := ?_) (a' := ?_) #[true, false, false, false, false, false, false, false, false, false, false] rfl rfl (any_of HT_.out (by kernel_rfl)) (fun _ _ _ h => h) (Or.inl ⟨by rfl, ?_⟩) ?_ ?_
             rotate_left
             ·intro w'
              go_simp
              with_reducible rfl
             rotate_left
             ·simp only [Act.put, List.setIfInBounds_toArray, List.set_cons_zero, List.set_cons_succ, i64_w, i32_w]
              rfl
             refine pure_ (i := 2) (N := some 93) (v := ?_) (a' := ?_) #[true, false, true, false, false, false, false, false, false, false, false] rfl rfl (any_of HT_.out (by kernel_rfl)) (fun _ _ _ h => h) (Or.inl ⟨by rfl, ?_⟩) ?_ ?_
             rotate_left
             ·intro w'
              go_simp
              with_reducible rfl
             rotate_left
             ·simp only [Act.put, List.setIfInBounds_toArray, List.set_cons_zero, List.set_cons_succ, i64_w, i32_w]
              rfl
             refine pure_ (i := 3) (N := some 94) (v := ?_) (a' := ?_) #[true, false, true, true, false, false, false, false, false, false, false] rfl rfl (any_of HT_.out (by kernel_rfl)) (fun _ _ _ h => h) (Or.inl ⟨by rfl, ?_⟩) ?_ ?_
             rotate_left
             ·intro w'
              go_simp
              with_reducible rfl
             rotate_left
             ·simp only [Act.put, List.setIfInBounds_toArray, List.set_cons_zero, List.set_cons_succ, i64_w, i32_w]
              rfl
             refine pure_ (i := 5) (N := some 96) (v := ?_) (a' := ?_) #[true, false, true, true, false, true, false, false, false, false, false] rfl rfl (any_of HT_.out (by kernel_rfl)) (fun _ _ _ h => h) (Or.inl ⟨by rfl, ?_⟩) ?_ ?_
             rotate_left
             ·intro w'
              go_simp
              with_reducible rfl
             rotate_left
             ·simp only [Act.put, List.setIfInBounds_toArray, List.set_cons_zero, List.set_cons_succ, i64_w, i32_w]
              rfl
             refine take_ (i := 1) (N := some 92) (v := ?_) (a' := ?_) #[true, true, true, true, false, true, false, false, false, false, false] rfl rfl (take_ofW HT_.out HW_.out (by kernel_rfl)) (fun _ _ _ h => h) (Or.inl ⟨by rfl, ?_⟩) hHeld ?_ ?_
             rotate_left
             ·rintro w' ⟨s0, s1, s2, s3⟩
              go_simp
              with_reducible rfl
             rotate_left
             ·simp only [Act.put, List.setIfInBounds_toArray, List.set_cons_zero, List.set_cons_succ, i64_w, i32_w]
              rfl
             refine take_ (i := 4) (N := some 95) (v := ?_) (a' := ?_) #[true, true, true, true, true, true, false, false, false, false, false] rfl rfl (take_ofW HT_.out HW_.out (by kernel_rfl)) (fun _ _ _ h => h) (Or.inl ⟨by rfl, ?_⟩) hHeld ?_ ?_
             rotate_left
             ·rintro w' ⟨s0, s1, s2, s3⟩
              go_simp
              with_reducible rfl
             rotate_left
             ·simp only [Act.put, List.setIfInBounds_toArray, List.set_cons_zero, List.set_cons_succ, i64_w, i32_w]
              rfl
             refine pure_ (i := 6) (N := some 97) (v := ?_) (a' := ?_) #[true, true, true, true, true, true, true, false, false, false, false] rfl rfl (any_of HT_.out (by kernel_rfl)) (fun _ _ _ h => h) (Or.inl ⟨by rfl, ?_⟩) ?_ ?_
             rotate_left
             ·intro w'
              go_simp
              with_reducible rfl
             rotate_left
             ·simp only [Act.put, List.setIfInBounds_toArray, List.set_cons_zero, List.set_cons_succ, i64_w, i32_w]
              rfl
             refine take_ (i := 7) (N := some 98) (v := ?_) (a' := ?_) #[true, true, true, true, true, true, true, true, false, false, false] rfl rfl (take_ofW HT_.out HW_.out (by kernel_rfl)) (fun _ _ _ h => h) (Or.inl ⟨by rfl, ?_⟩) hHeld ?_ ?_
             rotate_left
             ·rintro w' ⟨s0, s1, s2, s3⟩
              go_simp
              with_reducible rfl
             rotate_left
             ·simp only [Act.put, List.setIfInBounds_toArray, List.set_cons_zero, List.set_cons_succ, i64_w, i32_w]
              rfl
             refine pure_ (i := 8) (N := some 99) (v := ?_) (a' := ?_) #[true, true, true, true, true, true, true, true, true, false, false] rfl rfl (any_of HT_.out (by kernel_rfl)) (fun _ _ _ h => h) (Or.inl ⟨by rfl, ?_⟩) ?_ ?_
             rotate_left
             ·intro w'
              go_simp
              with_reducible rfl
             rotate_left
             ·simp only [Act.put, List.setIfInBounds_toArray, List.set_cons_zero, List.set_cons_succ, i64_w, i32_w]
              rfl
             refine pure_ (i := 9) (N := some 100) (v := ?_) (a' := ?_) #[true, true, true, true, true, true, true, true, true, true, false] rfl rfl (any_of HT_.out (by kernel_rfl)) (fun _ _ _ h => h) (Or.inl ⟨by rfl, ?_⟩) ?_ ?_
             rotate_left
             ·intro w'
              go_simp
              with_reducible rfl
             rotate_left
             ·simp only [Act.put, List.setIfInBounds_toArray, List.set_cons_zero, List.set_cons_succ, i64_w, i32_w]
              rfl
             refine last_ (i := 10) (N := none) #[true, true, true, true, true, true, true, true, true, true, true] rfl rfl (one_of HT_.out (by kernel_rfl)) (by decide) (fun K hK => ?_)
             refine skip_ (w1 := ?_) (by rfl) rfl ?_ ?_
             rotate_left
             ·go_simp
              rfl
             refine hK.out _ _ ?_
             clear hK K
             refine done_ (done_of HT_.out (by kernel_rfl)) ?_
             try go_wp2
             (try simp only [← hl10_3])
             go_roundg k3
             case measure => have := HJ4.out; have := HJ14.out; have := HK3.out; omega
             case rel => exact ⟨(x10_3), (x12_3), (wrap64 (x17_3 + 1)), (x1043000_3), (y1082), (x1066000_3), (u1043000), (.slice (some ⟨go89, 0, none⟩) x1056000_3.length co94), (u1066000), (by first | rfl | (simp; done) | (simp [*]; done)), H', ⟨by have := HJ4.out; have := HJ14.out; have := HK3.out; omega⟩, ⟨by (try simp only [hl10_3]); (with_reducible repeat (first | apply Kd.R_alloc | apply Kd.R_drewN | apply Kd.R_drew)); exact Kd.R_mono (Kd.R_far (p := ⟨go89, (x17_3 : Int).toNat, none⟩) (Kd.R_mono HO_10.out (fun k_ hk => (⟨hk, fun e_ => hk.2.2.1 (by rw [e_]; rfl)⟩ : _ ∧ k_ ≠ go89))) (fun _ hk => hk.2) (.int .i64 (wrap64 ((rd x1056000_3 x17_3) + 1)))) (fun _ hk => ⟨hk.1.1, ⟨hk.1.2.1, ⟨hk.1.2.2.1, hk.1.2.2.2⟩⟩⟩)⟩, ⟨by (try simp only [hl10_3]); (with_reducible repeat (first | apply Kd.R_alloc | apply Kd.R_drewN | apply Kd.R_drew)); exact Kd.R_mono (Kd.R_far (p := ⟨go89, (x17_3 : Int).toNat, none⟩) (Kd.R_mono HO_12.out (fun k_ hk => (⟨hk, fun e_ => hk.2.2.1 (by rw [e_]; rfl)⟩ : _ ∧ k_ ≠ go89))) (fun _ hk => hk.2) (.int .i64 (wrap64 ((rd x1056000_3 x17_3) + 1)))) (fun _ hk => ⟨hk.1.1, ⟨hk.1.2.1, ⟨hk.1.2.2.1, hk.1.2.2.2⟩⟩⟩)⟩, ⟨by (try simp only [hl10_3]); (with_reducible repeat (first | apply Kd.R_alloc | apply Kd.R_drewN | apply Kd.R_drew)); exact Kd.R_mono (Kd.R_far (p := ⟨go89, (x17_3 : Int).toNat, none⟩) (Kd.R_mono HO_1043000.out (fun k_ hk => (⟨hk, fun e_ => hk.2.2.1 (by rw [e_]; rfl)⟩ : _ ∧ k_ ≠ go89))) (fun _ hk => hk.2) (.int .i64 (wrap64 ((rd x1056000_3 x17_3) + 1)))) (fun _ hk => ⟨hk.1.1, ⟨hk.1.2.1, ⟨hk.1.2.2.1, hk.1.2.2.2⟩⟩⟩)⟩, ⟨by (try simp only [hl10_3]); (with_reducible repeat (first | apply Kd.R_alloc | apply Kd.R_drewN | apply Kd.R_drew)); exact HQ96.out⟩, ⟨by (try simp only [hl10_3]); (with_reducible repeat (first | apply Kd.R_alloc | apply Kd.R_drewN | apply Kd.R_drew)); exact Kd.R_mono (Kd.R_far (p := ⟨go89, (x17_3 : Int).toNat, none⟩) (Kd.R_mono HO_1066000.out (fun k_ hk => (⟨hk, fun e_ => hk.2.2.2 (by rw [e_]; rfl)⟩ : _ ∧ k_ ≠ go89))) (fun _ hk => hk.2) (.int .i64 (wrap64 ((rd x1056000_3 x17_3) + 1)))) (fun _ hk => ⟨hk.1.1, ⟨hk.1.2.1, ⟨hk.1.2.2.1, hk.1.2.2.2⟩⟩⟩)⟩, ⟨by (try simp only [hl10_3]); (with_reducible repeat (first | refine blk_drewN ?_ _ | refine blk_drew ?_ | refine blk_alloc ?_ _)); refine blk_far ?_ (by have h_ := Kd.R_ne HO_1056000.out BK1038.out (by decide); intro e_; exact h_ (by rw [e_]; rfl)) _; (with_reducible repeat (first | refine blk_drewN ?_ _ | refine blk_drew ?_ | refine blk_alloc ?_ _)); exact BK1038.out⟩, ⟨by (try simp only [hl10_3]); (with_reducible repeat (first | refine blk_drewN ?_ _ | refine blk_drew ?_ | refine blk_alloc ?_ _)); refine blk_far ?_ (by have h_ := Kd.R_ne HO_1056000.out BK1042.out (by decide); intro e_; exact h_ (by rw [e_]; rfl)) _; (with_reducible repeat (first | refine blk_drewN ?_ _ | refine blk_drew ?_ | refine blk_alloc ?_ _)); exact BK1042.out⟩, ⟨by (try simp only [hl10_3]); (with_reducible repeat (first | refine blk_drewN ?_ _ | refine blk_drew ?_ | refine blk_alloc ?_ _)); refine blk_far ?_ (by have h_ := Kd.R_ne HO_1056000.out BK1055.out (by decide); intro e_; exact h_ (by rw [e_]; rfl)) _; (with_reducible repeat (first | refine blk_drewN ?_ _ | refine blk_drew ?_ | refine blk_alloc ?_ _)); exact BK1055.out⟩, ⟨by (try simp only [hl10_3]); (with_reducible repeat (first | refine blk_drewN ?_ _ | refine blk_drew ?_ | refine blk_alloc ?_ _)); refine blk_far ?_ (by have h_ := Kd.R_ne HO_1056000.out BK1065.out (by decide); intro e_; exact h_ (by rw [e_]; rfl)) _; (with_reducible repeat (first | refine blk_drewN ?_ _ | refine blk_drew ?_ | refine blk_alloc ?_ _)); exact BK1065.out⟩, ⟨by repeat (first | (with_reducible first | exact HB.out | apply below_alloc | apply pw_below_drewN | apply below_drew1 | refine below_set ?_ GB89.out | refine below_set ?_ GE1038.out | refine below_set ?_ GE1042.out | refine below_set ?_ GE1055.out | refine below_set ?_ GE1065.out) | exact HB.out)⟩⟩
            ·rw [if_neg c88] at H
             exact absurd H (by simp)
           ·rw [if_neg c87] at H
            have c87b0 : decide (x17_3 < (x1056000_3.length : Int)) = false := decide_eq_false c87
            clear c87
            have H' := Aside0.mk H
            clear H
            have hnb97 := NB1055_1038.out
            have hnc97 := NB1038_1055.out
            have hnb98 := NB1055_1042.out
            have hnc98 := NB1042_1055.out
            have hnb99 := NB1055_1065.out
            have hnc99 := NB1065_1055.out
            have hcz100_0 : wr.cell? ⟨gb1055, 0, none⟩ = some (u1056000) := (blk_cell BK1055.out 0).trans rfl
            have hcz100_1 : wr.cell? ⟨gb1055, 1, none⟩ = some (.int .u8 t1049) := (blk_cell BK1055.out 1).trans rfl
            have hcz100_2 : wr.cell? ⟨gb1055, 2, none⟩ = some (.int .u8 t1050) := (blk_cell BK1055.out 2).trans rfl
            have hfz100_0 := blk_frozen BK1055.out 0
            have hfz100_1 := blk_frozen BK1055.out 1
            have hfz100_2 := blk_frozen BK1055.out 2
            obtain ⟨Ao101, co101, eo101⟩ := Kd.R_slice HO_1056000.out
            subst eo101
            go_wp2
            go_loopg [18] k3 (fun kq v18 w' => ∃ (x12_4 : List Int) (x18_4 : Int), v18 = .int .i64 x18_4 ∧ Aside0 (reedpipelaw13_LapDoes.l1 kq l3 x10_3 x12_4 x18_4 l0_0 a0_1 a0_2 x1043000_3 a0_1 a0_2 = some r) ∧ Aside0 (kq ≤ k3) ∧ Aside0 (Kd.R (Kd.int .i64) 3 w' w.heap.size (fun k_ => some k_ ≠ (v1052 : Value).ownBlock ∧ some k_ ≠ (u1043000 : Value).ownBlock ∧ some k_ ≠ ((.slice Ao101 x1056000_3.length co101) : Value).ownBlock ∧ some k_ ≠ (u1066000 : Value).ownBlock) (.slice Ao28 x10_3.length co28) x10_3) ∧ Aside0 (Kd.R (Kd.int .i64) 3 w' w.heap.size (fun k_ => some k_ ≠ ((.slice Ao28 x10_3.length co28) : Value).ownBlock ∧ some k_ ≠ (u1043000 : Value).ownBlock ∧ some k_ ≠ ((.slice Ao101 x1056000_3.length co101) : Value).ownBlock ∧ some k_ ≠ (u1066000 : Value).ownBlock) v1052 x12_4) ∧ Aside0 (Kd.R (Kd.int .i64) 3 w' w.heap.size (fun k_ => some k_ ≠ ((.slice Ao28 x10_3.length co28) : Value).ownBlock ∧ some k_ ≠ (v1052 : Value).ownBlock ∧ some k_ ≠ ((.slice Ao101 x1056000_3.length co101) : Value).ownBlock ∧ some k_ ≠ (u1066000 : Value).ownBlock) u1043000 x1043000_3) ∧ Aside0 (Kd.R (Kd.int .i64) 3 w' w.heap.size (fun k_ => some k_ ≠ ((.slice Ao28 x10_3.length co28) : Value).ownBlock ∧ some k_ ≠ (v1052 : Value).ownBlock ∧ some k_ ≠ (u1043000 : Value).ownBlock ∧ some k_ ≠ (u1066000 : Value).ownBlock) (.slice Ao101 x1056000_3.length co101) x1056000_3) ∧ Aside0 (Kd.R (Kd.int .i64) 3 w' w.heap.size (fun k_ => some k_ ≠ ((.slice Ao28 x10_3.length co28) : Value).ownBlock ∧ some k_ ≠ (v1052 : Value).ownBlock ∧ some k_ ≠ (u1043000 : Value).ownBlock ∧ some k_ ≠ ((.slice Ao101 x1056000_3.length co101) : Value).ownBlock) u1066000 x1066000_3) ∧ Aside0 (w'.heap[gb1038]? = some (.cells #[(.slice A0_0 l0_0.length c0_0), .int .u8 a0_1, .int .u8 a0_2] 31 (0, 0))) ∧ Aside0 (w'.heap[gb1042]? = some (.cells #[u1043000, .int .u8 a0_1, .int .u8 a0_2] 31 (0, 0))) ∧ Aside0 (w'.heap[gb1055]? = some (.cells #[(.slice Ao101 x1056000_3.length co101), .int .u8 t1049, .int .u8 t1050] 31 (0, 0))) ∧ Aside0 (w'.heap[gb1065]? = some (.cells #[u1066000, .int .u8 t1059, .int .u8 t1060] 31 (0, 0))) ∧ Aside0 (Below w.heap.size w w'))
            case atStart => exact ⟨(x12_3), (0), (by first | rfl | (simp; done) | (simp [*]; done)), H', ⟨Nat.le_refl _⟩, ⟨by (try simp only [hl10_3]); (with_reducible repeat (first | apply Kd.R_alloc | apply Kd.R_drewN | apply Kd.R_drew)); exact HO_10.out⟩, ⟨by (try simp only [hl10_3]); (with_reducible repeat (first | apply Kd.R_alloc | apply Kd.R_drewN | apply Kd.R_drew)); exact HO_12.out⟩, ⟨by (try simp only [hl10_3]); (with_reducible repeat (first | apply Kd.R_alloc | apply Kd.R_drewN | apply Kd.R_drew)); exact HO_1043000.out⟩, ⟨by (try simp only [hl10_3]); (with_reducible repeat (first | apply Kd.R_alloc | apply Kd.R_drewN | apply Kd.R_drew)); exact HO_1056000.out⟩, ⟨by (try simp only [hl10_3]); (with_reducible repeat (first | apply Kd.R_alloc | apply Kd.R_drewN | apply Kd.R_drew)); exact HO_1066000.out⟩, ⟨by (try simp only [hl10_3]); (with_reducible repeat (first | refine blk_drewN ?_ _ | refine blk_drew ?_ | refine blk_alloc ?_ _)); exact BK1038.out⟩, ⟨by (try simp only [hl10_3]); (with_reducible repeat (first | refine blk_drewN ?_ _ | refine blk_drew ?_ | refine blk_alloc ?_ _)); exact BK1042.out⟩, ⟨by (try simp only [hl10_3]); (with_reducible repeat (first | refine blk_drewN ?_ _ | refine blk_drew ?_ | refine blk_alloc ?_ _)); exact BK1055.out⟩, ⟨by (try simp only [hl10_3]); (with_reducible repeat (first | refine blk_drewN ?_ _ | refine blk_drew ?_ | refine blk_alloc ?_ _)); exact BK1065.out⟩, ⟨by repeat (first | (with_reducible first | exact HB.out | apply below_alloc | apply pw_below_drewN | apply below_drew1 | refine below_set ?_ GE1038.out | refine below_set ?_ GE1042.out | refine below_set ?_ GE1055.out | refine below_set ?_ GE1065.out) | exact HB.out)⟩⟩
            case round => as_aux_lemma =>
             clear H'
             try clear p1
             try clear q1
             try clear hx1
             try clear p2
             try clear c4
             try clear c5
             try clear p6
             try clear c8
             try clear p8
             try clear q8
             try clear hx8
             try clear hf8
             try clear c9
             try clear p10
             try clear q10
             try clear hx10
             try clear c44
             try clear c50
             try clear c59
             try clear p64
             try clear c86
             try clear c87
             try clear c87b0
             try clear c88
             try clear c88b0
             try clear p89
             try clear q89
             try clear hx89
             try clear hf89
             try clear c90
             try clear c91
             try clear c92
             try clear c97
             try clear c98
             try clear c99
             try clear hcz100_0
             try clear hcz100_1
             try clear hcz100_2
             try clear hcz93_0
             try clear hcz93_1
             try clear hcz93_2
             try clear hfz100_0
             try clear hfz100_1
             try clear hfz100_2
             try clear hfz93_0
             try clear hfz93_1
             try clear hfz93_2
             try clear hx1081_0
             try clear hx89_0
             try clear p1081
             try clear p2
             try clear p89
             try clear q1081
             try clear q89
             obtain ⟨x12_4, x18_4, rfl, HA, HK4, HO_10, HO_12, HO_1043000, HO_1056000, HO_1066000, BK1038, BK1042, BK1055, BK1065, HB⟩ := hrel
             cases gk with
             | zero => exact absurd HA.out (by simp [reedpipelaw13_LapDoes.l1])
             | succ k4 =>
              have H := HA.out
              clear HA
              simp only [reedpipelaw13_LapDoes.l1] at H
              by_cases c102 : x18_4 < (x12_4.length : Int)
              ·rw [if_pos c102] at H
               have c102b0 : decide (x18_4 < (x12_4.length : Int)) = true := decide_eq_true c102
               clear c102
               by_cases c103 : 0 ≤ x18_4
               ·rw [if_pos c103] at H
                have c103b0 : decide (0 ≤ x18_4) = true := decide_eq_true c103
                clear c103
                obtain ⟨y1083, hy1083⟩ : ∃ y_ : List Int, y_ = (x12_4.set (x18_4 : Int).toNat 0) := ⟨_, rfl⟩
                replace H : (reedpipelaw13_LapDoes.l1 k4 l3 x10_3 y1083 (wrap64 (x18_4 + 1)) l0_0 a0_1 a0_2 x1043000_3 a0_1 a0_2) = some r := by first | (rw [hy1083]; with_reducible exact H) | (have H2_ := (Option.bind_some _ _).symm.trans H; rw [hy1083]; with_reducible exact H2_) | (have H2_ := (Option.bind_some _ _).symm.trans H; with_reducible exact H2_) | with_reducible exact H | (rw [hy1083]; exact H) | exact H
                have Ny1083 := Aside0.mk hy1083
                clear hy1083
                have H' := Aside0.mk H
                clear H
                obtain ⟨Ao105, co105, eo105⟩ := Kd.R_slice HO_12.out
                subst eo105
                have p104 : 0 ≤ (x18_4 : Int) := of_decide_eq_true (by first | (with_reducible assumption) | assumption)
                have q104 : (x18_4 : Int) < ((x12_4.length : Int) : Int) := of_decide_eq_true (by first | (with_reducible assumption) | assumption)
                obtain ⟨go104, co104, eo104, gb104, gl104, cl104, HG104⟩ := Kd.R_form HO_12.out (by omega)
                (first | cases eo104 | (injection eo104 with ea_ en_ ec_; (first | subst ea_ | (injection ea_ with ea_; subst ea_)); subst ec_; clear en_))
                have GB104 := Aside0.mk gb104
                have GG104 := Aside0.mk HG104
                clear gb104 gl104 HG104
                obtain ⟨hx104_0, hf104_0⟩ := Kd.R_celln 0 HO_12.out (x18_4 : Int) p104 q104
                replace p104 := eq_true p104
                replace q104 := eq_true q104
                have HP106 := Kd.R_putg HO_12.out (x18_4 : Int) 0
                go_wp2_with (first | ((with_reducible refine gate_store (t := 3) (p := 109) rfl ?_); refine store_event (t := 3) (p := 109) (v := ?vo_w107) (w1 := (wr.setCell ⟨go104, (x18_4 : Int).toNat, none⟩ (.int .i64 0))) ?hg ?ho ?hn ?hr ?_; (case ho => rfl); (case hg => rfl); (case hn => rfl); (case hr => first | (go_simp; done) | (go_simp; rfl)); intro w107 hw; have hg : wr.grownBy w107 (some go104) := (by rw [hw]; exact HP106.2); have hp_ : Kd.R (Kd.int .i64) 3 w107 w.heap.size (fun k_ => some k_ ≠ (.slice Ao28 x10_3.length co28 : Value).ownBlock ∧ some k_ ≠ (u1043000 : Value).ownBlock ∧ some k_ ≠ (.slice Ao101 x1056000_3.length co101 : Value).ownBlock ∧ some k_ ≠ (u1066000 : Value).ownBlock) (.slice (some ⟨go104, 0, none⟩) x12_4.length co105) y1083 := (by rw [hw, Ny1083.out]; exact HP106.1); clear HP106; have n0_ := Aside0.mk (Kd.R_after (v := (.slice (some ⟨go104, 0, none⟩) x12_4.length co105)) (v1 := (.slice (some ⟨go104, 0, none⟩) x12_4.length co105)) (ok := (fun k_ => some k_ ≠ (u1043000 : Value).ownBlock ∧ some k_ ≠ (.slice Ao101 x1056000_3.length co101 : Value).ownBlock ∧ some k_ ≠ (u1066000 : Value).ownBlock)) (by (with_reducible repeat (first | apply Kd.R_alloc | apply Kd.R_drewN | apply Kd.R_drew)); exact Kd.R_mono HO_10.out (fun _ hk => ⟨⟨hk.2.1, ⟨hk.2.2.1, hk.2.2.2⟩⟩, hk.1⟩)) hg (.inl rfl)); have n1_ := Aside0.mk (hp_); have n2_ := Aside0.mk (Kd.R_after (v := (.slice (some ⟨go104, 0, none⟩) x12_4.length co105)) (v1 := (.slice (some ⟨go104, 0, none⟩) x12_4.length co105)) (ok := (fun k_ => some k_ ≠ (.slice Ao28 x10_3.length co28 : Value).ownBlock ∧ some k_ ≠ (.slice Ao101 x1056000_3.length co101 : Value).ownBlock ∧ some k_ ≠ (u1066000 : Value).ownBlock)) (by (with_reducible repeat (first | apply Kd.R_alloc | apply Kd.R_drewN | apply Kd.R_drew)); exact Kd.R_mono HO_1043000.out (fun _ hk => ⟨⟨hk.1, ⟨hk.2.2.1, hk.2.2.2⟩⟩, hk.2.1⟩)) hg (.inl rfl)); have n3_ := Aside0.mk (Kd.R_after (v := (.slice (some ⟨go104, 0, none⟩) x12_4.length co105)) (v1 := (.slice (some ⟨go104, 0, none⟩) x12_4.length co105)) (ok := (fun k_ => some k_ ≠ (.slice Ao28 x10_3.length co28 : Value).ownBlock ∧ some k_ ≠ (u1043000 : Value).ownBlock ∧ some k_ ≠ (u1066000 : Value).ownBlock)) (by (with_reducible repeat (first | apply Kd.R_alloc | apply Kd.R_drewN | apply Kd.R_drew)); exact Kd.R_mono HO_1056000.out (fun _ hk => ⟨⟨hk.1, ⟨hk.2.2.1, hk.2.2.2⟩⟩, hk.2.1⟩)) hg (.inl rfl)); have n4_ := Aside0.mk (Kd.R_after (v := (.slice (some ⟨go104, 0, none⟩) x12_4.length co105)) (v1 := (.slice (some ⟨go104, 0, none⟩) x12_4.length co105)) (ok := (fun k_ => some k_ ≠ (.slice Ao28 x10_3.length co28 : Value).ownBlock ∧ some k_ ≠ (u1043000 : Value).ownBlock ∧ some k_ ≠ (.slice Ao101 x1056000_3.length co101 : Value).ownBlock)) (by (with_reducible repeat (first | apply Kd.R_alloc | apply Kd.R_drewN | apply Kd.R_drew)); exact Kd.R_mono HO_1066000.out (fun _ hk => ⟨⟨hk.1, ⟨hk.2.2.1, hk.2.2.2⟩⟩, hk.2.1⟩)) hg (.inl rfl)); have n5_ := Aside0.mk (blk_grown (g := gb1038) (o := .cells #[.slice A0_0 l0_0.length c0_0, .int .u8 a0_1, .int .u8 a0_2] 31 (0, 0)) (by (with_reducible repeat (first | refine blk_drewN ?_ _ | refine blk_drew ?_ | refine blk_alloc ?_ _)); exact BK1038.out) hg (Kd.R_ne HO_12.out BK1038.out (by decide))); have n6_ := Aside0.mk (blk_grown (g := gb1042) (o := .cells #[u1043000, .int .u8 a0_1, .int .u8 a0_2] 31 (0, 0)) (by (with_reducible repeat (first | refine blk_drewN ?_ _ | refine blk_drew ?_ | refine blk_alloc ?_ _)); exact BK1042.out) hg (Kd.R_ne HO_12.out BK1042.out (by decide))); have n7_ := Aside0.mk (blk_grown (g := gb1055) (o := .cells #[.slice Ao101 x1056000_3.length co101, .int .u8 t1049, .int .u8 t1050] 31 (0, 0)) (by (with_reducible repeat (first | refine blk_drewN ?_ _ | refine blk_drew ?_ | refine blk_alloc ?_ _)); exact BK1055.out) hg (Kd.R_ne HO_12.out BK1055.out (by decide))); have n8_ := Aside0.mk (blk_grown (g := gb1065) (o := .cells #[u1066000, .int .u8 t1059, .int .u8 t1060] 31 (0, 0)) (by (with_reducible repeat (first | refine blk_drewN ?_ _ | refine blk_drew ?_ | refine blk_alloc ?_ _)); exact BK1065.out) hg (Kd.R_ne HO_12.out BK1065.out (by decide))); have n9_ := Aside0.mk ((by rw [hw]; exact below_set (HB.out) GB104.out : Below w.heap.size w w107)); clear HO_10; clear HO_12; clear HO_1043000; clear HO_1056000; clear HO_1066000; clear BK1038; clear BK1042; clear BK1055; clear BK1065; clear HB; have HO_10 := n0_; have HO_12 := n1_; have HO_1043000 := n2_; have HO_1056000 := n3_; have HO_1066000 := n4_; have BK1038 := n5_; have BK1042 := n6_; have BK1055 := n7_; have BK1065 := n8_; have HB := n9_; clear n0_ n1_ n2_ n3_ n4_ n5_ n6_ n7_ n8_ n9_; clear hg hw hp_))
                go_roundg k4
                case measure => have := HJ4.out; have := HJ14.out; have := HK3.out; have := HK4.out; omega
                case rel => exact ⟨(y1083), (wrap64 (x18_4 + 1)), (by first | rfl | (simp; done) | (simp [*]; done)), H', ⟨by have := HJ4.out; have := HJ14.out; have := HK3.out; have := HK4.out; omega⟩, ⟨by (try simp only [hl10_3]); (with_reducible repeat (first | apply Kd.R_alloc | apply Kd.R_drewN | apply Kd.R_drew)); exact Kd.R_mono HO_10.out (fun _ hk => ⟨hk.2, ⟨hk.1.1, ⟨hk.1.2.1, hk.1.2.2⟩⟩⟩)⟩, ⟨by (try simp only [hl10_3]); (with_reducible repeat (first | apply Kd.R_alloc | apply Kd.R_drewN | apply Kd.R_drew)); exact HO_12.out⟩, ⟨by (try simp only [hl10_3]); (with_reducible repeat (first | apply Kd.R_alloc | apply Kd.R_drewN | apply Kd.R_drew)); exact Kd.R_mono HO_1043000.out (fun _ hk => ⟨hk.1.1, ⟨hk.2, ⟨hk.1.2.1, hk.1.2.2⟩⟩⟩)⟩, ⟨by (try simp only [hl10_3]); (with_reducible repeat (first | apply Kd.R_alloc | apply Kd.R_drewN | apply Kd.R_drew)); exact Kd.R_mono HO_1056000.out (fun _ hk => ⟨hk.1.1, ⟨hk.2, ⟨hk.1.2.1, hk.1.2.2⟩⟩⟩)⟩, ⟨by (try simp only [hl10_3]); (with_reducible repeat (first | apply Kd.R_alloc | apply Kd.R_drewN | apply Kd.R_drew)); exact Kd.R_mono HO_1066000.out (fun _ hk => ⟨hk.1.1, ⟨hk.2, ⟨hk.1.2.1, hk.1.2.2⟩⟩⟩)⟩, ⟨by (try simp only [hl10_3]); (with_reducible repeat (first | refine blk_drewN ?_ _ | refine blk_drew ?_ | refine blk_alloc ?_ _)); exact BK1038.out⟩, ⟨by (try simp only [hl10_3]); (with_reducible repeat (first | refine blk_drewN ?_ _ | refine blk_drew ?_ | refine blk_alloc ?_ _)); exact BK1042.out⟩, ⟨by (try simp only [hl10_3]); (with_reducible repeat (first | refine blk_drewN ?_ _ | refine blk_drew ?_ | refine blk_alloc ?_ _)); exact BK1055.out⟩, ⟨by (try simp only [hl10_3]); (with_reducible repeat (first | refine blk_drewN ?_ _ | refine blk_drew ?_ | refine blk_alloc ?_ _)); exact BK1065.out⟩, ⟨by repeat (first | (with_reducible first | exact HB.out | apply below_alloc | apply pw_below_drewN | apply below_drew1 | refine below_set ?_ GE1038.out | refine below_set ?_ GE1042.out | refine below_set ?_ GE1055.out | refine below_set ?_ GE1065.out) | exact HB.out)⟩⟩
               ·rw [if_neg c103] at H
                exact absurd H (by simp)
              ·rw [if_neg c102] at H
               have c102b0 : decide (x18_4 < (x12_4.length : Int)) = false := decide_eq_false c102
               clear c102
               replace H := Option.bind_eq_some_iff.mp H
               obtain ⟨t1084, A1080, H⟩ := H
               replace H : (if t1084 = true then ((reedpiperef11_Same.f k4 x10_3 l3).bind fun t1085 => (some t1085)) else (some false)) = some r := H
               have A108 := Aside0.mk A1080
               clear A1080
               by_cases c109 : t1084 = true
               ·subst c109
                have H1 : ((reedpiperef11_Same.f k4 x10_3 l3).bind fun t1085 => (some t1085)) = some r := by rw [if_pos rfl] at H; exact H
                clear H
                have H := H1
                clear H1
                replace H := Option.bind_eq_some_iff.mp H
                obtain ⟨t1085, A1100, H⟩ := H
                replace H : (some t1085) = some r := H
                have A110 := Aside0.mk A1100
                clear A1100
                obtain rfl := Option.some.inj H
                obtain ⟨Ao111, co111, eo111⟩ := Kd.R_slice HO_12.out
                subst eo111
                have hnb112 := NB1042_1038.out
                have hnc112 := NB1038_1042.out
                have hnb113 := NB1042_1055.out
                have hnc113 := NB1055_1042.out
                have hnb114 := NB1042_1065.out
                have hnc114 := NB1065_1042.out
                have hcz115_0 : wr.cell? ⟨gb1042, 0, none⟩ = some (u1043000) := (blk_cell BK1042.out 0).trans rfl
                have hcz115_1 : wr.cell? ⟨gb1042, 1, none⟩ = some (.int .u8 a0_1) := (blk_cell BK1042.out 1).trans rfl
                have hcz115_2 : wr.cell? ⟨gb1042, 2, none⟩ = some (.int .u8 a0_2) := (blk_cell BK1042.out 2).trans rfl
                have hfz115_0 := blk_frozen BK1042.out 0
                have hfz115_1 := blk_frozen BK1042.out 1
                have hfz115_2 := blk_frozen BK1042.out 2
                have hnb116 := NB1038_1055.out
                have hnc116 := NB1055_1038.out
                have hnb117 := NB1038_1065.out
                have hnc117 := NB1065_1038.out
                have hcz118_0 : wr.cell? ⟨gb1038, 0, none⟩ = some (.slice A0_0 l0_0.length c0_0) := (blk_cell BK1038.out 0).trans rfl
                have hcz118_1 : wr.cell? ⟨gb1038, 1, none⟩ = some (.int .u8 a0_1) := (blk_cell BK1038.out 1).trans rfl
                have hcz118_2 : wr.cell? ⟨gb1038, 2, none⟩ = some (.int .u8 a0_2) := (blk_cell BK1038.out 2).trans rfl
                have hfz118_0 := blk_frozen BK1038.out 0
                have hfz118_1 := blk_frozen BK1038.out 1
                have hfz118_2 := blk_frozen BK1038.out 2
                obtain ⟨Ao119, co119, eo119⟩ := Kd.R_slice HO_1043000.out
                subst eo119
                go_wp2_with (first | ((with_reducible refine gate_callee (f := 59) rfl ?_); refine goesL_ (some 112) rfl rfl Try.func59 (by kernel_rfl) rfl #[.agg #[.slice Ao119 x1043000_3.length co119, .int .u8 a0_1, .int .u8 a0_2], .agg #[.slice A0_0 l0_0.length c0_0, .int .u8 a0_1, .int .u8 a0_2]] rfl (by (try simp only [List.map_toArray, List.map_cons, List.map_nil]); first | done | rfl | (simp only [List.length_drop, List.length_take]; rfl)) ?_; (with_reducible refine (reedpiperef13_Same.calls k4 _ _ x1043000_3 a0_1 a0_2 _ _ l0_0 a0_1 a0_2 true _ ?side1 ?side2 ?side3 ?side4 A108.out).mono ?_); (case side1 => repeat (first | exact (Kd.R_reads' HO_1043000.out).2.2 | (with_reducible refine Kd.C_alloc ?_ _) | (with_reducible refine Kd.C_drewN ?_ _) | (with_reducible refine Kd.C_drew ?_))); (case side2 => exact (Kd.R_reads' HO_1043000.out).2.1); (case side3 => repeat (first | exact (Kd.C_below HR0_0.out HB.out) | (with_reducible refine Kd.C_alloc ?_ _) | (with_reducible refine Kd.C_drewN ?_ _) | (with_reducible refine Kd.C_drew ?_))); (case side4 => exact HC0_0.out); rintro e w120 ⟨rfl, hb⟩; refine ⟨_, rfl, ?_⟩; have n0_ := Aside0.mk (Kd.R_below (by (with_reducible repeat (first | apply Kd.R_alloc | apply Kd.R_drewN | apply Kd.R_drew)); exact HO_10.out) hb); have n1_ := Aside0.mk (Kd.R_below (by (with_reducible repeat (first | apply Kd.R_alloc | apply Kd.R_drewN | apply Kd.R_drew)); exact HO_12.out) hb); have n2_ := Aside0.mk (Kd.R_below (by (with_reducible repeat (first | apply Kd.R_alloc | apply Kd.R_drewN | apply Kd.R_drew)); exact HO_1043000.out) hb); have n3_ := Aside0.mk (Kd.R_below (by (with_reducible repeat (first | apply Kd.R_alloc | apply Kd.R_drewN | apply Kd.R_drew)); exact HO_1056000.out) hb); have n4_ := Aside0.mk (Kd.R_below (by (with_reducible repeat (first | apply Kd.R_alloc | apply Kd.R_drewN | apply Kd.R_drew)); exact HO_1066000.out) hb); have n5_ := Aside0.mk (blk_below (g := gb1038) (o := .cells #[.slice A0_0 l0_0.length c0_0, .int .u8 a0_1, .int .u8 a0_2] 31 (0, 0)) (by (with_reducible repeat (first | refine blk_drewN ?_ _ | refine blk_drew ?_ | refine blk_alloc ?_ _)); exact BK1038.out) hb); have n6_ := Aside0.mk (blk_below (g := gb1042) (o := .cells #[.slice Ao119 x1043000_3.length co119, .int .u8 a0_1, .int .u8 a0_2] 31 (0, 0)) (by (with_reducible repeat (first | refine blk_drewN ?_ _ | refine blk_drew ?_ | refine blk_alloc ?_ _)); exact BK1042.out) hb); have n7_ := Aside0.mk (blk_below (g := gb1055) (o := .cells #[.slice Ao101 x1056000_3.length co101, .int .u8 t1049, .int .u8 t1050] 31 (0, 0)) (by (with_reducible repeat (first | refine blk_drewN ?_ _ | refine blk_drew ?_ | refine blk_alloc ?_ _)); exact BK1055.out) hb); have n8_ := Aside0.mk (blk_below (g := gb1065) (o := .cells #[u1066000, .int .u8 t1059, .int .u8 t1060] 31 (0, 0)) (by (with_reducible repeat (first | refine blk_drewN ?_ _ | refine blk_drew ?_ | refine blk_alloc ?_ _)); exact BK1065.out) hb); have n9_ := Aside0.mk (below_step (by repeat (first | (with_reducible first | exact HB.out | apply below_alloc | apply pw_below_drewN | apply below_drew1 | refine below_set ?_ GE1038.out | refine below_set ?_ GE1042.out | refine below_set ?_ GE1055.out | refine below_set ?_ GE1065.out) | exact HB.out)) hb); clear HO_10; clear HO_12; clear HO_1043000; clear HO_1056000; clear HO_1066000; clear BK1038; clear BK1042; clear BK1055; clear BK1065; clear HB; have HO_10 := n0_; have HO_12 := n1_; have HO_1043000 := n2_; have HO_1056000 := n3_; have HO_1066000 := n4_; have BK1038 := n5_; have BK1042 := n6_; have BK1055 := n7_; have BK1065 := n8_; have HB := n9_; clear n0_ n1_ n2_ n3_ n4_ n5_ n6_ n7_ n8_ n9_; (try clear hb); (try clear hb2); (try clear hk); (try clear hi)) | (go_at_call 50; (with_reducible refine (reedpiperef11_Same.calls k4 _ _ x10_3 _ _ l3 t1085 _ ?side1 ?side2 ?side3 ?side4 A110.out).mono ?_); (case side1 => repeat (first | exact (Kd.R_reads' HO_10.out).2.2 | (with_reducible refine Kd.C_alloc ?_ _) | (with_reducible refine Kd.C_drewN ?_ _) | (with_reducible refine Kd.C_drew ?_))); (case side2 => exact (Kd.R_reads' HO_10.out).2.1); (case side3 => repeat (first | exact (Kd.C_below HR3.out HB.out) | (with_reducible refine Kd.C_alloc ?_ _) | (with_reducible refine Kd.C_drewN ?_ _) | (with_reducible refine Kd.C_drew ?_))); (case side4 => exact HC3.out); rintro e w' ⟨rfl, ⟨nd, rfl⟩⟩))
                go_ret
                exact ⟨by first | rfl | (simp [errW_none, errW_some] <;> rfl) | (simp [*, errW_none, errW_some] <;> rfl), by repeat (first | (with_reducible first | exact HB.out | apply below_alloc | apply pw_below_drewN | apply below_drew1 | refine below_set ?_ GE1038.out | refine below_set ?_ GE1042.out | refine below_set ?_ GE1055.out | refine below_set ?_ GE1065.out) | exact HB.out)⟩
               ·replace c109 := Bool.eq_false_iff.mpr c109
                subst c109
                have H1 : (some false) = some r := by rw [if_neg (show ¬ (false = true) by decide)] at H; exact H
                clear H
                have H := H1
                clear H1
                obtain rfl := Option.some.inj H
                obtain ⟨Ao121, co121, eo121⟩ := Kd.R_slice HO_12.out
                subst eo121
                have hnb122 := NB1042_1038.out
                have hnc122 := NB1038_1042.out
                have hnb123 := NB1042_1055.out
                have hnc123 := NB1055_1042.out
                have hnb124 := NB1042_1065.out
                have hnc124 := NB1065_1042.out
                have hcz125_0 : wr.cell? ⟨gb1042, 0, none⟩ = some (u1043000) := (blk_cell BK1042.out 0).trans rfl
                have hcz125_1 : wr.cell? ⟨gb1042, 1, none⟩ = some (.int .u8 a0_1) := (blk_cell BK1042.out 1).trans rfl
                have hcz125_2 : wr.cell? ⟨gb1042, 2, none⟩ = some (.int .u8 a0_2) := (blk_cell BK1042.out 2).trans rfl
                have hfz125_0 := blk_frozen BK1042.out 0
                have hfz125_1 := blk_frozen BK1042.out 1
                have hfz125_2 := blk_frozen BK1042.out 2
                have hnb126 := NB1038_1055.out
                have hnc126 := NB1055_1038.out
                have hnb127 := NB1038_1065.out
                have hnc127 := NB1065_1038.out
                have hcz128_0 : wr.cell? ⟨gb1038, 0, none⟩ = some (.slice A0_0 l0_0.length c0_0) := (blk_cell BK1038.out 0).trans rfl
                have hcz128_1 : wr.cell? ⟨gb1038, 1, none⟩ = some (.int .u8 a0_1) := (blk_cell BK1038.out 1).trans rfl
                have hcz128_2 : wr.cell? ⟨gb1038, 2, none⟩ = some (.int .u8 a0_2) := (blk_cell BK1038.out 2).trans rfl
                have hfz128_0 := blk_frozen BK1038.out 0
                have hfz128_1 := blk_frozen BK1038.out 1
                have hfz128_2 := blk_frozen BK1038.out 2
                obtain ⟨Ao129, co129, eo129⟩ := Kd.R_slice HO_1043000.out
                subst eo129
                go_wp2_with (first | ((with_reducible refine gate_callee (f := 59) rfl ?_); refine goesL_ (some 112) rfl rfl Try.func59 (by kernel_rfl) rfl #[.agg #[.slice Ao129 x1043000_3.length co129, .int .u8 a0_1, .int .u8 a0_2], .agg #[.slice A0_0 l0_0.length c0_0, .int .u8 a0_1, .int .u8 a0_2]] rfl (by (try simp only [List.map_toArray, List.map_cons, List.map_nil]); first | done | rfl | (simp only [List.length_drop, List.length_take]; rfl)) ?_; (with_reducible refine (reedpiperef13_Same.calls k4 _ _ x1043000_3 a0_1 a0_2 _ _ l0_0 a0_1 a0_2 false _ ?side1 ?side2 ?side3 ?side4 A108.out).mono ?_); (case side1 => repeat (first | exact (Kd.R_reads' HO_1043000.out).2.2 | (with_reducible refine Kd.C_alloc ?_ _) | (with_reducible refine Kd.C_drewN ?_ _) | (with_reducible refine Kd.C_drew ?_))); (case side2 => exact (Kd.R_reads' HO_1043000.out).2.1); (case side3 => repeat (first | exact (Kd.C_below HR0_0.out HB.out) | (with_reducible refine Kd.C_alloc ?_ _) | (with_reducible refine Kd.C_drewN ?_ _) | (with_reducible refine Kd.C_drew ?_))); (case side4 => exact HC0_0.out); rintro e w130 ⟨rfl, hb⟩; refine ⟨_, rfl, ?_⟩; have n0_ := Aside0.mk (Kd.R_below (by (with_reducible repeat (first | apply Kd.R_alloc | apply Kd.R_drewN | apply Kd.R_drew)); exact HO_10.out) hb); have n1_ := Aside0.mk (Kd.R_below (by (with_reducible repeat (first | apply Kd.R_alloc | apply Kd.R_drewN | apply Kd.R_drew)); exact HO_12.out) hb); have n2_ := Aside0.mk (Kd.R_below (by (with_reducible repeat (first | apply Kd.R_alloc | apply Kd.R_drewN | apply Kd.R_drew)); exact HO_1043000.out) hb); have n3_ := Aside0.mk (Kd.R_below (by (with_reducible repeat (first | apply Kd.R_alloc | apply Kd.R_drewN | apply Kd.R_drew)); exact HO_1056000.out) hb); have n4_ := Aside0.mk (Kd.R_below (by (with_reducible repeat (first | apply Kd.R_alloc | apply Kd.R_drewN | apply Kd.R_drew)); exact HO_1066000.out) hb); have n5_ := Aside0.mk (blk_below (g := gb1038) (o := .cells #[.slice A0_0 l0_0.length c0_0, .int .u8 a0_1, .int .u8 a0_2] 31 (0, 0)) (by (with_reducible repeat (first | refine blk_drewN ?_ _ | refine blk_drew ?_ | refine blk_alloc ?_ _)); exact BK1038.out) hb); have n6_ := Aside0.mk (blk_below (g := gb1042) (o := .cells #[.slice Ao129 x1043000_3.length co129, .int .u8 a0_1, .int .u8 a0_2] 31 (0, 0)) (by (with_reducible repeat (first | refine blk_drewN ?_ _ | refine blk_drew ?_ | refine blk_alloc ?_ _)); exact BK1042.out) hb); have n7_ := Aside0.mk (blk_below (g := gb1055) (o := .cells #[.slice Ao101 x1056000_3.length co101, .int .u8 t1049, .int .u8 t1050] 31 (0, 0)) (by (with_reducible repeat (first | refine blk_drewN ?_ _ | refine blk_drew ?_ | refine blk_alloc ?_ _)); exact BK1055.out) hb); have n8_ := Aside0.mk (blk_below (g := gb1065) (o := .cells #[u1066000, .int .u8 t1059, .int .u8 t1060] 31 (0, 0)) (by (with_reducible repeat (first | refine blk_drewN ?_ _ | refine blk_drew ?_ | refine blk_alloc ?_ _)); exact BK1065.out) hb); have n9_ := Aside0.mk (below_step (by repeat (first | (with_reducible first | exact HB.out | apply below_alloc | apply pw_below_drewN | apply below_drew1 | refine below_set ?_ GE1038.out | refine below_set ?_ GE1042.out | refine below_set ?_ GE1055.out | refine below_set ?_ GE1065.out) | exact HB.out)) hb); clear HO_10; clear HO_12; clear HO_1043000; clear HO_1056000; clear HO_1066000; clear BK1038; clear BK1042; clear BK1055; clear BK1065; clear HB; have HO_10 := n0_; have HO_12 := n1_; have HO_1043000 := n2_; have HO_1056000 := n3_; have HO_1066000 := n4_; have BK1038 := n5_; have BK1042 := n6_; have BK1055 := n7_; have BK1065 := n8_; have HB := n9_; clear n0_ n1_ n2_ n3_ n4_ n5_ n6_ n7_ n8_ n9_; (try clear hb); (try clear hb2); (try clear hk); (try clear hi)))
                go_ret
                exact ⟨by first | rfl | (simp [errW_none, errW_some] <;> rfl) | (simp [*, errW_none, errW_some] <;> rfl), by repeat (first | (with_reducible first | exact HB.out | apply below_alloc | apply pw_below_drewN | apply below_drew1 | refine below_set ?_ GE1038.out | refine below_set ?_ GE1042.out | refine below_set ?_ GE1055.out | refine below_set ?_ GE1065.out) | exact HB.out)⟩
     ·rw [if_neg c12] at H
      exact absurd H (by simp)
    ·rw [if_neg c11] at H
     exact absurd H (by simp)

end Go.Proofs.Ytpoppdaaodmicaa.Q
