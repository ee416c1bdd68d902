-- Written by a program of this session's (wip/mk.py, over the kit's print.py); Lean checks it.
import Derived.Test.YtpoppdaaodmicaaQ0
namespace Go.Proofs.Ytpoppdaaodmicaa.Q
open Go.RowKit Go.Proofs.YtpoppdaaodmicaaW.PrintWords Go.Proofs.YtpoppdaaodmicaaW.PrintLast Go.Proofs.YtpoppdaaodmicaaW.PrintMore
attribute [local go_sem] max2_int min2_int max_two min_two max_three min_three max_four min_four   -- for this text's walks alone
set_option linter.unusedVariables false
set_option linter.unusedSimpArgs false

mutual
def reedpiperef13_May.j0 : Nat → Bool → List Int → Int → Int → Option (Bool)
 | 0, _, _, _, _ => none
 | k + 1, x17, x992000, x992001, x992002 => if x17 = true then (some false) else (reedpiperef13_May.l0 k 0 x992000 x992001 x992002)
def reedpiperef13_May.l0 : Nat → Int → List Int → Int → Int → Option (Bool)
 | 0, _, _, _, _ => none
 | k + 1, x3, x992000, x992001, x992002 => if x3 < 256 then (if 0 ≤ x3 then (if x3 < (x992000.length : Int) then (if (rd x992000 x3) < (-1099511627776) then (some false) else (if (rd x992000 x3) > 1099511627776 then (some false) else (reedpiperef13_May.l0 k (wrap64 (x3 + 1)) x992000 x992001 x992002))) else (none)) else (none)) else (some true)
end
def reedpiperef13_May.f (k : Nat) (l0_0 : List Int) (a0_1 : Int) (a0_2 : Int) : Option (Bool) := if (l0_0.length : Int) = 256 then (if a0_1 > 3 then (reedpiperef13_May.j0 k true l0_0 a0_1 a0_2) else (reedpiperef13_May.j0 k (decide (a0_2 > 1)) l0_0 a0_1 a0_2)) else (reedpiperef13_May.j0 k true l0_0 a0_1 a0_2)
set_option maxHeartbeats 8000000 in
set_option maxRecDepth 100000 in
theorem reedpiperef13_May.calls (k : Nat) (A0_0 : Option Addr) (c0_0 : Nat) (l0_0 : List Int) (a0_1 : Int) (a0_2 : Int) (r : Bool) (w : World) (hr0_0 : Kd.C (Kd.int .i64) w A0_0 l0_0.length l0_0) (hc0_0 : l0_0.length ≤ c0_0) (h : reedpiperef13_May.f k l0_0 a0_1 a0_2 = some r) :
  Calls Try.prog 94 #[.agg #[.slice A0_0 l0_0.length c0_0, .int .u8 a0_1, .int .u8 a0_2]] w fun e w' => e = .returned (.bool r) ∧ Below w.heap.size w w' := by
 have hu31 := Try.underlying31
 have HR0_0 := Aside0.mk hr0_0
 have HC0_0 := Aside0.mk hc0_0
 clear hr0_0 hc0_0
 have HB := Aside0.mk (Below.refl w.heap.size w)
 have H : (if (l0_0.length : Int) = 256 then (if a0_1 > 3 then (reedpiperef13_May.j0 k true l0_0 a0_1 a0_2) else (reedpiperef13_May.j0 k (decide (a0_2 > 1)) l0_0 a0_1 a0_2)) else (reedpiperef13_May.j0 k true l0_0 a0_1 a0_2)) = some r := h
 clear h
 have HC2 := Aside0.mk H
 clear H
 go_enter Try.func94, Try.ntmps94
 go_upto_region 1 with (first | ((with_reducible refine gate_dst (N := 1) rfl ?_); refine box_event ?hg (N := 1) ?hd (cs := #[.slice A0_0 l0_0.length c0_0, .int .u8 a0_1, .int .u8 a0_2]) (t := 31) ?hr ?_; (case hd => rfl); (case hg => rfl); (case hr => first | (go_simp; done) | (go_simp; rfl)); intro gb991 hg w3 hbox hb; have n0_ := Aside0.mk (below_step (by repeat (first | (with_reducible first | exact HB.out | apply below_alloc | apply pw_below_drewN | apply below_drew1) | exact HB.out)) hb); have n1_ := Aside0.mk (hbox); have n2_ := Aside0.mk ((by rw [hg]; exact (below_size (by repeat (first | (with_reducible first | exact HB.out | apply below_alloc | apply pw_below_drewN | apply below_drew1) | exact HB.out))) : w.heap.size ≤ gb991)); have n3_ := Aside0.mk ((by rw [hg]; exact (below_size (by repeat (first | (with_reducible first | exact HB.out | apply below_alloc | apply pw_below_drewN | apply below_drew1) | exact HB.out))) : w.heap.size ≤ gb991)); clear HB; have HB := n0_; have BK991 := n1_; have GW991 := n2_; have GE991 := n3_; clear n0_ n1_ n2_ n3_; clear hb hbox hg))
 (try simp only [Act.put, List.setIfInBounds_toArray, List.set_cons_zero, List.set_cons_succ])
 go_cut [17] (fun v17 wc => ∃ (kq : Nat) (x17_1 : Bool), v17 = .bool x17_1 ∧ Aside0 (reedpiperef13_May.j0 kq x17_1 l0_0 a0_1 a0_2 = some r) ∧ Aside0 (kq ≤ k) ∧ Aside0 (wc.heap[gb991]? = some (.cells #[(.slice A0_0 l0_0.length c0_0), .int .u8 a0_1, .int .u8 a0_2] 31 (0, 0))) ∧ Aside0 (Below w.heap.size w wc))
 case first =>
  have H := HC2.out
  clear HC2
  by_cases c4 : (l0_0.length : Int) = 256
  ·rw [if_pos c4] at H
   have c4b0 : ((l0_0.length : Int) == 256) = true := beq_iff_eq.mpr c4
   have c4b1 : ((l0_0.length : Int) != 256) = false := bne_eq_false_iff_eq.mpr c4
   clear c4
   (first | rw [c4b0] | (simp only [i64_w, i32_w]; rw [c4b0]) | skip)
   by_cases c5 : a0_1 > 3
   ·rw [if_pos c5] at H
    have c5b0 : decide (3 < a0_1) = true := decide_eq_true c5
    clear c5
    have H' := Aside0.mk H
    clear H
    have hcz6_0 : w3.cell? ⟨gb991, 0, none⟩ = some (.slice A0_0 l0_0.length c0_0) := (blk_cell BK991.out 0).trans rfl
    have hcz6_1 : w3.cell? ⟨gb991, 1, none⟩ = some (.int .u8 a0_1) := (blk_cell BK991.out 1).trans rfl
    have hcz6_2 : w3.cell? ⟨gb991, 2, none⟩ = some (.int .u8 a0_2) := (blk_cell BK991.out 2).trans rfl
    have hfz6_0 := blk_frozen BK991.out 0
    have hfz6_1 := blk_frozen BK991.out 1
    have hfz6_2 := blk_frozen BK991.out 2
    go_wp2
    go_meet
    case rel => exact ⟨_, (true), (by first | rfl | (simp; done) | (simp [*]; done)), H', ⟨by first | omega | exact Nat.le_refl _⟩, ⟨by (with_reducible repeat (first | refine blk_drewN ?_ _ | refine blk_drew ?_ | refine blk_alloc ?_ _)); exact BK991.out⟩, ⟨by repeat (first | (with_reducible first | exact HB.out | apply below_alloc | apply pw_below_drewN | apply below_drew1 | refine below_set ?_ GE991.out) | exact HB.out)⟩⟩
   ·rw [if_neg c5] at H
    have c5b0 : decide (3 < a0_1) = false := decide_eq_false c5
    clear c5
    have H' := Aside0.mk H
    clear H
    have hcz7_0 : w3.cell? ⟨gb991, 0, none⟩ = some (.slice A0_0 l0_0.length c0_0) := (blk_cell BK991.out 0).trans rfl
    have hcz7_1 : w3.cell? ⟨gb991, 1, none⟩ = some (.int .u8 a0_1) := (blk_cell BK991.out 1).trans rfl
    have hcz7_2 : w3.cell? ⟨gb991, 2, none⟩ = some (.int .u8 a0_2) := (blk_cell BK991.out 2).trans rfl
    have hfz7_0 := blk_frozen BK991.out 0
    have hfz7_1 := blk_frozen BK991.out 1
    have hfz7_2 := blk_frozen BK991.out 2
    go_wp2
    go_meet
    case rel => exact ⟨_, (decide (a0_2 > 1)), (by first | rfl | (simp; done) | (simp [*]; done)), H', ⟨by first | omega | exact Nat.le_refl _⟩, ⟨by (with_reducible repeat (first | refine blk_drewN ?_ _ | refine blk_drew ?_ | refine blk_alloc ?_ _)); exact BK991.out⟩, ⟨by repeat (first | (with_reducible first | exact HB.out | apply below_alloc | apply pw_below_drewN | apply below_drew1 | refine below_set ?_ GE991.out) | exact HB.out)⟩⟩
  ·rw [if_neg c4] at H
   have c4b0 : ((l0_0.length : Int) == 256) = false := beq_eq_false_iff_ne.mpr c4
   have c4b1 : ((l0_0.length : Int) != 256) = true := bne_iff_ne.mpr c4
   (first | rw [c4b0] | (simp only [i64_w, i32_w]; rw [c4b0]) | skip)
   have H' := Aside0.mk H
   clear H
   have hcz8_0 : w3.cell? ⟨gb991, 0, none⟩ = some (.slice A0_0 l0_0.length c0_0) := (blk_cell BK991.out 0).trans rfl
   have hcz8_1 : w3.cell? ⟨gb991, 1, none⟩ = some (.int .u8 a0_1) := (blk_cell BK991.out 1).trans rfl
   have hcz8_2 : w3.cell? ⟨gb991, 2, none⟩ = some (.int .u8 a0_2) := (blk_cell BK991.out 2).trans rfl
   have hfz8_0 := blk_frozen BK991.out 0
   have hfz8_1 := blk_frozen BK991.out 1
   have hfz8_2 := blk_frozen BK991.out 2
   go_wp2
   go_meet
   case rel => exact ⟨_, (true), (by first | rfl | (simp; done) | (simp [*]; done)), H', ⟨by first | omega | exact Nat.le_refl _⟩, ⟨by (with_reducible repeat (first | refine blk_drewN ?_ _ | refine blk_drew ?_ | refine blk_alloc ?_ _)); exact BK991.out⟩, ⟨by repeat (first | (with_reducible first | exact HB.out | apply below_alloc | apply pw_below_drewN | apply below_drew1 | refine below_set ?_ GE991.out) | exact HB.out)⟩⟩
 case rest =>
  clear HC2
  try clear p2
  try clear c4
  try clear c4b0
  try clear c4b1
  try clear c5
  try clear c5b0
  try clear hcz6_0
  try clear hcz6_1
  try clear hcz6_2
  try clear hcz7_0
  try clear hcz7_1
  try clear hcz7_2
  try clear hcz8_0
  try clear hcz8_1
  try clear hcz8_2
  try clear hfz6_0
  try clear hfz6_1
  try clear hfz6_2
  try clear hfz7_0
  try clear hfz7_1
  try clear hfz7_2
  try clear hfz8_0
  try clear hfz8_1
  try clear hfz8_2
  obtain ⟨kq, x17_1, rfl, HA, HJ1, BK991, HB⟩ := hcut
  cases kq with
  | zero => exact absurd HA.out (by simp [reedpiperef13_May.j0])
  | succ kj1 =>
   have H := HA.out
   clear HA
   simp only [reedpiperef13_May.j0] at H
   by_cases c9 : x17_1 = true
   ·subst c9
    have H1 : (some false) = some r := by rw [if_pos rfl] at H; exact H
    clear H
    have H := H1
    clear H1
    obtain rfl := Option.some.inj H
    go_wp2
    go_ret
    exact ⟨by first | rfl | (simp [errW_none, errW_some] <;> rfl) | (simp [*, errW_none, errW_some] <;> rfl), by repeat (first | (with_reducible first | exact HB.out | apply below_alloc | apply pw_below_drewN | apply below_drew1 | refine below_set ?_ GE991.out) | exact HB.out)⟩
   ·replace c9 := Bool.eq_false_iff.mpr c9
    subst c9
    have H1 : (reedpiperef13_May.l0 kj1 0 l0_0 a0_1 a0_2) = some r := by rw [if_neg (show ¬ (false = true) by decide)] at H; exact H
    clear H
    have H := H1
    clear H1
    have H' := Aside0.mk H
    clear H
    go_wp2
    go_loopg [3] kj1 (fun kq v3 w' => ∃ (x3_2 : Int), v3 = .int .i64 x3_2 ∧ Aside0 (reedpiperef13_May.l0 kq x3_2 l0_0 a0_1 a0_2 = some r) ∧ Aside0 (kq ≤ kj1) ∧ Aside0 (w'.heap[gb991]? = some (.cells #[(.slice A0_0 l0_0.length c0_0), .int .u8 a0_1, .int .u8 a0_2] 31 (0, 0))) ∧ Aside0 (Below w.heap.size w w'))
    case atStart => exact ⟨(0), (by first | rfl | (simp; done) | (simp [*]; done)), H', ⟨Nat.le_refl _⟩, ⟨by (with_reducible repeat (first | refine blk_drewN ?_ _ | refine blk_drew ?_ | refine blk_alloc ?_ _)); exact BK991.out⟩, ⟨by repeat (first | (with_reducible first | exact HB.out | apply below_alloc | apply pw_below_drewN | apply below_drew1 | refine below_set ?_ GE991.out) | exact HB.out)⟩⟩
    case round =>
     clear H'
     try clear p2
     try clear c4
     try clear c4b0
     try clear c4b1
     try clear c5
     try clear c5b0
     try clear c9
     try clear hcz6_0
     try clear hcz6_1
     try clear hcz6_2
     try clear hcz7_0
     try clear hcz7_1
     try clear hcz7_2
     try clear hcz8_0
     try clear hcz8_1
     try clear hcz8_2
     try clear hfz6_0
     try clear hfz6_1
     try clear hfz6_2
     try clear hfz7_0
     try clear hfz7_1
     try clear hfz7_2
     try clear hfz8_0
     try clear hfz8_1
     try clear hfz8_2
     try clear p2
     obtain ⟨x3_2, rfl, HA, HK2, BK991, HB⟩ := hrel
     cases gk with
     | zero => exact absurd HA.out (by simp [reedpiperef13_May.l0])
     | succ k2 =>
      have H := HA.out
      clear HA
      simp only [reedpiperef13_May.l0] at H
      by_cases c10 : x3_2 < 256
      ·rw [if_pos c10] at H
       have c10b0 : decide (x3_2 < 256) = true := decide_eq_true c10
       clear c10
       by_cases c11 : 0 ≤ x3_2
       ·rw [if_pos c11] at H
        have c11b0 : decide (0 ≤ x3_2) = true := decide_eq_true c11
        clear c11
        by_cases c12 : x3_2 < (l0_0.length : Int)
        ·rw [if_pos c12] at H
         have c12b0 : decide (x3_2 < (l0_0.length : Int)) = true := decide_eq_true c12
         clear c12
         by_cases c13 : (rd l0_0 x3_2) < (-1099511627776)
         ·rw [if_pos c13] at H
          have c13b0 : decide ((rd l0_0 x3_2) < (-1099511627776)) = true := decide_eq_true c13
          clear c13
          obtain rfl := Option.some.inj H
          have hcz14_0 : wr.cell? ⟨gb991, 0, none⟩ = some (.slice A0_0 l0_0.length c0_0) := (blk_cell BK991.out 0).trans rfl
          have hcz14_1 : wr.cell? ⟨gb991, 1, none⟩ = some (.int .u8 a0_1) := (blk_cell BK991.out 1).trans rfl
          have hcz14_2 : wr.cell? ⟨gb991, 2, none⟩ = some (.int .u8 a0_2) := (blk_cell BK991.out 2).trans rfl
          have hfz14_0 := blk_frozen BK991.out 0
          have hfz14_1 := blk_frozen BK991.out 1
          have hfz14_2 := blk_frozen BK991.out 2
          have p992 : 0 ≤ (x3_2 : Int) := of_decide_eq_true (by first | (with_reducible assumption) | assumption)
          have q992 : x3_2 < (l0_0.length : Int) := of_decide_eq_true (by first | (with_reducible assumption) | assumption)
          obtain ⟨ad992, e992, hx992_0⟩ := Kd.at_int HR0_0.out x3_2 p992 q992
          cases e992
          replace hx992_0 := (HB.out.cell (World.block_lt_of_cell? w _ hx992_0)).trans hx992_0
          replace p992 := eq_true p992
          replace q992 := eq_true q992
          go_wp2
          go_ret
          exact ⟨by first | rfl | (simp [errW_none, errW_some] <;> rfl) | (simp [*, errW_none, errW_some] <;> rfl), by repeat (first | (with_reducible first | exact HB.out | apply below_alloc | apply pw_below_drewN | apply below_drew1 | refine below_set ?_ GE991.out) | exact HB.out)⟩
         ·rw [if_neg c13] at H
          have c13b0 : decide ((rd l0_0 x3_2) < (-1099511627776)) = false := decide_eq_false c13
          clear c13
          by_cases c15 : (rd l0_0 x3_2) > 1099511627776
          ·rw [if_pos c15] at H
           have c15b0 : decide (1099511627776 < (rd l0_0 x3_2)) = true := decide_eq_true c15
           clear c15
           obtain rfl := Option.some.inj H
           have hcz16_0 : wr.cell? ⟨gb991, 0, none⟩ = some (.slice A0_0 l0_0.length c0_0) := (blk_cell BK991.out 0).trans rfl
           have hcz16_1 : wr.cell? ⟨gb991, 1, none⟩ = some (.int .u8 a0_1) := (blk_cell BK991.out 1).trans rfl
           have hcz16_2 : wr.cell? ⟨gb991, 2, none⟩ = some (.int .u8 a0_2) := (blk_cell BK991.out 2).trans rfl
           have hfz16_0 := blk_frozen BK991.out 0
           have hfz16_1 := blk_frozen BK991.out 1
           have hfz16_2 := blk_frozen BK991.out 2
           have p992 : 0 ≤ (x3_2 : Int) := of_decide_eq_true (by first | (with_reducible assumption) | assumption)
           have q992 : x3_2 < (l0_0.length : Int) := of_decide_eq_true (by first | (with_reducible assumption) | assumption)
           obtain ⟨ad992, e992, hx992_0⟩ := Kd.at_int HR0_0.out x3_2 p992 q992
           cases e992
           replace hx992_0 := (HB.out.cell (World.block_lt_of_cell? w _ hx992_0)).trans hx992_0
           replace p992 := eq_true p992
           replace q992 := eq_true q992
           have p993 : 0 ≤ (x3_2 : Int) := of_decide_eq_true (by first | (with_reducible assumption) | assumption)
           have q993 : x3_2 < (l0_0.length : Int) := of_decide_eq_true (by first | (with_reducible assumption) | assumption)
           obtain ⟨ad993, e993, hx993_0⟩ := Kd.at_int HR0_0.out x3_2 p993 q993
           obtain rfl : ad992 = ad993 := (by injection e993)
           replace hx993_0 := (HB.out.cell (World.block_lt_of_cell? w _ hx993_0)).trans hx993_0
           replace p993 := eq_true p993
           replace q993 := eq_true q993
           go_wp2
           go_ret
           exact ⟨by first | rfl | (simp [errW_none, errW_some] <;> rfl) | (simp [*, errW_none, errW_some] <;> rfl), by repeat (first | (with_reducible first | exact HB.out | apply below_alloc | apply pw_below_drewN | apply below_drew1 | refine below_set ?_ GE991.out) | exact HB.out)⟩
          ·rw [if_neg c15] at H
           have c15b0 : decide (1099511627776 < (rd l0_0 x3_2)) = false := decide_eq_false c15
           clear c15
           have H' := Aside0.mk H
           clear H
           have hcz17_0 : wr.cell? ⟨gb991, 0, none⟩ = some (.slice A0_0 l0_0.length c0_0) := (blk_cell BK991.out 0).trans rfl
           have hcz17_1 : wr.cell? ⟨gb991, 1, none⟩ = some (.int .u8 a0_1) := (blk_cell BK991.out 1).trans rfl
           have hcz17_2 : wr.cell? ⟨gb991, 2, none⟩ = some (.int .u8 a0_2) := (blk_cell BK991.out 2).trans rfl
           have hfz17_0 := blk_frozen BK991.out 0
           have hfz17_1 := blk_frozen BK991.out 1
           have hfz17_2 := blk_frozen BK991.out 2
           have p992 : 0 ≤ (x3_2 : Int) := of_decide_eq_true (by first | (with_reducible assumption) | assumption)
           have q992 : x3_2 < (l0_0.length : Int) := of_decide_eq_true (by first | (with_reducible assumption) | assumption)
           obtain ⟨ad992, e992, hx992_0⟩ := Kd.at_int HR0_0.out x3_2 p992 q992
           cases e992
           replace hx992_0 := (HB.out.cell (World.block_lt_of_cell? w _ hx992_0)).trans hx992_0
           replace p992 := eq_true p992
           replace q992 := eq_true q992
           have p993 : 0 ≤ (x3_2 : Int) := of_decide_eq_true (by first | (with_reducible assumption) | assumption)
           have q993 : x3_2 < (l0_0.length : Int) := of_decide_eq_true (by first | (with_reducible assumption) | assumption)
           obtain ⟨ad993, e993, hx993_0⟩ := Kd.at_int HR0_0.out x3_2 p993 q993
           obtain rfl : ad992 = ad993 := (by injection e993)
           replace hx993_0 := (HB.out.cell (World.block_lt_of_cell? w _ hx993_0)).trans hx993_0
           replace p993 := eq_true p993
           replace q993 := eq_true q993
           go_wp2
           go_roundg k2
           case measure => have := HJ1.out; have := HK2.out; omega
           case rel => exact ⟨(wrap64 (x3_2 + 1)), (by first | rfl | (simp; done) | (simp [*]; done)), H', ⟨by have := HJ1.out; have := HK2.out; omega⟩, ⟨by (with_reducible repeat (first | refine blk_drewN ?_ _ | refine blk_drew ?_ | refine blk_alloc ?_ _)); exact BK991.out⟩, ⟨by repeat (first | (with_reducible first | exact HB.out | apply below_alloc | apply pw_below_drewN | apply below_drew1 | refine below_set ?_ GE991.out) | exact HB.out)⟩⟩
        ·rw [if_neg c12] at H
         exact absurd H (by simp)
       ·rw [if_neg c11] at H
        exact absurd H (by simp)
      ·rw [if_neg c10] at H
       have c10b0 : decide (x3_2 < 256) = false := decide_eq_false c10
       clear c10
       obtain rfl := Option.some.inj H
       go_wp2
       go_ret
       exact ⟨by first | rfl | (simp [errW_none, errW_some] <;> rfl) | (simp [*, errW_none, errW_some] <;> rfl), by repeat (first | (with_reducible first | exact HB.out | apply below_alloc | apply pw_below_drewN | apply below_drew1 | refine below_set ?_ GE991.out) | exact HB.out)⟩

end Go.Proofs.Ytpoppdaaodmicaa.Q
