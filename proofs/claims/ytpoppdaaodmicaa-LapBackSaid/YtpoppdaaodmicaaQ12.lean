-- Written by a program of this session's (wip/mk.py, over the kit's print.py); Lean checks it.
import Derived.Test.YtpoppdaaodmicaaQ0
import Derived.Test.YtpoppdaaodmicaaQ34
import Derived.Test.YtpoppdaaodmicaaBNext
import Derived.Test.YtpoppdaaodmicaaQ40
import Derived.Test.YtpoppdaaodmicaaQ41
import Derived.Test.YtpoppdaaodmicaaBRange
namespace Go.Proofs.Ytpoppdaaodmicaa.Q
open Go.RowKit Go.Proofs.YtpoppdaaodmicaaW.PrintWords Go.Proofs.YtpoppdaaodmicaaW.PrintLast Go.Proofs.YtpoppdaaodmicaaW.PrintMore
attribute [local go_sem] max2_int min2_int max_two min_two max_three min_three max_four min_four   -- for this text's walks alone
set_option linter.unusedVariables false
set_option linter.unusedSimpArgs false

/-! ### reedpipelaw13_LapBack: function 12 -/
mutual
def reedpipelaw13_LapBack.j0 : Nat → List Int → List (S44) → Bool → Bool → Option (Bool)
 | 0, _, _, _, _ => none
 | k + 1, x0, x1, x5, x44 => if x44 = true then (some x5) else (if 0 ≤ (x0.length : Int) then (if ((x0.length : Int) : Int).toNat ≤ 35184372088832 then (reedpipelaw13_LapBack.l0 k x0 x1 x5 (List.replicate ((x0.length : Int) : Int).toNat 0) 0) else (none)) else (none))
def reedpipelaw13_LapBack.l0 : Nat → List Int → List (S44) → Bool → List Int → Int → Option (Bool)
 | 0, _, _, _, _, _ => none
 | k + 1, x0, x1, x5, x6, x7 => if x7 < (x0.length : Int) then (if 0 ≤ x7 then (if x7 < (x6.length : Int) then (reedpipelaw13_LapBack.l0 k x0 x1 x5 (x6.set (x7 : Int).toNat (wrap64 (rd x0 x7))) (wrap64 (x7 + 1))) else (none)) else (none)) else ((lap_New.f).bind fun bt321 => (if 0 < (x1.length : Int) then (if ((rd_T44 x1 0).f0) = 2 then (reedpipelaw13_LapBack.j2 k x1 x5 x6 0 true bt321.1 bt321.2.1 bt321.2.2) else (reedpipelaw13_LapBack.j2 k x1 x5 x6 0 (((rd_T44 x1 0).f0) == 3) bt321.1 bt321.2.1 bt321.2.2)) else (none)))
def reedpipelaw13_LapBack.j2 : Nat → List (S44) → Bool → List Int → Int → Bool → List Int → Int → Int → Option (Bool)
 | 0, _, _, _, _, _, _, _, _ => none
 | k + 1, x1, x5, x6, x9, x75, x327000, x327001, x327002 => if x75 = true then (reedpipelaw13_LapBack.j3 k x1 x5 x6 1 x327000 x327001 x327002) else (reedpipelaw13_LapBack.j3 k x1 x5 x6 x9 x327000 x327001 x327002)
def reedpipelaw13_LapBack.j3 : Nat → List (S44) → Bool → List Int → Int → List Int → Int → Int → Option (Bool)
 | 0, _, _, _, _, _, _, _ => none
 | k + 1, x1, x5, x6, x9, x327000, x327001, x327002 => reedpipelaw13_LapBack.l1 k x1 x5 x6 x9 0 x327000 x327001 x327002
def reedpipelaw13_LapBack.l1 : Nat → List (S44) → Bool → List Int → Int → Int → List Int → Int → Int → Option (Bool)
 | 0, _, _, _, _, _, _, _, _ => none
 | k + 1, x1, x5, x6, x9, x10, x327000, x327001, x327002 => if x10 < (x1.length : Int) then (if 0 ≤ x10 then ((reedpipelaw13_follows.f x9 ((rd_T44 x1 x10).f0)).bind fun t330 => (if t330 = true then (reedpipelaw13_LapBack.j5 k x1 x5 x6 x10 (decide (((rd_T44 x1 x10).f1) > 1)) x327000 x327001 x327002) else (reedpipelaw13_LapBack.j5 k x1 x5 x6 x10 true x327000 x327001 x327002))) else (none)) else (some x5)
def reedpipelaw13_LapBack.j5 : Nat → List (S44) → Bool → List Int → Int → Bool → List Int → Int → Int → Option (Bool)
 | 0, _, _, _, _, _, _, _, _ => none
 | k + 1, x1, x5, x6, x10, x97, x327000, x327001, x327002 => if x97 = true then (some x5) else (if 0 ≤ x10 then (if x10 < (x1.length : Int) then (if 0 ≤ (wrap64 (256 * x10)) then (if (wrap64 (256 * x10)) ≤ (wrap64 ((wrap64 (256 * x10)) + 512)) then (if (wrap64 ((wrap64 (256 * x10)) + 512)) ≤ (x6.length : Int) then ((block_Analyse.f ((rd_T44 x1 x10).f0) x327002 ((rd_T44 x1 x10).f1) ((x6.take ((wrap64 ((wrap64 (256 * x10)) + 512)) : Int).toNat).drop ((wrap64 (256 * x10)) : Int).toNat)).bind fun bt338 => ((lap_Next.f x327000 x327001 x327002 ((rd_T44 x1 x10).f0) ((rd_T44 x1 x10).f1) bt338.1).bind fun bt344 => (if bt338.2 = 0 then (if bt344.2.2.2.2 = 0 then (if (bt344.2.2.2.1.length : Int) = 256 then ((lap_Check.f bt344.1 bt344.2.1 bt344.2.2.1).bind fun t354 => (reedpipelaw13_LapBack.j6 k x1 x5 x6 x10 bt344.2.2.2.1 (t354 != 0) bt344.1 bt344.2.1 bt344.2.2.1)) else (reedpipelaw13_LapBack.j6 k x1 x5 x6 x10 bt344.2.2.2.1 true bt344.1 bt344.2.1 bt344.2.2.1)) else (reedpipelaw13_LapBack.j6 k x1 x5 x6 x10 bt344.2.2.2.1 true bt344.1 bt344.2.1 bt344.2.2.1)) else (reedpipelaw13_LapBack.j6 k x1 x5 x6 x10 bt344.2.2.2.1 true bt344.1 bt344.2.1 bt344.2.2.1)))) else (none)) else (none)) else (none)) else (none)) else (none))
def reedpipelaw13_LapBack.j6 : Nat → List (S44) → Bool → List Int → Int → List Int → Bool → List Int → Int → Int → Option (Bool)
 | 0, _, _, _, _, _, _, _, _, _ => none
 | k + 1, x1, x5, x6, x10, x14, x154, x354000, x354001, x354002 => if x154 = true then (some false) else (reedpipelaw13_LapBack.l2 k x1 x5 x6 x10 x14 0 x354000 x354001 x354002)
def reedpipelaw13_LapBack.l2 : Nat → List (S44) → Bool → List Int → Int → List Int → Int → List Int → Int → Int → Option (Bool)
 | 0, _, _, _, _, _, _, _, _, _ => none
 | k + 1, x1, x5, x6, x10, x14, x16, x354000, x354001, x354002 => if x10 > 0 then (reedpipelaw13_LapBack.j8 k x1 x5 x6 x10 x14 x16 (decide (x16 < 256)) x354000 x354001 x354002) else (reedpipelaw13_LapBack.j8 k x1 x5 x6 x10 x14 x16 false x354000 x354001 x354002)
def reedpipelaw13_LapBack.j8 : Nat → List (S44) → Bool → List Int → Int → List Int → Int → Bool → List Int → Int → Int → Option (Bool)
 | 0, _, _, _, _, _, _, _, _, _, _ => none
 | k + 1, x1, x5, x6, x10, x14, x16, x160, x354000, x354001, x354002 => if x160 = true then (if 0 ≤ x16 then (if x16 < (x14.length : Int) then (if 0 ≤ (wrap64 ((wrap64 (256 * x10)) + x16)) then (if (wrap64 ((wrap64 (256 * x10)) + x16)) < (x6.length : Int) then (if (wrap64 ((rd x14 x16) - (rd x6 (wrap64 ((wrap64 (256 * x10)) + x16))))) > 2 then (some false) else (if (wrap64 ((rd x14 x16) - (rd x6 (wrap64 ((wrap64 (256 * x10)) + x16))))) < (-2) then (some false) else (reedpipelaw13_LapBack.l2 k x1 x5 x6 x10 x14 (wrap64 (x16 + 1)) x354000 x354001 x354002))) else (none)) else (none)) else (none)) else (none)) else (if 0 ≤ x10 then (if x10 < (x1.length : Int) then (reedpipelaw13_LapBack.l1 k x1 x5 x6 ((rd_T44 x1 x10).f0) (wrap64 (x10 + 1)) x354000 x354001 x354002) else (none)) else (none))
end
def reedpipelaw13_LapBack.f (k : Nat) (l0 : List Int) (l1 : List (S44)) : Option (Bool) := (reedpipelaw13_alive.f k).bind fun t315 => (if (l1.length : Int) < 1 then (reedpipelaw13_LapBack.j0 k l0 l1 t315 true) else (if (l1.length : Int) > 6 then (reedpipelaw13_LapBack.j0 k l0 l1 t315 true) else (if (l0.length : Int) < (wrap64 (256 * (wrap64 ((l1.length : Int) + 1)))) then (reedpipelaw13_LapBack.j0 k l0 l1 t315 true) else (if (l0.length : Int) > 4000 then (reedpipelaw13_LapBack.j0 k l0 l1 t315 true) else (reedpipelaw13_LapBack.j0 k l0 l1 t315 (!t315))))))
def reedpipelaw13_LapBack.T18 : Bool × List (List Nat × List Nat) := (true, [([], []), ([], []), ([0, 1], [0, 1]), ([2], [2]), ([3], [3]), ([], []), ([5], [5]), ([], []), ([], []), ([7, 8], [7, 8]), ([9], [9]), ([10], [10]), ([], []), ([], []), ([13], [13]), ([], []), ([15], [15]), ([16], [16]), ([12, 14, 17], [12, 14, 17]), ([4, 6, 11, 18], [4, 6, 11, 18]), ([19], [19]), ([20], [20]), ([20], [20]), ([21, 19, 0, 1, 2, 3, 4, 5, 6, 7, 8, 9, 10, 11, 12, 13, 14, 15, 16, 17, 18, 19, 20, 21], [21]), ([22, 23, 0, 1, 2, 3, 4, 5, 6, 7, 8, 9, 10, 11, 12, 13, 14, 15, 16, 17, 18, 19, 20, 21, 22, 23], [22])])
def reedpipelaw13_LapBack.B18 : List Nat := [0, 0, 3, 7, 15, 0, 32, 0, 0, 384, 896, 1920, 0, 0, 8192, 0, 32768, 98304, 258048, 524287, 1048575, 2097151, 2097151, 4194303, 16777215]
theorem reedpipelaw13_LapBack.tab18 : rtab .any (opsOf Try.f12 18) = reedpipelaw13_LapBack.T18 := by kernel_rfl
theorem reedpipelaw13_LapBack.bits18 : waitsOk reedpipelaw13_LapBack.T18.2 reedpipelaw13_LapBack.B18 = true := by kernel_rfl
def reedpipelaw13_LapBack.T19 : Bool × List (List Nat × List Nat) := (true, [([], []), ([], []), ([], []), ([1, 2], [1, 2]), ([3], [3]), ([4], [4]), ([], []), ([], []), ([6, 7], [6, 7]), ([8], [8]), ([9], [9]), ([], []), ([0, 5, 10, 11], [0, 5, 10, 11]), ([12], [12]), ([13], [13]), ([13], [13]), ([13], [13]), ([], []), ([17, 14, 12, 0, 1, 2, 3, 4, 5, 6, 7, 8, 9, 10, 11, 12, 13, 14, 17], [14, 17]), ([15, 18, 0, 1, 2, 3, 4, 5, 6, 7, 8, 9, 10, 11, 12, 13, 14, 15, 17, 18], [15]), ([16, 19, 0, 1, 2, 3, 4, 5, 6, 7, 8, 9, 10, 11, 12, 13, 14, 15, 16, 17, 18, 19], [16])])
def reedpipelaw13_LapBack.B19 : List Nat := [0, 0, 0, 6, 14, 30, 0, 0, 192, 448, 960, 0, 4095, 8191, 16383, 16383, 16383, 0, 163839, 458751, 1048575]
theorem reedpipelaw13_LapBack.tab19 : rtab .any (opsOf Try.f12 19) = reedpipelaw13_LapBack.T19 := by kernel_rfl
theorem reedpipelaw13_LapBack.bits19 : waitsOk reedpipelaw13_LapBack.T19.2 reedpipelaw13_LapBack.B19 = true := by kernel_rfl
def reedpipelaw13_LapBack.T25 : Bool × List (List Nat × List Nat) := (true, [([], []), ([], []), ([0, 1], [0, 1]), ([2], [2]), ([], []), ([], []), ([5], [5]), ([], []), ([6, 7], [6, 7]), ([4, 8], [4, 8]), ([9], [9]), ([3, 10], [3, 10]), ([11, 0, 1, 2, 3, 4, 5, 6, 7, 8, 9, 10, 11], [11])])
def reedpipelaw13_LapBack.B25 : List Nat := [0, 0, 3, 7, 0, 0, 32, 0, 224, 496, 1008, 2047, 4095]
theorem reedpipelaw13_LapBack.tab25 : rtab .any (opsOf Try.f12 25) = reedpipelaw13_LapBack.T25 := by kernel_rfl
theorem reedpipelaw13_LapBack.bits25 : waitsOk reedpipelaw13_LapBack.T25.2 reedpipelaw13_LapBack.B25 = true := by kernel_rfl
set_option maxHeartbeats 8000000 in
set_option maxRecDepth 100000 in
theorem reedpipelaw13_LapBack.calls (k : Nat) (A0 : Option Addr) (c0 : Nat) (l0 : List Int) (A1 : Option Addr) (c1 : Nat) (l1 : List (S44)) (r : Bool) (w : World) (hr0 : Kd.C (Kd.int .i16) w A0 l0.length l0) (hc0 : l0.length ≤ c0) (hr1 : Kd.C k44 w A1 l1.length l1) (hc1 : l1.length ≤ c1) (h : reedpipelaw13_LapBack.f k l0 l1 = some r) :
  Calls Try.prog 12 #[.slice A0 l0.length c0, .slice A1 l1.length c1] w fun e w' => e = .returned (.bool r) ∧ Below w.heap.size w w' := by
 have hu31 := Try.underlying31
 have HR0 := Aside0.mk hr0
 have HC0 := Aside0.mk hc0
 clear hr0 hc0
 have HR1 := Aside0.mk hr1
 have HC1 := Aside0.mk hc1
 clear hr1 hc1
 have HB := Aside0.mk (Below.refl w.heap.size w)
 have H : ((reedpipelaw13_alive.f k).bind fun t315 => (if (l1.length : Int) < 1 then (reedpipelaw13_LapBack.j0 k l0 l1 t315 true) else (if (l1.length : Int) > 6 then (reedpipelaw13_LapBack.j0 k l0 l1 t315 true) else (if (l0.length : Int) < (wrap64 (256 * (wrap64 ((l1.length : Int) + 1)))) then (reedpipelaw13_LapBack.j0 k l0 l1 t315 true) else (if (l0.length : Int) > 4000 then (reedpipelaw13_LapBack.j0 k l0 l1 t315 true) else (reedpipelaw13_LapBack.j0 k l0 l1 t315 (!t315))))))) = some r := h
 clear h
 replace H := Option.bind_eq_some_iff.mp H
 obtain ⟨t315, A30, H⟩ := H
 replace H : (if (l1.length : Int) < 1 then (reedpipelaw13_LapBack.j0 k l0 l1 t315 true) else (if (l1.length : Int) > 6 then (reedpipelaw13_LapBack.j0 k l0 l1 t315 true) else (if (l0.length : Int) < (wrap64 (256 * (wrap64 ((l1.length : Int) + 1)))) then (reedpipelaw13_LapBack.j0 k l0 l1 t315 true) else (if (l0.length : Int) > 4000 then (reedpipelaw13_LapBack.j0 k l0 l1 t315 true) else (reedpipelaw13_LapBack.j0 k l0 l1 t315 (!t315)))))) = some r := H
 have A3 := Aside0.mk A30
 clear A30
 have HC4 := Aside0.mk H
 clear H
 go_enter Try.func12, Try.ntmps12
 go_upto_region 2 with (first | ((with_reducible refine gate_callee (f := 34) rfl ?_); refine goesL_ (some 18) rfl rfl Try.func34 (by kernel_rfl) rfl #[] rfl (by (try simp only [List.map_toArray, List.map_cons, List.map_nil]); first | done | rfl | (simp only [List.length_drop, List.length_take]; rfl)) ?_; (with_reducible refine (reedpipelaw13_alive.calls k  t315 _ A3.out).mono ?_); rintro e w5 ⟨rfl, hb⟩; refine ⟨_, rfl, ?_⟩; have n0_ := Aside0.mk (below_step (by repeat (first | (with_reducible first | exact HB.out | apply below_alloc | apply pw_below_drewN | apply below_drew1) | exact HB.out)) hb); clear HB; have HB := n0_; clear n0_; (try clear hb); (try clear hb2); (try clear hk); (try clear hi)))
 (try simp only [Act.put, List.setIfInBounds_toArray, List.set_cons_zero, List.set_cons_succ])
 go_cut [44] (fun v44 wc => ∃ (kq : Nat) (x44_3 : Bool), v44 = .bool x44_3 ∧ Aside0 (reedpipelaw13_LapBack.j0 kq l0 l1 t315 x44_3 = some r) ∧ Aside0 (kq ≤ k) ∧ Aside0 (Below w.heap.size w wc))
 case first => as_aux_lemma =>
  have H := HC4.out
  clear HC4
  by_cases c6 : (l1.length : Int) < 1
  ·rw [if_pos c6] at H
   have c6b0 : decide ((l1.length : Int) < 1) = true := decide_eq_true c6
   have c6b1 : decide (l1.length < 1) = true := decide_eq_true (by omega)
   clear c6
   (first | rw [c6b0] | (simp only [i64_w, i32_w]; rw [c6b0]) | skip)
   have H' := Aside0.mk H
   clear H
   go_wp2
   go_meet
   case rel => exact ⟨_, (true), (by first | rfl | (simp; done) | (simp [*]; done)), H', ⟨by first | omega | exact Nat.le_refl _⟩, ⟨by repeat (first | (with_reducible first | exact HB.out | apply below_alloc | apply pw_below_drewN | apply below_drew1) | exact HB.out)⟩⟩
  ·rw [if_neg c6] at H
   have c6b0 : decide ((l1.length : Int) < 1) = false := decide_eq_false c6
   have c6b1 : decide (l1.length < 1) = false := decide_eq_false (by omega)
   clear c6
   (first | rw [c6b0] | (simp only [i64_w, i32_w]; rw [c6b0]) | skip)
   by_cases c7 : (l1.length : Int) > 6
   ·rw [if_pos c7] at H
    have c7b0 : decide (6 < (l1.length : Int)) = true := decide_eq_true c7
    have c7b1 : decide (6 < l1.length) = true := decide_eq_true (by omega)
    clear c7
    have H' := Aside0.mk H
    clear H
    go_wp2
    go_meet
    case rel => exact ⟨_, (true), (by first | rfl | (simp; done) | (simp [*]; done)), H', ⟨by first | omega | exact Nat.le_refl _⟩, ⟨by repeat (first | (with_reducible first | exact HB.out | apply below_alloc | apply pw_below_drewN | apply below_drew1) | exact HB.out)⟩⟩
   ·rw [if_neg c7] at H
    have c7b0 : decide (6 < (l1.length : Int)) = false := decide_eq_false c7
    have c7b1 : decide (6 < l1.length) = false := decide_eq_false (by omega)
    clear c7
    by_cases c8 : (l0.length : Int) < (wrap64 (256 * (wrap64 ((l1.length : Int) + 1))))
    ·rw [if_pos c8] at H
     have c8b0 : decide ((l0.length : Int) < (wrap64 (256 * (wrap64 ((l1.length : Int) + 1))))) = true := decide_eq_true c8
     clear c8
     have H' := Aside0.mk H
     clear H
     go_wp2
     go_meet
     case rel => exact ⟨_, (true), (by first | rfl | (simp; done) | (simp [*]; done)), H', ⟨by first | omega | exact Nat.le_refl _⟩, ⟨by repeat (first | (with_reducible first | exact HB.out | apply below_alloc | apply pw_below_drewN | apply below_drew1) | exact HB.out)⟩⟩
    ·rw [if_neg c8] at H
     have c8b0 : decide ((l0.length : Int) < (wrap64 (256 * (wrap64 ((l1.length : Int) + 1))))) = false := decide_eq_false c8
     clear c8
     by_cases c9 : (l0.length : Int) > 4000
     ·rw [if_pos c9] at H
      have c9b0 : decide (4000 < (l0.length : Int)) = true := decide_eq_true c9
      have c9b1 : decide (4000 < l0.length) = true := decide_eq_true (by omega)
      clear c9
      have H' := Aside0.mk H
      clear H
      go_wp2
      go_meet
      case rel => exact ⟨_, (true), (by first | rfl | (simp; done) | (simp [*]; done)), H', ⟨by first | omega | exact Nat.le_refl _⟩, ⟨by repeat (first | (with_reducible first | exact HB.out | apply below_alloc | apply pw_below_drewN | apply below_drew1) | exact HB.out)⟩⟩
     ·rw [if_neg c9] at H
      have c9b0 : decide (4000 < (l0.length : Int)) = false := decide_eq_false c9
      have c9b1 : decide (4000 < l0.length) = false := decide_eq_false (by omega)
      clear c9
      have H' := Aside0.mk H
      clear H
      go_wp2
      go_meet
      case rel => exact ⟨_, (!t315), (by first | rfl | (simp; done) | (simp [*]; done)), H', ⟨by first | omega | exact Nat.le_refl _⟩, ⟨by repeat (first | (with_reducible first | exact HB.out | apply below_alloc | apply pw_below_drewN | apply below_drew1) | exact HB.out)⟩⟩
 case rest => as_aux_lemma =>
  clear HC4
  try clear c1
  try clear p2
  try clear c3
  try clear c6
  try clear c6b0
  try clear c6b1
  try clear p6
  try clear c7
  try clear c7b0
  try clear c7b1
  try clear c8
  try clear c8b0
  try clear c9
  try clear c9b0
  try clear c9b1
  obtain ⟨kq, x44_3, rfl, HA, HJ3, HB⟩ := hcut
  cases kq with
  | zero => exact absurd HA.out (by simp [reedpipelaw13_LapBack.j0])
  | succ kj3 =>
   have H := HA.out
   clear HA
   simp only [reedpipelaw13_LapBack.j0] at H
   by_cases c10 : x44_3 = true
   ·subst c10
    have H1 : (some t315) = some r := by rw [if_pos rfl] at H; exact H
    clear H
    have H := H1
    clear H1
    obtain rfl := Option.some.inj H
    go_wp2
    go_ret
    exact ⟨by first | rfl | (simp [errW_none, errW_some] <;> rfl) | (simp [*, errW_none, errW_some] <;> rfl), by repeat (first | (with_reducible first | exact HB.out | apply below_alloc | apply pw_below_drewN | apply below_drew1) | exact HB.out)⟩
   ·replace c10 := Bool.eq_false_iff.mpr c10
    subst c10
    have H1 : (if 0 ≤ (l0.length : Int) then (if ((l0.length : Int) : Int).toNat ≤ 35184372088832 then (reedpipelaw13_LapBack.l0 kj3 l0 l1 t315 (List.replicate ((l0.length : Int) : Int).toNat 0) 0) else (none)) else (none)) = some r := by rw [if_neg (show ¬ (false = true) by decide)] at H; exact H
    clear H
    have H := H1
    clear H1
    by_cases c11 : 0 ≤ (l0.length : Int)
    ·rw [if_pos c11] at H
     have c11b0 := eq_true c11
     have c11b1 : decide (0 ≤ (l0.length : Int)) = true := decide_eq_true c11
     clear c11
     by_cases c12 : ((l0.length : Int) : Int).toNat ≤ 35184372088832
     ·rw [if_pos c12] at H
      have c12b0 := eq_true c12
      have c12b1 : decide (((l0.length : Int) : Int).toNat ≤ 35184372088832) = true := decide_eq_true c12
      clear c12
      obtain ⟨y316, hy316⟩ : ∃ y_ : List Int, y_ = (List.replicate ((l0.length : Int) : Int).toNat 0) := ⟨_, rfl⟩
      replace H : (reedpipelaw13_LapBack.l0 kj3 l0 l1 t315 y316 0) = some r := by first | (rw [hy316]; with_reducible exact H) | (have H2_ := (Option.bind_some _ _).symm.trans H; rw [hy316]; with_reducible exact H2_) | (have H2_ := (Option.bind_some _ _).symm.trans H; with_reducible exact H2_) | with_reducible exact H | (rw [hy316]; exact H) | exact H
      have Ny316 := Aside0.mk hy316
      clear hy316
      have H' := Aside0.mk H
      clear H
      go_wp2_with (first | ((with_reducible refine gate_dst (N := 48) rfl ?_); (try (refine gate_guard (by rfl) ?_; dsimp only)); refine Kd.R_make (Kd.int .i64) _ 3 rfl (N := 48) rfl 29 _ _ rfl (l0.length : Int) rfl rfl Try.underlying29 (.int .i64 0) 8 info3 rfl (by decide) (by omega) 0 (ok := fun _ => True) (okp := fun _ => True) rfl (fun _ hk => hk) trivial (of_decide_eq_true (by first | (with_reducible assumption) | assumption)) (Nat.le_trans (Nat.mul_le_mul_right _ (of_decide_eq_true (by first | (with_reducible assumption) | assumption) : (l0.length : Int).toNat ≤ 35184372088832)) (by omega)) (Below.refl _ _) (Nat.le_refl _) ?_; intro v317 w13 ho14 hb hg_ hnew_; clear hg_ hnew_; (first | rw [← Ny316.out] at ho14 | (simp only [Int.reduceToNat] at ho14; rw [← Ny316.out] at ho14)); have n0_ := Aside0.mk (Kd.R_lower ho14 (below_size (by repeat (first | (with_reducible first | exact HB.out | apply below_alloc | apply pw_below_drewN | apply below_drew1) | exact HB.out)))); have n1_ := Aside0.mk (below_step (by repeat (first | (with_reducible first | exact HB.out | apply below_alloc | apply pw_below_drewN | apply below_drew1) | exact HB.out)) hb); clear HB; have HO318 := n0_; have HB := n1_; clear n0_ n1_; clear hb ho14))
      go_loopg [7] kj3 (fun kq v7 w' => ∃ (x6_2 : List Int) (x7_2 : Int), v7 = .int .i64 x7_2 ∧ Aside0 (reedpipelaw13_LapBack.l0 kq l0 l1 t315 x6_2 x7_2 = some r) ∧ Aside0 (kq ≤ kj3) ∧ Aside0 (Kd.R (Kd.int .i64) 3 w' w.heap.size (fun _ => True) v317 x6_2) ∧ Aside0 (Below w.heap.size w w'))
      case atStart => exact ⟨(y316), (0), (by first | rfl | (simp; done) | (simp [*]; done)), H', ⟨Nat.le_refl _⟩, ⟨by (with_reducible repeat (first | apply Kd.R_alloc | apply Kd.R_drewN | apply Kd.R_drew)); exact HO318.out⟩, ⟨by repeat (first | (with_reducible first | exact HB.out | apply below_alloc | apply pw_below_drewN | apply below_drew1) | exact HB.out)⟩⟩
      case round => as_aux_lemma =>
       clear H'
       try clear c1
       try clear p2
       try clear c3
       try clear c6
       try clear c6b0
       try clear c6b1
       try clear p6
       try clear c7
       try clear c7b0
       try clear c7b1
       try clear c8
       try clear c8b0
       try clear c9
       try clear c9b0
       try clear c9b1
       try clear c10
       try clear c11
       try clear c11b0
       try clear c11b1
       try clear c12
       try clear c12b0
       try clear c12b1
       try clear p2
       try clear p6
       obtain ⟨x6_2, x7_2, rfl, HA, HK2, HO_6, HB⟩ := hrel
       cases gk with
       | zero => exact absurd HA.out (by simp [reedpipelaw13_LapBack.l0])
       | succ k2 =>
        have H := HA.out
        clear HA
        simp only [reedpipelaw13_LapBack.l0] at H
        by_cases c15 : x7_2 < (l0.length : Int)
        ·rw [if_pos c15] at H
         have c15b0 : decide (x7_2 < (l0.length : Int)) = true := decide_eq_true c15
         clear c15
         by_cases c16 : 0 ≤ x7_2
         ·rw [if_pos c16] at H
          have c16b0 : decide (0 ≤ x7_2) = true := decide_eq_true c16
          clear c16
          by_cases c17 : x7_2 < (x6_2.length : Int)
          ·rw [if_pos c17] at H
           have c17b0 : decide (x7_2 < (x6_2.length : Int)) = true := decide_eq_true c17
           clear c17
           obtain ⟨y320, hy320⟩ : ∃ y_ : List Int, y_ = (x6_2.set (x7_2 : Int).toNat (wrap64 (rd l0 x7_2))) := ⟨_, rfl⟩
           replace H : (reedpipelaw13_LapBack.l0 k2 l0 l1 t315 y320 (wrap64 (x7_2 + 1))) = some r := by first | (rw [hy320]; with_reducible exact H) | (have H2_ := (Option.bind_some _ _).symm.trans H; rw [hy320]; with_reducible exact H2_) | (have H2_ := (Option.bind_some _ _).symm.trans H; with_reducible exact H2_) | with_reducible exact H | (rw [hy320]; exact H) | exact H
           have Ny320 := Aside0.mk hy320
           clear hy320
           have H' := Aside0.mk H
           clear H
           have p319 : 0 ≤ (x7_2 : Int) := of_decide_eq_true (by first | (with_reducible assumption) | assumption)
           have q319 : x7_2 < (l0.length : Int) := of_decide_eq_true (by first | (with_reducible assumption) | assumption)
           obtain ⟨ad319, e319, hx319_0⟩ := Kd.at_int HR0.out x7_2 p319 q319
           cases e319
           replace hx319_0 := (HB.out.cell (World.block_lt_of_cell? w _ hx319_0)).trans hx319_0
           replace p319 := eq_true p319
           replace q319 := eq_true q319
           have p18 : 0 ≤ (x7_2 : Int) := of_decide_eq_true (by first | (with_reducible assumption) | assumption)
           have q18 : (x7_2 : Int) < ((x6_2.length : Int) : Int) := of_decide_eq_true (by first | (with_reducible assumption) | assumption)
           obtain ⟨go18, co18, eo18, gb18, gl18, cl18, HG18⟩ := Kd.R_form HO_6.out (by omega)
           (first | cases eo18 | (injection eo18 with ea_ en_ ec_; (first | subst ea_ | (injection ea_ with ea_; subst ea_)); subst ec_; clear en_))
           have GB18 := Aside0.mk gb18
           have GG18 := Aside0.mk HG18
           clear gb18 gl18 HG18
           obtain ⟨hx18_0, hf18_0⟩ := Kd.R_celln 0 HO_6.out (x7_2 : Int) p18 q18
           replace p18 := eq_true p18
           replace q18 := eq_true q18
           have HP19 := Kd.R_putg HO_6.out (x7_2 : Int) (wrap64 (rd l0 x7_2))
           go_wp2_with (first | ((with_reducible refine gate_store (t := 3) (p := 62) rfl ?_); refine store_event (t := 3) (p := 62) (v := ?vo_w20) (w1 := (wr.setCell ⟨go18, (x7_2 : Int).toNat, none⟩ (.int .i64 (wrap64 (rd l0 x7_2))))) ?hg ?ho ?hn ?hr ?_; (case ho => rfl); (case hg => rfl); (case hn => rfl); (case hr => first | (go_simp; done) | (go_simp; rfl)); intro w20 hw; have hg : wr.grownBy w20 (some go18) := (by rw [hw]; exact HP19.2); have hp_ : Kd.R (Kd.int .i64) 3 w20 w.heap.size (fun _ => True) (.slice (some ⟨go18, 0, none⟩) x6_2.length co18) y320 := (by rw [hw, Ny320.out]; exact HP19.1); clear HP19; have n0_ := Aside0.mk (hp_); have n1_ := Aside0.mk ((by rw [hw]; exact below_set (HB.out) GB18.out : Below w.heap.size w w20)); clear HO_6; clear HB; have HO_6 := n0_; have HB := n1_; clear n0_ n1_; clear hg hw hp_))
           go_roundg k2
           case measure => have := HJ3.out; have := HK2.out; omega
           case rel => exact ⟨(y320), (wrap64 (x7_2 + 1)), (by first | rfl | (simp; done) | (simp [*]; done)), H', ⟨by have := HJ3.out; have := HK2.out; omega⟩, ⟨by (with_reducible repeat (first | apply Kd.R_alloc | apply Kd.R_drewN | apply Kd.R_drew)); exact HO_6.out⟩, ⟨by repeat (first | (with_reducible first | exact HB.out | apply below_alloc | apply pw_below_drewN | apply below_drew1) | exact HB.out)⟩⟩
          ·rw [if_neg c17] at H
           exact absurd H (by simp)
         ·rw [if_neg c16] at H
          exact absurd H (by simp)
        ·rw [if_neg c15] at H
         have c15b0 : decide (x7_2 < (l0.length : Int)) = false := decide_eq_false c15
         clear c15
         replace H := Option.bind_eq_some_iff.mp H
         obtain ⟨⟨t321, t324, t325⟩, A210, H⟩ := H
         replace H : (if 0 < (l1.length : Int) then (if ((rd_T44 l1 0).f0) = 2 then (reedpipelaw13_LapBack.j2 k2 l1 t315 x6_2 0 true t321 t324 t325) else (reedpipelaw13_LapBack.j2 k2 l1 t315 x6_2 0 (((rd_T44 l1 0).f0) == 3) t321 t324 t325)) else (none)) = some r := H
         have A21 := Aside0.mk A210
         clear A210
         have HC22 := Aside0.mk H
         clear H
         go_upto_region 11 with (first | ((with_reducible refine gate_callee (f := 40) rfl ?_); refine goesL_ (some 63) rfl rfl Try.func40 (by kernel_rfl) rfl #[] rfl (by (try simp only [List.map_toArray, List.map_cons, List.map_nil]); first | done | rfl | (simp only [List.length_drop, List.length_take]; rfl)) ?_; (with_reducible refine (lap_New.calls  t321 t324 t325 _ A21.out).mono ?_); rintro e w23 ⟨v322, rfl, ho0, hb⟩; refine ⟨_, rfl, ?_⟩; have n0_ := Aside0.mk (Kd.R_elder' (by (with_reducible repeat (first | apply Kd.R_alloc | apply Kd.R_drewN | apply Kd.R_drew)); exact HO_6.out) (Kd.R_base ho0) hb); have n1_ := Aside0.mk (Kd.R_lower (Kd.R_new' ho0 (Kd.R_lt (by (with_reducible repeat (first | apply Kd.R_alloc | apply Kd.R_drewN | apply Kd.R_drew)); exact HO_6.out))) (below_size (by repeat (first | (with_reducible first | exact HB.out | apply below_alloc | apply pw_below_drewN | apply below_drew1) | exact HB.out)))); have n2_ := Aside0.mk (below_step (by repeat (first | (with_reducible first | exact HB.out | apply below_alloc | apply pw_below_drewN | apply below_drew1) | exact HB.out)) hb); clear HO_6; clear HB; have HO_6 := n0_; have HO323 := n1_; have HB := n2_; clear n0_ n1_ n2_; (try clear hb); (try clear hb2); (try clear hk); (try clear hi); (try clear ho0)) | ((with_reducible refine gate_dst (N := 8) rfl ?_); (try (refine gate_guard (by rfl) ?_; dsimp only)); refine box_event ?hg (N := 8) ?hd (cs := #[.slice none 0 0, .int .u8 0, .int .u8 0]) (t := 31) ?hr ?_; (case hd => rfl); (case hg => rfl); (case hr => first | (go_simp; done) | (go_simp; rfl)); intro gb326 hg w24 hbox hb; have n0_ := Aside0.mk (Kd.R_below (by (with_reducible repeat (first | apply Kd.R_alloc | apply Kd.R_drewN | apply Kd.R_drew)); exact HO_6.out) hb); have n1_ := Aside0.mk (Kd.R_below (by (with_reducible repeat (first | apply Kd.R_alloc | apply Kd.R_drewN | apply Kd.R_drew)); exact HO323.out) hb); have n2_ := Aside0.mk (below_step (by repeat (first | (with_reducible first | exact HB.out | apply below_alloc | apply pw_below_drewN | apply below_drew1) | exact HB.out)) hb); have n3_ := Aside0.mk (hbox); have n4_ := Aside0.mk ((by rw [hg]; exact (below_size (by repeat (first | (with_reducible first | exact HB.out | apply below_alloc | apply pw_below_drewN | apply below_drew1) | exact HB.out))) : w.heap.size ≤ gb326)); have n5_ := Aside0.mk ((by rw [hg]; exact (below_size (by repeat (first | (with_reducible first | exact HB.out | apply below_alloc | apply pw_below_drewN | apply below_drew1) | exact HB.out))) : w.heap.size ≤ gb326)); clear HO_6; clear HO323; clear HB; have HO_6 := n0_; have HO323 := n1_; have HB := n2_; have BK326 := n3_; have GW326 := n4_; have GE326 := n5_; clear n0_ n1_ n2_ n3_ n4_ n5_; clear hb hbox hg; obtain ⟨Ao25, co25, eo25⟩ := Kd.R_slice HO323.out; subst eo25; have hcz26_0 : w24.cell? ⟨gb326, 0, none⟩ = some (.slice none 0 0) := (blk_cell BK326.out 0).trans rfl; have hcz26_1 : w24.cell? ⟨gb326, 1, none⟩ = some (.int .u8 0) := (blk_cell BK326.out 1).trans rfl; have hcz26_2 : w24.cell? ⟨gb326, 2, none⟩ = some (.int .u8 0) := (blk_cell BK326.out 2).trans rfl; have hfz26_0 := blk_frozen BK326.out 0; have hfz26_1 := blk_frozen BK326.out 1; have hfz26_2 := blk_frozen BK326.out 2))
         (try simp only [Act.put, List.setIfInBounds_toArray, List.set_cons_zero, List.set_cons_succ])
         go_cut [75] (fun v75 wc => ∃ (kq : Nat) (x75_21 : Bool), v75 = .bool x75_21 ∧ Aside0 (reedpipelaw13_LapBack.j2 kq l1 t315 x6_2 0 x75_21 t321 t324 t325 = some r) ∧ Aside0 (kq ≤ k2) ∧ Aside0 (Kd.R (Kd.int .i64) 3 wc w.heap.size (fun k_ => some k_ ≠ ((.slice Ao25 t321.length co25) : Value).ownBlock) v317 x6_2) ∧ Aside0 (Kd.R (Kd.int .i64) 3 wc w.heap.size (fun k_ => some k_ ≠ (v317 : Value).ownBlock) (.slice Ao25 t321.length co25) t321) ∧ Aside0 (wc.heap[gb326]? = some (.cells #[(.slice Ao25 t321.length co25), .int .u8 t324, .int .u8 t325] 31 (0, 0))) ∧ Aside0 (Below w.heap.size w wc))
         case first => as_aux_lemma =>
          have H := HC22.out
          clear HC22
          by_cases c27 : 0 < (l1.length : Int)
          ·rw [if_pos c27] at H
           have c27b0 : decide (0 < (l1.length : Int)) = true := decide_eq_true c27
           have c27b1 : decide (0 < l1.length) = true := decide_eq_true (by omega)
           clear c27
           (first | rw [c27b0] | (simp only [i64_w, i32_w]; rw [c27b0]) | skip)
           by_cases c28 : ((rd_T44 l1 0).f0) = 2
           ·rw [if_pos c28] at H
            have c28b0 : (((rd_T44 l1 0).f0) == 2) = true := beq_iff_eq.mpr c28
            have c28b1 : (((rd_T44 l1 0).f0) != 2) = false := bne_eq_false_iff_eq.mpr c28
            clear c28
            have H' := Aside0.mk H
            clear H
            have p327 : 0 ≤ (0 : Int) := (by omega)
            have q327 : 0 < (l1.length : Int) := of_decide_eq_true (by first | (with_reducible assumption) | assumption)
            obtain ⟨ad327, e327, hx327_0, hx327_1⟩ := at_T44 HR1.out 0 p327 q327
            cases e327
            have qi327 : (0 < l1.length) = True := eq_true (by omega)
            (try rw [show ((0 : Int)).toNat = 0 from rfl] at hx327_0)
            (try rw [show 0 * 2 = 0 from rfl] at hx327_0)
            (try rw [Addr.add_zero'] at hx327_0)
            (try rw [show ((0 : Int)).toNat = 0 from rfl] at hx327_1)
            (try rw [show 0 * 2 = 0 from rfl] at hx327_1)
            (try rw [Addr.add_zero'] at hx327_1)
            have hn327_0 : ad327.block ≠ gb326 := Nat.ne_of_lt (Nat.lt_of_lt_of_le (by have := World.block_lt_of_cell? _ _ hx327_0; first | rwa [add_block] at this | exact this) GW326.out)
            have hn327_1 : ad327.block ≠ gb326 := Nat.ne_of_lt (Nat.lt_of_lt_of_le (by have := World.block_lt_of_cell? _ _ hx327_0; first | rwa [add_block] at this | exact this) GW326.out)
            have hn327_2 : ad327.block ≠ gb326 := Nat.ne_of_lt (Nat.lt_of_lt_of_le (by have := World.block_lt_of_cell? _ _ hx327_0; first | rwa [add_block] at this | exact this) GW326.out)
            replace hx327_0 := (HB.out.cell (World.block_lt_of_cell? w _ hx327_0)).trans hx327_0
            replace hx327_1 := (HB.out.cell (World.block_lt_of_cell? w _ hx327_1)).trans hx327_1
            replace hx327_0 := (cell_far (p := ⟨gb326, 0, none⟩) (by first | (rw [add_block]; exact hn327_0) | (show (Addr.add _ _).block ≠ _; rw [add_block]; exact hn327_0) | exact hn327_0) (.slice Ao25 t321.length co25)).trans hx327_0
            replace hx327_1 := (cell_far (p := ⟨gb326, 0, none⟩) (by first | (rw [add_block]; exact hn327_0) | (show (Addr.add _ _).block ≠ _; rw [add_block]; exact hn327_0) | exact hn327_0) (.slice Ao25 t321.length co25)).trans hx327_1
            replace hx327_0 := (cell_far (p := ⟨gb326, 1, none⟩) (by first | (rw [add_block]; exact hn327_1) | (show (Addr.add _ _).block ≠ _; rw [add_block]; exact hn327_1) | exact hn327_1) (.int .u8 t324)).trans hx327_0
            replace hx327_1 := (cell_far (p := ⟨gb326, 1, none⟩) (by first | (rw [add_block]; exact hn327_1) | (show (Addr.add _ _).block ≠ _; rw [add_block]; exact hn327_1) | exact hn327_1) (.int .u8 t324)).trans hx327_1
            replace hx327_0 := (cell_far (p := ⟨gb326, 2, none⟩) (by first | (rw [add_block]; exact hn327_2) | (show (Addr.add _ _).block ≠ _; rw [add_block]; exact hn327_2) | exact hn327_2) (.int .u8 t325)).trans hx327_0
            replace hx327_1 := (cell_far (p := ⟨gb326, 2, none⟩) (by first | (rw [add_block]; exact hn327_2) | (show (Addr.add _ _).block ≠ _; rw [add_block]; exact hn327_2) | exact hn327_2) (.int .u8 t325)).trans hx327_1
            clear hn327_0
            clear hn327_1
            clear hn327_2
            replace p327 := eq_true p327
            replace q327 := eq_true q327
            go_wp2
            go_meet
            case rel => exact ⟨_, (true), (by first | rfl | (simp; done) | (simp [*]; done)), H', ⟨by have := HJ3.out; have := HK2.out; first | omega | exact Nat.le_refl _⟩, ⟨by (with_reducible repeat (first | apply Kd.R_alloc | apply Kd.R_drewN | apply Kd.R_drew)); exact Kd.R_mono (Kd.R_far (p := ⟨gb326, 2, none⟩) (Kd.R_far (p := ⟨gb326, 1, none⟩) (Kd.R_far (p := ⟨gb326, 0, none⟩) (Kd.R_types HO_6.out BK326.out (by decide)) (fun _ hk => hk.2) (.slice Ao25 t321.length co25)) (fun _ hk => hk.2) (.int .u8 t324)) (fun _ hk => hk.2) (.int .u8 t325)) (fun _ hk => hk.1.2)⟩, ⟨by (with_reducible repeat (first | apply Kd.R_alloc | apply Kd.R_drewN | apply Kd.R_drew)); exact Kd.R_mono (Kd.R_far (p := ⟨gb326, 2, none⟩) (Kd.R_far (p := ⟨gb326, 1, none⟩) (Kd.R_far (p := ⟨gb326, 0, none⟩) (Kd.R_types HO323.out BK326.out (by decide)) (fun _ hk => hk.2) (.slice Ao25 t321.length co25)) (fun _ hk => hk.2) (.int .u8 t324)) (fun _ hk => hk.2) (.int .u8 t325)) (fun _ hk => hk.1.2)⟩, ⟨by (with_reducible repeat (first | refine blk_drewN ?_ _ | refine blk_drew ?_ | refine blk_alloc ?_ _)); refine blk_put (cs := #[.slice Ao25 t321.length co25, .int .u8 t324, .int .u8 0]) ?_ 2 _ rfl; (with_reducible repeat (first | refine blk_drewN ?_ _ | refine blk_drew ?_ | refine blk_alloc ?_ _)); refine blk_put (cs := #[.slice Ao25 t321.length co25, .int .u8 0, .int .u8 0]) ?_ 1 _ rfl; (with_reducible repeat (first | refine blk_drewN ?_ _ | refine blk_drew ?_ | refine blk_alloc ?_ _)); refine blk_put (cs := #[.slice none 0 0, .int .u8 0, .int .u8 0]) ?_ 0 _ rfl; (with_reducible repeat (first | refine blk_drewN ?_ _ | refine blk_drew ?_ | refine blk_alloc ?_ _)); exact BK326.out⟩, ⟨by repeat (first | (with_reducible first | exact HB.out | apply below_alloc | apply pw_below_drewN | apply below_drew1 | refine below_set ?_ GE326.out) | exact HB.out)⟩⟩
           ·rw [if_neg c28] at H
            have c28b0 : (((rd_T44 l1 0).f0) == 2) = false := beq_eq_false_iff_ne.mpr c28
            have c28b1 : (((rd_T44 l1 0).f0) != 2) = true := bne_iff_ne.mpr c28
            have H' := Aside0.mk H
            clear H
            have p327 : 0 ≤ (0 : Int) := (by omega)
            have q327 : 0 < (l1.length : Int) := of_decide_eq_true (by first | (with_reducible assumption) | assumption)
            obtain ⟨ad327, e327, hx327_0, hx327_1⟩ := at_T44 HR1.out 0 p327 q327
            cases e327
            have qi327 : (0 < l1.length) = True := eq_true (by omega)
            (try rw [show ((0 : Int)).toNat = 0 from rfl] at hx327_0)
            (try rw [show 0 * 2 = 0 from rfl] at hx327_0)
            (try rw [Addr.add_zero'] at hx327_0)
            (try rw [show ((0 : Int)).toNat = 0 from rfl] at hx327_1)
            (try rw [show 0 * 2 = 0 from rfl] at hx327_1)
            (try rw [Addr.add_zero'] at hx327_1)
            have hn327_0 : ad327.block ≠ gb326 := Nat.ne_of_lt (Nat.lt_of_lt_of_le (by have := World.block_lt_of_cell? _ _ hx327_0; first | rwa [add_block] at this | exact this) GW326.out)
            have hn327_1 : ad327.block ≠ gb326 := Nat.ne_of_lt (Nat.lt_of_lt_of_le (by have := World.block_lt_of_cell? _ _ hx327_0; first | rwa [add_block] at this | exact this) GW326.out)
            have hn327_2 : ad327.block ≠ gb326 := Nat.ne_of_lt (Nat.lt_of_lt_of_le (by have := World.block_lt_of_cell? _ _ hx327_0; first | rwa [add_block] at this | exact this) GW326.out)
            replace hx327_0 := (HB.out.cell (World.block_lt_of_cell? w _ hx327_0)).trans hx327_0
            replace hx327_1 := (HB.out.cell (World.block_lt_of_cell? w _ hx327_1)).trans hx327_1
            replace hx327_0 := (cell_far (p := ⟨gb326, 0, none⟩) (by first | (rw [add_block]; exact hn327_0) | (show (Addr.add _ _).block ≠ _; rw [add_block]; exact hn327_0) | exact hn327_0) (.slice Ao25 t321.length co25)).trans hx327_0
            replace hx327_1 := (cell_far (p := ⟨gb326, 0, none⟩) (by first | (rw [add_block]; exact hn327_0) | (show (Addr.add _ _).block ≠ _; rw [add_block]; exact hn327_0) | exact hn327_0) (.slice Ao25 t321.length co25)).trans hx327_1
            replace hx327_0 := (cell_far (p := ⟨gb326, 1, none⟩) (by first | (rw [add_block]; exact hn327_1) | (show (Addr.add _ _).block ≠ _; rw [add_block]; exact hn327_1) | exact hn327_1) (.int .u8 t324)).trans hx327_0
            replace hx327_1 := (cell_far (p := ⟨gb326, 1, none⟩) (by first | (rw [add_block]; exact hn327_1) | (show (Addr.add _ _).block ≠ _; rw [add_block]; exact hn327_1) | exact hn327_1) (.int .u8 t324)).trans hx327_1
            replace hx327_0 := (cell_far (p := ⟨gb326, 2, none⟩) (by first | (rw [add_block]; exact hn327_2) | (show (Addr.add _ _).block ≠ _; rw [add_block]; exact hn327_2) | exact hn327_2) (.int .u8 t325)).trans hx327_0
            replace hx327_1 := (cell_far (p := ⟨gb326, 2, none⟩) (by first | (rw [add_block]; exact hn327_2) | (show (Addr.add _ _).block ≠ _; rw [add_block]; exact hn327_2) | exact hn327_2) (.int .u8 t325)).trans hx327_1
            clear hn327_0
            clear hn327_1
            clear hn327_2
            replace p327 := eq_true p327
            replace q327 := eq_true q327
            have p328 : 0 ≤ (0 : Int) := (by omega)
            have q328 : 0 < (l1.length : Int) := of_decide_eq_true (by first | (with_reducible assumption) | assumption)
            obtain ⟨ad328, e328, hx328_0, hx328_1⟩ := at_T44 HR1.out 0 p328 q328
            obtain rfl : ad327 = ad328 := (by injection e328)
            have qi328 : (0 < l1.length) = True := eq_true (by omega)
            (try rw [show ((0 : Int)).toNat = 0 from rfl] at hx328_0)
            (try rw [show 0 * 2 = 0 from rfl] at hx328_0)
            (try rw [Addr.add_zero'] at hx328_0)
            (try rw [show ((0 : Int)).toNat = 0 from rfl] at hx328_1)
            (try rw [show 0 * 2 = 0 from rfl] at hx328_1)
            (try rw [Addr.add_zero'] at hx328_1)
            have hn328_0 : ad327.block ≠ gb326 := Nat.ne_of_lt (Nat.lt_of_lt_of_le (by have := World.block_lt_of_cell? _ _ hx328_0; first | rwa [add_block] at this | exact this) GW326.out)
            have hn328_1 : ad327.block ≠ gb326 := Nat.ne_of_lt (Nat.lt_of_lt_of_le (by have := World.block_lt_of_cell? _ _ hx328_0; first | rwa [add_block] at this | exact this) GW326.out)
            have hn328_2 : ad327.block ≠ gb326 := Nat.ne_of_lt (Nat.lt_of_lt_of_le (by have := World.block_lt_of_cell? _ _ hx328_0; first | rwa [add_block] at this | exact this) GW326.out)
            replace hx328_0 := (HB.out.cell (World.block_lt_of_cell? w _ hx328_0)).trans hx328_0
            replace hx328_1 := (HB.out.cell (World.block_lt_of_cell? w _ hx328_1)).trans hx328_1
            replace hx328_0 := (cell_far (p := ⟨gb326, 0, none⟩) (by first | (rw [add_block]; exact hn328_0) | (show (Addr.add _ _).block ≠ _; rw [add_block]; exact hn328_0) | exact hn328_0) (.slice Ao25 t321.length co25)).trans hx328_0
            replace hx328_1 := (cell_far (p := ⟨gb326, 0, none⟩) (by first | (rw [add_block]; exact hn328_0) | (show (Addr.add _ _).block ≠ _; rw [add_block]; exact hn328_0) | exact hn328_0) (.slice Ao25 t321.length co25)).trans hx328_1
            replace hx328_0 := (cell_far (p := ⟨gb326, 1, none⟩) (by first | (rw [add_block]; exact hn328_1) | (show (Addr.add _ _).block ≠ _; rw [add_block]; exact hn328_1) | exact hn328_1) (.int .u8 t324)).trans hx328_0
            replace hx328_1 := (cell_far (p := ⟨gb326, 1, none⟩) (by first | (rw [add_block]; exact hn328_1) | (show (Addr.add _ _).block ≠ _; rw [add_block]; exact hn328_1) | exact hn328_1) (.int .u8 t324)).trans hx328_1
            replace hx328_0 := (cell_far (p := ⟨gb326, 2, none⟩) (by first | (rw [add_block]; exact hn328_2) | (show (Addr.add _ _).block ≠ _; rw [add_block]; exact hn328_2) | exact hn328_2) (.int .u8 t325)).trans hx328_0
            replace hx328_1 := (cell_far (p := ⟨gb326, 2, none⟩) (by first | (rw [add_block]; exact hn328_2) | (show (Addr.add _ _).block ≠ _; rw [add_block]; exact hn328_2) | exact hn328_2) (.int .u8 t325)).trans hx328_1
            clear hn328_0
            clear hn328_1
            clear hn328_2
            replace p328 := eq_true p328
            replace q328 := eq_true q328
            go_wp2
            go_meet
            case rel => exact ⟨_, ((((rd_T44 l1 0).f0) == 3)), (by first | rfl | (simp; done) | (simp [*]; done)), H', ⟨by have := HJ3.out; have := HK2.out; first | omega | exact Nat.le_refl _⟩, ⟨by (with_reducible repeat (first | apply Kd.R_alloc | apply Kd.R_drewN | apply Kd.R_drew)); exact Kd.R_mono (Kd.R_far (p := ⟨gb326, 2, none⟩) (Kd.R_far (p := ⟨gb326, 1, none⟩) (Kd.R_far (p := ⟨gb326, 0, none⟩) (Kd.R_types HO_6.out BK326.out (by decide)) (fun _ hk => hk.2) (.slice Ao25 t321.length co25)) (fun _ hk => hk.2) (.int .u8 t324)) (fun _ hk => hk.2) (.int .u8 t325)) (fun _ hk => hk.1.2)⟩, ⟨by (with_reducible repeat (first | apply Kd.R_alloc | apply Kd.R_drewN | apply Kd.R_drew)); exact Kd.R_mono (Kd.R_far (p := ⟨gb326, 2, none⟩) (Kd.R_far (p := ⟨gb326, 1, none⟩) (Kd.R_far (p := ⟨gb326, 0, none⟩) (Kd.R_types HO323.out BK326.out (by decide)) (fun _ hk => hk.2) (.slice Ao25 t321.length co25)) (fun _ hk => hk.2) (.int .u8 t324)) (fun _ hk => hk.2) (.int .u8 t325)) (fun _ hk => hk.1.2)⟩, ⟨by (with_reducible repeat (first | refine blk_drewN ?_ _ | refine blk_drew ?_ | refine blk_alloc ?_ _)); refine blk_put (cs := #[.slice Ao25 t321.length co25, .int .u8 t324, .int .u8 0]) ?_ 2 _ rfl; (with_reducible repeat (first | refine blk_drewN ?_ _ | refine blk_drew ?_ | refine blk_alloc ?_ _)); refine blk_put (cs := #[.slice Ao25 t321.length co25, .int .u8 0, .int .u8 0]) ?_ 1 _ rfl; (with_reducible repeat (first | refine blk_drewN ?_ _ | refine blk_drew ?_ | refine blk_alloc ?_ _)); refine blk_put (cs := #[.slice none 0 0, .int .u8 0, .int .u8 0]) ?_ 0 _ rfl; (with_reducible repeat (first | refine blk_drewN ?_ _ | refine blk_drew ?_ | refine blk_alloc ?_ _)); exact BK326.out⟩, ⟨by repeat (first | (with_reducible first | exact HB.out | apply below_alloc | apply pw_below_drewN | apply below_drew1 | refine below_set ?_ GE326.out) | exact HB.out)⟩⟩
          ·rw [if_neg c27] at H
           exact absurd H (by simp)
         case rest => as_aux_lemma =>
          clear HC22
          try clear c1
          try clear p1
          try clear q1
          try clear hx1
          try clear c2
          try clear p2
          try clear c3
          try clear p3
          try clear q3
          try clear hx3
          try clear qi3
          try clear c4
          try clear c6
          try clear c6b0
          try clear c6b1
          try clear p6
          try clear c7
          try clear c7b0
          try clear c7b1
          try clear c8
          try clear c8b0
          try clear c9
          try clear c9b0
          try clear c9b1
          try clear c10
          try clear c11
          try clear c11b0
          try clear c11b1
          try clear c12
          try clear c12b0
          try clear c12b1
          try clear c15
          try clear c15b0
          try clear c16
          try clear c16b0
          try clear c17
          try clear c17b0
          try clear p18
          try clear q18
          try clear hx18
          try clear hf18
          try clear c27
          try clear c27b0
          try clear c27b1
          try clear c28
          try clear c28b0
          try clear c28b1
          try clear hcz26_0
          try clear hcz26_1
          try clear hcz26_2
          try clear hfz26_0
          try clear hfz26_1
          try clear hfz26_2
          try clear hx18_0
          try clear hx319_0
          try clear hx327_0
          try clear hx327_1
          try clear hx328_0
          try clear hx328_1
          try clear p18
          try clear p2
          try clear p319
          try clear p327
          try clear p328
          try clear p6
          try clear q18
          try clear q319
          try clear q327
          try clear q328
          obtain ⟨kq, x75_21, rfl, HA, HJ21, HO_6, HO_327000, BK326, HB⟩ := hcut
          cases kq with
          | zero => exact absurd HA.out (by simp [reedpipelaw13_LapBack.j2])
          | succ kj21 =>
           have H := HA.out
           clear HA
           simp only [reedpipelaw13_LapBack.j2] at H
           have HC29 := Aside0.mk H
           clear H
           go_upto_if 75 with (fail)
           go_cut [9] (fun v9 wc => ∃ (kq : Nat) (x9_28 : Int), v9 = .int .u8 x9_28 ∧ Aside0 (reedpipelaw13_LapBack.j3 kq l1 t315 x6_2 x9_28 t321 t324 t325 = some r) ∧ Aside0 (kq ≤ kj21) ∧ Aside0 (Kd.R (Kd.int .i64) 3 wc w.heap.size (fun k_ => some k_ ≠ ((.slice Ao25 t321.length co25) : Value).ownBlock) v317 x6_2) ∧ Aside0 (Kd.R (Kd.int .i64) 3 wc w.heap.size (fun k_ => some k_ ≠ (v317 : Value).ownBlock) (.slice Ao25 t321.length co25) t321) ∧ Aside0 (wc.heap[gb326]? = some (.cells #[(.slice Ao25 t321.length co25), .int .u8 t324, .int .u8 t325] 31 (0, 0))) ∧ Aside0 (Below w.heap.size w wc))
           case first => as_aux_lemma =>
            have H := HC29.out
            clear HC29
            by_cases c30 : x75_21 = true
            ·subst c30
             have H1 : (reedpipelaw13_LapBack.j3 kj21 l1 t315 x6_2 1 t321 t324 t325) = some r := by rw [if_pos rfl] at H; exact H
             clear H
             have H := H1
             clear H1
             have H' := Aside0.mk H
             clear H
             go_wp2
             go_meet
             case rel => exact ⟨_, (1), (by first | rfl | (simp; done) | (simp [*]; done)), H', ⟨by have := HJ3.out; have := HK2.out; have := HJ21.out; first | omega | exact Nat.le_refl _⟩, ⟨by (with_reducible repeat (first | apply Kd.R_alloc | apply Kd.R_drewN | apply Kd.R_drew)); exact HO_6.out⟩, ⟨by (with_reducible repeat (first | apply Kd.R_alloc | apply Kd.R_drewN | apply Kd.R_drew)); exact HO_327000.out⟩, ⟨by (with_reducible repeat (first | refine blk_drewN ?_ _ | refine blk_drew ?_ | refine blk_alloc ?_ _)); exact BK326.out⟩, ⟨by repeat (first | (with_reducible first | exact HB.out | apply below_alloc | apply pw_below_drewN | apply below_drew1 | refine below_set ?_ GE326.out) | exact HB.out)⟩⟩
            ·replace c30 := Bool.eq_false_iff.mpr c30
             subst c30
             have H1 : (reedpipelaw13_LapBack.j3 kj21 l1 t315 x6_2 0 t321 t324 t325) = some r := by rw [if_neg (show ¬ (false = true) by decide)] at H; exact H
             clear H
             have H := H1
             clear H1
             have H' := Aside0.mk H
             clear H
             go_wp2
             go_meet
             case rel => exact ⟨_, (0), (by first | rfl | (simp; done) | (simp [*]; done)), H', ⟨by have := HJ3.out; have := HK2.out; have := HJ21.out; first | omega | exact Nat.le_refl _⟩, ⟨by (with_reducible repeat (first | apply Kd.R_alloc | apply Kd.R_drewN | apply Kd.R_drew)); exact HO_6.out⟩, ⟨by (with_reducible repeat (first | apply Kd.R_alloc | apply Kd.R_drewN | apply Kd.R_drew)); exact HO_327000.out⟩, ⟨by (with_reducible repeat (first | refine blk_drewN ?_ _ | refine blk_drew ?_ | refine blk_alloc ?_ _)); exact BK326.out⟩, ⟨by repeat (first | (with_reducible first | exact HB.out | apply below_alloc | apply pw_below_drewN | apply below_drew1 | refine below_set ?_ GE326.out) | exact HB.out)⟩⟩
           case rest => as_aux_lemma =>
            clear HC29
            try clear c1
            try clear p1
            try clear q1
            try clear hx1
            try clear c2
            try clear p2
            try clear c3
            try clear p3
            try clear q3
            try clear hx3
            try clear qi3
            try clear c4
            try clear c6
            try clear c6b0
            try clear c6b1
            try clear p6
            try clear c7
            try clear c7b0
            try clear c7b1
            try clear c8
            try clear c8b0
            try clear c9
            try clear c9b0
            try clear c9b1
            try clear c10
            try clear c11
            try clear c11b0
            try clear c11b1
            try clear c12
            try clear c12b0
            try clear c12b1
            try clear c15
            try clear c15b0
            try clear c16
            try clear c16b0
            try clear c17
            try clear c17b0
            try clear p18
            try clear q18
            try clear hx18
            try clear hf18
            try clear c27
            try clear c27b0
            try clear c27b1
            try clear c28
            try clear c28b0
            try clear c28b1
            try clear c30
            try clear hcz26_0
            try clear hcz26_1
            try clear hcz26_2
            try clear hfz26_0
            try clear hfz26_1
            try clear hfz26_2
            try clear hx18_0
            try clear hx319_0
            try clear hx327_0
            try clear hx327_1
            try clear hx328_0
            try clear hx328_1
            try clear p1
            try clear p18
            try clear p2
            try clear p3
            try clear p319
            try clear p327
            try clear p328
            try clear p6
            try clear q1
            try clear q18
            try clear q3
            try clear q319
            try clear q327
            try clear q328
            obtain ⟨kq, x9_28, rfl, HA, HJ28, HO_6, HO_327000, BK326, HB⟩ := hcut
            cases kq with
            | zero => exact absurd HA.out (by simp [reedpipelaw13_LapBack.j3])
            | succ kj28 =>
             have H := HA.out
             clear HA
             simp only [reedpipelaw13_LapBack.j3] at H
             have H' := Aside0.mk H
             clear H
             go_wp2
             go_loopg [9, 10] kj28 (fun kq v9 v10 w' => ∃ (x9_5 : Int) (x10_5 : Int) (x327000_5 : List Int) (x327001_5 : Int) (x327002_5 : Int) (u327000 : Value), v9 = .int .u8 x9_5 ∧ v10 = .int .i64 x10_5 ∧ Aside0 (reedpipelaw13_LapBack.l1 kq l1 t315 x6_2 x9_5 x10_5 x327000_5 x327001_5 x327002_5 = some r) ∧ Aside0 (kq ≤ kj28) ∧ Aside0 (Kd.R (Kd.int .i64) 3 w' w.heap.size (fun k_ => some k_ ≠ (u327000 : Value).ownBlock) v317 x6_2) ∧ Aside0 (Kd.R (Kd.int .i64) 3 w' w.heap.size (fun k_ => some k_ ≠ (v317 : Value).ownBlock) u327000 x327000_5) ∧ Aside0 (w'.heap[gb326]? = some (.cells #[u327000, .int .u8 x327001_5, .int .u8 x327002_5] 31 (0, 0))) ∧ Aside0 (Below w.heap.size w w'))
             case atStart => exact ⟨(x9_28), (0), (t321), (t324), (t325), (.slice Ao25 t321.length co25), (by first | rfl | (simp; done) | (simp [*]; done)), (by first | rfl | (simp; done) | (simp [*]; done)), H', ⟨Nat.le_refl _⟩, ⟨by (with_reducible repeat (first | apply Kd.R_alloc | apply Kd.R_drewN | apply Kd.R_drew)); exact HO_6.out⟩, ⟨by (with_reducible repeat (first | apply Kd.R_alloc | apply Kd.R_drewN | apply Kd.R_drew)); exact HO_327000.out⟩, ⟨by (with_reducible repeat (first | refine blk_drewN ?_ _ | refine blk_drew ?_ | refine blk_alloc ?_ _)); exact BK326.out⟩, ⟨by repeat (first | (with_reducible first | exact HB.out | apply below_alloc | apply pw_below_drewN | apply below_drew1 | refine below_set ?_ GE326.out) | exact HB.out)⟩⟩
             case round => as_aux_lemma =>
              clear H'
              try clear c1
              try clear p1
              try clear q1
              try clear hx1
              try clear c2
              try clear p2
              try clear c3
              try clear p3
              try clear q3
              try clear hx3
              try clear qi3
              try clear c4
              try clear c6
              try clear c6b0
              try clear c6b1
              try clear p6
              try clear c7
              try clear c7b0
              try clear c7b1
              try clear c8
              try clear c8b0
              try clear c9
              try clear c9b0
              try clear c9b1
              try clear c10
              try clear c11
              try clear c11b0
              try clear c11b1
              try clear c12
              try clear c12b0
              try clear c12b1
              try clear c15
              try clear c15b0
              try clear c16
              try clear c16b0
              try clear c17
              try clear c17b0
              try clear p18
              try clear q18
              try clear hx18
              try clear hf18
              try clear c27
              try clear c27b0
              try clear c27b1
              try clear c28
              try clear c28b0
              try clear c28b1
              try clear c30
              try clear hcz26_0
              try clear hcz26_1
              try clear hcz26_2
              try clear hfz26_0
              try clear hfz26_1
              try clear hfz26_2
              try clear hx18_0
              try clear hx319_0
              try clear hx327_0
              try clear hx327_1
              try clear hx328_0
              try clear hx328_1
              try clear p1
              try clear p18
              try clear p2
              try clear p3
              try clear p319
              try clear p327
              try clear p328
              try clear p6
              try clear q1
              try clear q18
              try clear q3
              try clear q319
              try clear q327
              try clear q328
              obtain ⟨x9_5, x10_5, x327000_5, x327001_5, x327002_5, u327000, rfl, rfl, HA, HK5, HO_6, HO_327000, BK326, HB⟩ := hrel
              cases gk with
              | zero => exact absurd HA.out (by simp [reedpipelaw13_LapBack.l1])
              | succ k5 =>
               have H := HA.out
               clear HA
               simp only [reedpipelaw13_LapBack.l1] at H
               by_cases c31 : x10_5 < (l1.length : Int)
               ·rw [if_pos c31] at H
                have c31b0 : decide (x10_5 < (l1.length : Int)) = true := decide_eq_true c31
                clear c31
                have HC32 := Aside0.mk H
                clear H
                go_upto_region 16 with (fail)
                go_cut [97] (fun v97 wc => ∃ (kq : Nat) (x97_31 : Bool), v97 = .bool x97_31 ∧ Aside0 (reedpipelaw13_LapBack.j5 kq l1 t315 x6_2 x10_5 x97_31 x327000_5 x327001_5 x327002_5 = some r) ∧ Aside0 (kq ≤ k5) ∧ Aside0 (Kd.R (Kd.int .i64) 3 wc w.heap.size (fun k_ => some k_ ≠ (u327000 : Value).ownBlock) v317 x6_2) ∧ Aside0 (Kd.R (Kd.int .i64) 3 wc w.heap.size (fun k_ => some k_ ≠ (v317 : Value).ownBlock) u327000 x327000_5) ∧ Aside0 (wc.heap[gb326]? = some (.cells #[u327000, .int .u8 x327001_5, .int .u8 x327002_5] 31 (0, 0))) ∧ Aside0 (Below w.heap.size w wc))
                case first => as_aux_lemma =>
                 have H := HC32.out
                 clear HC32
                 by_cases c33 : 0 ≤ x10_5
                 ·rw [if_pos c33] at H
                  have c33b0 : decide (0 ≤ x10_5) = true := decide_eq_true c33
                  clear c33
                  (first | rw [c33b0] | (simp only [i64_w, i32_w]; rw [c33b0]) | skip)
                  replace H := Option.bind_eq_some_iff.mp H
                  obtain ⟨t330, A340, H⟩ := H
                  replace H : (if t330 = true then (reedpipelaw13_LapBack.j5 k5 l1 t315 x6_2 x10_5 (decide (((rd_T44 l1 x10_5).f1) > 1)) x327000_5 x327001_5 x327002_5) else (reedpipelaw13_LapBack.j5 k5 l1 t315 x6_2 x10_5 true x327000_5 x327001_5 x327002_5)) = some r := H
                  have A34 := Aside0.mk A340
                  clear A340
                  by_cases c35 : t330 = true
                  ·subst c35
                   have H1 : (reedpipelaw13_LapBack.j5 k5 l1 t315 x6_2 x10_5 (decide (((rd_T44 l1 x10_5).f1) > 1)) x327000_5 x327001_5 x327002_5) = some r := by rw [if_pos rfl] at H; exact H
                   clear H
                   have H := H1
                   clear H1
                   have H' := Aside0.mk H
                   clear H
                   have p329 : 0 ≤ (x10_5 : Int) := of_decide_eq_true (by first | (with_reducible assumption) | assumption)
                   have q329 : x10_5 < (l1.length : Int) := of_decide_eq_true (by first | (with_reducible assumption) | assumption)
                   obtain ⟨ad329, e329, hx329_0, hx329_1⟩ := at_T44 HR1.out x10_5 p329 q329
                   cases e329
                   replace hx329_0 := (HB.out.cell (World.block_lt_of_cell? w _ hx329_0)).trans hx329_0
                   replace hx329_1 := (HB.out.cell (World.block_lt_of_cell? w _ hx329_1)).trans hx329_1
                   replace p329 := eq_true p329
                   replace q329 := eq_true q329
                   go_wp2_with (first | ((with_reducible refine gate_callee (f := 41) rfl ?_); refine goesL_ (some 88) rfl rfl Try.func41 (by kernel_rfl) rfl #[.int .u8 x9_5, .int .u8 ((rd_T44 l1 x10_5).f0)] rfl (by (try simp only [List.map_toArray, List.map_cons, List.map_nil]); first | done | rfl | (simp only [List.length_drop, List.length_take]; rfl)) ?_; (with_reducible refine (reedpipelaw13_follows.calls x9_5 ((rd_T44 l1 x10_5).f0) true _ A34.out).mono ?_); rintro e w' ⟨rfl, ⟨nd, rfl⟩⟩; refine ⟨_, rfl, ?_⟩; have p331 : 0 ≤ (x10_5 : Int) := of_decide_eq_true (by first | (with_reducible assumption) | assumption); have q331 : x10_5 < (l1.length : Int) := of_decide_eq_true (by first | (with_reducible assumption) | assumption); obtain ⟨ad331, e331, hx331_0, hx331_1⟩ := at_T44 HR1.out x10_5 p331 q331; obtain rfl : ad329 = ad331 := (by injection e331); replace hx331_0 := (HB.out.cell (World.block_lt_of_cell? w _ hx331_0)).trans hx331_0; replace hx331_1 := (HB.out.cell (World.block_lt_of_cell? w _ hx331_1)).trans hx331_1; replace p331 := eq_true p331; replace q331 := eq_true q331))
                   go_meet
                   case rel => exact ⟨_, (decide (((rd_T44 l1 x10_5).f1) > 1)), (by first | rfl | (simp; done) | (simp [*]; done)), H', ⟨by have := HJ3.out; have := HK2.out; have := HJ21.out; have := HJ28.out; have := HK5.out; first | omega | exact Nat.le_refl _⟩, ⟨by (with_reducible repeat (first | apply Kd.R_alloc | apply Kd.R_drewN | apply Kd.R_drew)); exact HO_6.out⟩, ⟨by (with_reducible repeat (first | apply Kd.R_alloc | apply Kd.R_drewN | apply Kd.R_drew)); exact HO_327000.out⟩, ⟨by (with_reducible repeat (first | refine blk_drewN ?_ _ | refine blk_drew ?_ | refine blk_alloc ?_ _)); exact BK326.out⟩, ⟨by repeat (first | (with_reducible first | exact HB.out | apply below_alloc | apply pw_below_drewN | apply below_drew1 | refine below_set ?_ GE326.out) | exact HB.out)⟩⟩
                  ·replace c35 := Bool.eq_false_iff.mpr c35
                   subst c35
                   have H1 : (reedpipelaw13_LapBack.j5 k5 l1 t315 x6_2 x10_5 true x327000_5 x327001_5 x327002_5) = some r := by rw [if_neg (show ¬ (false = true) by decide)] at H; exact H
                   clear H
                   have H := H1
                   clear H1
                   have H' := Aside0.mk H
                   clear H
                   have p329 : 0 ≤ (x10_5 : Int) := of_decide_eq_true (by first | (with_reducible assumption) | assumption)
                   have q329 : x10_5 < (l1.length : Int) := of_decide_eq_true (by first | (with_reducible assumption) | assumption)
                   obtain ⟨ad329, e329, hx329_0, hx329_1⟩ := at_T44 HR1.out x10_5 p329 q329
                   cases e329
                   replace hx329_0 := (HB.out.cell (World.block_lt_of_cell? w _ hx329_0)).trans hx329_0
                   replace hx329_1 := (HB.out.cell (World.block_lt_of_cell? w _ hx329_1)).trans hx329_1
                   replace p329 := eq_true p329
                   replace q329 := eq_true q329
                   go_wp2_with (first | ((with_reducible refine gate_callee (f := 41) rfl ?_); refine goesL_ (some 88) rfl rfl Try.func41 (by kernel_rfl) rfl #[.int .u8 x9_5, .int .u8 ((rd_T44 l1 x10_5).f0)] rfl (by (try simp only [List.map_toArray, List.map_cons, List.map_nil]); first | done | rfl | (simp only [List.length_drop, List.length_take]; rfl)) ?_; (with_reducible refine (reedpipelaw13_follows.calls x9_5 ((rd_T44 l1 x10_5).f0) false _ A34.out).mono ?_); rintro e w' ⟨rfl, ⟨nd, rfl⟩⟩; refine ⟨_, rfl, ?_⟩))
                   go_meet
                   case rel => exact ⟨_, (true), (by first | rfl | (simp; done) | (simp [*]; done)), H', ⟨by have := HJ3.out; have := HK2.out; have := HJ21.out; have := HJ28.out; have := HK5.out; first | omega | exact Nat.le_refl _⟩, ⟨by (with_reducible repeat (first | apply Kd.R_alloc | apply Kd.R_drewN | apply Kd.R_drew)); exact HO_6.out⟩, ⟨by (with_reducible repeat (first | apply Kd.R_alloc | apply Kd.R_drewN | apply Kd.R_drew)); exact HO_327000.out⟩, ⟨by (with_reducible repeat (first | refine blk_drewN ?_ _ | refine blk_drew ?_ | refine blk_alloc ?_ _)); exact BK326.out⟩, ⟨by repeat (first | (with_reducible first | exact HB.out | apply below_alloc | apply pw_below_drewN | apply below_drew1 | refine below_set ?_ GE326.out) | exact HB.out)⟩⟩
                 ·rw [if_neg c33] at H
                  exact absurd H (by simp)
                case rest => as_aux_lemma =>
                 clear HC32
                 try clear c1
                 try clear p1
                 try clear q1
                 try clear hx1
                 try clear c2
                 try clear p2
                 try clear c3
                 try clear p3
                 try clear q3
                 try clear hx3
                 try clear qi3
                 try clear c4
                 try clear c6
                 try clear c6b0
                 try clear c6b1
                 try clear p6
                 try clear c7
                 try clear c7b0
                 try clear c7b1
                 try clear c8
                 try clear c8b0
                 try clear c9
                 try clear c9b0
                 try clear c9b1
                 try clear c10
                 try clear c11
                 try clear c11b0
                 try clear c11b1
                 try clear c12
                 try clear c12b0
                 try clear c12b1
                 try clear c15
                 try clear c15b0
                 try clear c16
                 try clear c16b0
                 try clear c17
                 try clear c17b0
                 try clear p18
                 try clear q18
                 try clear hx18
                 try clear hf18
                 try clear c27
                 try clear c27b0
                 try clear c27b1
                 try clear c28
                 try clear c28b0
                 try clear c28b1
                 try clear c30
                 try clear c31
                 try clear c31b0
                 try clear p31
                 try clear q31
                 try clear hx31
                 try clear p32
                 try clear q32
                 try clear hx32
                 try clear qi32
                 try clear c33
                 try clear c33b0
                 try clear p33
                 try clear q33
                 try clear hx33
                 try clear c35
                 try clear hcz26_0
                 try clear hcz26_1
                 try clear hcz26_2
                 try clear hfz26_0
                 try clear hfz26_1
                 try clear hfz26_2
                 try clear hx18_0
                 try clear hx319_0
                 try clear hx327_0
                 try clear hx327_1
                 try clear hx328_0
                 try clear hx328_1
                 try clear hx329_0
                 try clear hx329_1
                 try clear hx331_0
                 try clear hx331_1
                 try clear p1
                 try clear p18
                 try clear p2
                 try clear p3
                 try clear p319
                 try clear p327
                 try clear p328
                 try clear p329
                 try clear p331
                 try clear p6
                 try clear q1
                 try clear q18
                 try clear q3
                 try clear q319
                 try clear q327
                 try clear q328
                 try clear q329
                 try clear q331
                 obtain ⟨kq, x97_31, rfl, HA, HJ31, HO_6, HO_327000, BK326, HB⟩ := hcut
                 cases kq with
                 | zero => exact absurd HA.out (by simp [reedpipelaw13_LapBack.j5])
                 | succ kj31 =>
                  have H := HA.out
                  clear HA
                  simp only [reedpipelaw13_LapBack.j5] at H
                  by_cases c36 : x97_31 = true
                  ·subst c36
                   have H1 : (some t315) = some r := by rw [if_pos rfl] at H; exact H
                   clear H
                   have H := H1
                   clear H1
                   obtain rfl := Option.some.inj H
                   go_wp2
                   go_ret
                   exact ⟨by first | rfl | (simp [errW_none, errW_some] <;> rfl) | (simp [*, errW_none, errW_some] <;> rfl), by repeat (first | (with_reducible first | exact HB.out | apply below_alloc | apply pw_below_drewN | apply below_drew1 | refine below_set ?_ GE326.out) | exact HB.out)⟩
                  ·replace c36 := Bool.eq_false_iff.mpr c36
                   subst c36
                   have H1 : (if 0 ≤ x10_5 then (if x10_5 < (l1.length : Int) then (if 0 ≤ (wrap64 (256 * x10_5)) then (if (wrap64 (256 * x10_5)) ≤ (wrap64 ((wrap64 (256 * x10_5)) + 512)) then (if (wrap64 ((wrap64 (256 * x10_5)) + 512)) ≤ (x6_2.length : Int) then ((block_Analyse.f ((rd_T44 l1 x10_5).f0) x327002_5 ((rd_T44 l1 x10_5).f1) ((x6_2.take ((wrap64 ((wrap64 (256 * x10_5)) + 512)) : Int).toNat).drop ((wrap64 (256 * x10_5)) : Int).toNat)).bind fun bt338 => ((lap_Next.f x327000_5 x327001_5 x327002_5 ((rd_T44 l1 x10_5).f0) ((rd_T44 l1 x10_5).f1) bt338.1).bind fun bt344 => (if bt338.2 = 0 then (if bt344.2.2.2.2 = 0 then (if (bt344.2.2.2.1.length : Int) = 256 then ((lap_Check.f bt344.1 bt344.2.1 bt344.2.2.1).bind fun t354 => (reedpipelaw13_LapBack.j6 kj31 l1 t315 x6_2 x10_5 bt344.2.2.2.1 (t354 != 0) bt344.1 bt344.2.1 bt344.2.2.1)) else (reedpipelaw13_LapBack.j6 kj31 l1 t315 x6_2 x10_5 bt344.2.2.2.1 true bt344.1 bt344.2.1 bt344.2.2.1)) else (reedpipelaw13_LapBack.j6 kj31 l1 t315 x6_2 x10_5 bt344.2.2.2.1 true bt344.1 bt344.2.1 bt344.2.2.1)) else (reedpipelaw13_LapBack.j6 kj31 l1 t315 x6_2 x10_5 bt344.2.2.2.1 true bt344.1 bt344.2.1 bt344.2.2.1)))) else (none)) else (none)) else (none)) else (none)) else (none)) = some r := by rw [if_neg (show ¬ (false = true) by decide)] at H; exact H
                   clear H
                   have H := H1
                   clear H1
                   by_cases c37 : 0 ≤ x10_5
                   ·rw [if_pos c37] at H
                    have c37b0 : decide (0 ≤ x10_5) = true := decide_eq_true c37
                    clear c37
                    by_cases c38 : x10_5 < (l1.length : Int)
                    ·rw [if_pos c38] at H
                     have c38b0 : decide (x10_5 < (l1.length : Int)) = true := decide_eq_true c38
                     clear c38
                     obtain ⟨ji39, hji39⟩ : ∃ j_ : Int, (wrap64 (256 * x10_5)) = j_ := ⟨_, rfl⟩
                     replace H : (if 0 ≤ (ji39) then (if (ji39) ≤ (wrap64 ((ji39) + 512)) then (if (wrap64 ((ji39) + 512)) ≤ (x6_2.length : Int) then ((block_Analyse.f ((rd_T44 l1 x10_5).f0) x327002_5 ((rd_T44 l1 x10_5).f1) ((x6_2.take ((wrap64 ((ji39) + 512)) : Int).toNat).drop ((ji39) : Int).toNat)).bind fun bt338 => ((lap_Next.f x327000_5 x327001_5 x327002_5 ((rd_T44 l1 x10_5).f0) ((rd_T44 l1 x10_5).f1) bt338.1).bind fun bt344 => (if bt338.2 = 0 then (if bt344.2.2.2.2 = 0 then (if (bt344.2.2.2.1.length : Int) = 256 then ((lap_Check.f bt344.1 bt344.2.1 bt344.2.2.1).bind fun t354 => (reedpipelaw13_LapBack.j6 kj31 l1 t315 x6_2 x10_5 bt344.2.2.2.1 (t354 != 0) bt344.1 bt344.2.1 bt344.2.2.1)) else (reedpipelaw13_LapBack.j6 kj31 l1 t315 x6_2 x10_5 bt344.2.2.2.1 true bt344.1 bt344.2.1 bt344.2.2.1)) else (reedpipelaw13_LapBack.j6 kj31 l1 t315 x6_2 x10_5 bt344.2.2.2.1 true bt344.1 bt344.2.1 bt344.2.2.1)) else (reedpipelaw13_LapBack.j6 kj31 l1 t315 x6_2 x10_5 bt344.2.2.2.1 true bt344.1 bt344.2.1 bt344.2.2.1)))) else (none)) else (none)) else (none)) = some r := by first | (rw [hji39] at H; exact H) | (simp only [hji39] at H ⊢; exact H)
                     have hji39w : (IntKind.i64.wrap (256 * x10_5)) = ji39 := (i64_w _).trans hji39
                     by_cases c40 : 0 ≤ (ji39)
                     ·rw [if_pos c40] at H
                      have c40b0 := eq_true c40
                      have c40b1 : decide (0 ≤ (ji39)) = true := decide_eq_true c40
                      clear c40
                      by_cases c41 : (ji39) ≤ (wrap64 ((ji39) + 512))
                      ·rw [if_pos c41] at H
                       have c41b0 := eq_true c41
                       have c41b1 : decide ((ji39) ≤ (wrap64 ((ji39) + 512))) = true := decide_eq_true c41
                       by_cases c42 : (wrap64 ((ji39) + 512)) ≤ (x6_2.length : Int)
                       ·rw [if_pos c42] at H
                        have c42b0 := eq_true c42
                        have c42b1 : decide ((wrap64 ((ji39) + 512)) ≤ (x6_2.length : Int)) = true := decide_eq_true c42
                        obtain ⟨y334, hy334⟩ : ∃ y_ : List Int, y_ = ((x6_2.take ((wrap64 ((ji39) + 512)) : Int).toNat).drop ((ji39) : Int).toNat) := ⟨_, rfl⟩
                        replace H : ((block_Analyse.f ((rd_T44 l1 x10_5).f0) x327002_5 ((rd_T44 l1 x10_5).f1) y334).bind fun bt338 => ((lap_Next.f x327000_5 x327001_5 x327002_5 ((rd_T44 l1 x10_5).f0) ((rd_T44 l1 x10_5).f1) bt338.1).bind fun bt344 => (if bt338.2 = 0 then (if bt344.2.2.2.2 = 0 then (if (bt344.2.2.2.1.length : Int) = 256 then ((lap_Check.f bt344.1 bt344.2.1 bt344.2.2.1).bind fun t354 => (reedpipelaw13_LapBack.j6 kj31 l1 t315 x6_2 x10_5 bt344.2.2.2.1 (t354 != 0) bt344.1 bt344.2.1 bt344.2.2.1)) else (reedpipelaw13_LapBack.j6 kj31 l1 t315 x6_2 x10_5 bt344.2.2.2.1 true bt344.1 bt344.2.1 bt344.2.2.1)) else (reedpipelaw13_LapBack.j6 kj31 l1 t315 x6_2 x10_5 bt344.2.2.2.1 true bt344.1 bt344.2.1 bt344.2.2.1)) else (reedpipelaw13_LapBack.j6 kj31 l1 t315 x6_2 x10_5 bt344.2.2.2.1 true bt344.1 bt344.2.1 bt344.2.2.1)))) = some r := by first | (rw [hy334]; with_reducible exact H) | (have H2_ := (Option.bind_some _ _).symm.trans H; rw [hy334]; with_reducible exact H2_) | (have H2_ := (Option.bind_some _ _).symm.trans H; with_reducible exact H2_) | with_reducible exact H | (rw [hy334]; exact H) | exact H
                        have Ny334 := Aside0.mk hy334
                        clear hy334
                        replace H := Option.bind_eq_some_iff.mp H
                        obtain ⟨⟨t338, t339⟩, A430, H⟩ := H
                        replace H : ((lap_Next.f x327000_5 x327001_5 x327002_5 ((rd_T44 l1 x10_5).f0) ((rd_T44 l1 x10_5).f1) t338).bind fun bt344 => (if t339 = 0 then (if bt344.2.2.2.2 = 0 then (if (bt344.2.2.2.1.length : Int) = 256 then ((lap_Check.f bt344.1 bt344.2.1 bt344.2.2.1).bind fun t354 => (reedpipelaw13_LapBack.j6 kj31 l1 t315 x6_2 x10_5 bt344.2.2.2.1 (t354 != 0) bt344.1 bt344.2.1 bt344.2.2.1)) else (reedpipelaw13_LapBack.j6 kj31 l1 t315 x6_2 x10_5 bt344.2.2.2.1 true bt344.1 bt344.2.1 bt344.2.2.1)) else (reedpipelaw13_LapBack.j6 kj31 l1 t315 x6_2 x10_5 bt344.2.2.2.1 true bt344.1 bt344.2.1 bt344.2.2.1)) else (reedpipelaw13_LapBack.j6 kj31 l1 t315 x6_2 x10_5 bt344.2.2.2.1 true bt344.1 bt344.2.1 bt344.2.2.1))) = some r := H
                        have A43 := Aside0.mk A430
                        clear A430
                        replace H := Option.bind_eq_some_iff.mp H
                        obtain ⟨⟨t344, t347, t348, t349, t352⟩, A440, H⟩ := H
                        replace H : (if t339 = 0 then (if t352 = 0 then (if (t349.length : Int) = 256 then ((lap_Check.f t344 t347 t348).bind fun t354 => (reedpipelaw13_LapBack.j6 kj31 l1 t315 x6_2 x10_5 t349 (t354 != 0) t344 t347 t348)) else (reedpipelaw13_LapBack.j6 kj31 l1 t315 x6_2 x10_5 t349 true t344 t347 t348)) else (reedpipelaw13_LapBack.j6 kj31 l1 t315 x6_2 x10_5 t349 true t344 t347 t348)) else (reedpipelaw13_LapBack.j6 kj31 l1 t315 x6_2 x10_5 t349 true t344 t347 t348)) = some r := H
                        have A44 := Aside0.mk A440
                        clear A440
                        have HC45 := Aside0.mk H
                        clear H
                        try go_wp2
                        have n0_ := Aside0.mk (Kd.R_drew HO_6.out)
                        have n1_ := Aside0.mk (Kd.R_drew HO_327000.out)
                        have n2_ := Aside0.mk (blk_drew BK326.out)
                        have n3_ := Aside0.mk (below_drew1 HB.out)
                        clear HO_6
                        clear HO_327000
                        clear BK326
                        clear HB
                        have HO_6 := n0_
                        have HO_327000 := n1_
                        have BK326 := n2_
                        have HB := n3_
                        clear n0_ n1_ n2_ n3_
                        have p332 : 0 ≤ (x10_5 : Int) := of_decide_eq_true (by first | (with_reducible assumption) | assumption)
                        have q332 : x10_5 < (l1.length : Int) := of_decide_eq_true (by first | (with_reducible assumption) | assumption)
                        obtain ⟨ad332, e332, hx332_0, hx332_1⟩ := at_T44 HR1.out x10_5 p332 q332
                        have hw332_1 := hx332_1
                        have hw332_0 := hx332_0
                        cases e332
                        replace hx332_0 := (HB.out.cell (World.block_lt_of_cell? w _ hx332_0)).trans hx332_0
                        replace hx332_1 := (HB.out.cell (World.block_lt_of_cell? w _ hx332_1)).trans hx332_1
                        replace p332 := eq_true p332
                        replace q332 := eq_true q332
                        have p333 : 0 ≤ (x10_5 : Int) := of_decide_eq_true (by first | (with_reducible assumption) | assumption)
                        have q333 : x10_5 < (l1.length : Int) := of_decide_eq_true (by first | (with_reducible assumption) | assumption)
                        obtain ⟨ad333, e333, hx333_0, hx333_1⟩ := at_T44 HR1.out x10_5 p333 q333
                        have hw333_1 := hx333_1
                        have hw333_0 := hx333_0
                        obtain rfl : ad332 = ad333 := (by injection e333)
                        replace hx333_0 := (HB.out.cell (World.block_lt_of_cell? w _ hx333_0)).trans hx333_0
                        replace hx333_1 := (HB.out.cell (World.block_lt_of_cell? w _ hx333_1)).trans hx333_1
                        replace p333 := eq_true p333
                        replace q333 := eq_true q333
                        obtain ⟨Ao48, co48, eo48⟩ := Kd.R_slice HO_6.out
                        (first | subst eo48 | (injection eo48 with f1_ f2_ f3_; have f4_ := f1_.symm; have f5_ := f3_.symm; clear f1_ f2_ f3_; subst f4_; subst f5_))
                        have q47 : ((wrap64 ((ji39) + 512)) : Int) ≤ ((x6_2.length : Int) : Int) := of_decide_eq_true (by first | (with_reducible assumption) | assumption)
                        obtain ⟨i047, hi047, _, hsz47, _⟩ := info_parts info3
                        have hroom47 : x6_2.length ≤ co48 := (Kd.R_reads' HO_6.out).2.1
                        have hC47 : Kd.C (Kd.int .i64) _ Ao48 x6_2.length x6_2 := (Kd.R_reads' HO_6.out).2.2
                        have ql47 : ((ji39) : Int) ≤ ((wrap64 ((ji39) + 512)) : Int) := of_decide_eq_true (by first | (with_reducible assumption) | assumption)
                        have q047 : (0 : Int) ≤ ((ji39) : Int) := of_decide_eq_true (by first | (with_reducible assumption) | assumption)
                        have hcut47 := cut_mid (P := Try.prog) 29 3 .i64 .i64 Try.underlying29 hi047 1 hsz47 Ao48 x6_2.length co48 (ji39) (wrap64 ((ji39) + 512)) q047 ql47 q47 hroom47
                        have hr47 := Kd.C_mid (lo := ((ji39) : Int).toNat) (hi := ((wrap64 ((ji39) + 512)) : Int).toNat) (c := co48) hC47 (by omega) (by omega) hroom47
                        obtain ⟨A47, hA47⟩ : ∃ A1, A1 = (if co48 = ((ji39) : Int).toNat then Ao48 else (Ao48 : Option Addr).map (·.add (((ji39) : Int).toNat * 1))) := ⟨_, rfl⟩
                        obtain ⟨c47, hc47⟩ : ∃ c1, c1 = co48 - ((ji39) : Int).toNat := ⟨_, rfl⟩
                        have hy47 : y334.length = ((wrap64 ((ji39) + 512)) : Int).toNat - ((ji39) : Int).toNat := (by rw [Ny334.out, List.length_drop, List.length_take] <;> omega)
                        rw [show ((x6_2).take ((wrap64 ((ji39) + 512)) : Int).toNat).drop ((ji39) : Int).toNat = y334 from Ny334.out.symm] at hr47
                        replace hr47 : Kd.C (Kd.int .i64) _ A47 y334.length y334 := (by rw [hA47]; exact hr47)
                        rw [← hy47, ← hA47, ← hc47] at hcut47
                        have HR337 := Aside0.mk hr47
                        have HC337 := Aside0.mk (show y334.length ≤ c47 from by rw [hy47, hc47]; exact Nat.sub_le_sub_right (Nat.le_trans (by omega) hroom47) _)
                        clear hr47 hC47 hroom47 hi047 hsz47 hc47
                        have KY47 := Aside0.mk hy47
                        have KA47 := Aside0.mk hA47
                        clear hy47 hA47
                        have KL47 := Aside0.mk (show ((wrap64 ((ji39) + 512)) : Int).toNat ≤ x6_2.length from by omega)
                        have KM47 := Aside0.mk (show ((ji39) : Int).toNat ≤ ((wrap64 ((ji39) + 512)) : Int).toNat from by omega)
                        replace q47 := eq_true q47
                        refine start_ (n := 25) (S := fun w' => w'.cell? ⟨gb326, 0, none⟩ = some (u327000) ∧ w'.cell? ⟨gb326, 1, none⟩ = some (.int .u8 x327001_5) ∧ w'.cell? ⟨gb326, 2, none⟩ = some (.int .u8 x327002_5) ∧ w'.cell? (ad332.add ((x10_5).toNat * 2)) = some (.int .u8 ((rd_T44 l1 x10_5).f0)) ∧ w'.cell? ⟨(ad332.add ((x10_5).toNat * 2)).block, (ad332.add ((x10_5).toNat * 2)).off + 1, none⟩ = some (.int .u8 ((rd_T44 l1 x10_5).f1)) ∧ w'.cell? (ad332.add ((x10_5).toNat * 2)) = some (.int .u8 ((rd_T44 l1 x10_5).f0)) ∧ w'.cell? ⟨(ad332.add ((x10_5).toNat * 2)).block, (ad332.add ((x10_5).toNat * 2)).off + 1, none⟩ = some (.int .u8 ((rd_T44 l1 x10_5).f1))) (ds := []) #[false, false, false, false, false, false, false, false, false, false, false, false, false, false, false, false, false, false, false, false, false, false, false, false, false] (by kernel_rfl) rfl rfl ⟨(blk_cell BK326.out 0).trans rfl, (blk_cell BK326.out 1).trans rfl, (blk_cell BK326.out 2).trans rfl, ((HB.out.cell (World.block_lt_of_cell? w _ hw332_0)).trans hw332_0), ((HB.out.cell (World.block_lt_of_cell? w _ hw332_1)).trans hw332_1), ((HB.out.cell (World.block_lt_of_cell? w _ hw333_0)).trans hw333_0), ((HB.out.cell (World.block_lt_of_cell? w _ hw333_1)).trans hw333_1)⟩ (fun hHeld => ?_); refine with_tabW reedpipelaw13_LapBack.tab18 reedpipelaw13_LapBack.bits18 (fun HT_ HW_ => ?_)
                        generalize wc.drew = w46 at HO_6 HO_327000 BK326 HB HR337 hx332_0 hx332_1 hx333_0 hx333_1 hHeld ⊢
                        refine pure_ (i := 0) (N := some 100) (v := ?_) (a' := ?_) #[true, false, false, false, false, false, false, false, false, false, false, false, false, false, false, false, false, false, false, false, false, false, false, false, false] rfl rfl (any_of HT_.out (by kernel_rfl)) (fun _ _ _ h => h) (Or.inl ⟨by rfl, ?_⟩) ?_ ?_
                        rotate_left
                        ·intro w'
                         go_simp
                         with_reducible rfl
                        rotate_left
                        ·simp only [Act.put, List.setIfInBounds_toArray, List.set_cons_zero, List.set_cons_succ, i64_w, i32_w]
                         rfl
                        refine pure_ (i := 1) (N := some 101) (v := ?_) (a' := ?_) #[true, true, false, false, false, false, false, false, false, false, false, false, false, false, false, false, false, false, false, false, false, false, false, false, false] rfl rfl (any_of HT_.out (by kernel_rfl)) (fun _ _ _ h => h) (Or.inl ⟨by rfl, ?_⟩) ?_ ?_
                        rotate_left
                        ·intro w'
                         go_simp
                         with_reducible rfl
                        rotate_left
                        ·simp only [Act.put, List.setIfInBounds_toArray, List.set_cons_zero, List.set_cons_succ, i64_w, i32_w]
                         rfl
                        refine pure_ (i := 2) (N := some 102) (v := ?_) (a' := ?_) #[true, true, true, false, false, false, false, false, false, false, false, false, false, false, false, false, false, false, false, false, false, false, false, false, false] rfl rfl (any_of HT_.out (by kernel_rfl)) (fun _ _ _ h => h) (Or.inl ⟨by rfl, ?_⟩) ?_ ?_
                        rotate_left
                        ·intro w'
                         go_simp
                         with_reducible rfl
                        rotate_left
                        ·simp only [Act.put, List.setIfInBounds_toArray, List.set_cons_zero, List.set_cons_succ, i64_w, i32_w]
                         rfl
                        refine pure_ (i := 3) (N := some 103) (v := ?_) (a' := ?_) #[true, true, true, true, false, false, false, false, false, false, false, false, false, false, false, false, false, false, false, false, false, false, false, false, false] rfl rfl (any_of HT_.out (by kernel_rfl)) (fun _ _ _ h => h) (Or.inl ⟨by rfl, ?_⟩) ?_ ?_
                        rotate_left
                        ·intro w'
                         go_simp
                         with_reducible rfl
                        rotate_left
                        ·simp only [Act.put, List.setIfInBounds_toArray, List.set_cons_zero, List.set_cons_succ, i64_w, i32_w]
                         rfl
                        refine pure_ (i := 5) (N := some 105) (v := ?_) (a' := ?_) #[true, true, true, true, false, true, false, false, false, false, false, false, false, false, false, false, false, false, false, false, false, false, false, false, false] rfl rfl (any_of HT_.out (by kernel_rfl)) (fun _ _ _ h => h) (Or.inl ⟨by rfl, ?_⟩) ?_ ?_
                        rotate_left
                        ·intro w'
                         go_simp
                         with_reducible rfl
                        rotate_left
                        ·simp only [Act.put, List.setIfInBounds_toArray, List.set_cons_zero, List.set_cons_succ, i64_w, i32_w]
                         rfl
                        refine pure_ (i := 7) (N := some 107) (v := ?_) (a' := ?_) #[true, true, true, true, false, true, false, true, false, false, false, false, false, false, false, false, false, false, false, false, false, false, false, false, false] rfl rfl (any_of HT_.out (by kernel_rfl)) (fun _ _ _ h => h) (Or.inl ⟨by rfl, ?_⟩) ?_ ?_
                        rotate_left
                        ·intro w'
                         go_simp
                         with_reducible rfl
                        rotate_left
                        ·simp only [Act.put, List.setIfInBounds_toArray, List.set_cons_zero, List.set_cons_succ, i64_w, i32_w]
                         rfl
                        refine pure_ (i := 8) (N := some 108) (v := ?_) (a' := ?_) #[true, true, true, true, false, true, false, true, true, false, false, false, false, false, false, false, false, false, false, false, false, false, false, false, false] rfl rfl (any_of HT_.out (by kernel_rfl)) (fun _ _ _ h => h) (Or.inl ⟨by rfl, ?_⟩) ?_ ?_
                        rotate_left
                        ·intro w'
                         go_simp
                         with_reducible rfl
                        rotate_left
                        ·simp only [Act.put, List.setIfInBounds_toArray, List.set_cons_zero, List.set_cons_succ, i64_w, i32_w]
                         rfl
                        refine pure_ (i := 9) (N := some 109) (v := ?_) (a' := ?_) #[true, true, true, true, false, true, false, true, true, true, false, false, false, false, false, false, false, false, false, false, false, false, false, false, false] rfl rfl (any_of HT_.out (by kernel_rfl)) (fun _ _ _ h => h) (Or.inl ⟨by rfl, ?_⟩) ?_ ?_
                        rotate_left
                        ·intro w'
                         go_simp
                         with_reducible rfl
                        rotate_left
                        ·simp only [Act.put, List.setIfInBounds_toArray, List.set_cons_zero, List.set_cons_succ, i64_w, i32_w]
                         rfl
                        refine pure_ (i := 10) (N := some 110) (v := ?_) (a' := ?_) #[true, true, true, true, false, true, false, true, true, true, true, false, false, false, false, false, false, false, false, false, false, false, false, false, false] rfl rfl (any_of HT_.out (by kernel_rfl)) (fun _ _ _ h => h) (Or.inl ⟨by rfl, ?_⟩) ?_ ?_
                        rotate_left
                        ·intro w'
                         go_simp
                         with_reducible rfl
                        rotate_left
                        ·simp only [Act.put, List.setIfInBounds_toArray, List.set_cons_zero, List.set_cons_succ, i64_w, i32_w]
                         rfl
                        refine pure_ (i := 12) (N := some 112) (v := ?_) (a' := ?_) #[true, true, true, true, false, true, false, true, true, true, true, false, true, false, false, false, false, false, false, false, false, false, false, false, false] rfl rfl (any_of HT_.out (by kernel_rfl)) (fun _ _ _ h => h) (Or.inl ⟨by rfl, ?_⟩) ?_ ?_
                        rotate_left
                        ·intro w'
                         go_simp
                         with_reducible rfl
                        rotate_left
                        ·simp only [Act.put, List.setIfInBounds_toArray, List.set_cons_zero, List.set_cons_succ, i64_w, i32_w]
                         rfl
                        refine pure_ (i := 13) (N := some 113) (v := ?_) (a' := ?_) #[true, true, true, true, false, true, false, true, true, true, true, false, true, true, false, false, false, false, false, false, false, false, false, false, false] rfl rfl (any_of HT_.out (by kernel_rfl)) (fun _ _ _ h => h) (Or.inl ⟨by rfl, ?_⟩) ?_ ?_
                        rotate_left
                        ·intro w'
                         go_simp
                         with_reducible rfl
                        rotate_left
                        ·simp only [Act.put, List.setIfInBounds_toArray, List.set_cons_zero, List.set_cons_succ, i64_w, i32_w]
                         rfl
                        refine pure_ (i := 14) (N := some 114) (v := ?_) (a' := ?_) #[true, true, true, true, false, true, false, true, true, true, true, false, true, true, true, false, false, false, false, false, false, false, false, false, false] rfl rfl (any_of HT_.out (by kernel_rfl)) (fun _ _ _ h => h) (Or.inl ⟨by rfl, ?_⟩) ?_ ?_
                        rotate_left
                        ·intro w'
                         go_simp
                         with_reducible rfl
                        rotate_left
                        ·simp only [Act.put, List.setIfInBounds_toArray, List.set_cons_zero, List.set_cons_succ, i64_w, i32_w]
                         rfl
                        refine pure_ (i := 15) (N := some 115) (v := ?_) (a' := ?_) #[true, true, true, true, false, true, false, true, true, true, true, false, true, true, true, true, false, false, false, false, false, false, false, false, false] rfl rfl (any_of HT_.out (by kernel_rfl)) (fun _ _ _ h => h) (Or.inl ⟨by rfl, ?_⟩) ?_ ?_
                        rotate_left
                        ·intro w'
                         go_simp
                         with_reducible rfl
                        rotate_left
                        ·simp only [Act.put, List.setIfInBounds_toArray, List.set_cons_zero, List.set_cons_succ, i64_w, i32_w]
                         rfl
                        refine pure_ (i := 16) (N := some 116) (v := ?_) (a' := ?_) #[true, true, true, true, false, true, false, true, true, true, true, false, true, true, true, true, true, false, false, false, false, false, false, false, false] rfl rfl (any_of HT_.out (by kernel_rfl)) (fun _ _ _ h => h) (Or.inl ⟨by rfl, ?_⟩) ?_ ?_
                        rotate_left
                        ·intro w'
                         go_simp
                         with_reducible rfl
                        rotate_left
                        ·simp only [Act.put, List.setIfInBounds_toArray, List.set_cons_zero, List.set_cons_succ, i64_w, i32_w]
                         rfl
                        refine pure_ (i := 17) (N := some 117) (v := ?_) (a' := ?_) #[true, true, true, true, false, true, false, true, true, true, true, false, true, true, true, true, true, true, false, false, false, false, false, false, false] rfl rfl (any_of HT_.out (by kernel_rfl)) (fun _ _ _ h => h) (Or.inl ⟨by rfl, ?_⟩) ?_ ?_
                        rotate_left
                        ·intro w'
                         go_simp
                         with_reducible rfl
                        rotate_left
                        ·simp only [Act.put, List.setIfInBounds_toArray, List.set_cons_zero, List.set_cons_succ, i64_w, i32_w]
                         rfl
                        refine pure_ (i := 18) (N := some 118) (v := ?_) (a' := ?_) #[true, true, true, true, false, true, false, true, true, true, true, false, true, true, true, true, true, true, true, false, false, false, false, false, false] rfl rfl (any_of HT_.out (by kernel_rfl)) (fun _ _ _ h => h) (Or.inl ⟨by rfl, ?_⟩) ?_ ?_
                        rotate_left
                        ·intro w'
                         go_simp
                         with_reducible rfl
                        rotate_left
                        ·simp only [Act.put, List.setIfInBounds_toArray, List.set_cons_zero, List.set_cons_succ, i64_w, i32_w]
                         rfl
                        refine take_ (i := 4) (N := some 104) (v := ?_) (a' := ?_) #[true, true, true, true, true, true, false, true, true, true, true, false, true, true, true, true, true, true, true, false, false, false, false, false, false] rfl rfl (take_ofW HT_.out HW_.out (by kernel_rfl)) (fun _ _ _ h => h) (Or.inl ⟨by rfl, ?_⟩) hHeld ?_ ?_
                        rotate_left
                        ·rintro w' ⟨s0, s1, s2, s3, s4, s5, s6⟩
                         go_simp
                         with_reducible rfl
                        rotate_left
                        ·simp only [Act.put, List.setIfInBounds_toArray, List.set_cons_zero, List.set_cons_succ, i64_w, i32_w]
                         rfl
                        refine take_ (i := 6) (N := some 106) (v := ?_) (a' := ?_) #[true, true, true, true, true, true, true, true, true, true, true, false, true, true, true, true, true, true, true, false, false, false, false, false, false] rfl rfl (take_ofW HT_.out HW_.out (by kernel_rfl)) (fun _ _ _ h => h) (Or.inl ⟨by rfl, ?_⟩) hHeld ?_ ?_
                        rotate_left
                        ·rintro w' ⟨s0, s1, s2, s3, s4, s5, s6⟩
                         go_simp
                         with_reducible rfl
                        rotate_left
                        ·simp only [Act.put, List.setIfInBounds_toArray, List.set_cons_zero, List.set_cons_succ, i64_w, i32_w]
                         rfl
                        refine take_ (i := 11) (N := some 111) (v := ?_) (a' := ?_) #[true, true, true, true, true, true, true, true, true, true, true, true, true, true, true, true, true, true, true, false, false, false, false, false, false] rfl rfl (take_ofW HT_.out HW_.out (by kernel_rfl)) (fun _ _ _ h => h) (Or.inl ⟨by rfl, ?_⟩) hHeld ?_ ?_
                        rotate_left
                        ·rintro w' ⟨s0, s1, s2, s3, s4, s5, s6⟩
                         go_simp
                         with_reducible rfl
                        rotate_left
                        ·simp only [Act.put, List.setIfInBounds_toArray, List.set_cons_zero, List.set_cons_succ, i64_w, i32_w]
                         rfl
                        refine one_ (i := 19) (N := some 119) #[true, true, true, true, true, true, true, true, true, true, true, true, true, true, true, true, true, true, true, true, false, false, false, false, false] rfl rfl (one_of HT_.out (by kernel_rfl)) (by decide) (fun K hK => ?_)
                        refine goes_ Try.func42 (by kernel_rfl) rfl #[.int .u8 ((rd_T44 l1 x10_5).f0), .int .u8 x327002_5, .int .u8 ((rd_T44 l1 x10_5).f1), .slice A47 y334.length c47] (by rfl) rfl rfl (by (try simp only [List.map_toArray, List.map_cons, List.map_nil]); first | done | rfl | (simp only [List.length_drop, List.length_take]; rfl)) ?_
                        with_reducible refine (block_Analyse.calls ((rd_T44 l1 x10_5).f0) x327002_5 ((rd_T44 l1 x10_5).f1) _ _ y334 t338 t339 _ ?side1 ?side2 A43.out).mono ?_
                        (case side1 => repeat (first | exact (by repeat (first | (with_reducible exact HR337.out) | (with_reducible refine Kd.C_alloc ?_ _) | (with_reducible refine Kd.C_drewN ?_ _) | (with_reducible refine Kd.C_drew ?_) | exact HR337.out)) | (with_reducible refine Kd.C_alloc ?_ _) | (with_reducible refine Kd.C_drewN ?_ _) | (with_reducible refine Kd.C_drew ?_)))
                        (case side2 => exact HC337.out)
                        rintro e w49 ⟨v340, rfl, ho0, hb⟩
                        refine ⟨_, rfl, ?_⟩
                        have n0_ := Aside0.mk (Kd.R_elder' (by (with_reducible repeat (first | apply Kd.R_alloc | apply Kd.R_drewN | apply Kd.R_drew)); exact HO_6.out) (Kd.R_base ho0) hb)
                        have n1_ := Aside0.mk (Kd.R_elder' (by (with_reducible repeat (first | apply Kd.R_alloc | apply Kd.R_drewN | apply Kd.R_drew)); exact HO_327000.out) (Kd.R_base ho0) hb)
                        have n2_ := Aside0.mk (Kd.R_lower (Kd.R_new' (Kd.R_new' ho0 (Kd.R_lt (by (with_reducible repeat (first | apply Kd.R_alloc | apply Kd.R_drewN | apply Kd.R_drew)); exact HO_6.out))) (Kd.R_lt (by (with_reducible repeat (first | apply Kd.R_alloc | apply Kd.R_drewN | apply Kd.R_drew)); exact HO_327000.out))) (below_size (by repeat (first | (with_reducible first | exact HB.out | apply below_alloc | apply pw_below_drewN | apply below_drew1 | refine below_set ?_ GE326.out) | exact HB.out))))
                        have n3_ := Aside0.mk (blk_below (g := gb326) (o := .cells #[u327000, .int .u8 x327001_5, .int .u8 x327002_5] 31 (0, 0)) (by (with_reducible repeat (first | refine blk_drewN ?_ _ | refine blk_drew ?_ | refine blk_alloc ?_ _)); exact BK326.out) hb)
                        have n4_ := Aside0.mk (Kd.C_below (by repeat (first | (with_reducible exact HR337.out) | (with_reducible refine Kd.C_alloc ?_ _) | (with_reducible refine Kd.C_drewN ?_ _) | (with_reducible refine Kd.C_drew ?_) | exact HR337.out)) hb)
                        have n5_ := Aside0.mk (below_step (by repeat (first | (with_reducible first | exact HB.out | apply below_alloc | apply pw_below_drewN | apply below_drew1 | refine below_set ?_ GE326.out) | exact HB.out)) hb)
                        clear HO_6
                        clear HO_327000
                        clear BK326
                        clear HR337
                        clear HB
                        have HO_6 := n0_
                        have HO_327000 := n1_
                        have HO341 := n2_
                        have BK326 := n3_
                        have HR337 := n4_
                        have HB := n5_
                        clear n0_ n1_ n2_ n3_ n4_ n5_
                        (try clear hb)
                        (try clear hb2)
                        (try clear hk)
                        (try clear hi)
                        (try clear ho0)
                        refine hK.out _ _ ⟨(blk_cell BK326.out 0).trans rfl, (blk_cell BK326.out 1).trans rfl, (blk_cell BK326.out 2).trans rfl, ((HB.out.cell (World.block_lt_of_cell? w _ hw332_0)).trans hw332_0), ((HB.out.cell (World.block_lt_of_cell? w _ hw332_1)).trans hw332_1), ((HB.out.cell (World.block_lt_of_cell? w _ hw333_0)).trans hw333_0), ((HB.out.cell (World.block_lt_of_cell? w _ hw333_1)).trans hw333_1)⟩ (fun hHeld => ?_)
                        clear hK K
                        refine norm_ (a' := ?_) ?_ ?_
                        rotate_left
                        ·show Act.put _ (some 119) _ = _
                         simp only [Act.put, List.setIfInBounds_toArray, List.set_cons_zero, List.set_cons_succ, i64_w, i32_w]
                         rfl
                        refine pure_ (i := 20) (N := some 99) (v := ?_) (a' := ?_) #[true, true, true, true, true, true, true, true, true, true, true, true, true, true, true, true, true, true, true, true, true, false, false, false, false] rfl rfl (any_of HT_.out (by kernel_rfl)) (fun _ _ _ h => h) (Or.inl ⟨by rfl, ?_⟩) ?_ ?_
                        rotate_left
                        ·intro w'
                         go_simp
                         with_reducible rfl
                        rotate_left
                        ·simp only [Act.put, List.setIfInBounds_toArray, List.set_cons_zero, List.set_cons_succ, i64_w, i32_w]
                         rfl
                        refine pure_ (i := 21) (N := some 120) (v := ?_) (a' := ?_) #[true, true, true, true, true, true, true, true, true, true, true, true, true, true, true, true, true, true, true, true, true, true, false, false, false] rfl rfl (any_of HT_.out (by kernel_rfl)) (fun _ _ _ h => h) (Or.inl ⟨by rfl, ?_⟩) ?_ ?_
                        rotate_left
                        ·intro w'
                         go_simp
                         with_reducible rfl
                        rotate_left
                        ·simp only [Act.put, List.setIfInBounds_toArray, List.set_cons_zero, List.set_cons_succ, i64_w, i32_w]
                         rfl
                        refine pure_ (i := 22) (N := some 121) (v := ?_) (a' := ?_) #[true, true, true, true, true, true, true, true, true, true, true, true, true, true, true, true, true, true, true, true, true, true, true, false, false] rfl rfl (any_of HT_.out (by kernel_rfl)) (fun _ _ _ h => h) (Or.inl ⟨by rfl, ?_⟩) ?_ ?_
                        rotate_left
                        ·intro w'
                         go_simp
                         with_reducible rfl
                        rotate_left
                        ·simp only [Act.put, List.setIfInBounds_toArray, List.set_cons_zero, List.set_cons_succ, i64_w, i32_w]
                         rfl
                        refine pure_ (i := 23) (N := some 11) (v := ?_) (a' := ?_) #[true, true, true, true, true, true, true, true, true, true, true, true, true, true, true, true, true, true, true, true, true, true, true, true, false] rfl rfl (any_of HT_.out (by kernel_rfl)) (fun _ _ _ h => h) (Or.inl ⟨by rfl, ?_⟩) ?_ ?_
                        rotate_left
                        ·intro w'
                         go_simp
                         with_reducible rfl
                        rotate_left
                        ·simp only [Act.put, List.setIfInBounds_toArray, List.set_cons_zero, List.set_cons_succ, i64_w, i32_w]
                         rfl
                        refine pure_ (i := 24) (N := some 12) (v := ?_) (a' := ?_) #[true, true, true, true, true, true, true, true, true, true, true, true, true, true, true, true, true, true, true, true, true, true, true, true, true] rfl rfl (any_of HT_.out (by kernel_rfl)) (fun _ _ _ h => h) (Or.inl ⟨by rfl, ?_⟩) ?_ ?_
                        rotate_left
                        ·intro w'
                         go_simp
                         with_reducible rfl
                        rotate_left
                        ·simp only [Act.put, List.setIfInBounds_toArray, List.set_cons_zero, List.set_cons_succ, i64_w, i32_w]
                         rfl
                        refine done_ (done_of HT_.out (by kernel_rfl)) ?_
                        obtain ⟨Ao50, co50, eo50⟩ := Kd.R_slice HO_327000.out
                        subst eo50
                        obtain ⟨Ao51, co51, eo51⟩ := Kd.R_slice HO341.out
                        subst eo51
                        try go_wp2
                        have n0_ := Aside0.mk (Kd.R_drew HO_6.out)
                        have n1_ := Aside0.mk (Kd.R_drew HO_327000.out)
                        have n2_ := Aside0.mk (Kd.R_drew HO341.out)
                        have n3_ := Aside0.mk (blk_drew BK326.out)
                        have n4_ := Aside0.mk (Kd.C_drew HR337.out)
                        have n5_ := Aside0.mk (below_drew1 HB.out)
                        clear HO_6
                        clear HO_327000
                        clear HO341
                        clear BK326
                        clear HR337
                        clear HB
                        have HO_6 := n0_
                        have HO_327000 := n1_
                        have HO341 := n2_
                        have BK326 := n3_
                        have HR337 := n4_
                        have HB := n5_
                        clear n0_ n1_ n2_ n3_ n4_ n5_
                        have p342 : 0 ≤ (x10_5 : Int) := of_decide_eq_true (by first | (with_reducible assumption) | assumption)
                        have q342 : x10_5 < (l1.length : Int) := of_decide_eq_true (by first | (with_reducible assumption) | assumption)
                        obtain ⟨ad342, e342, hx342_0, hx342_1⟩ := at_T44 HR1.out x10_5 p342 q342
                        have hw342_1 := hx342_1
                        have hw342_0 := hx342_0
                        obtain rfl : ad332 = ad342 := (by injection e342)
                        replace hx342_0 := (HB.out.cell (World.block_lt_of_cell? w _ hx342_0)).trans hx342_0
                        replace hx342_1 := (HB.out.cell (World.block_lt_of_cell? w _ hx342_1)).trans hx342_1
                        replace p342 := eq_true p342
                        replace q342 := eq_true q342
                        have p343 : 0 ≤ (x10_5 : Int) := of_decide_eq_true (by first | (with_reducible assumption) | assumption)
                        have q343 : x10_5 < (l1.length : Int) := of_decide_eq_true (by first | (with_reducible assumption) | assumption)
                        obtain ⟨ad343, e343, hx343_0, hx343_1⟩ := at_T44 HR1.out x10_5 p343 q343
                        have hw343_1 := hx343_1
                        have hw343_0 := hx343_0
                        obtain rfl : ad332 = ad343 := (by injection e343)
                        replace hx343_0 := (HB.out.cell (World.block_lt_of_cell? w _ hx343_0)).trans hx343_0
                        replace hx343_1 := (HB.out.cell (World.block_lt_of_cell? w _ hx343_1)).trans hx343_1
                        replace p343 := eq_true p343
                        replace q343 := eq_true q343
                        refine start_ (n := 21) (S := fun w' => w'.cell? ⟨gb326, 0, none⟩ = some (.slice Ao50 x327000_5.length co50) ∧ w'.cell? ⟨gb326, 1, none⟩ = some (.int .u8 x327001_5) ∧ w'.cell? ⟨gb326, 2, none⟩ = some (.int .u8 x327002_5) ∧ w'.cell? (ad332.add ((x10_5).toNat * 2)) = some (.int .u8 ((rd_T44 l1 x10_5).f0)) ∧ w'.cell? ⟨(ad332.add ((x10_5).toNat * 2)).block, (ad332.add ((x10_5).toNat * 2)).off + 1, none⟩ = some (.int .u8 ((rd_T44 l1 x10_5).f1)) ∧ w'.cell? (ad332.add ((x10_5).toNat * 2)) = some (.int .u8 ((rd_T44 l1 x10_5).f0)) ∧ w'.cell? ⟨(ad332.add ((x10_5).toNat * 2)).block, (ad332.add ((x10_5).toNat * 2)).off + 1, none⟩ = some (.int .u8 ((rd_T44 l1 x10_5).f1))) (ds := []) #[false, false, false, false, false, false, false, false, false, false, false, false, false, false, false, false, false, false, false, false, false] (by kernel_rfl) rfl rfl ⟨(blk_cell BK326.out 0).trans rfl, (blk_cell BK326.out 1).trans rfl, (blk_cell BK326.out 2).trans rfl, ((HB.out.cell (World.block_lt_of_cell? w _ hw342_0)).trans hw342_0), ((HB.out.cell (World.block_lt_of_cell? w _ hw342_1)).trans hw342_1), ((HB.out.cell (World.block_lt_of_cell? w _ hw343_0)).trans hw343_0), ((HB.out.cell (World.block_lt_of_cell? w _ hw343_1)).trans hw343_1)⟩ (fun hHeld => ?_); refine with_tabW reedpipelaw13_LapBack.tab19 reedpipelaw13_LapBack.bits19 (fun HT_ HW_ => ?_)
                        generalize w49.drew = w52 at HO_6 HO_327000 HO341 BK326 HR337 HB hx342_0 hx342_1 hx343_0 hx343_1 hHeld ⊢
                        refine pure_ (i := 1) (N := some 124) (v := ?_) (a' := ?_) #[false, true, false, false, false, false, false, false, false, false, false, false, false, false, false, false, false, false, false, false, false] rfl rfl (any_of HT_.out (by kernel_rfl)) (fun _ _ _ h => h) (Or.inl ⟨by rfl, ?_⟩) ?_ ?_
                        rotate_left
                        ·intro w'
                         go_simp
                         with_reducible rfl
                        rotate_left
                        ·simp only [Act.put, List.setIfInBounds_toArray, List.set_cons_zero, List.set_cons_succ, i64_w, i32_w]
                         rfl
                        refine pure_ (i := 2) (N := some 125) (v := ?_) (a' := ?_) #[false, true, true, false, false, false, false, false, false, false, false, false, false, false, false, false, false, false, false, false, false] rfl rfl (any_of HT_.out (by kernel_rfl)) (fun _ _ _ h => h) (Or.inl ⟨by rfl, ?_⟩) ?_ ?_
                        rotate_left
                        ·intro w'
                         go_simp
                         with_reducible rfl
                        rotate_left
                        ·simp only [Act.put, List.setIfInBounds_toArray, List.set_cons_zero, List.set_cons_succ, i64_w, i32_w]
                         rfl
                        refine pure_ (i := 3) (N := some 126) (v := ?_) (a' := ?_) #[false, true, true, true, false, false, false, false, false, false, false, false, false, false, false, false, false, false, false, false, false] rfl rfl (any_of HT_.out (by kernel_rfl)) (fun _ _ _ h => h) (Or.inl ⟨by rfl, ?_⟩) ?_ ?_
                        rotate_left
                        ·intro w'
                         go_simp
                         with_reducible rfl
                        rotate_left
                        ·simp only [Act.put, List.setIfInBounds_toArray, List.set_cons_zero, List.set_cons_succ, i64_w, i32_w]
                         rfl
                        refine pure_ (i := 4) (N := some 127) (v := ?_) (a' := ?_) #[false, true, true, true, true, false, false, false, false, false, false, false, false, false, false, false, false, false, false, false, false] rfl rfl (any_of HT_.out (by kernel_rfl)) (fun _ _ _ h => h) (Or.inl ⟨by rfl, ?_⟩) ?_ ?_
                        rotate_left
                        ·intro w'
                         go_simp
                         with_reducible rfl
                        rotate_left
                        ·simp only [Act.put, List.setIfInBounds_toArray, List.set_cons_zero, List.set_cons_succ, i64_w, i32_w]
                         rfl
                        refine pure_ (i := 6) (N := some 129) (v := ?_) (a' := ?_) #[false, true, true, true, true, false, true, false, false, false, false, false, false, false, false, false, false, false, false, false, false] rfl rfl (any_of HT_.out (by kernel_rfl)) (fun _ _ _ h => h) (Or.inl ⟨by rfl, ?_⟩) ?_ ?_
                        rotate_left
                        ·intro w'
                         go_simp
                         with_reducible rfl
                        rotate_left
                        ·simp only [Act.put, List.setIfInBounds_toArray, List.set_cons_zero, List.set_cons_succ, i64_w, i32_w]
                         rfl
                        refine pure_ (i := 7) (N := some 130) (v := ?_) (a' := ?_) #[false, true, true, true, true, false, true, true, false, false, false, false, false, false, false, false, false, false, false, false, false] rfl rfl (any_of HT_.out (by kernel_rfl)) (fun _ _ _ h => h) (Or.inl ⟨by rfl, ?_⟩) ?_ ?_
                        rotate_left
                        ·intro w'
                         go_simp
                         with_reducible rfl
                        rotate_left
                        ·simp only [Act.put, List.setIfInBounds_toArray, List.set_cons_zero, List.set_cons_succ, i64_w, i32_w]
                         rfl
                        refine pure_ (i := 8) (N := some 131) (v := ?_) (a' := ?_) #[false, true, true, true, true, false, true, true, true, false, false, false, false, false, false, false, false, false, false, false, false] rfl rfl (any_of HT_.out (by kernel_rfl)) (fun _ _ _ h => h) (Or.inl ⟨by rfl, ?_⟩) ?_ ?_
                        rotate_left
                        ·intro w'
                         go_simp
                         with_reducible rfl
                        rotate_left
                        ·simp only [Act.put, List.setIfInBounds_toArray, List.set_cons_zero, List.set_cons_succ, i64_w, i32_w]
                         rfl
                        refine pure_ (i := 9) (N := some 132) (v := ?_) (a' := ?_) #[false, true, true, true, true, false, true, true, true, true, false, false, false, false, false, false, false, false, false, false, false] rfl rfl (any_of HT_.out (by kernel_rfl)) (fun _ _ _ h => h) (Or.inl ⟨by rfl, ?_⟩) ?_ ?_
                        rotate_left
                        ·intro w'
                         go_simp
                         with_reducible rfl
                        rotate_left
                        ·simp only [Act.put, List.setIfInBounds_toArray, List.set_cons_zero, List.set_cons_succ, i64_w, i32_w]
                         rfl
                        refine pure_ (i := 11) (N := some 134) (v := ?_) (a' := ?_) #[false, true, true, true, true, false, true, true, true, true, false, true, false, false, false, false, false, false, false, false, false] rfl rfl (any_of HT_.out (by kernel_rfl)) (fun _ _ _ h => h) (Or.inl ⟨by rfl, ?_⟩) ?_ ?_
                        rotate_left
                        ·intro w'
                         go_simp
                         with_reducible rfl
                        rotate_left
                        ·simp only [Act.put, List.setIfInBounds_toArray, List.set_cons_zero, List.set_cons_succ, i64_w, i32_w]
                         rfl
                        refine take_ (i := 0) (N := some 123) (v := ?_) (a' := ?_) #[true, true, true, true, true, false, true, true, true, true, false, true, false, false, false, false, false, false, false, false, false] rfl rfl (take_ofW HT_.out HW_.out (by kernel_rfl)) (fun _ _ _ h => h) (Or.inl ⟨by rfl, ?_⟩) hHeld ?_ ?_
                        rotate_left
                        ·rintro w' ⟨s0, s1, s2, s3, s4, s5, s6⟩
                         go_simp
                         with_reducible rfl
                        rotate_left
                        ·simp only [Act.put, List.setIfInBounds_toArray, List.set_cons_zero, List.set_cons_succ, i64_w, i32_w]
                         rfl
                        refine take_ (i := 5) (N := some 128) (v := ?_) (a' := ?_) #[true, true, true, true, true, true, true, true, true, true, false, true, false, false, false, false, false, false, false, false, false] rfl rfl (take_ofW HT_.out HW_.out (by kernel_rfl)) (fun _ _ _ h => h) (Or.inl ⟨by rfl, ?_⟩) hHeld ?_ ?_
                        rotate_left
                        ·rintro w' ⟨s0, s1, s2, s3, s4, s5, s6⟩
                         go_simp
                         with_reducible rfl
                        rotate_left
                        ·simp only [Act.put, List.setIfInBounds_toArray, List.set_cons_zero, List.set_cons_succ, i64_w, i32_w]
                         rfl
                        refine take_ (i := 10) (N := some 133) (v := ?_) (a' := ?_) #[true, true, true, true, true, true, true, true, true, true, true, true, false, false, false, false, false, false, false, false, false] rfl rfl (take_ofW HT_.out HW_.out (by kernel_rfl)) (fun _ _ _ h => h) (Or.inl ⟨by rfl, ?_⟩) hHeld ?_ ?_
                        rotate_left
                        ·rintro w' ⟨s0, s1, s2, s3, s4, s5, s6⟩
                         go_simp
                         with_reducible rfl
                        rotate_left
                        ·simp only [Act.put, List.setIfInBounds_toArray, List.set_cons_zero, List.set_cons_succ, i64_w, i32_w]
                         rfl
                        refine join_ (σ := Value × Value × Nat) 3 #[true, true, true, true, true, true, true, true, true, true, true, true, true, true, true, true, true, true, false, false, false] (fun s_ => [(135, .tuple #[.agg #[s_.1, .int .u8 t347, .int .u8 t348], s_.2.1, .int .i64 t352]), (13, .pointer (some ⟨s_.2.2, 0, none⟩)), (122, .tuple #[.agg #[s_.1, .int .u8 t347, .int .u8 t348], s_.2.1, .int .i64 t352]), (136, .agg #[s_.1, .int .u8 t347, .int .u8 t348]), (137, s_.2.1), (138, .int .i64 t352)]) (fun s_ w' => (w'.cell? ⟨gb326, 0, none⟩ = some (.slice Ao50 x327000_5.length co50) ∧ w'.cell? ⟨gb326, 1, none⟩ = some (.int .u8 x327001_5) ∧ w'.cell? ⟨gb326, 2, none⟩ = some (.int .u8 x327002_5) ∧ w'.cell? (ad332.add ((x10_5).toNat * 2)) = some (.int .u8 ((rd_T44 l1 x10_5).f0)) ∧ w'.cell? ⟨(ad332.add ((x10_5).toNat * 2)).block, (ad332.add ((x10_5).toNat * 2)).off + 1, none⟩ = some (.int .u8 ((rd_T44 l1 x10_5).f1)) ∧ w'.cell? (ad332.add ((x10_5).toNat * 2)) = some (.int .u8 ((rd_T44 l1 x10_5).f0)) ∧ w'.cell? ⟨(ad332.add ((x10_5).toNat * 2)).block, (ad332.add ((x10_5).toNat * 2)).off + 1, none⟩ = some (.int .u8 ((rd_T44 l1 x10_5).f1))) ∧ (Kd.R (Kd.int .i64) 3 w' w.heap.size (fun k_ => some k_ ≠ (s_.1 : Value).ownBlock ∧ some k_ ≠ (s_.2.1 : Value).ownBlock ∧ some k_ ≠ (.slice Ao50 x327000_5.length co50 : Value).ownBlock ∧ some k_ ≠ (.slice Ao48 x6_2.length co48 : Value).ownBlock) (.slice Ao51 t338.length co51) t338) ∧ (Kd.R (Kd.int .i64) 3 w' w.heap.size (fun k_ => some k_ ≠ (.slice Ao51 t338.length co51 : Value).ownBlock ∧ some k_ ≠ (s_.2.1 : Value).ownBlock ∧ some k_ ≠ (.slice Ao50 x327000_5.length co50 : Value).ownBlock ∧ some k_ ≠ (.slice Ao48 x6_2.length co48 : Value).ownBlock) s_.1 t344) ∧ (Kd.R (Kd.int .i64) 3 w' w.heap.size (fun k_ => some k_ ≠ (.slice Ao51 t338.length co51 : Value).ownBlock ∧ some k_ ≠ (s_.1 : Value).ownBlock ∧ some k_ ≠ (.slice Ao50 x327000_5.length co50 : Value).ownBlock ∧ some k_ ≠ (.slice Ao48 x6_2.length co48 : Value).ownBlock) s_.2.1 t349) ∧ (Kd.R (Kd.int .i64) 3 w' w.heap.size (fun k_ => some k_ ≠ (.slice Ao51 t338.length co51 : Value).ownBlock ∧ some k_ ≠ (s_.1 : Value).ownBlock ∧ some k_ ≠ (s_.2.1 : Value).ownBlock ∧ some k_ ≠ (.slice Ao48 x6_2.length co48 : Value).ownBlock) (.slice Ao50 x327000_5.length co50) x327000_5) ∧ (Kd.R (Kd.int .i64) 3 w' w.heap.size (fun k_ => some k_ ≠ (.slice Ao51 t338.length co51 : Value).ownBlock ∧ some k_ ≠ (s_.1 : Value).ownBlock ∧ some k_ ≠ (s_.2.1 : Value).ownBlock ∧ some k_ ≠ (.slice Ao50 x327000_5.length co50 : Value).ownBlock) (.slice Ao48 x6_2.length co48) x6_2) ∧ (w'.heap[gb326]? = some (.cells #[.slice Ao50 x327000_5.length co50, .int .u8 x327001_5, .int .u8 x327002_5] 31 (0, 0))) ∧ (w'.heap[s_.2.2]? = some (.cells #[.slice none 0 0, .int .u8 0, .int .u8 0] 31 (0, 0))) ∧ (w.heap.size ≤ s_.2.2) ∧ (w.heap.size ≤ s_.2.2) ∧ (gb326 ≠ s_.2.2) ∧ (s_.2.2 ≠ gb326) ∧ (Below w.heap.size w w')) ?_ ?_
                        rotate_left
                        ·intro hCont
                         refine two_ (i := 12) (j := 17) (Ni := some 135) (Nj := some 13) #[true, true, true, true, true, true, true, true, true, true, true, true, true, false, false, false, false, false, false, false, false] #[true, true, true, true, true, true, true, true, true, true, true, true, false, false, false, false, false, true, false, false, false] rfl rfl rfl rfl (two_of HT_.out (by kernel_rfl)) (by decide) (by decide) (fun K hK => ?_) (fun K hK => ?_)
                         ·skip
                          refine goes_ Try.func35 (by kernel_rfl) rfl #[.agg #[.slice Ao50 x327000_5.length co50, .int .u8 x327001_5, .int .u8 x327002_5], .int .u8 ((rd_T44 l1 x10_5).f0), .int .u8 ((rd_T44 l1 x10_5).f1), .slice Ao51 t338.length co51] (by rfl) rfl rfl (by (try simp only [List.map_toArray, List.map_cons, List.map_nil]); first | done | rfl | (simp only [List.length_drop, List.length_take]; rfl)) ?_
                          with_reducible refine (lap_Next.calls _ _ x327000_5 x327001_5 x327002_5 ((rd_T44 l1 x10_5).f0) ((rd_T44 l1 x10_5).f1) _ _ t338 t344 t347 t348 t349 t352 _ ?side1 ?side2 ?side3 ?side4 A44.out).mono ?_
                          (case side1 => repeat (first | exact (Kd.R_reads' HO_327000.out).2.2 | (with_reducible refine Kd.C_alloc ?_ _) | (with_reducible refine Kd.C_drewN ?_ _) | (with_reducible refine Kd.C_drew ?_)))
                          (case side2 => exact (Kd.R_reads' HO_327000.out).2.1)
                          (case side3 => repeat (first | exact (Kd.R_reads' HO341.out).2.2 | (with_reducible refine Kd.C_alloc ?_ _) | (with_reducible refine Kd.C_drewN ?_ _) | (with_reducible refine Kd.C_drew ?_)))
                          (case side4 => exact (Kd.R_reads' HO341.out).2.1)
                          rintro e w53 ⟨v345, v350, rfl, ho0, ho1, hb⟩
                          refine ⟨_, rfl, ?_⟩
                          have n0_ := Aside0.mk (Kd.R_mono (Kd.R_told (Kd.R_told (Kd.R_old (by (with_reducible repeat (first | apply Kd.R_alloc | apply Kd.R_drewN | apply Kd.R_drew)); exact HO_6.out) hb) (Kd.R_base ho0)) (Kd.R_base ho1)) (fun _ h_ => h_.1))
                          have n1_ := Aside0.mk (Kd.R_mono (Kd.R_told (Kd.R_told (Kd.R_old (by (with_reducible repeat (first | apply Kd.R_alloc | apply Kd.R_drewN | apply Kd.R_drew)); exact HO_327000.out) hb) (Kd.R_base ho0)) (Kd.R_base ho1)) (fun _ h_ => h_.1))
                          have n2_ := Aside0.mk (Kd.R_mono (Kd.R_told (Kd.R_told (Kd.R_old (by (with_reducible repeat (first | apply Kd.R_alloc | apply Kd.R_drewN | apply Kd.R_drew)); exact HO341.out) hb) (Kd.R_base ho0)) (Kd.R_base ho1)) (fun _ h_ => h_.1))
                          have n3_ := Aside0.mk (Kd.R_lower (Kd.R_new' (Kd.R_new' (Kd.R_new' ho0 (Kd.R_lt (by (with_reducible repeat (first | apply Kd.R_alloc | apply Kd.R_drewN | apply Kd.R_drew)); exact HO_6.out))) (Kd.R_lt (by (with_reducible repeat (first | apply Kd.R_alloc | apply Kd.R_drewN | apply Kd.R_drew)); exact HO_327000.out))) (Kd.R_lt (by (with_reducible repeat (first | apply Kd.R_alloc | apply Kd.R_drewN | apply Kd.R_drew)); exact HO341.out))) (below_size (by repeat (first | (with_reducible first | exact HB.out | apply below_alloc | apply pw_below_drewN | apply below_drew1 | refine below_set ?_ GE326.out) | exact HB.out))))
                          have n4_ := Aside0.mk (Kd.R_lower (Kd.R_new' (Kd.R_new' (Kd.R_new' ho1 (Kd.R_lt (by (with_reducible repeat (first | apply Kd.R_alloc | apply Kd.R_drewN | apply Kd.R_drew)); exact HO_6.out))) (Kd.R_lt (by (with_reducible repeat (first | apply Kd.R_alloc | apply Kd.R_drewN | apply Kd.R_drew)); exact HO_327000.out))) (Kd.R_lt (by (with_reducible repeat (first | apply Kd.R_alloc | apply Kd.R_drewN | apply Kd.R_drew)); exact HO341.out))) (below_size (by repeat (first | (with_reducible first | exact HB.out | apply below_alloc | apply pw_below_drewN | apply below_drew1 | refine below_set ?_ GE326.out) | exact HB.out))))
                          have n5_ := Aside0.mk (blk_below (g := gb326) (o := .cells #[.slice Ao50 x327000_5.length co50, .int .u8 x327001_5, .int .u8 x327002_5] 31 (0, 0)) (by (with_reducible repeat (first | refine blk_drewN ?_ _ | refine blk_drew ?_ | refine blk_alloc ?_ _)); exact BK326.out) hb)
                          have n6_ := Aside0.mk (Kd.C_below (by repeat (first | (with_reducible exact HR337.out) | (with_reducible refine Kd.C_alloc ?_ _) | (with_reducible refine Kd.C_drewN ?_ _) | (with_reducible refine Kd.C_drew ?_) | exact HR337.out)) hb)
                          have n7_ := Aside0.mk (below_step (by repeat (first | (with_reducible first | exact HB.out | apply below_alloc | apply pw_below_drewN | apply below_drew1 | refine below_set ?_ GE326.out) | exact HB.out)) hb)
                          clear HO_6
                          clear HO_327000
                          clear HO341
                          clear BK326
                          clear HR337
                          clear HB
                          have HO_6 := n0_
                          have HO_327000 := n1_
                          have HO341 := n2_
                          have HO346 := n3_
                          have HO351 := n4_
                          have BK326 := n5_
                          have HR337 := n6_
                          have HB := n7_
                          clear n0_ n1_ n2_ n3_ n4_ n5_ n6_ n7_
                          (try clear hb)
                          (try clear hb2)
                          (try clear hk)
                          (try clear hi)
                          (try clear ho0)
                          (try clear ho1)
                          refine hK.out _ _ ⟨(blk_cell BK326.out 0).trans rfl, (blk_cell BK326.out 1).trans rfl, (blk_cell BK326.out 2).trans rfl, ((HB.out.cell (World.block_lt_of_cell? w _ hw342_0)).trans hw342_0), ((HB.out.cell (World.block_lt_of_cell? w _ hw342_1)).trans hw342_1), ((HB.out.cell (World.block_lt_of_cell? w _ hw343_0)).trans hw343_0), ((HB.out.cell (World.block_lt_of_cell? w _ hw343_1)).trans hw343_1)⟩ (fun hHeld => ?_)
                          clear hK K
                          refine norm_ (a' := ?_) ?_ ?_
                          rotate_left
                          ·show Act.put _ (some 135) _ = _
                           simp only [Act.put, List.setIfInBounds_toArray, List.set_cons_zero, List.set_cons_succ, i64_w, i32_w]
                           rfl
                          refine pure_ (i := 13) (N := some 122) (v := ?_) (a' := ?_) #[true, true, true, true, true, true, true, true, true, true, true, true, true, true, false, false, false, false, false, false, false] rfl rfl (any_of HT_.out (by kernel_rfl)) (fun _ _ _ h => h) (Or.inl ⟨by rfl, ?_⟩) ?_ ?_
                          rotate_left
                          ·intro w'
                           go_simp
                           with_reducible rfl
                          rotate_left
                          ·simp only [Act.put, List.setIfInBounds_toArray, List.set_cons_zero, List.set_cons_succ, i64_w, i32_w]
                           rfl
                          refine pure_ (i := 14) (N := some 136) (v := ?_) (a' := ?_) #[true, true, true, true, true, true, true, true, true, true, true, true, true, true, true, false, false, false, false, false, false] rfl rfl (any_of HT_.out (by kernel_rfl)) (fun _ _ _ h => h) (Or.inl ⟨by rfl, ?_⟩) ?_ ?_
                          rotate_left
                          ·intro w'
                           go_simp
                           with_reducible rfl
                          rotate_left
                          ·simp only [Act.put, List.setIfInBounds_toArray, List.set_cons_zero, List.set_cons_succ, i64_w, i32_w]
                           rfl
                          refine pure_ (i := 15) (N := some 137) (v := ?_) (a' := ?_) #[true, true, true, true, true, true, true, true, true, true, true, true, true, true, true, true, false, false, false, false, false] rfl rfl (any_of HT_.out (by kernel_rfl)) (fun _ _ _ h => h) (Or.inl ⟨by rfl, ?_⟩) ?_ ?_
                          rotate_left
                          ·intro w'
                           go_simp
                           with_reducible rfl
                          rotate_left
                          ·simp only [Act.put, List.setIfInBounds_toArray, List.set_cons_zero, List.set_cons_succ, i64_w, i32_w]
                           rfl
                          refine pure_ (i := 16) (N := some 138) (v := ?_) (a' := ?_) #[true, true, true, true, true, true, true, true, true, true, true, true, true, true, true, true, true, false, false, false, false] rfl rfl (any_of HT_.out (by kernel_rfl)) (fun _ _ _ h => h) (Or.inl ⟨by rfl, ?_⟩) ?_ ?_
                          rotate_left
                          ·intro w'
                           go_simp
                           with_reducible rfl
                          rotate_left
                          ·simp only [Act.put, List.setIfInBounds_toArray, List.set_cons_zero, List.set_cons_succ, i64_w, i32_w]
                           rfl
                          refine one_ (i := 17) (N := some 13) #[true, true, true, true, true, true, true, true, true, true, true, true, true, true, true, true, true, true, false, false, false] rfl rfl (one_of HT_.out (by kernel_rfl)) (by decide) (fun K hK => ?_)
                          refine box_step ?hg (N := 13) ?hd (cs := #[.slice none 0 0, .int .u8 0, .int .u8 0]) (t := 31) ?hr ?_; (case hd => rfl); (case hg => rfl); (case hr => first | (go_simp; done) | (go_simp; rfl))
                          intro gb353 hg w54 hbox hb
                          have n0_ := Aside0.mk (Kd.R_below (by (with_reducible repeat (first | apply Kd.R_alloc | apply Kd.R_drewN | apply Kd.R_drew)); exact HO_6.out) hb)
                          have n1_ := Aside0.mk (Kd.R_below (by (with_reducible repeat (first | apply Kd.R_alloc | apply Kd.R_drewN | apply Kd.R_drew)); exact HO_327000.out) hb)
                          have n2_ := Aside0.mk (Kd.R_below (by (with_reducible repeat (first | apply Kd.R_alloc | apply Kd.R_drewN | apply Kd.R_drew)); exact HO341.out) hb)
                          have n3_ := Aside0.mk (Kd.R_below (by (with_reducible repeat (first | apply Kd.R_alloc | apply Kd.R_drewN | apply Kd.R_drew)); exact HO346.out) hb)
                          have n4_ := Aside0.mk (Kd.R_below (by (with_reducible repeat (first | apply Kd.R_alloc | apply Kd.R_drewN | apply Kd.R_drew)); exact HO351.out) hb)
                          have n5_ := Aside0.mk (blk_below (g := gb326) (o := .cells #[.slice Ao50 x327000_5.length co50, .int .u8 x327001_5, .int .u8 x327002_5] 31 (0, 0)) (by (with_reducible repeat (first | refine blk_drewN ?_ _ | refine blk_drew ?_ | refine blk_alloc ?_ _)); exact BK326.out) hb)
                          have n6_ := Aside0.mk (Kd.C_below (by repeat (first | (with_reducible exact HR337.out) | (with_reducible refine Kd.C_alloc ?_ _) | (with_reducible refine Kd.C_drewN ?_ _) | (with_reducible refine Kd.C_drew ?_) | exact HR337.out)) hb)
                          have n7_ := Aside0.mk (below_step (by repeat (first | (with_reducible first | exact HB.out | apply below_alloc | apply pw_below_drewN | apply below_drew1 | refine below_set ?_ GE326.out) | exact HB.out)) hb)
                          have n8_ := Aside0.mk (hbox)
                          have n9_ := Aside0.mk ((by rw [hg]; exact (below_size (by repeat (first | (with_reducible first | exact HB.out | apply below_alloc | apply pw_below_drewN | apply below_drew1 | refine below_set ?_ GE326.out) | exact HB.out))) : w.heap.size ≤ gb353))
                          have n10_ := Aside0.mk ((by rw [hg]; exact (below_size (by repeat (first | (with_reducible first | exact HB.out | apply below_alloc | apply pw_below_drewN | apply below_drew1 | refine below_set ?_ GE326.out) | exact HB.out))) : w.heap.size ≤ gb353))
                          have n11_ := Aside0.mk ((by rw [hg]; exact Nat.ne_of_lt (blk_lt (g := gb326) (o := .cells #[.slice Ao50 x327000_5.length co50, .int .u8 x327001_5, .int .u8 x327002_5] 31 (0, 0)) (by (with_reducible repeat (first | refine blk_drewN ?_ _ | refine blk_drew ?_ | refine blk_alloc ?_ _)); exact BK326.out)) : gb326 ≠ gb353))
                          have n12_ := Aside0.mk ((by rw [hg]; exact Nat.ne_of_gt (blk_lt (g := gb326) (o := .cells #[.slice Ao50 x327000_5.length co50, .int .u8 x327001_5, .int .u8 x327002_5] 31 (0, 0)) (by (with_reducible repeat (first | refine blk_drewN ?_ _ | refine blk_drew ?_ | refine blk_alloc ?_ _)); exact BK326.out)) : gb353 ≠ gb326))
                          clear HO_6
                          clear HO_327000
                          clear HO341
                          clear HO346
                          clear HO351
                          clear BK326
                          clear HR337
                          clear HB
                          have HO_6 := n0_
                          have HO_327000 := n1_
                          have HO341 := n2_
                          have HO346 := n3_
                          have HO351 := n4_
                          have BK326 := n5_
                          have HR337 := n6_
                          have HB := n7_
                          have BK353 := n8_
                          have GW353 := n9_
                          have GE353 := n10_
                          have NB326_353 := n11_
                          have NB353_326 := n12_
                          clear n0_ n1_ n2_ n3_ n4_ n5_ n6_ n7_ n8_ n9_ n10_ n11_ n12_
                          clear hb hbox hg
                          refine hK.out _ _ ⟨(blk_cell BK326.out 0).trans rfl, (blk_cell BK326.out 1).trans rfl, (blk_cell BK326.out 2).trans rfl, ((HB.out.cell (World.block_lt_of_cell? w _ hw342_0)).trans hw342_0), ((HB.out.cell (World.block_lt_of_cell? w _ hw342_1)).trans hw342_1), ((HB.out.cell (World.block_lt_of_cell? w _ hw343_0)).trans hw343_0), ((HB.out.cell (World.block_lt_of_cell? w _ hw343_1)).trans hw343_1)⟩ (fun hHeld => ?_)
                          clear hK K
                          refine norm_ (a' := ?_) ?_ ?_
                          rotate_left
                          ·show Act.put _ (some 13) _ = _
                           simp only [Act.put, List.setIfInBounds_toArray, List.set_cons_zero, List.set_cons_succ, i64_w, i32_w]
                           rfl
                          exact norm_ (by simp only [putAll, Act.put, List.setIfInBounds_toArray, List.set_cons_zero, List.set_cons_succ]) (hCont (v345, v350, gb353) _ ⟨hHeld, (by (with_reducible repeat (first | apply Kd.R_alloc | apply Kd.R_drewN | apply Kd.R_drew)); exact Kd.R_mono HO341.out (fun _ hk => ⟨hk.1.2, ⟨hk.2, ⟨hk.1.1.2, hk.1.1.1.2⟩⟩⟩)), (by (with_reducible repeat (first | apply Kd.R_alloc | apply Kd.R_drewN | apply Kd.R_drew)); exact Kd.R_mono HO346.out (fun _ hk => ⟨hk.2, ⟨hk.1.1.1, ⟨hk.1.2, hk.1.1.2⟩⟩⟩)), (by (with_reducible repeat (first | apply Kd.R_alloc | apply Kd.R_drewN | apply Kd.R_drew)); exact Kd.R_mono HO351.out (fun _ hk => ⟨hk.2, ⟨hk.1.1.1, ⟨hk.1.2, hk.1.1.2⟩⟩⟩)), (by (with_reducible repeat (first | apply Kd.R_alloc | apply Kd.R_drewN | apply Kd.R_drew)); exact Kd.R_mono HO_327000.out (fun _ hk => ⟨hk.1.1.2, ⟨hk.1.2, ⟨hk.2, hk.1.1.1⟩⟩⟩)), (by (with_reducible repeat (first | apply Kd.R_alloc | apply Kd.R_drewN | apply Kd.R_drew)); exact Kd.R_mono HO_6.out (fun _ hk => ⟨hk.1.1.2, ⟨hk.1.2, ⟨hk.2, hk.1.1.1⟩⟩⟩)), (by (with_reducible repeat (first | refine blk_drewN ?_ _ | refine blk_drew ?_ | refine blk_alloc ?_ _)); exact BK326.out), (by (with_reducible repeat (first | refine blk_drewN ?_ _ | refine blk_drew ?_ | refine blk_alloc ?_ _)); exact BK353.out), GW353.out, GE353.out, NB326_353.out, NB353_326.out, (by repeat (first | (with_reducible first | exact HB.out | apply below_alloc | apply pw_below_drewN | apply below_drew1 | refine below_set ?_ GE326.out | refine below_set ?_ GE353.out) | exact HB.out))⟩)
                         ·skip
                          refine box_step ?hg (N := 13) ?hd (cs := #[.slice none 0 0, .int .u8 0, .int .u8 0]) (t := 31) ?hr ?_; (case hd => rfl); (case hg => rfl); (case hr => first | (go_simp; done) | (go_simp; rfl))
                          intro gb353 hg w53 hbox hb
                          have n0_ := Aside0.mk (Kd.R_below (by (with_reducible repeat (first | apply Kd.R_alloc | apply Kd.R_drewN | apply Kd.R_drew)); exact HO_6.out) hb)
                          have n1_ := Aside0.mk (Kd.R_below (by (with_reducible repeat (first | apply Kd.R_alloc | apply Kd.R_drewN | apply Kd.R_drew)); exact HO_327000.out) hb)
                          have n2_ := Aside0.mk (Kd.R_below (by (with_reducible repeat (first | apply Kd.R_alloc | apply Kd.R_drewN | apply Kd.R_drew)); exact HO341.out) hb)
                          have n3_ := Aside0.mk (blk_below (g := gb326) (o := .cells #[.slice Ao50 x327000_5.length co50, .int .u8 x327001_5, .int .u8 x327002_5] 31 (0, 0)) (by (with_reducible repeat (first | refine blk_drewN ?_ _ | refine blk_drew ?_ | refine blk_alloc ?_ _)); exact BK326.out) hb)
                          have n4_ := Aside0.mk (Kd.C_below (by repeat (first | (with_reducible exact HR337.out) | (with_reducible refine Kd.C_alloc ?_ _) | (with_reducible refine Kd.C_drewN ?_ _) | (with_reducible refine Kd.C_drew ?_) | exact HR337.out)) hb)
                          have n5_ := Aside0.mk (below_step (by repeat (first | (with_reducible first | exact HB.out | apply below_alloc | apply pw_below_drewN | apply below_drew1 | refine below_set ?_ GE326.out) | exact HB.out)) hb)
                          have n6_ := Aside0.mk (hbox)
                          have n7_ := Aside0.mk ((by rw [hg]; exact (below_size (by repeat (first | (with_reducible first | exact HB.out | apply below_alloc | apply pw_below_drewN | apply below_drew1 | refine below_set ?_ GE326.out) | exact HB.out))) : w.heap.size ≤ gb353))
                          have n8_ := Aside0.mk ((by rw [hg]; exact (below_size (by repeat (first | (with_reducible first | exact HB.out | apply below_alloc | apply pw_below_drewN | apply below_drew1 | refine below_set ?_ GE326.out) | exact HB.out))) : w.heap.size ≤ gb353))
                          have n9_ := Aside0.mk ((by rw [hg]; exact Nat.ne_of_lt (blk_lt (g := gb326) (o := .cells #[.slice Ao50 x327000_5.length co50, .int .u8 x327001_5, .int .u8 x327002_5] 31 (0, 0)) (by (with_reducible repeat (first | refine blk_drewN ?_ _ | refine blk_drew ?_ | refine blk_alloc ?_ _)); exact BK326.out)) : gb326 ≠ gb353))
                          have n10_ := Aside0.mk ((by rw [hg]; exact Nat.ne_of_gt (blk_lt (g := gb326) (o := .cells #[.slice Ao50 x327000_5.length co50, .int .u8 x327001_5, .int .u8 x327002_5] 31 (0, 0)) (by (with_reducible repeat (first | refine blk_drewN ?_ _ | refine blk_drew ?_ | refine blk_alloc ?_ _)); exact BK326.out)) : gb353 ≠ gb326))
                          clear HO_6
                          clear HO_327000
                          clear HO341
                          clear BK326
                          clear HR337
                          clear HB
                          have HO_6 := n0_
                          have HO_327000 := n1_
                          have HO341 := n2_
                          have BK326 := n3_
                          have HR337 := n4_
                          have HB := n5_
                          have BK353 := n6_
                          have GW353 := n7_
                          have GE353 := n8_
                          have NB326_353 := n9_
                          have NB353_326 := n10_
                          clear n0_ n1_ n2_ n3_ n4_ n5_ n6_ n7_ n8_ n9_ n10_
                          clear hb hbox hg
                          refine hK.out _ _ ⟨(blk_cell BK326.out 0).trans rfl, (blk_cell BK326.out 1).trans rfl, (blk_cell BK326.out 2).trans rfl, ((HB.out.cell (World.block_lt_of_cell? w _ hw342_0)).trans hw342_0), ((HB.out.cell (World.block_lt_of_cell? w _ hw342_1)).trans hw342_1), ((HB.out.cell (World.block_lt_of_cell? w _ hw343_0)).trans hw343_0), ((HB.out.cell (World.block_lt_of_cell? w _ hw343_1)).trans hw343_1)⟩ (fun hHeld => ?_)
                          clear hK K
                          refine norm_ (a' := ?_) ?_ ?_
                          rotate_left
                          ·show Act.put _ (some 13) _ = _
                           simp only [Act.put, List.setIfInBounds_toArray, List.set_cons_zero, List.set_cons_succ, i64_w, i32_w]
                           rfl
                          refine one_ (i := 12) (N := some 135) #[true, true, true, true, true, true, true, true, true, true, true, true, true, false, false, false, false, true, false, false, false] rfl rfl (one_of HT_.out (by kernel_rfl)) (by decide) (fun K hK => ?_)
                          refine goes_ Try.func35 (by kernel_rfl) rfl #[.agg #[.slice Ao50 x327000_5.length co50, .int .u8 x327001_5, .int .u8 x327002_5], .int .u8 ((rd_T44 l1 x10_5).f0), .int .u8 ((rd_T44 l1 x10_5).f1), .slice Ao51 t338.length co51] (by rfl) rfl rfl (by (try simp only [List.map_toArray, List.map_cons, List.map_nil]); first | done | rfl | (simp only [List.length_drop, List.length_take]; rfl)) ?_
                          with_reducible refine (lap_Next.calls _ _ x327000_5 x327001_5 x327002_5 ((rd_T44 l1 x10_5).f0) ((rd_T44 l1 x10_5).f1) _ _ t338 t344 t347 t348 t349 t352 _ ?side1 ?side2 ?side3 ?side4 A44.out).mono ?_
                          (case side1 => repeat (first | exact (Kd.R_reads' HO_327000.out).2.2 | (with_reducible refine Kd.C_alloc ?_ _) | (with_reducible refine Kd.C_drewN ?_ _) | (with_reducible refine Kd.C_drew ?_)))
                          (case side2 => exact (Kd.R_reads' HO_327000.out).2.1)
                          (case side3 => repeat (first | exact (Kd.R_reads' HO341.out).2.2 | (with_reducible refine Kd.C_alloc ?_ _) | (with_reducible refine Kd.C_drewN ?_ _) | (with_reducible refine Kd.C_drew ?_)))
                          (case side4 => exact (Kd.R_reads' HO341.out).2.1)
                          rintro e w54 ⟨v345, v350, rfl, ho0, ho1, hb⟩
                          refine ⟨_, rfl, ?_⟩
                          have n0_ := Aside0.mk (Kd.R_mono (Kd.R_told (Kd.R_told (Kd.R_old (by (with_reducible repeat (first | apply Kd.R_alloc | apply Kd.R_drewN | apply Kd.R_drew)); exact HO_6.out) hb) (Kd.R_base ho0)) (Kd.R_base ho1)) (fun _ h_ => h_.1))
                          have n1_ := Aside0.mk (Kd.R_mono (Kd.R_told (Kd.R_told (Kd.R_old (by (with_reducible repeat (first | apply Kd.R_alloc | apply Kd.R_drewN | apply Kd.R_drew)); exact HO_327000.out) hb) (Kd.R_base ho0)) (Kd.R_base ho1)) (fun _ h_ => h_.1))
                          have n2_ := Aside0.mk (Kd.R_mono (Kd.R_told (Kd.R_told (Kd.R_old (by (with_reducible repeat (first | apply Kd.R_alloc | apply Kd.R_drewN | apply Kd.R_drew)); exact HO341.out) hb) (Kd.R_base ho0)) (Kd.R_base ho1)) (fun _ h_ => h_.1))
                          have n3_ := Aside0.mk (Kd.R_lower (Kd.R_new' (Kd.R_new' (Kd.R_new' ho0 (Kd.R_lt (by (with_reducible repeat (first | apply Kd.R_alloc | apply Kd.R_drewN | apply Kd.R_drew)); exact HO_6.out))) (Kd.R_lt (by (with_reducible repeat (first | apply Kd.R_alloc | apply Kd.R_drewN | apply Kd.R_drew)); exact HO_327000.out))) (Kd.R_lt (by (with_reducible repeat (first | apply Kd.R_alloc | apply Kd.R_drewN | apply Kd.R_drew)); exact HO341.out))) (below_size (by repeat (first | (with_reducible first | exact HB.out | apply below_alloc | apply pw_below_drewN | apply below_drew1 | refine below_set ?_ GE326.out | refine below_set ?_ GE353.out) | exact HB.out))))
                          have n4_ := Aside0.mk (Kd.R_lower (Kd.R_new' (Kd.R_new' (Kd.R_new' ho1 (Kd.R_lt (by (with_reducible repeat (first | apply Kd.R_alloc | apply Kd.R_drewN | apply Kd.R_drew)); exact HO_6.out))) (Kd.R_lt (by (with_reducible repeat (first | apply Kd.R_alloc | apply Kd.R_drewN | apply Kd.R_drew)); exact HO_327000.out))) (Kd.R_lt (by (with_reducible repeat (first | apply Kd.R_alloc | apply Kd.R_drewN | apply Kd.R_drew)); exact HO341.out))) (below_size (by repeat (first | (with_reducible first | exact HB.out | apply below_alloc | apply pw_below_drewN | apply below_drew1 | refine below_set ?_ GE326.out | refine below_set ?_ GE353.out) | exact HB.out))))
                          have n5_ := Aside0.mk (blk_below (g := gb326) (o := .cells #[.slice Ao50 x327000_5.length co50, .int .u8 x327001_5, .int .u8 x327002_5] 31 (0, 0)) (by (with_reducible repeat (first | refine blk_drewN ?_ _ | refine blk_drew ?_ | refine blk_alloc ?_ _)); exact BK326.out) hb)
                          have n6_ := Aside0.mk (Kd.C_below (by repeat (first | (with_reducible exact HR337.out) | (with_reducible refine Kd.C_alloc ?_ _) | (with_reducible refine Kd.C_drewN ?_ _) | (with_reducible refine Kd.C_drew ?_) | exact HR337.out)) hb)
                          have n7_ := Aside0.mk (blk_below (g := gb353) (o := .cells #[.slice none 0 0, .int .u8 0, .int .u8 0] 31 (0, 0)) (by (with_reducible repeat (first | refine blk_drewN ?_ _ | refine blk_drew ?_ | refine blk_alloc ?_ _)); exact BK353.out) hb)
                          have n8_ := Aside0.mk (below_step (by repeat (first | (with_reducible first | exact HB.out | apply below_alloc | apply pw_below_drewN | apply below_drew1 | refine below_set ?_ GE326.out | refine below_set ?_ GE353.out) | exact HB.out)) hb)
                          clear HO_6
                          clear HO_327000
                          clear HO341
                          clear BK326
                          clear HR337
                          clear BK353
                          clear HB
                          have HO_6 := n0_
                          have HO_327000 := n1_
                          have HO341 := n2_
                          have HO346 := n3_
                          have HO351 := n4_
                          have BK326 := n5_
                          have HR337 := n6_
                          have BK353 := n7_
                          have HB := n8_
                          clear n0_ n1_ n2_ n3_ n4_ n5_ n6_ n7_ n8_
                          (try clear hb)
                          (try clear hb2)
                          (try clear hk)
                          (try clear hi)
                          (try clear ho0)
                          (try clear ho1)
                          refine hK.out _ _ ⟨(blk_cell BK326.out 0).trans rfl, (blk_cell BK326.out 1).trans rfl, (blk_cell BK326.out 2).trans rfl, ((HB.out.cell (World.block_lt_of_cell? w _ hw342_0)).trans hw342_0), ((HB.out.cell (World.block_lt_of_cell? w _ hw342_1)).trans hw342_1), ((HB.out.cell (World.block_lt_of_cell? w _ hw343_0)).trans hw343_0), ((HB.out.cell (World.block_lt_of_cell? w _ hw343_1)).trans hw343_1)⟩ (fun hHeld => ?_)
                          clear hK K
                          refine norm_ (a' := ?_) ?_ ?_
                          rotate_left
                          ·show Act.put _ (some 135) _ = _
                           simp only [Act.put, List.setIfInBounds_toArray, List.set_cons_zero, List.set_cons_succ, i64_w, i32_w]
                           rfl
                          refine pure_ (i := 13) (N := some 122) (v := ?_) (a' := ?_) #[true, true, true, true, true, true, true, true, true, true, true, true, true, true, false, false, false, true, false, false, false] rfl rfl (any_of HT_.out (by kernel_rfl)) (fun _ _ _ h => h) (Or.inl ⟨by rfl, ?_⟩) ?_ ?_
                          rotate_left
                          ·intro w'
                           go_simp
                           with_reducible rfl
                          rotate_left
                          ·simp only [Act.put, List.setIfInBounds_toArray, List.set_cons_zero, List.set_cons_succ, i64_w, i32_w]
                           rfl
                          refine pure_ (i := 14) (N := some 136) (v := ?_) (a' := ?_) #[true, true, true, true, true, true, true, true, true, true, true, true, true, true, true, false, false, true, false, false, false] rfl rfl (any_of HT_.out (by kernel_rfl)) (fun _ _ _ h => h) (Or.inl ⟨by rfl, ?_⟩) ?_ ?_
                          rotate_left
                          ·intro w'
                           go_simp
                           with_reducible rfl
                          rotate_left
                          ·simp only [Act.put, List.setIfInBounds_toArray, List.set_cons_zero, List.set_cons_succ, i64_w, i32_w]
                           rfl
                          refine pure_ (i := 15) (N := some 137) (v := ?_) (a' := ?_) #[true, true, true, true, true, true, true, true, true, true, true, true, true, true, true, true, false, true, false, false, false] rfl rfl (any_of HT_.out (by kernel_rfl)) (fun _ _ _ h => h) (Or.inl ⟨by rfl, ?_⟩) ?_ ?_
                          rotate_left
                          ·intro w'
                           go_simp
                           with_reducible rfl
                          rotate_left
                          ·simp only [Act.put, List.setIfInBounds_toArray, List.set_cons_zero, List.set_cons_succ, i64_w, i32_w]
                           rfl
                          refine pure_ (i := 16) (N := some 138) (v := ?_) (a' := ?_) #[true, true, true, true, true, true, true, true, true, true, true, true, true, true, true, true, true, true, false, false, false] rfl rfl (any_of HT_.out (by kernel_rfl)) (fun _ _ _ h => h) (Or.inl ⟨by rfl, ?_⟩) ?_ ?_
                          rotate_left
                          ·intro w'
                           go_simp
                           with_reducible rfl
                          rotate_left
                          ·simp only [Act.put, List.setIfInBounds_toArray, List.set_cons_zero, List.set_cons_succ, i64_w, i32_w]
                           rfl
                          exact norm_ (by simp only [putAll, Act.put, List.setIfInBounds_toArray, List.set_cons_zero, List.set_cons_succ]) (hCont (v345, v350, gb353) _ ⟨hHeld, (by (with_reducible repeat (first | apply Kd.R_alloc | apply Kd.R_drewN | apply Kd.R_drew)); exact Kd.R_mono HO341.out (fun _ hk => ⟨hk.1.2, ⟨hk.2, ⟨hk.1.1.2, hk.1.1.1.2⟩⟩⟩)), (by (with_reducible repeat (first | apply Kd.R_alloc | apply Kd.R_drewN | apply Kd.R_drew)); exact Kd.R_mono HO346.out (fun _ hk => ⟨hk.2, ⟨hk.1.1.1, ⟨hk.1.2, hk.1.1.2⟩⟩⟩)), (by (with_reducible repeat (first | apply Kd.R_alloc | apply Kd.R_drewN | apply Kd.R_drew)); exact Kd.R_mono HO351.out (fun _ hk => ⟨hk.2, ⟨hk.1.1.1, ⟨hk.1.2, hk.1.1.2⟩⟩⟩)), (by (with_reducible repeat (first | apply Kd.R_alloc | apply Kd.R_drewN | apply Kd.R_drew)); exact Kd.R_mono HO_327000.out (fun _ hk => ⟨hk.1.1.2, ⟨hk.1.2, ⟨hk.2, hk.1.1.1⟩⟩⟩)), (by (with_reducible repeat (first | apply Kd.R_alloc | apply Kd.R_drewN | apply Kd.R_drew)); exact Kd.R_mono HO_6.out (fun _ hk => ⟨hk.1.1.2, ⟨hk.1.2, ⟨hk.2, hk.1.1.1⟩⟩⟩)), (by (with_reducible repeat (first | refine blk_drewN ?_ _ | refine blk_drew ?_ | refine blk_alloc ?_ _)); exact BK326.out), (by (with_reducible repeat (first | refine blk_drewN ?_ _ | refine blk_drew ?_ | refine blk_alloc ?_ _)); exact BK353.out), GW353.out, GE353.out, NB326_353.out, NB353_326.out, (by repeat (first | (with_reducible first | exact HB.out | apply below_alloc | apply pw_below_drewN | apply below_drew1 | refine below_set ?_ GE326.out | refine below_set ?_ GE353.out) | exact HB.out))⟩)
                        rintro ⟨v345, v350, gb353⟩ w55 ⟨hS_, h0_, h1_, h2_, h3_, h4_, h5_, h6_, h7_, h8_, h9_, h10_, h11_⟩
                        have n0_ : Aside0 (Kd.R (Kd.int .i64) 3 w55 w.heap.size (fun k_ => some k_ ≠ (v345 : Value).ownBlock ∧ some k_ ≠ (v350 : Value).ownBlock ∧ some k_ ≠ (.slice Ao50 x327000_5.length co50 : Value).ownBlock ∧ some k_ ≠ (.slice Ao48 x6_2.length co48 : Value).ownBlock) (.slice Ao51 t338.length co51) t338) := ⟨h0_⟩
                        have n1_ : Aside0 (Kd.R (Kd.int .i64) 3 w55 w.heap.size (fun k_ => some k_ ≠ (.slice Ao51 t338.length co51 : Value).ownBlock ∧ some k_ ≠ (v350 : Value).ownBlock ∧ some k_ ≠ (.slice Ao50 x327000_5.length co50 : Value).ownBlock ∧ some k_ ≠ (.slice Ao48 x6_2.length co48 : Value).ownBlock) v345 t344) := ⟨h1_⟩
                        have n2_ : Aside0 (Kd.R (Kd.int .i64) 3 w55 w.heap.size (fun k_ => some k_ ≠ (.slice Ao51 t338.length co51 : Value).ownBlock ∧ some k_ ≠ (v345 : Value).ownBlock ∧ some k_ ≠ (.slice Ao50 x327000_5.length co50 : Value).ownBlock ∧ some k_ ≠ (.slice Ao48 x6_2.length co48 : Value).ownBlock) v350 t349) := ⟨h2_⟩
                        have n3_ : Aside0 (Kd.R (Kd.int .i64) 3 w55 w.heap.size (fun k_ => some k_ ≠ (.slice Ao51 t338.length co51 : Value).ownBlock ∧ some k_ ≠ (v345 : Value).ownBlock ∧ some k_ ≠ (v350 : Value).ownBlock ∧ some k_ ≠ (.slice Ao48 x6_2.length co48 : Value).ownBlock) (.slice Ao50 x327000_5.length co50) x327000_5) := ⟨h3_⟩
                        have n4_ : Aside0 (Kd.R (Kd.int .i64) 3 w55 w.heap.size (fun k_ => some k_ ≠ (.slice Ao51 t338.length co51 : Value).ownBlock ∧ some k_ ≠ (v345 : Value).ownBlock ∧ some k_ ≠ (v350 : Value).ownBlock ∧ some k_ ≠ (.slice Ao50 x327000_5.length co50 : Value).ownBlock) (.slice Ao48 x6_2.length co48) x6_2) := ⟨h4_⟩
                        have n5_ : Aside0 (w55.heap[gb326]? = some (.cells #[.slice Ao50 x327000_5.length co50, .int .u8 x327001_5, .int .u8 x327002_5] 31 (0, 0))) := ⟨h5_⟩
                        have n6_ : Aside0 (w55.heap[gb353]? = some (.cells #[.slice none 0 0, .int .u8 0, .int .u8 0] 31 (0, 0))) := ⟨h6_⟩
                        have n7_ : Aside0 (w.heap.size ≤ gb353) := ⟨h7_⟩
                        have n8_ : Aside0 (w.heap.size ≤ gb353) := ⟨h8_⟩
                        have n9_ : Aside0 (gb326 ≠ gb353) := ⟨h9_⟩
                        have n10_ : Aside0 (gb353 ≠ gb326) := ⟨h10_⟩
                        have n11_ : Aside0 (Below w.heap.size w w55) := ⟨h11_⟩
                        clear HO_6
                        clear HO_327000
                        clear HO341
                        clear BK326
                        clear HR337
                        clear HB
                        clear h0_ h1_ h2_ h3_ h4_ h5_ h6_ h7_ h8_ h9_ h10_ h11_
                        have HO341 := n0_
                        have HO346 := n1_
                        have HO351 := n2_
                        have HO_327000 := n3_
                        have HO_6 := n4_
                        have BK326 := n5_
                        have BK353 := n6_
                        have GW353 := n7_
                        have GE353 := n8_
                        have NB326_353 := n9_
                        have NB353_326 := n10_
                        have HB := n11_
                        clear n0_ n1_ n2_ n3_ n4_ n5_ n6_ n7_ n8_ n9_ n10_ n11_
                        have hHeld : w55.cell? ⟨gb326, 0, none⟩ = some (.slice Ao50 x327000_5.length co50) ∧ w55.cell? ⟨gb326, 1, none⟩ = some (.int .u8 x327001_5) ∧ w55.cell? ⟨gb326, 2, none⟩ = some (.int .u8 x327002_5) ∧ w55.cell? (ad332.add ((x10_5).toNat * 2)) = some (.int .u8 ((rd_T44 l1 x10_5).f0)) ∧ w55.cell? ⟨(ad332.add ((x10_5).toNat * 2)).block, (ad332.add ((x10_5).toNat * 2)).off + 1, none⟩ = some (.int .u8 ((rd_T44 l1 x10_5).f1)) ∧ w55.cell? (ad332.add ((x10_5).toNat * 2)) = some (.int .u8 ((rd_T44 l1 x10_5).f0)) ∧ w55.cell? ⟨(ad332.add ((x10_5).toNat * 2)).block, (ad332.add ((x10_5).toNat * 2)).off + 1, none⟩ = some (.int .u8 ((rd_T44 l1 x10_5).f1)) := hS_
                        obtain ⟨Ao56, co56, eo56⟩ := Kd.R_slice HO346.out
                        (first | subst eo56 | (injection eo56 with f1_ f2_ f3_; have f4_ := f1_.symm; have f5_ := f3_.symm; clear f1_ f2_ f3_; subst f4_; subst f5_))
                        refine norm_ (a' := ?_) ?_ ?_
                        rotate_left
                        ·simp only [putAll, Act.put, List.setIfInBounds_toArray, List.set_cons_zero, List.set_cons_succ]
                         rfl
                        refine one_ (i := 18) (N := none) #[true, true, true, true, true, true, true, true, true, true, true, true, true, true, true, true, true, true, true, false, false] rfl rfl (one_of HT_.out (by kernel_rfl)) (by decide) (fun K hK => ?_)
                        have hs57 : w55.cell? ⟨gb353, 0, none⟩ = some (.slice none 0 0) := (blk_cell BK353.out 0).trans rfl
                        have hfs57 := blk_frozen BK353.out 0
                        have hns57_0 := NB326_353.out
                        have hms57_0 := NB353_326.out
                        have hs58 : w55.cell? ⟨gb353, 1, none⟩ = some (.int .u8 0) := (blk_cell BK353.out 1).trans rfl
                        have hfs58 := blk_frozen BK353.out 1
                        have hns58_0 := NB326_353.out
                        have hms58_0 := NB353_326.out
                        have hs59 : w55.cell? ⟨gb353, 2, none⟩ = some (.int .u8 0) := (blk_cell BK353.out 2).trans rfl
                        have hfs59 := blk_frozen BK353.out 2
                        have hns59_0 := NB326_353.out
                        have hms59_0 := NB353_326.out
                        refine skip_ (w1 := ?_) (by rfl) rfl ?_ ?_
                        rotate_left
                        ·go_simp
                         rfl
                        refine hK.out _ _ ⟨((cell_far (p := ⟨gb353, _, none⟩) NB326_353.out _).trans (((cell_far (p := ⟨gb353, _, none⟩) NB326_353.out _).trans (((cell_far (p := ⟨gb353, _, none⟩) NB326_353.out _).trans (hHeld.1)))))), ((cell_far (p := ⟨gb353, _, none⟩) NB326_353.out _).trans (((cell_far (p := ⟨gb353, _, none⟩) NB326_353.out _).trans (((cell_far (p := ⟨gb353, _, none⟩) NB326_353.out _).trans (hHeld.2.1)))))), ((cell_far (p := ⟨gb353, _, none⟩) NB326_353.out _).trans (((cell_far (p := ⟨gb353, _, none⟩) NB326_353.out _).trans (((cell_far (p := ⟨gb353, _, none⟩) NB326_353.out _).trans (hHeld.2.2.1)))))), ((cell_far (p := ⟨gb353, _, none⟩) (by first | exact Nat.ne_of_lt (Nat.lt_of_lt_of_le (by have := World.block_lt_of_cell? _ _ hw342_0; first | rwa [add_block] at this | exact this) GW353.out) | (rw [add_block]; exact Nat.ne_of_lt (Nat.lt_of_lt_of_le (by have := World.block_lt_of_cell? _ _ hw342_0; first | rwa [add_block] at this | exact this) GW353.out)) | (show (Addr.add _ _).block ≠ _; rw [add_block]; exact Nat.ne_of_lt (Nat.lt_of_lt_of_le (by have := World.block_lt_of_cell? _ _ hw342_0; first | rwa [add_block] at this | exact this) GW353.out)) | (dsimp only; exact Nat.ne_of_lt (Nat.lt_of_lt_of_le (by have := World.block_lt_of_cell? _ _ hw342_0; first | rwa [add_block] at this | exact this) GW353.out))) _).trans (((cell_far (p := ⟨gb353, _, none⟩) (by first | exact Nat.ne_of_lt (Nat.lt_of_lt_of_le (by have := World.block_lt_of_cell? _ _ hw342_0; first | rwa [add_block] at this | exact this) GW353.out) | (rw [add_block]; exact Nat.ne_of_lt (Nat.lt_of_lt_of_le (by have := World.block_lt_of_cell? _ _ hw342_0; first | rwa [add_block] at this | exact this) GW353.out)) | (show (Addr.add _ _).block ≠ _; rw [add_block]; exact Nat.ne_of_lt (Nat.lt_of_lt_of_le (by have := World.block_lt_of_cell? _ _ hw342_0; first | rwa [add_block] at this | exact this) GW353.out)) | (dsimp only; exact Nat.ne_of_lt (Nat.lt_of_lt_of_le (by have := World.block_lt_of_cell? _ _ hw342_0; first | rwa [add_block] at this | exact this) GW353.out))) _).trans (((cell_far (p := ⟨gb353, _, none⟩) (by first | exact Nat.ne_of_lt (Nat.lt_of_lt_of_le (by have := World.block_lt_of_cell? _ _ hw342_0; first | rwa [add_block] at this | exact this) GW353.out) | (rw [add_block]; exact Nat.ne_of_lt (Nat.lt_of_lt_of_le (by have := World.block_lt_of_cell? _ _ hw342_0; first | rwa [add_block] at this | exact this) GW353.out)) | (show (Addr.add _ _).block ≠ _; rw [add_block]; exact Nat.ne_of_lt (Nat.lt_of_lt_of_le (by have := World.block_lt_of_cell? _ _ hw342_0; first | rwa [add_block] at this | exact this) GW353.out)) | (dsimp only; exact Nat.ne_of_lt (Nat.lt_of_lt_of_le (by have := World.block_lt_of_cell? _ _ hw342_0; first | rwa [add_block] at this | exact this) GW353.out))) _).trans (hHeld.2.2.2.1)))))), ((cell_far (p := ⟨gb353, _, none⟩) (by first | exact Nat.ne_of_lt (Nat.lt_of_lt_of_le (by have := World.block_lt_of_cell? _ _ hw342_1; first | rwa [add_block] at this | exact this) GW353.out) | (rw [add_block]; exact Nat.ne_of_lt (Nat.lt_of_lt_of_le (by have := World.block_lt_of_cell? _ _ hw342_1; first | rwa [add_block] at this | exact this) GW353.out)) | (show (Addr.add _ _).block ≠ _; rw [add_block]; exact Nat.ne_of_lt (Nat.lt_of_lt_of_le (by have := World.block_lt_of_cell? _ _ hw342_1; first | rwa [add_block] at this | exact this) GW353.out)) | (dsimp only; exact Nat.ne_of_lt (Nat.lt_of_lt_of_le (by have := World.block_lt_of_cell? _ _ hw342_1; first | rwa [add_block] at this | exact this) GW353.out))) _).trans (((cell_far (p := ⟨gb353, _, none⟩) (by first | exact Nat.ne_of_lt (Nat.lt_of_lt_of_le (by have := World.block_lt_of_cell? _ _ hw342_1; first | rwa [add_block] at this | exact this) GW353.out) | (rw [add_block]; exact Nat.ne_of_lt (Nat.lt_of_lt_of_le (by have := World.block_lt_of_cell? _ _ hw342_1; first | rwa [add_block] at this | exact this) GW353.out)) | (show (Addr.add _ _).block ≠ _; rw [add_block]; exact Nat.ne_of_lt (Nat.lt_of_lt_of_le (by have := World.block_lt_of_cell? _ _ hw342_1; first | rwa [add_block] at this | exact this) GW353.out)) | (dsimp only; exact Nat.ne_of_lt (Nat.lt_of_lt_of_le (by have := World.block_lt_of_cell? _ _ hw342_1; first | rwa [add_block] at this | exact this) GW353.out))) _).trans (((cell_far (p := ⟨gb353, _, none⟩) (by first | exact Nat.ne_of_lt (Nat.lt_of_lt_of_le (by have := World.block_lt_of_cell? _ _ hw342_1; first | rwa [add_block] at this | exact this) GW353.out) | (rw [add_block]; exact Nat.ne_of_lt (Nat.lt_of_lt_of_le (by have := World.block_lt_of_cell? _ _ hw342_1; first | rwa [add_block] at this | exact this) GW353.out)) | (show (Addr.add _ _).block ≠ _; rw [add_block]; exact Nat.ne_of_lt (Nat.lt_of_lt_of_le (by have := World.block_lt_of_cell? _ _ hw342_1; first | rwa [add_block] at this | exact this) GW353.out)) | (dsimp only; exact Nat.ne_of_lt (Nat.lt_of_lt_of_le (by have := World.block_lt_of_cell? _ _ hw342_1; first | rwa [add_block] at this | exact this) GW353.out))) _).trans (hHeld.2.2.2.2.1)))))), ((cell_far (p := ⟨gb353, _, none⟩) (by first | exact Nat.ne_of_lt (Nat.lt_of_lt_of_le (by have := World.block_lt_of_cell? _ _ hw343_0; first | rwa [add_block] at this | exact this) GW353.out) | (rw [add_block]; exact Nat.ne_of_lt (Nat.lt_of_lt_of_le (by have := World.block_lt_of_cell? _ _ hw343_0; first | rwa [add_block] at this | exact this) GW353.out)) | (show (Addr.add _ _).block ≠ _; rw [add_block]; exact Nat.ne_of_lt (Nat.lt_of_lt_of_le (by have := World.block_lt_of_cell? _ _ hw343_0; first | rwa [add_block] at this | exact this) GW353.out)) | (dsimp only; exact Nat.ne_of_lt (Nat.lt_of_lt_of_le (by have := World.block_lt_of_cell? _ _ hw343_0; first | rwa [add_block] at this | exact this) GW353.out))) _).trans (((cell_far (p := ⟨gb353, _, none⟩) (by first | exact Nat.ne_of_lt (Nat.lt_of_lt_of_le (by have := World.block_lt_of_cell? _ _ hw343_0; first | rwa [add_block] at this | exact this) GW353.out) | (rw [add_block]; exact Nat.ne_of_lt (Nat.lt_of_lt_of_le (by have := World.block_lt_of_cell? _ _ hw343_0; first | rwa [add_block] at this | exact this) GW353.out)) | (show (Addr.add _ _).block ≠ _; rw [add_block]; exact Nat.ne_of_lt (Nat.lt_of_lt_of_le (by have := World.block_lt_of_cell? _ _ hw343_0; first | rwa [add_block] at this | exact this) GW353.out)) | (dsimp only; exact Nat.ne_of_lt (Nat.lt_of_lt_of_le (by have := World.block_lt_of_cell? _ _ hw343_0; first | rwa [add_block] at this | exact this) GW353.out))) _).trans (((cell_far (p := ⟨gb353, _, none⟩) (by first | exact Nat.ne_of_lt (Nat.lt_of_lt_of_le (by have := World.block_lt_of_cell? _ _ hw343_0; first | rwa [add_block] at this | exact this) GW353.out) | (rw [add_block]; exact Nat.ne_of_lt (Nat.lt_of_lt_of_le (by have := World.block_lt_of_cell? _ _ hw343_0; first | rwa [add_block] at this | exact this) GW353.out)) | (show (Addr.add _ _).block ≠ _; rw [add_block]; exact Nat.ne_of_lt (Nat.lt_of_lt_of_le (by have := World.block_lt_of_cell? _ _ hw343_0; first | rwa [add_block] at this | exact this) GW353.out)) | (dsimp only; exact Nat.ne_of_lt (Nat.lt_of_lt_of_le (by have := World.block_lt_of_cell? _ _ hw343_0; first | rwa [add_block] at this | exact this) GW353.out))) _).trans (hHeld.2.2.2.2.2.1)))))), ((cell_far (p := ⟨gb353, _, none⟩) (by first | exact Nat.ne_of_lt (Nat.lt_of_lt_of_le (by have := World.block_lt_of_cell? _ _ hw343_1; first | rwa [add_block] at this | exact this) GW353.out) | (rw [add_block]; exact Nat.ne_of_lt (Nat.lt_of_lt_of_le (by have := World.block_lt_of_cell? _ _ hw343_1; first | rwa [add_block] at this | exact this) GW353.out)) | (show (Addr.add _ _).block ≠ _; rw [add_block]; exact Nat.ne_of_lt (Nat.lt_of_lt_of_le (by have := World.block_lt_of_cell? _ _ hw343_1; first | rwa [add_block] at this | exact this) GW353.out)) | (dsimp only; exact Nat.ne_of_lt (Nat.lt_of_lt_of_le (by have := World.block_lt_of_cell? _ _ hw343_1; first | rwa [add_block] at this | exact this) GW353.out))) _).trans (((cell_far (p := ⟨gb353, _, none⟩) (by first | exact Nat.ne_of_lt (Nat.lt_of_lt_of_le (by have := World.block_lt_of_cell? _ _ hw343_1; first | rwa [add_block] at this | exact this) GW353.out) | (rw [add_block]; exact Nat.ne_of_lt (Nat.lt_of_lt_of_le (by have := World.block_lt_of_cell? _ _ hw343_1; first | rwa [add_block] at this | exact this) GW353.out)) | (show (Addr.add _ _).block ≠ _; rw [add_block]; exact Nat.ne_of_lt (Nat.lt_of_lt_of_le (by have := World.block_lt_of_cell? _ _ hw343_1; first | rwa [add_block] at this | exact this) GW353.out)) | (dsimp only; exact Nat.ne_of_lt (Nat.lt_of_lt_of_le (by have := World.block_lt_of_cell? _ _ hw343_1; first | rwa [add_block] at this | exact this) GW353.out))) _).trans (((cell_far (p := ⟨gb353, _, none⟩) (by first | exact Nat.ne_of_lt (Nat.lt_of_lt_of_le (by have := World.block_lt_of_cell? _ _ hw343_1; first | rwa [add_block] at this | exact this) GW353.out) | (rw [add_block]; exact Nat.ne_of_lt (Nat.lt_of_lt_of_le (by have := World.block_lt_of_cell? _ _ hw343_1; first | rwa [add_block] at this | exact this) GW353.out)) | (show (Addr.add _ _).block ≠ _; rw [add_block]; exact Nat.ne_of_lt (Nat.lt_of_lt_of_le (by have := World.block_lt_of_cell? _ _ hw343_1; first | rwa [add_block] at this | exact this) GW353.out)) | (dsimp only; exact Nat.ne_of_lt (Nat.lt_of_lt_of_le (by have := World.block_lt_of_cell? _ _ hw343_1; first | rwa [add_block] at this | exact this) GW353.out))) _).trans (hHeld.2.2.2.2.2.2))))))⟩ (fun hHeld => ?_)
                        clear hK K
                        refine pure_ (i := 19) (N := some 14) (v := ?_) (a' := ?_) #[true, true, true, true, true, true, true, true, true, true, true, true, true, true, true, true, true, true, true, true, false] rfl rfl (any_of HT_.out (by kernel_rfl)) (fun _ _ _ h => h) (Or.inl ⟨by rfl, ?_⟩) ?_ ?_
                        rotate_left
                        ·intro w'
                         go_simp
                         with_reducible rfl
                        rotate_left
                        ·simp only [Act.put, List.setIfInBounds_toArray, List.set_cons_zero, List.set_cons_succ, i64_w, i32_w]
                         rfl
                        refine pure_ (i := 20) (N := some 15) (v := ?_) (a' := ?_) #[true, true, true, true, true, true, true, true, true, true, true, true, true, true, true, true, true, true, true, true, true] rfl rfl (any_of HT_.out (by kernel_rfl)) (fun _ _ _ h => h) (Or.inl ⟨by rfl, ?_⟩) ?_ ?_
                        rotate_left
                        ·intro w'
                         go_simp
                         with_reducible rfl
                        rotate_left
                        ·simp only [Act.put, List.setIfInBounds_toArray, List.set_cons_zero, List.set_cons_succ, i64_w, i32_w]
                         rfl
                        refine done_ (done_of HT_.out (by kernel_rfl)) ?_
                        go_upto_region 20 with (fail)
                        go_cut [154] (fun v154 wc => ∃ (kq : Nat) (x154_44 : Bool), v154 = .bool x154_44 ∧ Aside0 (reedpipelaw13_LapBack.j6 kq l1 t315 x6_2 x10_5 t349 x154_44 t344 t347 t348 = some r) ∧ Aside0 (kq ≤ kj31) ∧ Aside0 (Kd.R (Kd.int .i64) 3 wc w.heap.size (fun k_ => some k_ ≠ (v350 : Value).ownBlock ∧ some k_ ≠ ((.slice Ao50 x327000_5.length co50) : Value).ownBlock ∧ some k_ ≠ ((.slice Ao56 t344.length co56) : Value).ownBlock) (.slice Ao48 x6_2.length co48) x6_2) ∧ Aside0 (Kd.R (Kd.int .i64) 3 wc w.heap.size (fun k_ => some k_ ≠ ((.slice Ao48 x6_2.length co48) : Value).ownBlock ∧ some k_ ≠ ((.slice Ao50 x327000_5.length co50) : Value).ownBlock ∧ some k_ ≠ ((.slice Ao56 t344.length co56) : Value).ownBlock) v350 t349) ∧ Aside0 (Kd.R (Kd.int .i64) 3 wc w.heap.size (fun k_ => some k_ ≠ ((.slice Ao48 x6_2.length co48) : Value).ownBlock ∧ some k_ ≠ (v350 : Value).ownBlock ∧ some k_ ≠ ((.slice Ao56 t344.length co56) : Value).ownBlock) (.slice Ao50 x327000_5.length co50) x327000_5) ∧ Aside0 (Kd.R (Kd.int .i64) 3 wc w.heap.size (fun k_ => some k_ ≠ ((.slice Ao48 x6_2.length co48) : Value).ownBlock ∧ some k_ ≠ (v350 : Value).ownBlock ∧ some k_ ≠ ((.slice Ao50 x327000_5.length co50) : Value).ownBlock) (.slice Ao56 t344.length co56) t344) ∧ Aside0 (wc.heap[gb326]? = some (.cells #[(.slice Ao50 x327000_5.length co50), .int .u8 x327001_5, .int .u8 x327002_5] 31 (0, 0))) ∧ Aside0 (wc.heap[gb353]? = some (.cells #[(.slice Ao56 t344.length co56), .int .u8 t347, .int .u8 t348] 31 (0, 0))) ∧ Aside0 (Below w.heap.size w wc))
                        case first => as_aux_lemma =>
                         have H := HC45.out
                         clear HC45
                         by_cases c60 : t339 = 0
                         ·rw [if_pos c60] at H
                          have c60b0 : (t339 == 0) = true := beq_iff_eq.mpr c60
                          have c60b1 : (t339 != 0) = false := bne_eq_false_iff_eq.mpr c60
                          clear c60
                          (first | rw [c60b0] | (simp only [i64_w, i32_w]; rw [c60b0]) | skip)
                          by_cases c61 : t352 = 0
                          ·rw [if_pos c61] at H
                           have c61b0 : (t352 == 0) = true := beq_iff_eq.mpr c61
                           have c61b1 : (t352 != 0) = false := bne_eq_false_iff_eq.mpr c61
                           clear c61
                           by_cases c62 : (t349.length : Int) = 256
                           ·rw [if_pos c62] at H
                            have c62b0 : ((t349.length : Int) == 256) = true := beq_iff_eq.mpr c62
                            have c62b1 : ((t349.length : Int) != 256) = false := bne_eq_false_iff_eq.mpr c62
                            clear c62
                            replace H := Option.bind_eq_some_iff.mp H
                            obtain ⟨t354, A630, H⟩ := H
                            replace H : (reedpipelaw13_LapBack.j6 kj31 l1 t315 x6_2 x10_5 t349 (t354 != 0) t344 t347 t348) = some r := H
                            have A63 := Aside0.mk A630
                            clear A630
                            have H' := Aside0.mk H
                            clear H
                            obtain ⟨Ao64, co64, eo64⟩ := Kd.R_slice HO351.out
                            subst eo64
                            have hnb65 := NB353_326.out
                            have hnc65 := NB326_353.out
                            have hcz66_0 : w55.cell? ⟨gb353, 0, none⟩ = some (.slice none 0 0) := (blk_cell BK353.out 0).trans rfl
                            have hcz66_1 : w55.cell? ⟨gb353, 1, none⟩ = some (.int .u8 0) := (blk_cell BK353.out 1).trans rfl
                            have hcz66_2 : w55.cell? ⟨gb353, 2, none⟩ = some (.int .u8 0) := (blk_cell BK353.out 2).trans rfl
                            have hfz66_0 := blk_frozen BK353.out 0
                            have hfz66_1 := blk_frozen BK353.out 1
                            have hfz66_2 := blk_frozen BK353.out 2
                            go_wp2_with (first | (go_at_call 43; (with_reducible refine (lap_Check.calls _ _ t344 t347 t348 t354 _ ?side1 ?side2 A63.out).mono ?_); (case side1 => refine (Kd.R_reads' (e := 3) (base := w.heap.size) (ok := fun k_ => (some k_ ≠ (.slice Ao51 t338.length co51 : Value).ownBlock ∧ (some k_ ≠ (.slice Ao64 t349.length co64 : Value).ownBlock ∧ (some k_ ≠ (.slice Ao50 x327000_5.length co50 : Value).ownBlock ∧ some k_ ≠ (.slice Ao48 x6_2.length co48 : Value).ownBlock)))) (n := t344.length) (c := co56) ?_).2.2; exact (by (with_reducible repeat (first | apply Kd.R_alloc | apply Kd.R_drewN | apply Kd.R_drew)); exact (Kd.R_mono (Kd.R_far (p := ⟨gb353, 2, none⟩) (Kd.R_far (p := ⟨gb353, 1, none⟩) (Kd.R_far (p := ⟨gb353, 0, none⟩) (Kd.R_types HO346.out BK353.out (by decide)) (fun _ hk => hk.2) (.slice Ao56 t344.length co56)) (fun _ hk => hk.2) (.int .u8 t347)) (fun _ hk => hk.2) (.int .u8 t348)) (fun _ h_ => h_.1)))); (case side2 => exact (Kd.R_reads' HO346.out).2.1); rintro e w67 ⟨rfl, hb⟩; have n0_ := Aside0.mk (Kd.R_below (by (with_reducible repeat (first | apply Kd.R_alloc | apply Kd.R_drewN | apply Kd.R_drew)); exact (Kd.R_mono (Kd.R_far (p := ⟨gb353, 2, none⟩) (Kd.R_far (p := ⟨gb353, 1, none⟩) (Kd.R_far (p := ⟨gb353, 0, none⟩) (Kd.R_types HO_6.out BK353.out (by decide)) (fun _ hk => hk.2) (.slice Ao56 t344.length co56)) (fun _ hk => hk.2) (.int .u8 t347)) (fun _ hk => hk.2) (.int .u8 t348)) (fun _ h_ => h_.1))) hb); have n1_ := Aside0.mk (Kd.R_below (by (with_reducible repeat (first | apply Kd.R_alloc | apply Kd.R_drewN | apply Kd.R_drew)); exact (Kd.R_mono (Kd.R_far (p := ⟨gb353, 2, none⟩) (Kd.R_far (p := ⟨gb353, 1, none⟩) (Kd.R_far (p := ⟨gb353, 0, none⟩) (Kd.R_types HO_327000.out BK353.out (by decide)) (fun _ hk => hk.2) (.slice Ao56 t344.length co56)) (fun _ hk => hk.2) (.int .u8 t347)) (fun _ hk => hk.2) (.int .u8 t348)) (fun _ h_ => h_.1))) hb); have n2_ := Aside0.mk (Kd.R_below (by (with_reducible repeat (first | apply Kd.R_alloc | apply Kd.R_drewN | apply Kd.R_drew)); exact (Kd.R_mono (Kd.R_far (p := ⟨gb353, 2, none⟩) (Kd.R_far (p := ⟨gb353, 1, none⟩) (Kd.R_far (p := ⟨gb353, 0, none⟩) (Kd.R_types HO341.out BK353.out (by decide)) (fun _ hk => hk.2) (.slice Ao56 t344.length co56)) (fun _ hk => hk.2) (.int .u8 t347)) (fun _ hk => hk.2) (.int .u8 t348)) (fun _ h_ => h_.1))) hb); have n3_ := Aside0.mk (Kd.R_below (by (with_reducible repeat (first | apply Kd.R_alloc | apply Kd.R_drewN | apply Kd.R_drew)); exact (Kd.R_mono (Kd.R_far (p := ⟨gb353, 2, none⟩) (Kd.R_far (p := ⟨gb353, 1, none⟩) (Kd.R_far (p := ⟨gb353, 0, none⟩) (Kd.R_types HO346.out BK353.out (by decide)) (fun _ hk => hk.2) (.slice Ao56 t344.length co56)) (fun _ hk => hk.2) (.int .u8 t347)) (fun _ hk => hk.2) (.int .u8 t348)) (fun _ h_ => h_.1))) hb); have n4_ := Aside0.mk (Kd.R_below (by (with_reducible repeat (first | apply Kd.R_alloc | apply Kd.R_drewN | apply Kd.R_drew)); exact (Kd.R_mono (Kd.R_far (p := ⟨gb353, 2, none⟩) (Kd.R_far (p := ⟨gb353, 1, none⟩) (Kd.R_far (p := ⟨gb353, 0, none⟩) (Kd.R_types HO351.out BK353.out (by decide)) (fun _ hk => hk.2) (.slice Ao56 t344.length co56)) (fun _ hk => hk.2) (.int .u8 t347)) (fun _ hk => hk.2) (.int .u8 t348)) (fun _ h_ => h_.1))) hb); have n5_ := Aside0.mk (blk_below (g := gb326) (o := .cells #[.slice Ao50 x327000_5.length co50, .int .u8 x327001_5, .int .u8 x327002_5] 31 (0, 0)) (by (with_reducible repeat (first | refine blk_drewN ?_ _ | refine blk_drew ?_ | refine blk_alloc ?_ _)); refine blk_far ?_ NB326_353.out _; (with_reducible repeat (first | refine blk_drewN ?_ _ | refine blk_drew ?_ | refine blk_alloc ?_ _)); refine blk_far ?_ NB326_353.out _; (with_reducible repeat (first | refine blk_drewN ?_ _ | refine blk_drew ?_ | refine blk_alloc ?_ _)); refine blk_far ?_ NB326_353.out _; (with_reducible repeat (first | refine blk_drewN ?_ _ | refine blk_drew ?_ | refine blk_alloc ?_ _)); exact BK326.out) hb); have n6_ := Aside0.mk (blk_below (g := gb353) (o := .cells #[.slice Ao56 t344.length co56, .int .u8 t347, .int .u8 t348] 31 (0, 0)) (by (with_reducible repeat (first | refine blk_drewN ?_ _ | refine blk_drew ?_ | refine blk_alloc ?_ _)); refine blk_put (cs := #[.slice Ao56 t344.length co56, .int .u8 t347, .int .u8 0]) ?_ 2 _ rfl; (with_reducible repeat (first | refine blk_drewN ?_ _ | refine blk_drew ?_ | refine blk_alloc ?_ _)); refine blk_put (cs := #[.slice Ao56 t344.length co56, .int .u8 0, .int .u8 0]) ?_ 1 _ rfl; (with_reducible repeat (first | refine blk_drewN ?_ _ | refine blk_drew ?_ | refine blk_alloc ?_ _)); refine blk_put (cs := #[.slice none 0 0, .int .u8 0, .int .u8 0]) ?_ 0 _ rfl; (with_reducible repeat (first | refine blk_drewN ?_ _ | refine blk_drew ?_ | refine blk_alloc ?_ _)); exact BK353.out) hb); have n7_ := Aside0.mk (below_step (by repeat (first | (with_reducible first | exact HB.out | apply below_alloc | apply pw_below_drewN | apply below_drew1 | refine below_set ?_ GE326.out | refine below_set ?_ GE353.out) | exact HB.out)) hb); clear HO_6; clear HO_327000; clear HO341; clear HO346; clear HO351; clear BK326; clear BK353; clear HB; have HO_6 := n0_; have HO_327000 := n1_; have HO341 := n2_; have HO346 := n3_; have HO351 := n4_; have BK326 := n5_; have BK353 := n6_; have HB := n7_; clear n0_ n1_ n2_ n3_ n4_ n5_ n6_ n7_; (try clear hb); (try clear hb2); (try clear hk); (try clear hi)))
                            go_meet
                            case rel => exact ⟨_, ((t354 != 0)), (by first | rfl | (simp; done) | (simp [*]; done)), H', ⟨by have := HJ3.out; have := HK2.out; have := HJ21.out; have := HJ28.out; have := HK5.out; have := HJ31.out; first | omega | exact Nat.le_refl _⟩, ⟨by (with_reducible repeat (first | apply Kd.R_alloc | apply Kd.R_drewN | apply Kd.R_drew)); exact Kd.R_mono HO_6.out (fun _ hk => ⟨hk.2.2.1, ⟨hk.2.2.2, hk.2.1⟩⟩)⟩, ⟨by (with_reducible repeat (first | apply Kd.R_alloc | apply Kd.R_drewN | apply Kd.R_drew)); exact Kd.R_mono HO351.out (fun _ hk => ⟨hk.2.2.2, ⟨hk.2.2.1, hk.2.1⟩⟩)⟩, ⟨by (with_reducible repeat (first | apply Kd.R_alloc | apply Kd.R_drewN | apply Kd.R_drew)); exact Kd.R_mono HO_327000.out (fun _ hk => ⟨hk.2.2.2, ⟨hk.2.2.1, hk.2.1⟩⟩)⟩, ⟨by (with_reducible repeat (first | apply Kd.R_alloc | apply Kd.R_drewN | apply Kd.R_drew)); exact Kd.R_mono HO346.out (fun _ hk => ⟨hk.2.2.2, ⟨hk.2.1, hk.2.2.1⟩⟩)⟩, ⟨by (with_reducible repeat (first | refine blk_drewN ?_ _ | refine blk_drew ?_ | refine blk_alloc ?_ _)); exact BK326.out⟩, ⟨by (with_reducible repeat (first | refine blk_drewN ?_ _ | refine blk_drew ?_ | refine blk_alloc ?_ _)); exact BK353.out⟩, ⟨by repeat (first | (with_reducible first | exact HB.out | apply below_alloc | apply pw_below_drewN | apply below_drew1 | refine below_set ?_ GE326.out | refine below_set ?_ GE353.out) | exact HB.out)⟩⟩
                           ·rw [if_neg c62] at H
                            have c62b0 : ((t349.length : Int) == 256) = false := beq_eq_false_iff_ne.mpr c62
                            have c62b1 : ((t349.length : Int) != 256) = true := bne_iff_ne.mpr c62
                            have H' := Aside0.mk H
                            clear H
                            obtain ⟨Ao68, co68, eo68⟩ := Kd.R_slice HO351.out
                            subst eo68
                            go_wp2
                            go_meet
                            case rel => exact ⟨_, (true), (by first | rfl | (simp; done) | (simp [*]; done)), H', ⟨by have := HJ3.out; have := HK2.out; have := HJ21.out; have := HJ28.out; have := HK5.out; have := HJ31.out; first | omega | exact Nat.le_refl _⟩, ⟨by (with_reducible repeat (first | apply Kd.R_alloc | apply Kd.R_drewN | apply Kd.R_drew)); exact Kd.R_mono (Kd.R_far (p := ⟨gb353, 2, none⟩) (Kd.R_far (p := ⟨gb353, 1, none⟩) (Kd.R_far (p := ⟨gb353, 0, none⟩) (Kd.R_types HO_6.out BK353.out (by decide)) (fun _ hk => hk.2) (.slice Ao56 t344.length co56)) (fun _ hk => hk.2) (.int .u8 t347)) (fun _ hk => hk.2) (.int .u8 t348)) (fun _ hk => ⟨hk.1.2.2.1, ⟨hk.1.2.2.2, hk.1.2.1⟩⟩)⟩, ⟨by (with_reducible repeat (first | apply Kd.R_alloc | apply Kd.R_drewN | apply Kd.R_drew)); exact Kd.R_mono (Kd.R_far (p := ⟨gb353, 2, none⟩) (Kd.R_far (p := ⟨gb353, 1, none⟩) (Kd.R_far (p := ⟨gb353, 0, none⟩) (Kd.R_types HO351.out BK353.out (by decide)) (fun _ hk => hk.2) (.slice Ao56 t344.length co56)) (fun _ hk => hk.2) (.int .u8 t347)) (fun _ hk => hk.2) (.int .u8 t348)) (fun _ hk => ⟨hk.1.2.2.2, ⟨hk.1.2.2.1, hk.1.2.1⟩⟩)⟩, ⟨by (with_reducible repeat (first | apply Kd.R_alloc | apply Kd.R_drewN | apply Kd.R_drew)); exact Kd.R_mono (Kd.R_far (p := ⟨gb353, 2, none⟩) (Kd.R_far (p := ⟨gb353, 1, none⟩) (Kd.R_far (p := ⟨gb353, 0, none⟩) (Kd.R_types HO_327000.out BK353.out (by decide)) (fun _ hk => hk.2) (.slice Ao56 t344.length co56)) (fun _ hk => hk.2) (.int .u8 t347)) (fun _ hk => hk.2) (.int .u8 t348)) (fun _ hk => ⟨hk.1.2.2.2, ⟨hk.1.2.2.1, hk.1.2.1⟩⟩)⟩, ⟨by (with_reducible repeat (first | apply Kd.R_alloc | apply Kd.R_drewN | apply Kd.R_drew)); exact Kd.R_mono (Kd.R_far (p := ⟨gb353, 2, none⟩) (Kd.R_far (p := ⟨gb353, 1, none⟩) (Kd.R_far (p := ⟨gb353, 0, none⟩) (Kd.R_types HO346.out BK353.out (by decide)) (fun _ hk => hk.2) (.slice Ao56 t344.length co56)) (fun _ hk => hk.2) (.int .u8 t347)) (fun _ hk => hk.2) (.int .u8 t348)) (fun _ hk => ⟨hk.1.2.2.2, ⟨hk.1.2.1, hk.1.2.2.1⟩⟩)⟩, ⟨by (with_reducible repeat (first | refine blk_drewN ?_ _ | refine blk_drew ?_ | refine blk_alloc ?_ _)); refine blk_far ?_ NB326_353.out _; (with_reducible repeat (first | refine blk_drewN ?_ _ | refine blk_drew ?_ | refine blk_alloc ?_ _)); refine blk_far ?_ NB326_353.out _; (with_reducible repeat (first | refine blk_drewN ?_ _ | refine blk_drew ?_ | refine blk_alloc ?_ _)); refine blk_far ?_ NB326_353.out _; (with_reducible repeat (first | refine blk_drewN ?_ _ | refine blk_drew ?_ | refine blk_alloc ?_ _)); exact BK326.out⟩, ⟨by (with_reducible repeat (first | refine blk_drewN ?_ _ | refine blk_drew ?_ | refine blk_alloc ?_ _)); refine blk_put (cs := #[.slice Ao56 t344.length co56, .int .u8 t347, .int .u8 0]) ?_ 2 _ rfl; (with_reducible repeat (first | refine blk_drewN ?_ _ | refine blk_drew ?_ | refine blk_alloc ?_ _)); refine blk_put (cs := #[.slice Ao56 t344.length co56, .int .u8 0, .int .u8 0]) ?_ 1 _ rfl; (with_reducible repeat (first | refine blk_drewN ?_ _ | refine blk_drew ?_ | refine blk_alloc ?_ _)); refine blk_put (cs := #[.slice none 0 0, .int .u8 0, .int .u8 0]) ?_ 0 _ rfl; (with_reducible repeat (first | refine blk_drewN ?_ _ | refine blk_drew ?_ | refine blk_alloc ?_ _)); exact BK353.out⟩, ⟨by repeat (first | (with_reducible first | exact HB.out | apply below_alloc | apply pw_below_drewN | apply below_drew1 | refine below_set ?_ GE326.out | refine below_set ?_ GE353.out) | exact HB.out)⟩⟩
                          ·rw [if_neg c61] at H
                           have c61b0 : (t352 == 0) = false := beq_eq_false_iff_ne.mpr c61
                           have c61b1 : (t352 != 0) = true := bne_iff_ne.mpr c61
                           have H' := Aside0.mk H
                           clear H
                           go_wp2
                           go_meet
                           case rel => exact ⟨_, (true), (by first | rfl | (simp; done) | (simp [*]; done)), H', ⟨by have := HJ3.out; have := HK2.out; have := HJ21.out; have := HJ28.out; have := HK5.out; have := HJ31.out; first | omega | exact Nat.le_refl _⟩, ⟨by (with_reducible repeat (first | apply Kd.R_alloc | apply Kd.R_drewN | apply Kd.R_drew)); exact Kd.R_mono (Kd.R_far (p := ⟨gb353, 2, none⟩) (Kd.R_far (p := ⟨gb353, 1, none⟩) (Kd.R_far (p := ⟨gb353, 0, none⟩) (Kd.R_types HO_6.out BK353.out (by decide)) (fun _ hk => hk.2) (.slice Ao56 t344.length co56)) (fun _ hk => hk.2) (.int .u8 t347)) (fun _ hk => hk.2) (.int .u8 t348)) (fun _ hk => ⟨hk.1.2.2.1, ⟨hk.1.2.2.2, hk.1.2.1⟩⟩)⟩, ⟨by (with_reducible repeat (first | apply Kd.R_alloc | apply Kd.R_drewN | apply Kd.R_drew)); exact Kd.R_mono (Kd.R_far (p := ⟨gb353, 2, none⟩) (Kd.R_far (p := ⟨gb353, 1, none⟩) (Kd.R_far (p := ⟨gb353, 0, none⟩) (Kd.R_types HO351.out BK353.out (by decide)) (fun _ hk => hk.2) (.slice Ao56 t344.length co56)) (fun _ hk => hk.2) (.int .u8 t347)) (fun _ hk => hk.2) (.int .u8 t348)) (fun _ hk => ⟨hk.1.2.2.2, ⟨hk.1.2.2.1, hk.1.2.1⟩⟩)⟩, ⟨by (with_reducible repeat (first | apply Kd.R_alloc | apply Kd.R_drewN | apply Kd.R_drew)); exact Kd.R_mono (Kd.R_far (p := ⟨gb353, 2, none⟩) (Kd.R_far (p := ⟨gb353, 1, none⟩) (Kd.R_far (p := ⟨gb353, 0, none⟩) (Kd.R_types HO_327000.out BK353.out (by decide)) (fun _ hk => hk.2) (.slice Ao56 t344.length co56)) (fun _ hk => hk.2) (.int .u8 t347)) (fun _ hk => hk.2) (.int .u8 t348)) (fun _ hk => ⟨hk.1.2.2.2, ⟨hk.1.2.2.1, hk.1.2.1⟩⟩)⟩, ⟨by (with_reducible repeat (first | apply Kd.R_alloc | apply Kd.R_drewN | apply Kd.R_drew)); exact Kd.R_mono (Kd.R_far (p := ⟨gb353, 2, none⟩) (Kd.R_far (p := ⟨gb353, 1, none⟩) (Kd.R_far (p := ⟨gb353, 0, none⟩) (Kd.R_types HO346.out BK353.out (by decide)) (fun _ hk => hk.2) (.slice Ao56 t344.length co56)) (fun _ hk => hk.2) (.int .u8 t347)) (fun _ hk => hk.2) (.int .u8 t348)) (fun _ hk => ⟨hk.1.2.2.2, ⟨hk.1.2.1, hk.1.2.2.1⟩⟩)⟩, ⟨by (with_reducible repeat (first | refine blk_drewN ?_ _ | refine blk_drew ?_ | refine blk_alloc ?_ _)); refine blk_far ?_ NB326_353.out _; (with_reducible repeat (first | refine blk_drewN ?_ _ | refine blk_drew ?_ | refine blk_alloc ?_ _)); refine blk_far ?_ NB326_353.out _; (with_reducible repeat (first | refine blk_drewN ?_ _ | refine blk_drew ?_ | refine blk_alloc ?_ _)); refine blk_far ?_ NB326_353.out _; (with_reducible repeat (first | refine blk_drewN ?_ _ | refine blk_drew ?_ | refine blk_alloc ?_ _)); exact BK326.out⟩, ⟨by (with_reducible repeat (first | refine blk_drewN ?_ _ | refine blk_drew ?_ | refine blk_alloc ?_ _)); refine blk_put (cs := #[.slice Ao56 t344.length co56, .int .u8 t347, .int .u8 0]) ?_ 2 _ rfl; (with_reducible repeat (first | refine blk_drewN ?_ _ | refine blk_drew ?_ | refine blk_alloc ?_ _)); refine blk_put (cs := #[.slice Ao56 t344.length co56, .int .u8 0, .int .u8 0]) ?_ 1 _ rfl; (with_reducible repeat (first | refine blk_drewN ?_ _ | refine blk_drew ?_ | refine blk_alloc ?_ _)); refine blk_put (cs := #[.slice none 0 0, .int .u8 0, .int .u8 0]) ?_ 0 _ rfl; (with_reducible repeat (first | refine blk_drewN ?_ _ | refine blk_drew ?_ | refine blk_alloc ?_ _)); exact BK353.out⟩, ⟨by repeat (first | (with_reducible first | exact HB.out | apply below_alloc | apply pw_below_drewN | apply below_drew1 | refine below_set ?_ GE326.out | refine below_set ?_ GE353.out) | exact HB.out)⟩⟩
                         ·rw [if_neg c60] at H
                          have c60b0 : (t339 == 0) = false := beq_eq_false_iff_ne.mpr c60
                          have c60b1 : (t339 != 0) = true := bne_iff_ne.mpr c60
                          (first | rw [c60b0] | (simp only [i64_w, i32_w]; rw [c60b0]) | skip)
                          have H' := Aside0.mk H
                          clear H
                          go_wp2
                          go_meet
                          case rel => exact ⟨_, (true), (by first | rfl | (simp; done) | (simp [*]; done)), H', ⟨by have := HJ3.out; have := HK2.out; have := HJ21.out; have := HJ28.out; have := HK5.out; have := HJ31.out; first | omega | exact Nat.le_refl _⟩, ⟨by (with_reducible repeat (first | apply Kd.R_alloc | apply Kd.R_drewN | apply Kd.R_drew)); exact Kd.R_mono (Kd.R_far (p := ⟨gb353, 2, none⟩) (Kd.R_far (p := ⟨gb353, 1, none⟩) (Kd.R_far (p := ⟨gb353, 0, none⟩) (Kd.R_types HO_6.out BK353.out (by decide)) (fun _ hk => hk.2) (.slice Ao56 t344.length co56)) (fun _ hk => hk.2) (.int .u8 t347)) (fun _ hk => hk.2) (.int .u8 t348)) (fun _ hk => ⟨hk.1.2.2.1, ⟨hk.1.2.2.2, hk.1.2.1⟩⟩)⟩, ⟨by (with_reducible repeat (first | apply Kd.R_alloc | apply Kd.R_drewN | apply Kd.R_drew)); exact Kd.R_mono (Kd.R_far (p := ⟨gb353, 2, none⟩) (Kd.R_far (p := ⟨gb353, 1, none⟩) (Kd.R_far (p := ⟨gb353, 0, none⟩) (Kd.R_types HO351.out BK353.out (by decide)) (fun _ hk => hk.2) (.slice Ao56 t344.length co56)) (fun _ hk => hk.2) (.int .u8 t347)) (fun _ hk => hk.2) (.int .u8 t348)) (fun _ hk => ⟨hk.1.2.2.2, ⟨hk.1.2.2.1, hk.1.2.1⟩⟩)⟩, ⟨by (with_reducible repeat (first | apply Kd.R_alloc | apply Kd.R_drewN | apply Kd.R_drew)); exact Kd.R_mono (Kd.R_far (p := ⟨gb353, 2, none⟩) (Kd.R_far (p := ⟨gb353, 1, none⟩) (Kd.R_far (p := ⟨gb353, 0, none⟩) (Kd.R_types HO_327000.out BK353.out (by decide)) (fun _ hk => hk.2) (.slice Ao56 t344.length co56)) (fun _ hk => hk.2) (.int .u8 t347)) (fun _ hk => hk.2) (.int .u8 t348)) (fun _ hk => ⟨hk.1.2.2.2, ⟨hk.1.2.2.1, hk.1.2.1⟩⟩)⟩, ⟨by (with_reducible repeat (first | apply Kd.R_alloc | apply Kd.R_drewN | apply Kd.R_drew)); exact Kd.R_mono (Kd.R_far (p := ⟨gb353, 2, none⟩) (Kd.R_far (p := ⟨gb353, 1, none⟩) (Kd.R_far (p := ⟨gb353, 0, none⟩) (Kd.R_types HO346.out BK353.out (by decide)) (fun _ hk => hk.2) (.slice Ao56 t344.length co56)) (fun _ hk => hk.2) (.int .u8 t347)) (fun _ hk => hk.2) (.int .u8 t348)) (fun _ hk => ⟨hk.1.2.2.2, ⟨hk.1.2.1, hk.1.2.2.1⟩⟩)⟩, ⟨by (with_reducible repeat (first | refine blk_drewN ?_ _ | refine blk_drew ?_ | refine blk_alloc ?_ _)); refine blk_far ?_ NB326_353.out _; (with_reducible repeat (first | refine blk_drewN ?_ _ | refine blk_drew ?_ | refine blk_alloc ?_ _)); refine blk_far ?_ NB326_353.out _; (with_reducible repeat (first | refine blk_drewN ?_ _ | refine blk_drew ?_ | refine blk_alloc ?_ _)); refine blk_far ?_ NB326_353.out _; (with_reducible repeat (first | refine blk_drewN ?_ _ | refine blk_drew ?_ | refine blk_alloc ?_ _)); exact BK326.out⟩, ⟨by (with_reducible repeat (first | refine blk_drewN ?_ _ | refine blk_drew ?_ | refine blk_alloc ?_ _)); refine blk_put (cs := #[.slice Ao56 t344.length co56, .int .u8 t347, .int .u8 0]) ?_ 2 _ rfl; (with_reducible repeat (first | refine blk_drewN ?_ _ | refine blk_drew ?_ | refine blk_alloc ?_ _)); refine blk_put (cs := #[.slice Ao56 t344.length co56, .int .u8 0, .int .u8 0]) ?_ 1 _ rfl; (with_reducible repeat (first | refine blk_drewN ?_ _ | refine blk_drew ?_ | refine blk_alloc ?_ _)); refine blk_put (cs := #[.slice none 0 0, .int .u8 0, .int .u8 0]) ?_ 0 _ rfl; (with_reducible repeat (first | refine blk_drewN ?_ _ | refine blk_drew ?_ | refine blk_alloc ?_ _)); exact BK353.out⟩, ⟨by repeat (first | (with_reducible first | exact HB.out | apply below_alloc | apply pw_below_drewN | apply below_drew1 | refine below_set ?_ GE326.out | refine below_set ?_ GE353.out) | exact HB.out)⟩⟩
                        case rest => as_aux_lemma =>
                         clear HC45
                         try clear p2
                         try clear c3
                         try clear p3
                         try clear q3
                         try clear hx3
                         try clear c6
                         try clear p34
                         try clear q34
                         try clear hx34
                         try clear c35
                         try clear c60
                         try clear c60b0
                         try clear c60b1
                         try clear c61
                         try clear c61b0
                         try clear c61b1
                         try clear c62
                         try clear c62b0
                         try clear c62b1
                         try clear c65
                         try clear hcz66_0
                         try clear hcz66_1
                         try clear hcz66_2
                         try clear hfz66_0
                         try clear hfz66_1
                         try clear hfz66_2
                         try clear hx342_0
                         try clear hx342_1
                         try clear hx343_0
                         try clear hx343_1
                         try clear p342
                         try clear p343
                         try clear q342
                         try clear q343
                         obtain ⟨kq, x154_44, rfl, HA, HJ44, HO_6, HO_14, HO_327000, HO_354000, BK326, BK353, HB⟩ := hcut
                         cases kq with
                         | zero => exact absurd HA.out (by simp [reedpipelaw13_LapBack.j6])
                         | succ kj44 =>
                          have H := HA.out
                          clear HA
                          simp only [reedpipelaw13_LapBack.j6] at H
                          by_cases c69 : x154_44 = true
                          ·subst c69
                           have H1 : (some false) = some r := by rw [if_pos rfl] at H; exact H
                           clear H
                           have H := H1
                           clear H1
                           obtain rfl := Option.some.inj H
                           go_wp2
                           go_ret
                           exact ⟨by first | rfl | (simp [errW_none, errW_some] <;> rfl) | (simp only [← hji39]; first | rfl | (simp [errW_none, errW_some] <;> rfl)) | (simp [*, errW_none, errW_some] <;> rfl), by repeat (first | (with_reducible first | exact HB.out | apply below_alloc | apply pw_below_drewN | apply below_drew1 | refine below_set ?_ GE326.out | refine below_set ?_ GE353.out) | exact HB.out)⟩
                          ·replace c69 := Bool.eq_false_iff.mpr c69
                           subst c69
                           have H1 : (reedpipelaw13_LapBack.l2 kj44 l1 t315 x6_2 x10_5 t349 0 t344 t347 t348) = some r := by rw [if_neg (show ¬ (false = true) by decide)] at H; exact H
                           clear H
                           have H := H1
                           clear H1
                           have H' := Aside0.mk H
                           clear H
                           go_wp2
                           go_loopg [16] kj44 (fun kq v16 w' => ∃ (x16_8 : Int), v16 = .int .i64 x16_8 ∧ Aside0 (reedpipelaw13_LapBack.l2 kq l1 t315 x6_2 x10_5 t349 x16_8 t344 t347 t348 = some r) ∧ Aside0 (kq ≤ kj44) ∧ Aside0 (Kd.R (Kd.int .i64) 3 w' w.heap.size (fun k_ => some k_ ≠ (v350 : Value).ownBlock ∧ some k_ ≠ ((.slice Ao50 x327000_5.length co50) : Value).ownBlock ∧ some k_ ≠ ((.slice Ao56 t344.length co56) : Value).ownBlock) (.slice Ao48 x6_2.length co48) x6_2) ∧ Aside0 (Kd.R (Kd.int .i64) 3 w' w.heap.size (fun k_ => some k_ ≠ ((.slice Ao48 x6_2.length co48) : Value).ownBlock ∧ some k_ ≠ ((.slice Ao50 x327000_5.length co50) : Value).ownBlock ∧ some k_ ≠ ((.slice Ao56 t344.length co56) : Value).ownBlock) v350 t349) ∧ Aside0 (Kd.R (Kd.int .i64) 3 w' w.heap.size (fun k_ => some k_ ≠ ((.slice Ao48 x6_2.length co48) : Value).ownBlock ∧ some k_ ≠ (v350 : Value).ownBlock ∧ some k_ ≠ ((.slice Ao56 t344.length co56) : Value).ownBlock) (.slice Ao50 x327000_5.length co50) x327000_5) ∧ Aside0 (Kd.R (Kd.int .i64) 3 w' w.heap.size (fun k_ => some k_ ≠ ((.slice Ao48 x6_2.length co48) : Value).ownBlock ∧ some k_ ≠ (v350 : Value).ownBlock ∧ some k_ ≠ ((.slice Ao50 x327000_5.length co50) : Value).ownBlock) (.slice Ao56 t344.length co56) t344) ∧ Aside0 (w'.heap[gb326]? = some (.cells #[(.slice Ao50 x327000_5.length co50), .int .u8 x327001_5, .int .u8 x327002_5] 31 (0, 0))) ∧ Aside0 (w'.heap[gb353]? = some (.cells #[(.slice Ao56 t344.length co56), .int .u8 t347, .int .u8 t348] 31 (0, 0))) ∧ Aside0 (Below w.heap.size w w'))
                           case atStart => exact ⟨(0), (by first | rfl | (simp; done) | (simp [*]; done)), H', ⟨Nat.le_refl _⟩, ⟨by (with_reducible repeat (first | apply Kd.R_alloc | apply Kd.R_drewN | apply Kd.R_drew)); exact HO_6.out⟩, ⟨by (with_reducible repeat (first | apply Kd.R_alloc | apply Kd.R_drewN | apply Kd.R_drew)); exact HO_14.out⟩, ⟨by (with_reducible repeat (first | apply Kd.R_alloc | apply Kd.R_drewN | apply Kd.R_drew)); exact HO_327000.out⟩, ⟨by (with_reducible repeat (first | apply Kd.R_alloc | apply Kd.R_drewN | apply Kd.R_drew)); exact HO_354000.out⟩, ⟨by (with_reducible repeat (first | refine blk_drewN ?_ _ | refine blk_drew ?_ | refine blk_alloc ?_ _)); exact BK326.out⟩, ⟨by (with_reducible repeat (first | refine blk_drewN ?_ _ | refine blk_drew ?_ | refine blk_alloc ?_ _)); exact BK353.out⟩, ⟨by repeat (first | (with_reducible first | exact HB.out | apply below_alloc | apply pw_below_drewN | apply below_drew1 | refine below_set ?_ GE326.out | refine below_set ?_ GE353.out) | exact HB.out)⟩⟩
                           case round => as_aux_lemma =>
                            clear H'
                            try clear p2
                            try clear c3
                            try clear p3
                            try clear q3
                            try clear hx3
                            try clear c6
                            try clear p34
                            try clear q34
                            try clear hx34
                            try clear c35
                            try clear c60
                            try clear c60b0
                            try clear c60b1
                            try clear c61
                            try clear c61b0
                            try clear c61b1
                            try clear c62
                            try clear c62b0
                            try clear c62b1
                            try clear c65
                            try clear c69
                            try clear hcz66_0
                            try clear hcz66_1
                            try clear hcz66_2
                            try clear hfz66_0
                            try clear hfz66_1
                            try clear hfz66_2
                            try clear hx342_0
                            try clear hx342_1
                            try clear hx343_0
                            try clear hx343_1
                            try clear p2
                            try clear p3
                            try clear p34
                            try clear p342
                            try clear p343
                            try clear q3
                            try clear q34
                            try clear q342
                            try clear q343
                            obtain ⟨x16_8, rfl, HA, HK8, HO_6, HO_14, HO_327000, HO_354000, BK326, BK353, HB⟩ := hrel
                            cases gk with
                            | zero => exact absurd HA.out (by simp [reedpipelaw13_LapBack.l2])
                            | succ k8 =>
                             have H := HA.out
                             clear HA
                             simp only [reedpipelaw13_LapBack.l2] at H
                             have HC70 := Aside0.mk H
                             clear H
                             go_upto_region 23 with (fail)
                             go_cut [160] (fun v160 wc => ∃ (kq : Nat) (x160_69 : Bool), v160 = .bool x160_69 ∧ Aside0 (reedpipelaw13_LapBack.j8 kq l1 t315 x6_2 x10_5 t349 x16_8 x160_69 t344 t347 t348 = some r) ∧ Aside0 (kq ≤ k8) ∧ Aside0 (Kd.R (Kd.int .i64) 3 wc w.heap.size (fun k_ => some k_ ≠ (v350 : Value).ownBlock ∧ some k_ ≠ ((.slice Ao50 x327000_5.length co50) : Value).ownBlock ∧ some k_ ≠ ((.slice Ao56 t344.length co56) : Value).ownBlock) (.slice Ao48 x6_2.length co48) x6_2) ∧ Aside0 (Kd.R (Kd.int .i64) 3 wc w.heap.size (fun k_ => some k_ ≠ ((.slice Ao48 x6_2.length co48) : Value).ownBlock ∧ some k_ ≠ ((.slice Ao50 x327000_5.length co50) : Value).ownBlock ∧ some k_ ≠ ((.slice Ao56 t344.length co56) : Value).ownBlock) v350 t349) ∧ Aside0 (Kd.R (Kd.int .i64) 3 wc w.heap.size (fun k_ => some k_ ≠ ((.slice Ao48 x6_2.length co48) : Value).ownBlock ∧ some k_ ≠ (v350 : Value).ownBlock ∧ some k_ ≠ ((.slice Ao56 t344.length co56) : Value).ownBlock) (.slice Ao50 x327000_5.length co50) x327000_5) ∧ Aside0 (Kd.R (Kd.int .i64) 3 wc w.heap.size (fun k_ => some k_ ≠ ((.slice Ao48 x6_2.length co48) : Value).ownBlock ∧ some k_ ≠ (v350 : Value).ownBlock ∧ some k_ ≠ ((.slice Ao50 x327000_5.length co50) : Value).ownBlock) (.slice Ao56 t344.length co56) t344) ∧ Aside0 (wc.heap[gb326]? = some (.cells #[(.slice Ao50 x327000_5.length co50), .int .u8 x327001_5, .int .u8 x327002_5] 31 (0, 0))) ∧ Aside0 (wc.heap[gb353]? = some (.cells #[(.slice Ao56 t344.length co56), .int .u8 t347, .int .u8 t348] 31 (0, 0))) ∧ Aside0 (Below w.heap.size w wc))
                             case first => as_aux_lemma =>
                              have H := HC70.out
                              clear HC70
                              by_cases c71 : x10_5 > 0
                              ·rw [if_pos c71] at H
                               have c71b0 : decide (0 < x10_5) = true := decide_eq_true c71
                               clear c71
                               (first | rw [c71b0] | (simp only [i64_w, i32_w]; rw [c71b0]) | skip)
                               have H' := Aside0.mk H
                               clear H
                               go_wp2
                               go_meet
                               case rel => exact ⟨_, (decide (x16_8 < 256)), (by first | rfl | (simp; done) | (simp [*]; done)), H', ⟨by have := HJ3.out; have := HK2.out; have := HJ21.out; have := HJ28.out; have := HK5.out; have := HJ31.out; have := HJ44.out; have := HK8.out; first | omega | exact Nat.le_refl _⟩, ⟨by (with_reducible repeat (first | apply Kd.R_alloc | apply Kd.R_drewN | apply Kd.R_drew)); exact HO_6.out⟩, ⟨by (with_reducible repeat (first | apply Kd.R_alloc | apply Kd.R_drewN | apply Kd.R_drew)); exact HO_14.out⟩, ⟨by (with_reducible repeat (first | apply Kd.R_alloc | apply Kd.R_drewN | apply Kd.R_drew)); exact HO_327000.out⟩, ⟨by (with_reducible repeat (first | apply Kd.R_alloc | apply Kd.R_drewN | apply Kd.R_drew)); exact HO_354000.out⟩, ⟨by (with_reducible repeat (first | refine blk_drewN ?_ _ | refine blk_drew ?_ | refine blk_alloc ?_ _)); exact BK326.out⟩, ⟨by (with_reducible repeat (first | refine blk_drewN ?_ _ | refine blk_drew ?_ | refine blk_alloc ?_ _)); exact BK353.out⟩, ⟨by repeat (first | (with_reducible first | exact HB.out | apply below_alloc | apply pw_below_drewN | apply below_drew1 | refine below_set ?_ GE326.out | refine below_set ?_ GE353.out) | exact HB.out)⟩⟩
                              ·rw [if_neg c71] at H
                               have c71b0 : decide (0 < x10_5) = false := decide_eq_false c71
                               clear c71
                               (first | rw [c71b0] | (simp only [i64_w, i32_w]; rw [c71b0]) | skip)
                               have H' := Aside0.mk H
                               clear H
                               go_wp2
                               go_meet
                               case rel => exact ⟨_, (false), (by first | rfl | (simp; done) | (simp [*]; done)), H', ⟨by have := HJ3.out; have := HK2.out; have := HJ21.out; have := HJ28.out; have := HK5.out; have := HJ31.out; have := HJ44.out; have := HK8.out; first | omega | exact Nat.le_refl _⟩, ⟨by (with_reducible repeat (first | apply Kd.R_alloc | apply Kd.R_drewN | apply Kd.R_drew)); exact HO_6.out⟩, ⟨by (with_reducible repeat (first | apply Kd.R_alloc | apply Kd.R_drewN | apply Kd.R_drew)); exact HO_14.out⟩, ⟨by (with_reducible repeat (first | apply Kd.R_alloc | apply Kd.R_drewN | apply Kd.R_drew)); exact HO_327000.out⟩, ⟨by (with_reducible repeat (first | apply Kd.R_alloc | apply Kd.R_drewN | apply Kd.R_drew)); exact HO_354000.out⟩, ⟨by (with_reducible repeat (first | refine blk_drewN ?_ _ | refine blk_drew ?_ | refine blk_alloc ?_ _)); exact BK326.out⟩, ⟨by (with_reducible repeat (first | refine blk_drewN ?_ _ | refine blk_drew ?_ | refine blk_alloc ?_ _)); exact BK353.out⟩, ⟨by repeat (first | (with_reducible first | exact HB.out | apply below_alloc | apply pw_below_drewN | apply below_drew1 | refine below_set ?_ GE326.out | refine below_set ?_ GE353.out) | exact HB.out)⟩⟩
                             case rest => as_aux_lemma =>
                              clear HC70
                              try clear p2
                              try clear c3
                              try clear p3
                              try clear q3
                              try clear hx3
                              try clear c6
                              try clear c7
                              try clear p34
                              try clear q34
                              try clear hx34
                              try clear c35
                              try clear c60
                              try clear c60b0
                              try clear c60b1
                              try clear c61
                              try clear c61b0
                              try clear c61b1
                              try clear c62
                              try clear c62b0
                              try clear c62b1
                              try clear c65
                              try clear c69
                              try clear c71
                              try clear c71b0
                              try clear hcz66_0
                              try clear hcz66_1
                              try clear hcz66_2
                              try clear hfz66_0
                              try clear hfz66_1
                              try clear hfz66_2
                              try clear hx342_0
                              try clear hx342_1
                              try clear hx343_0
                              try clear hx343_1
                              try clear p2
                              try clear p3
                              try clear p34
                              try clear p342
                              try clear p343
                              try clear q3
                              try clear q34
                              try clear q342
                              try clear q343
                              obtain ⟨kq, x160_69, rfl, HA, HJ69, HO_6, HO_14, HO_327000, HO_354000, BK326, BK353, HB⟩ := hcut
                              cases kq with
                              | zero => exact absurd HA.out (by simp [reedpipelaw13_LapBack.j8])
                              | succ kj69 =>
                               have H := HA.out
                               clear HA
                               simp only [reedpipelaw13_LapBack.j8] at H
                               by_cases c72 : x160_69 = true
                               ·subst c72
                                have H1 : (if 0 ≤ x16_8 then (if x16_8 < (t349.length : Int) then (if 0 ≤ (wrap64 ((wrap64 (256 * x10_5)) + x16_8)) then (if (wrap64 ((wrap64 (256 * x10_5)) + x16_8)) < (x6_2.length : Int) then (if (wrap64 ((rd t349 x16_8) - (rd x6_2 (wrap64 ((wrap64 (256 * x10_5)) + x16_8))))) > 2 then (some false) else (if (wrap64 ((rd t349 x16_8) - (rd x6_2 (wrap64 ((wrap64 (256 * x10_5)) + x16_8))))) < (-2) then (some false) else (reedpipelaw13_LapBack.l2 kj69 l1 t315 x6_2 x10_5 t349 (wrap64 (x16_8 + 1)) t344 t347 t348))) else (none)) else (none)) else (none)) else (none)) = some r := by rw [if_pos rfl] at H; exact H
                                clear H
                                have H := H1
                                clear H1
                                by_cases c73 : 0 ≤ x16_8
                                ·rw [if_pos c73] at H
                                 have c73b0 : decide (0 ≤ x16_8) = true := decide_eq_true c73
                                 clear c73
                                 by_cases c74 : x16_8 < (t349.length : Int)
                                 ·rw [if_pos c74] at H
                                  have c74b0 : decide (x16_8 < (t349.length : Int)) = true := decide_eq_true c74
                                  clear c74
                                  (try subst hji39)
                                  obtain ⟨ji75, hji75⟩ : ∃ j_ : Int, (wrap64 ((wrap64 (256 * x10_5)) + x16_8)) = j_ := ⟨_, rfl⟩
                                  replace H : (if 0 ≤ (ji75) then (if (ji75) < (x6_2.length : Int) then (if (wrap64 ((rd t349 x16_8) - (rd x6_2 (ji75)))) > 2 then (some false) else (if (wrap64 ((rd t349 x16_8) - (rd x6_2 (ji75)))) < (-2) then (some false) else (reedpipelaw13_LapBack.l2 kj69 l1 t315 x6_2 x10_5 t349 (wrap64 (x16_8 + 1)) t344 t347 t348))) else (none)) else (none)) = some r := by first | (rw [hji75] at H; exact H) | (simp only [hji75] at H ⊢; exact H)
                                  have hji75w : (IntKind.i64.wrap ((wrap64 (256 * x10_5)) + x16_8)) = ji75 := (i64_w _).trans hji75
                                  by_cases c76 : 0 ≤ (ji75)
                                  ·rw [if_pos c76] at H
                                   have c76b0 : decide (0 ≤ (ji75)) = true := decide_eq_true c76
                                   clear c76
                                   by_cases c77 : (ji75) < (x6_2.length : Int)
                                   ·rw [if_pos c77] at H
                                    have c77b0 : decide ((ji75) < (x6_2.length : Int)) = true := decide_eq_true c77
                                    clear c77
                                    by_cases c78 : (wrap64 ((rd t349 x16_8) - (rd x6_2 (ji75)))) > 2
                                    ·rw [if_pos c78] at H
                                     have c78b0 : decide (2 < (wrap64 ((rd t349 x16_8) - (rd x6_2 (ji75))))) = true := decide_eq_true c78
                                     clear c78
                                     obtain rfl := Option.some.inj H
                                     try go_wp2
                                     have n0_ := Aside0.mk (Kd.R_drew HO_6.out)
                                     have n1_ := Aside0.mk (Kd.R_drew HO_14.out)
                                     have n2_ := Aside0.mk (Kd.R_drew HO_327000.out)
                                     have n3_ := Aside0.mk (Kd.R_drew HO_354000.out)
                                     have n4_ := Aside0.mk (blk_drew BK326.out)
                                     have n5_ := Aside0.mk (blk_drew BK353.out)
                                     have n6_ := Aside0.mk (below_drew1 HB.out)
                                     clear HO_6
                                     clear HO_14
                                     clear HO_327000
                                     clear HO_354000
                                     clear BK326
                                     clear BK353
                                     clear HB
                                     have HO_6 := n0_
                                     have HO_14 := n1_
                                     have HO_327000 := n2_
                                     have HO_354000 := n3_
                                     have BK326 := n4_
                                     have BK353 := n5_
                                     have HB := n6_
                                     clear n0_ n1_ n2_ n3_ n4_ n5_ n6_
                                     obtain ⟨Ao80, co80, eo80⟩ := Kd.R_slice HO_14.out
                                     (first | subst eo80 | (injection eo80 with f1_ f2_ f3_; have f4_ := f1_.symm; have f5_ := f3_.symm; clear f1_ f2_ f3_; subst f4_; subst f5_))
                                     have p355 : 0 ≤ (x16_8 : Int) := of_decide_eq_true (by first | (with_reducible assumption) | assumption)
                                     have q355 : x16_8 < (t349.length : Int) := of_decide_eq_true (by first | (with_reducible assumption) | assumption)
                                     obtain ⟨ad355, e355, hx355_0⟩ := Kd.at_int (Kd.R_reads' HO_14.out).2.2 x16_8 p355 q355
                                     cases e355
                                     replace p355 := eq_true p355
                                     replace q355 := eq_true q355
                                     have p356 : 0 ≤ ((ji75) : Int) := of_decide_eq_true (by first | (with_reducible assumption) | assumption)
                                     have q356 : (ji75) < (x6_2.length : Int) := of_decide_eq_true (by first | (with_reducible assumption) | assumption)
                                     obtain ⟨ad356, e356, hx356_0⟩ := Kd.at_int (Kd.R_reads' HO_6.out).2.2 (ji75) p356 q356
                                     cases e356
                                     replace p356 := eq_true p356
                                     replace q356 := eq_true q356
                                     refine start_ (n := 13) (S := fun w' => w'.cell? (ad355.add (x16_8).toNat) = some (.int .i64 (rd t349 x16_8)) ∧ w'.cell? (ad356.add ((ji75)).toNat) = some (.int .i64 (rd x6_2 (ji75)))) (ds := []) #[false, false, false, false, false, false, false, false, false, false, false, false, false] (by kernel_rfl) rfl rfl ⟨hx355_0, hx356_0⟩ (fun hHeld => ?_); refine with_tabW reedpipelaw13_LapBack.tab25 reedpipelaw13_LapBack.bits25 (fun HT_ HW_ => ?_)
                                     generalize wc.drew = w79 at HO_6 HO_14 HO_327000 HO_354000 BK326 BK353 HB hx355_0 hx356_0 hHeld ⊢
                                     refine pure_ (i := 0) (N := some 163) (v := ?_) (a' := ?_) #[true, false, false, false, false, false, false, false, false, false, false, false, false] rfl rfl (any_of HT_.out (by kernel_rfl)) (fun _ _ _ h => h) (Or.inl ⟨by rfl, ?_⟩) ?_ ?_
                                     rotate_left
                                     ·intro w'
                                      go_simp
                                      with_reducible rfl
                                     rotate_left
                                     ·simp only [Act.put, List.setIfInBounds_toArray, List.set_cons_zero, List.set_cons_succ, i64_w, i32_w]
                                      rfl
                                     refine pure_ (i := 1) (N := some 164) (v := ?_) (a' := ?_) #[true, true, false, false, false, false, false, false, false, false, false, false, false] rfl rfl (any_of HT_.out (by kernel_rfl)) (fun _ _ _ h => h) (Or.inl ⟨by rfl, ?_⟩) ?_ ?_
                                     rotate_left
                                     ·intro w'
                                      go_simp
                                      with_reducible rfl
                                     rotate_left
                                     ·simp only [Act.put, List.setIfInBounds_toArray, List.set_cons_zero, List.set_cons_succ, i64_w, i32_w]
                                      rfl
                                     refine pure_ (i := 2) (N := some 165) (v := ?_) (a' := ?_) #[true, true, true, false, false, false, false, false, false, false, false, false, false] rfl rfl (any_of HT_.out (by kernel_rfl)) (fun _ _ _ h => h) (Or.inl ⟨by rfl, ?_⟩) ?_ ?_
                                     rotate_left
                                     ·intro w'
                                      go_simp
                                      with_reducible rfl
                                     rotate_left
                                     ·simp only [Act.put, List.setIfInBounds_toArray, List.set_cons_zero, List.set_cons_succ, i64_w, i32_w]
                                      rfl
                                     refine pure_ (i := 4) (N := some 167) (v := ?_) (a' := ?_) #[true, true, true, false, true, false, false, false, false, false, false, false, false] rfl rfl (any_of HT_.out (by kernel_rfl)) (fun _ _ _ h => h) (Or.inl ⟨by rfl, ?_⟩) ?_ ?_
                                     rotate_left
                                     ·intro w'
                                      go_simp
                                      with_reducible rfl
                                     rotate_left
                                     ·simp only [Act.put, List.setIfInBounds_toArray, List.set_cons_zero, List.set_cons_succ, i64_w, i32_w]
                                      rfl
                                     refine pure_ (i := 5) (N := some 168) (v := ?_) (a' := ?_) #[true, true, true, false, true, true, false, false, false, false, false, false, false] rfl rfl (any_of HT_.out (by kernel_rfl)) (fun _ _ _ h => h) (Or.inl ⟨by rfl, ?_⟩) ?_ ?_
                                     rotate_left
                                     ·intro w'
                                      go_simp
                                      with_reducible rfl
                                     rotate_left
                                     ·simp only [Act.put, List.setIfInBounds_toArray, List.set_cons_zero, List.set_cons_succ, i64_w, i32_w]
                                      rfl
                                     refine pure_ (i := 6) (N := some 169) (v := ?_) (a' := ?_) #[true, true, true, false, true, true, true, false, false, false, false, false, false] rfl rfl (any_of HT_.out (by kernel_rfl)) (fun _ _ _ h => h) (Or.inl ⟨by rfl, ?_⟩) ?_ ?_
                                     rotate_left
                                     ·intro w'
                                      go_simp
                                      with_reducible rfl
                                     rotate_left
                                     ·simp only [Act.put, List.setIfInBounds_toArray, List.set_cons_zero, List.set_cons_succ, i64_w, i32_w]
                                      rfl
                                     refine pure_ (i := 7) (N := some 170) (v := ?_) (a' := ?_) #[true, true, true, false, true, true, true, true, false, false, false, false, false] rfl rfl (any_of HT_.out (by kernel_rfl)) (fun _ _ _ h => h) (Or.inl ⟨by rfl, ?_⟩) ?_ ?_
                                     rotate_left
                                     ·intro w'
                                      go_simp
                                      with_reducible rfl
                                     rotate_left
                                     ·simp only [Act.put, List.setIfInBounds_toArray, List.set_cons_zero, List.set_cons_succ, i64_w, i32_w]
                                      rfl
                                     refine pure_ (i := 8) (N := some 171) (v := ?_) (a' := ?_) #[true, true, true, false, true, true, true, true, true, false, false, false, false] rfl rfl (any_of HT_.out (by kernel_rfl)) (fun _ _ _ h => h) (Or.inl ⟨by rfl, ?_⟩) ?_ ?_
                                     rotate_left
                                     ·intro w'
                                      go_simp
                                      with_reducible rfl
                                     rotate_left
                                     ·simp only [Act.put, List.setIfInBounds_toArray, List.set_cons_zero, List.set_cons_succ, i64_w, i32_w]
                                      rfl
                                     refine pure_ (i := 9) (N := some 172) (v := ?_) (a' := ?_) #[true, true, true, false, true, true, true, true, true, true, false, false, false] rfl rfl (any_of HT_.out (by kernel_rfl)) (fun _ _ _ h => h) (Or.inl ⟨by rfl, ?_⟩) ?_ ?_
                                     rotate_left
                                     ·intro w'
                                      go_simp
                                      with_reducible rfl
                                     rotate_left
                                     ·simp only [Act.put, List.setIfInBounds_toArray, List.set_cons_zero, List.set_cons_succ, i64_w, i32_w]
                                      rfl
                                     refine take_ (i := 3) (N := some 166) (v := ?_) (a' := ?_) #[true, true, true, true, true, true, true, true, true, true, false, false, false] rfl rfl (take_ofW HT_.out HW_.out (by kernel_rfl)) (fun _ _ _ h => h) (Or.inl ⟨by rfl, ?_⟩) hHeld ?_ ?_
                                     rotate_left
                                     ·rintro w' ⟨s0, s1⟩
                                      go_simp
                                      with_reducible rfl
                                     rotate_left
                                     ·simp only [Act.put, List.setIfInBounds_toArray, List.set_cons_zero, List.set_cons_succ, i64_w, i32_w]
                                      rfl
                                     refine take_ (i := 10) (N := some 173) (v := ?_) (a' := ?_) #[true, true, true, true, true, true, true, true, true, true, true, false, false] rfl rfl (take_ofW HT_.out HW_.out (by kernel_rfl)) (fun _ _ _ h => h) (Or.inl ⟨by rfl, ?_⟩) hHeld ?_ ?_
                                     rotate_left
                                     ·rintro w' ⟨s0, s1⟩
                                      go_simp
                                      with_reducible rfl
                                     rotate_left
                                     ·simp only [Act.put, List.setIfInBounds_toArray, List.set_cons_zero, List.set_cons_succ, i64_w, i32_w]
                                      rfl
                                     refine pure_ (i := 11) (N := some 174) (v := ?_) (a' := ?_) #[true, true, true, true, true, true, true, true, true, true, true, true, false] rfl rfl (any_of HT_.out (by kernel_rfl)) (fun _ _ _ h => h) (Or.inl ⟨by rfl, ?_⟩) ?_ ?_
                                     rotate_left
                                     ·intro w'
                                      go_simp
                                      with_reducible rfl
                                     rotate_left
                                     ·simp only [Act.put, List.setIfInBounds_toArray, List.set_cons_zero, List.set_cons_succ, i64_w, i32_w]
                                      rfl
                                     refine pure_ (i := 12) (N := some 17) (v := ?_) (a' := ?_) #[true, true, true, true, true, true, true, true, true, true, true, true, true] rfl rfl (any_of HT_.out (by kernel_rfl)) (fun _ _ _ h => h) (Or.inl ⟨by rfl, ?_⟩) ?_ ?_
                                     rotate_left
                                     ·intro w'
                                      go_simp
                                      with_reducible rfl
                                     rotate_left
                                     ·simp only [Act.put, List.setIfInBounds_toArray, List.set_cons_zero, List.set_cons_succ, i64_w, i32_w]
                                      rfl
                                     refine done_ (done_of HT_.out (by kernel_rfl)) ?_
                                     try go_wp2
                                     go_ret
                                     exact ⟨by first | rfl | (simp [errW_none, errW_some] <;> rfl) | (simp only [← hji39, ← hji75]; first | rfl | (simp [errW_none, errW_some] <;> rfl)) | (simp [*, errW_none, errW_some] <;> rfl), by repeat (first | (with_reducible first | exact HB.out | apply below_alloc | apply pw_below_drewN | apply below_drew1 | refine below_set ?_ GE326.out | refine below_set ?_ GE353.out) | exact HB.out)⟩
                                    ·rw [if_neg c78] at H
                                     have c78b0 : decide (2 < (wrap64 ((rd t349 x16_8) - (rd x6_2 (ji75))))) = false := decide_eq_false c78
                                     clear c78
                                     by_cases c81 : (wrap64 ((rd t349 x16_8) - (rd x6_2 (ji75)))) < (-2)
                                     ·rw [if_pos c81] at H
                                      have c81b0 : decide ((wrap64 ((rd t349 x16_8) - (rd x6_2 (ji75)))) < (-2)) = true := decide_eq_true c81
                                      clear c81
                                      obtain rfl := Option.some.inj H
                                      try go_wp2
                                      have n0_ := Aside0.mk (Kd.R_drew HO_6.out)
                                      have n1_ := Aside0.mk (Kd.R_drew HO_14.out)
                                      have n2_ := Aside0.mk (Kd.R_drew HO_327000.out)
                                      have n3_ := Aside0.mk (Kd.R_drew HO_354000.out)
                                      have n4_ := Aside0.mk (blk_drew BK326.out)
                                      have n5_ := Aside0.mk (blk_drew BK353.out)
                                      have n6_ := Aside0.mk (below_drew1 HB.out)
                                      clear HO_6
                                      clear HO_14
                                      clear HO_327000
                                      clear HO_354000
                                      clear BK326
                                      clear BK353
                                      clear HB
                                      have HO_6 := n0_
                                      have HO_14 := n1_
                                      have HO_327000 := n2_
                                      have HO_354000 := n3_
                                      have BK326 := n4_
                                      have BK353 := n5_
                                      have HB := n6_
                                      clear n0_ n1_ n2_ n3_ n4_ n5_ n6_
                                      obtain ⟨Ao83, co83, eo83⟩ := Kd.R_slice HO_14.out
                                      (first | subst eo83 | (injection eo83 with f1_ f2_ f3_; have f4_ := f1_.symm; have f5_ := f3_.symm; clear f1_ f2_ f3_; subst f4_; subst f5_))
                                      have p355 : 0 ≤ (x16_8 : Int) := of_decide_eq_true (by first | (with_reducible assumption) | assumption)
                                      have q355 : x16_8 < (t349.length : Int) := of_decide_eq_true (by first | (with_reducible assumption) | assumption)
                                      obtain ⟨ad355, e355, hx355_0⟩ := Kd.at_int (Kd.R_reads' HO_14.out).2.2 x16_8 p355 q355
                                      cases e355
                                      replace p355 := eq_true p355
                                      replace q355 := eq_true q355
                                      have p356 : 0 ≤ ((ji75) : Int) := of_decide_eq_true (by first | (with_reducible assumption) | assumption)
                                      have q356 : (ji75) < (x6_2.length : Int) := of_decide_eq_true (by first | (with_reducible assumption) | assumption)
                                      obtain ⟨ad356, e356, hx356_0⟩ := Kd.at_int (Kd.R_reads' HO_6.out).2.2 (ji75) p356 q356
                                      cases e356
                                      replace p356 := eq_true p356
                                      replace q356 := eq_true q356
                                      refine start_ (n := 13) (S := fun w' => w'.cell? (ad355.add (x16_8).toNat) = some (.int .i64 (rd t349 x16_8)) ∧ w'.cell? (ad356.add ((ji75)).toNat) = some (.int .i64 (rd x6_2 (ji75)))) (ds := []) #[false, false, false, false, false, false, false, false, false, false, false, false, false] (by kernel_rfl) rfl rfl ⟨hx355_0, hx356_0⟩ (fun hHeld => ?_); refine with_tabW reedpipelaw13_LapBack.tab25 reedpipelaw13_LapBack.bits25 (fun HT_ HW_ => ?_)
                                      generalize wc.drew = w82 at HO_6 HO_14 HO_327000 HO_354000 BK326 BK353 HB hx355_0 hx356_0 hHeld ⊢
                                      refine pure_ (i := 0) (N := some 163) (v := ?_) (a' := ?_) #[true, false, false, false, false, false, false, false, false, false, false, false, false] rfl rfl (any_of HT_.out (by kernel_rfl)) (fun _ _ _ h => h) (Or.inl ⟨by rfl, ?_⟩) ?_ ?_
                                      rotate_left
                                      ·intro w'
                                       go_simp
                                       with_reducible rfl
                                      rotate_left
                                      ·simp only [Act.put, List.setIfInBounds_toArray, List.set_cons_zero, List.set_cons_succ, i64_w, i32_w]
                                       rfl
                                      refine pure_ (i := 1) (N := some 164) (v := ?_) (a' := ?_) #[true, true, false, false, false, false, false, false, false, false, false, false, false] rfl rfl (any_of HT_.out (by kernel_rfl)) (fun _ _ _ h => h) (Or.inl ⟨by rfl, ?_⟩) ?_ ?_
                                      rotate_left
                                      ·intro w'
                                       go_simp
                                       with_reducible rfl
                                      rotate_left
                                      ·simp only [Act.put, List.setIfInBounds_toArray, List.set_cons_zero, List.set_cons_succ, i64_w, i32_w]
                                       rfl
                                      refine pure_ (i := 2) (N := some 165) (v := ?_) (a' := ?_) #[true, true, true, false, false, false, false, false, false, false, false, false, false] rfl rfl (any_of HT_.out (by kernel_rfl)) (fun _ _ _ h => h) (Or.inl ⟨by rfl, ?_⟩) ?_ ?_
                                      rotate_left
                                      ·intro w'
                                       go_simp
                                       with_reducible rfl
                                      rotate_left
                                      ·simp only [Act.put, List.setIfInBounds_toArray, List.set_cons_zero, List.set_cons_succ, i64_w, i32_w]
                                       rfl
                                      refine pure_ (i := 4) (N := some 167) (v := ?_) (a' := ?_) #[true, true, true, false, true, false, false, false, false, false, false, false, false] rfl rfl (any_of HT_.out (by kernel_rfl)) (fun _ _ _ h => h) (Or.inl ⟨by rfl, ?_⟩) ?_ ?_
                                      rotate_left
                                      ·intro w'
                                       go_simp
                                       with_reducible rfl
                                      rotate_left
                                      ·simp only [Act.put, List.setIfInBounds_toArray, List.set_cons_zero, List.set_cons_succ, i64_w, i32_w]
                                       rfl
                                      refine pure_ (i := 5) (N := some 168) (v := ?_) (a' := ?_) #[true, true, true, false, true, true, false, false, false, false, false, false, false] rfl rfl (any_of HT_.out (by kernel_rfl)) (fun _ _ _ h => h) (Or.inl ⟨by rfl, ?_⟩) ?_ ?_
                                      rotate_left
                                      ·intro w'
                                       go_simp
                                       with_reducible rfl
                                      rotate_left
                                      ·simp only [Act.put, List.setIfInBounds_toArray, List.set_cons_zero, List.set_cons_succ, i64_w, i32_w]
                                       rfl
                                      refine pure_ (i := 6) (N := some 169) (v := ?_) (a' := ?_) #[true, true, true, false, true, true, true, false, false, false, false, false, false] rfl rfl (any_of HT_.out (by kernel_rfl)) (fun _ _ _ h => h) (Or.inl ⟨by rfl, ?_⟩) ?_ ?_
                                      rotate_left
                                      ·intro w'
                                       go_simp
                                       with_reducible rfl
                                      rotate_left
                                      ·simp only [Act.put, List.setIfInBounds_toArray, List.set_cons_zero, List.set_cons_succ, i64_w, i32_w]
                                       rfl
                                      refine pure_ (i := 7) (N := some 170) (v := ?_) (a' := ?_) #[true, true, true, false, true, true, true, true, false, false, false, false, false] rfl rfl (any_of HT_.out (by kernel_rfl)) (fun _ _ _ h => h) (Or.inl ⟨by rfl, ?_⟩) ?_ ?_
                                      rotate_left
                                      ·intro w'
                                       go_simp
                                       with_reducible rfl
                                      rotate_left
                                      ·simp only [Act.put, List.setIfInBounds_toArray, List.set_cons_zero, List.set_cons_succ, i64_w, i32_w]
                                       rfl
                                      refine pure_ (i := 8) (N := some 171) (v := ?_) (a' := ?_) #[true, true, true, false, true, true, true, true, true, false, false, false, false] rfl rfl (any_of HT_.out (by kernel_rfl)) (fun _ _ _ h => h) (Or.inl ⟨by rfl, ?_⟩) ?_ ?_
                                      rotate_left
                                      ·intro w'
                                       go_simp
                                       with_reducible rfl
                                      rotate_left
                                      ·simp only [Act.put, List.setIfInBounds_toArray, List.set_cons_zero, List.set_cons_succ, i64_w, i32_w]
                                       rfl
                                      refine pure_ (i := 9) (N := some 172) (v := ?_) (a' := ?_) #[true, true, true, false, true, true, true, true, true, true, false, false, false] rfl rfl (any_of HT_.out (by kernel_rfl)) (fun _ _ _ h => h) (Or.inl ⟨by rfl, ?_⟩) ?_ ?_
                                      rotate_left
                                      ·intro w'
                                       go_simp
                                       with_reducible rfl
                                      rotate_left
                                      ·simp only [Act.put, List.setIfInBounds_toArray, List.set_cons_zero, List.set_cons_succ, i64_w, i32_w]
                                       rfl
                                      refine take_ (i := 3) (N := some 166) (v := ?_) (a' := ?_) #[true, true, true, true, true, true, true, true, true, true, false, false, false] rfl rfl (take_ofW HT_.out HW_.out (by kernel_rfl)) (fun _ _ _ h => h) (Or.inl ⟨by rfl, ?_⟩) hHeld ?_ ?_
                                      rotate_left
                                      ·rintro w' ⟨s0, s1⟩
                                       go_simp
                                       with_reducible rfl
                                      rotate_left
                                      ·simp only [Act.put, List.setIfInBounds_toArray, List.set_cons_zero, List.set_cons_succ, i64_w, i32_w]
                                       rfl
                                      refine take_ (i := 10) (N := some 173) (v := ?_) (a' := ?_) #[true, true, true, true, true, true, true, true, true, true, true, false, false] rfl rfl (take_ofW HT_.out HW_.out (by kernel_rfl)) (fun _ _ _ h => h) (Or.inl ⟨by rfl, ?_⟩) hHeld ?_ ?_
                                      rotate_left
                                      ·rintro w' ⟨s0, s1⟩
                                       go_simp
                                       with_reducible rfl
                                      rotate_left
                                      ·simp only [Act.put, List.setIfInBounds_toArray, List.set_cons_zero, List.set_cons_succ, i64_w, i32_w]
                                       rfl
                                      refine pure_ (i := 11) (N := some 174) (v := ?_) (a' := ?_) #[true, true, true, true, true, true, true, true, true, true, true, true, false] rfl rfl (any_of HT_.out (by kernel_rfl)) (fun _ _ _ h => h) (Or.inl ⟨by rfl, ?_⟩) ?_ ?_
                                      rotate_left
                                      ·intro w'
                                       go_simp
                                       with_reducible rfl
                                      rotate_left
                                      ·simp only [Act.put, List.setIfInBounds_toArray, List.set_cons_zero, List.set_cons_succ, i64_w, i32_w]
                                       rfl
                                      refine pure_ (i := 12) (N := some 17) (v := ?_) (a' := ?_) #[true, true, true, true, true, true, true, true, true, true, true, true, true] rfl rfl (any_of HT_.out (by kernel_rfl)) (fun _ _ _ h => h) (Or.inl ⟨by rfl, ?_⟩) ?_ ?_
                                      rotate_left
                                      ·intro w'
                                       go_simp
                                       with_reducible rfl
                                      rotate_left
                                      ·simp only [Act.put, List.setIfInBounds_toArray, List.set_cons_zero, List.set_cons_succ, i64_w, i32_w]
                                       rfl
                                      refine done_ (done_of HT_.out (by kernel_rfl)) ?_
                                      try go_wp2
                                      go_ret
                                      exact ⟨by first | rfl | (simp [errW_none, errW_some] <;> rfl) | (simp only [← hji39, ← hji75]; first | rfl | (simp [errW_none, errW_some] <;> rfl)) | (simp [*, errW_none, errW_some] <;> rfl), by repeat (first | (with_reducible first | exact HB.out | apply below_alloc | apply pw_below_drewN | apply below_drew1 | refine below_set ?_ GE326.out | refine below_set ?_ GE353.out) | exact HB.out)⟩
                                     ·rw [if_neg c81] at H
                                      have c81b0 : decide ((wrap64 ((rd t349 x16_8) - (rd x6_2 (ji75)))) < (-2)) = false := decide_eq_false c81
                                      clear c81
                                      have H' := Aside0.mk H
                                      clear H
                                      try go_wp2
                                      have n0_ := Aside0.mk (Kd.R_drew HO_6.out)
                                      have n1_ := Aside0.mk (Kd.R_drew HO_14.out)
                                      have n2_ := Aside0.mk (Kd.R_drew HO_327000.out)
                                      have n3_ := Aside0.mk (Kd.R_drew HO_354000.out)
                                      have n4_ := Aside0.mk (blk_drew BK326.out)
                                      have n5_ := Aside0.mk (blk_drew BK353.out)
                                      have n6_ := Aside0.mk (below_drew1 HB.out)
                                      clear HO_6
                                      clear HO_14
                                      clear HO_327000
                                      clear HO_354000
                                      clear BK326
                                      clear BK353
                                      clear HB
                                      have HO_6 := n0_
                                      have HO_14 := n1_
                                      have HO_327000 := n2_
                                      have HO_354000 := n3_
                                      have BK326 := n4_
                                      have BK353 := n5_
                                      have HB := n6_
                                      clear n0_ n1_ n2_ n3_ n4_ n5_ n6_
                                      obtain ⟨Ao85, co85, eo85⟩ := Kd.R_slice HO_14.out
                                      (first | subst eo85 | (injection eo85 with f1_ f2_ f3_; have f4_ := f1_.symm; have f5_ := f3_.symm; clear f1_ f2_ f3_; subst f4_; subst f5_))
                                      have p355 : 0 ≤ (x16_8 : Int) := of_decide_eq_true (by first | (with_reducible assumption) | assumption)
                                      have q355 : x16_8 < (t349.length : Int) := of_decide_eq_true (by first | (with_reducible assumption) | assumption)
                                      obtain ⟨ad355, e355, hx355_0⟩ := Kd.at_int (Kd.R_reads' HO_14.out).2.2 x16_8 p355 q355
                                      cases e355
                                      replace p355 := eq_true p355
                                      replace q355 := eq_true q355
                                      have p356 : 0 ≤ ((ji75) : Int) := of_decide_eq_true (by first | (with_reducible assumption) | assumption)
                                      have q356 : (ji75) < (x6_2.length : Int) := of_decide_eq_true (by first | (with_reducible assumption) | assumption)
                                      obtain ⟨ad356, e356, hx356_0⟩ := Kd.at_int (Kd.R_reads' HO_6.out).2.2 (ji75) p356 q356
                                      cases e356
                                      replace p356 := eq_true p356
                                      replace q356 := eq_true q356
                                      refine start_ (n := 13) (S := fun w' => w'.cell? (ad355.add (x16_8).toNat) = some (.int .i64 (rd t349 x16_8)) ∧ w'.cell? (ad356.add ((ji75)).toNat) = some (.int .i64 (rd x6_2 (ji75)))) (ds := []) #[false, false, false, false, false, false, false, false, false, false, false, false, false] (by kernel_rfl) rfl rfl ⟨hx355_0, hx356_0⟩ (fun hHeld => ?_); refine with_tabW reedpipelaw13_LapBack.tab25 reedpipelaw13_LapBack.bits25 (fun HT_ HW_ => ?_)
                                      generalize wc.drew = w84 at HO_6 HO_14 HO_327000 HO_354000 BK326 BK353 HB hx355_0 hx356_0 hHeld ⊢
                                      refine pure_ (i := 0) (N := some 163) (v := ?_) (a' := ?_) #[true, false, false, false, false, false, false, false, false, false, false, false, false] rfl rfl (any_of HT_.out (by kernel_rfl)) (fun _ _ _ h => h) (Or.inl ⟨by rfl, ?_⟩) ?_ ?_
                                      rotate_left
                                      ·intro w'
                                       go_simp
                                       with_reducible rfl
                                      rotate_left
                                      ·simp only [Act.put, List.setIfInBounds_toArray, List.set_cons_zero, List.set_cons_succ, i64_w, i32_w]
                                       rfl
                                      refine pure_ (i := 1) (N := some 164) (v := ?_) (a' := ?_) #[true, true, false, false, false, false, false, false, false, false, false, false, false] rfl rfl (any_of HT_.out (by kernel_rfl)) (fun _ _ _ h => h) (Or.inl ⟨by rfl, ?_⟩) ?_ ?_
                                      rotate_left
                                      ·intro w'
                                       go_simp
                                       with_reducible rfl
                                      rotate_left
                                      ·simp only [Act.put, List.setIfInBounds_toArray, List.set_cons_zero, List.set_cons_succ, i64_w, i32_w]
                                       rfl
                                      refine pure_ (i := 2) (N := some 165) (v := ?_) (a' := ?_) #[true, true, true, false, false, false, false, false, false, false, false, false, false] rfl rfl (any_of HT_.out (by kernel_rfl)) (fun _ _ _ h => h) (Or.inl ⟨by rfl, ?_⟩) ?_ ?_
                                      rotate_left
                                      ·intro w'
                                       go_simp
                                       with_reducible rfl
                                      rotate_left
                                      ·simp only [Act.put, List.setIfInBounds_toArray, List.set_cons_zero, List.set_cons_succ, i64_w, i32_w]
                                       rfl
                                      refine pure_ (i := 4) (N := some 167) (v := ?_) (a' := ?_) #[true, true, true, false, true, false, false, false, false, false, false, false, false] rfl rfl (any_of HT_.out (by kernel_rfl)) (fun _ _ _ h => h) (Or.inl ⟨by rfl, ?_⟩) ?_ ?_
                                      rotate_left
                                      ·intro w'
                                       go_simp
                                       with_reducible rfl
                                      rotate_left
                                      ·simp only [Act.put, List.setIfInBounds_toArray, List.set_cons_zero, List.set_cons_succ, i64_w, i32_w]
                                       rfl
                                      refine pure_ (i := 5) (N := some 168) (v := ?_) (a' := ?_) #[true, true, true, false, true, true, false, false, false, false, false, false, false] rfl rfl (any_of HT_.out (by kernel_rfl)) (fun _ _ _ h => h) (Or.inl ⟨by rfl, ?_⟩) ?_ ?_
                                      rotate_left
                                      ·intro w'
                                       go_simp
                                       with_reducible rfl
                                      rotate_left
                                      ·simp only [Act.put, List.setIfInBounds_toArray, List.set_cons_zero, List.set_cons_succ, i64_w, i32_w]
                                       rfl
                                      refine pure_ (i := 6) (N := some 169) (v := ?_) (a' := ?_) #[true, true, true, false, true, true, true, false, false, false, false, false, false] rfl rfl (any_of HT_.out (by kernel_rfl)) (fun _ _ _ h => h) (Or.inl ⟨by rfl, ?_⟩) ?_ ?_
                                      rotate_left
                                      ·intro w'
                                       go_simp
                                       with_reducible rfl
                                      rotate_left
                                      ·simp only [Act.put, List.setIfInBounds_toArray, List.set_cons_zero, List.set_cons_succ, i64_w, i32_w]
                                       rfl
                                      refine pure_ (i := 7) (N := some 170) (v := ?_) (a' := ?_) #[true, true, true, false, true, true, true, true, false, false, false, false, false] rfl rfl (any_of HT_.out (by kernel_rfl)) (fun _ _ _ h => h) (Or.inl ⟨by rfl, ?_⟩) ?_ ?_
                                      rotate_left
                                      ·intro w'
                                       go_simp
                                       with_reducible rfl
                                      rotate_left
                                      ·simp only [Act.put, List.setIfInBounds_toArray, List.set_cons_zero, List.set_cons_succ, i64_w, i32_w]
                                       rfl
                                      refine pure_ (i := 8) (N := some 171) (v := ?_) (a' := ?_) #[true, true, true, false, true, true, true, true, true, false, false, false, false] rfl rfl (any_of HT_.out (by kernel_rfl)) (fun _ _ _ h => h) (Or.inl ⟨by rfl, ?_⟩) ?_ ?_
                                      rotate_left
                                      ·intro w'
                                       go_simp
                                       with_reducible rfl
                                      rotate_left
                                      ·simp only [Act.put, List.setIfInBounds_toArray, List.set_cons_zero, List.set_cons_succ, i64_w, i32_w]
                                       rfl
                                      refine pure_ (i := 9) (N := some 172) (v := ?_) (a' := ?_) #[true, true, true, false, true, true, true, true, true, true, false, false, false] rfl rfl (any_of HT_.out (by kernel_rfl)) (fun _ _ _ h => h) (Or.inl ⟨by rfl, ?_⟩) ?_ ?_
                                      rotate_left
                                      ·intro w'
                                       go_simp
                                       with_reducible rfl
                                      rotate_left
                                      ·simp only [Act.put, List.setIfInBounds_toArray, List.set_cons_zero, List.set_cons_succ, i64_w, i32_w]
                                       rfl
                                      refine take_ (i := 3) (N := some 166) (v := ?_) (a' := ?_) #[true, true, true, true, true, true, true, true, true, true, false, false, false] rfl rfl (take_ofW HT_.out HW_.out (by kernel_rfl)) (fun _ _ _ h => h) (Or.inl ⟨by rfl, ?_⟩) hHeld ?_ ?_
                                      rotate_left
                                      ·rintro w' ⟨s0, s1⟩
                                       go_simp
                                       with_reducible rfl
                                      rotate_left
                                      ·simp only [Act.put, List.setIfInBounds_toArray, List.set_cons_zero, List.set_cons_succ, i64_w, i32_w]
                                       rfl
                                      refine take_ (i := 10) (N := some 173) (v := ?_) (a' := ?_) #[true, true, true, true, true, true, true, true, true, true, true, false, false] rfl rfl (take_ofW HT_.out HW_.out (by kernel_rfl)) (fun _ _ _ h => h) (Or.inl ⟨by rfl, ?_⟩) hHeld ?_ ?_
                                      rotate_left
                                      ·rintro w' ⟨s0, s1⟩
                                       go_simp
                                       with_reducible rfl
                                      rotate_left
                                      ·simp only [Act.put, List.setIfInBounds_toArray, List.set_cons_zero, List.set_cons_succ, i64_w, i32_w]
                                       rfl
                                      refine pure_ (i := 11) (N := some 174) (v := ?_) (a' := ?_) #[true, true, true, true, true, true, true, true, true, true, true, true, false] rfl rfl (any_of HT_.out (by kernel_rfl)) (fun _ _ _ h => h) (Or.inl ⟨by rfl, ?_⟩) ?_ ?_
                                      rotate_left
                                      ·intro w'
                                       go_simp
                                       with_reducible rfl
                                      rotate_left
                                      ·simp only [Act.put, List.setIfInBounds_toArray, List.set_cons_zero, List.set_cons_succ, i64_w, i32_w]
                                       rfl
                                      refine pure_ (i := 12) (N := some 17) (v := ?_) (a' := ?_) #[true, true, true, true, true, true, true, true, true, true, true, true, true] rfl rfl (any_of HT_.out (by kernel_rfl)) (fun _ _ _ h => h) (Or.inl ⟨by rfl, ?_⟩) ?_ ?_
                                      rotate_left
                                      ·intro w'
                                       go_simp
                                       with_reducible rfl
                                      rotate_left
                                      ·simp only [Act.put, List.setIfInBounds_toArray, List.set_cons_zero, List.set_cons_succ, i64_w, i32_w]
                                       rfl
                                      refine done_ (done_of HT_.out (by kernel_rfl)) ?_
                                      try go_wp2
                                      go_roundg kj69
                                      case measure => have := HJ3.out; have := HK2.out; have := HJ21.out; have := HJ28.out; have := HK5.out; have := HJ31.out; have := HJ44.out; have := HK8.out; have := HJ69.out; omega
                                      case rel => exact ⟨(wrap64 (x16_8 + 1)), (by first | rfl | (simp; done) | (simp [*]; done)), H', ⟨by have := HJ3.out; have := HK2.out; have := HJ21.out; have := HJ28.out; have := HK5.out; have := HJ31.out; have := HJ44.out; have := HK8.out; have := HJ69.out; omega⟩, ⟨by (with_reducible repeat (first | apply Kd.R_alloc | apply Kd.R_drewN | apply Kd.R_drew)); exact HO_6.out⟩, ⟨by (with_reducible repeat (first | apply Kd.R_alloc | apply Kd.R_drewN | apply Kd.R_drew)); exact HO_14.out⟩, ⟨by (with_reducible repeat (first | apply Kd.R_alloc | apply Kd.R_drewN | apply Kd.R_drew)); exact HO_327000.out⟩, ⟨by (with_reducible repeat (first | apply Kd.R_alloc | apply Kd.R_drewN | apply Kd.R_drew)); exact HO_354000.out⟩, ⟨by (with_reducible repeat (first | refine blk_drewN ?_ _ | refine blk_drew ?_ | refine blk_alloc ?_ _)); exact BK326.out⟩, ⟨by (with_reducible repeat (first | refine blk_drewN ?_ _ | refine blk_drew ?_ | refine blk_alloc ?_ _)); exact BK353.out⟩, ⟨by repeat (first | (with_reducible first | exact HB.out | apply below_alloc | apply pw_below_drewN | apply below_drew1 | refine below_set ?_ GE326.out | refine below_set ?_ GE353.out) | exact HB.out)⟩⟩
                                   ·rw [if_neg c77] at H
                                    exact absurd H (by simp)
                                  ·rw [if_neg c76] at H
                                   exact absurd H (by simp)
                                 ·rw [if_neg c74] at H
                                  exact absurd H (by simp)
                                ·rw [if_neg c73] at H
                                 exact absurd H (by simp)
                               ·replace c72 := Bool.eq_false_iff.mpr c72
                                subst c72
                                have H1 : (if 0 ≤ x10_5 then (if x10_5 < (l1.length : Int) then (reedpipelaw13_LapBack.l1 kj69 l1 t315 x6_2 ((rd_T44 l1 x10_5).f0) (wrap64 (x10_5 + 1)) t344 t347 t348) else (none)) else (none)) = some r := by rw [if_neg (show ¬ (false = true) by decide)] at H; exact H
                                clear H
                                have H := H1
                                clear H1
                                by_cases c86 : 0 ≤ x10_5
                                ·rw [if_pos c86] at H
                                 have c86b0 : decide (0 ≤ x10_5) = true := decide_eq_true c86
                                 clear c86
                                 by_cases c87 : x10_5 < (l1.length : Int)
                                 ·rw [if_pos c87] at H
                                  have c87b0 : decide (x10_5 < (l1.length : Int)) = true := decide_eq_true c87
                                  clear c87
                                  have H' := Aside0.mk H
                                  clear H
                                  have hnb88 := NB353_326.out
                                  have hnc88 := NB326_353.out
                                  have hcz89_0 : wc.cell? ⟨gb353, 0, none⟩ = some (.slice Ao56 t344.length co56) := (blk_cell BK353.out 0).trans rfl
                                  have hcz89_1 : wc.cell? ⟨gb353, 1, none⟩ = some (.int .u8 t347) := (blk_cell BK353.out 1).trans rfl
                                  have hcz89_2 : wc.cell? ⟨gb353, 2, none⟩ = some (.int .u8 t348) := (blk_cell BK353.out 2).trans rfl
                                  have hfz89_0 := blk_frozen BK353.out 0
                                  have hfz89_1 := blk_frozen BK353.out 1
                                  have hfz89_2 := blk_frozen BK353.out 2
                                  have hcz90_0 : wc.cell? ⟨gb326, 0, none⟩ = some (.slice Ao50 x327000_5.length co50) := (blk_cell BK326.out 0).trans rfl
                                  have hcz90_1 : wc.cell? ⟨gb326, 1, none⟩ = some (.int .u8 x327001_5) := (blk_cell BK326.out 1).trans rfl
                                  have hcz90_2 : wc.cell? ⟨gb326, 2, none⟩ = some (.int .u8 x327002_5) := (blk_cell BK326.out 2).trans rfl
                                  have hfz90_0 := blk_frozen BK326.out 0
                                  have hfz90_1 := blk_frozen BK326.out 1
                                  have hfz90_2 := blk_frozen BK326.out 2
                                  have p357 : 0 ≤ (x10_5 : Int) := of_decide_eq_true (by first | (with_reducible assumption) | assumption)
                                  have q357 : x10_5 < (l1.length : Int) := of_decide_eq_true (by first | (with_reducible assumption) | assumption)
                                  obtain ⟨ad357, e357, hx357_0, hx357_1⟩ := at_T44 HR1.out x10_5 p357 q357
                                  obtain rfl : ad332 = ad357 := (by injection e357)
                                  have hn357_0 : ad332.block ≠ gb326 := Nat.ne_of_lt (Nat.lt_of_lt_of_le (by have := World.block_lt_of_cell? _ _ hx357_0; first | rwa [add_block] at this | exact this) GW326.out)
                                  have hn357_1 : ad332.block ≠ gb326 := Nat.ne_of_lt (Nat.lt_of_lt_of_le (by have := World.block_lt_of_cell? _ _ hx357_0; first | rwa [add_block] at this | exact this) GW326.out)
                                  have hn357_2 : ad332.block ≠ gb326 := Nat.ne_of_lt (Nat.lt_of_lt_of_le (by have := World.block_lt_of_cell? _ _ hx357_0; first | rwa [add_block] at this | exact this) GW326.out)
                                  replace hx357_0 := (HB.out.cell (World.block_lt_of_cell? w _ hx357_0)).trans hx357_0
                                  replace hx357_1 := (HB.out.cell (World.block_lt_of_cell? w _ hx357_1)).trans hx357_1
                                  replace hx357_0 := (cell_far (p := ⟨gb326, 0, none⟩) (by first | (rw [add_block]; exact hn357_0) | (show (Addr.add _ _).block ≠ _; rw [add_block]; exact hn357_0) | exact hn357_0) (.slice Ao56 t344.length co56)).trans hx357_0
                                  replace hx357_1 := (cell_far (p := ⟨gb326, 0, none⟩) (by first | (rw [add_block]; exact hn357_0) | (show (Addr.add _ _).block ≠ _; rw [add_block]; exact hn357_0) | exact hn357_0) (.slice Ao56 t344.length co56)).trans hx357_1
                                  replace hx357_0 := (cell_far (p := ⟨gb326, 1, none⟩) (by first | (rw [add_block]; exact hn357_1) | (show (Addr.add _ _).block ≠ _; rw [add_block]; exact hn357_1) | exact hn357_1) (.int .u8 t347)).trans hx357_0
                                  replace hx357_1 := (cell_far (p := ⟨gb326, 1, none⟩) (by first | (rw [add_block]; exact hn357_1) | (show (Addr.add _ _).block ≠ _; rw [add_block]; exact hn357_1) | exact hn357_1) (.int .u8 t347)).trans hx357_1
                                  replace hx357_0 := (cell_far (p := ⟨gb326, 2, none⟩) (by first | (rw [add_block]; exact hn357_2) | (show (Addr.add _ _).block ≠ _; rw [add_block]; exact hn357_2) | exact hn357_2) (.int .u8 t348)).trans hx357_0
                                  replace hx357_1 := (cell_far (p := ⟨gb326, 2, none⟩) (by first | (rw [add_block]; exact hn357_2) | (show (Addr.add _ _).block ≠ _; rw [add_block]; exact hn357_2) | exact hn357_2) (.int .u8 t348)).trans hx357_1
                                  clear hn357_0
                                  clear hn357_1
                                  clear hn357_2
                                  replace p357 := eq_true p357
                                  replace q357 := eq_true q357
                                  go_wp2
                                  go_roundg kj69
                                  case measure => have := HJ3.out; have := HK2.out; have := HJ21.out; have := HJ28.out; have := HK5.out; have := HJ31.out; have := HJ44.out; have := HK8.out; have := HJ69.out; omega
                                  case rel => exact ⟨((rd_T44 l1 x10_5).f0), (wrap64 (x10_5 + 1)), (t344), (t347), (t348), (.slice Ao56 t344.length co56), (by first | rfl | (simp; done) | (simp [*]; done)), (by first | rfl | (simp; done) | (simp [*]; done)), H', ⟨by have := HJ3.out; have := HK2.out; have := HJ21.out; have := HJ28.out; have := HK5.out; have := HJ31.out; have := HJ44.out; have := HK8.out; have := HJ69.out; omega⟩, ⟨by (with_reducible repeat (first | apply Kd.R_alloc | apply Kd.R_drewN | apply Kd.R_drew)); exact Kd.R_mono (Kd.R_far (p := ⟨gb326, 2, none⟩) (Kd.R_far (p := ⟨gb326, 1, none⟩) (Kd.R_far (p := ⟨gb326, 0, none⟩) (Kd.R_types HO_6.out BK326.out (by decide)) (fun _ hk => hk.2) (.slice Ao56 t344.length co56)) (fun _ hk => hk.2) (.int .u8 t347)) (fun _ hk => hk.2) (.int .u8 t348)) (fun _ hk => hk.1.2.2)⟩, ⟨by (with_reducible repeat (first | apply Kd.R_alloc | apply Kd.R_drewN | apply Kd.R_drew)); exact Kd.R_mono (Kd.R_far (p := ⟨gb326, 2, none⟩) (Kd.R_far (p := ⟨gb326, 1, none⟩) (Kd.R_far (p := ⟨gb326, 0, none⟩) (Kd.R_types HO_354000.out BK326.out (by decide)) (fun _ hk => hk.2) (.slice Ao56 t344.length co56)) (fun _ hk => hk.2) (.int .u8 t347)) (fun _ hk => hk.2) (.int .u8 t348)) (fun _ hk => hk.1.1)⟩, ⟨by (with_reducible repeat (first | refine blk_drewN ?_ _ | refine blk_drew ?_ | refine blk_alloc ?_ _)); refine blk_put (cs := #[.slice Ao56 t344.length co56, .int .u8 t347, .int .u8 x327002_5]) ?_ 2 _ rfl; (with_reducible repeat (first | refine blk_drewN ?_ _ | refine blk_drew ?_ | refine blk_alloc ?_ _)); refine blk_put (cs := #[.slice Ao56 t344.length co56, .int .u8 x327001_5, .int .u8 x327002_5]) ?_ 1 _ rfl; (with_reducible repeat (first | refine blk_drewN ?_ _ | refine blk_drew ?_ | refine blk_alloc ?_ _)); refine blk_put (cs := #[.slice Ao50 x327000_5.length co50, .int .u8 x327001_5, .int .u8 x327002_5]) ?_ 0 _ rfl; (with_reducible repeat (first | refine blk_drewN ?_ _ | refine blk_drew ?_ | refine blk_alloc ?_ _)); exact BK326.out⟩, ⟨by repeat (first | (with_reducible first | exact HB.out | apply below_alloc | apply pw_below_drewN | apply below_drew1 | refine below_set ?_ GE326.out | refine below_set ?_ GE353.out) | exact HB.out)⟩⟩
                                 ·rw [if_neg c87] at H
                                  exact absurd H (by simp)
                                ·rw [if_neg c86] at H
                                 exact absurd H (by simp)
                       ·rw [if_neg c42] at H
                        exact absurd H (by simp)
                      ·rw [if_neg c41] at H
                       exact absurd H (by simp)
                     ·rw [if_neg c40] at H
                      exact absurd H (by simp)
                    ·rw [if_neg c38] at H
                     exact absurd H (by simp)
                   ·rw [if_neg c37] at H
                    exact absurd H (by simp)
               ·rw [if_neg c31] at H
                have c31b0 : decide (x10_5 < (l1.length : Int)) = false := decide_eq_false c31
                clear c31
                obtain rfl := Option.some.inj H
                go_wp2
                go_ret
                exact ⟨by first | rfl | (simp [errW_none, errW_some] <;> rfl) | (simp [*, errW_none, errW_some] <;> rfl), by repeat (first | (with_reducible first | exact HB.out | apply below_alloc | apply pw_below_drewN | apply below_drew1 | refine below_set ?_ GE326.out) | exact HB.out)⟩
     ·rw [if_neg c12] at H
      exact absurd H (by simp)
    ·rw [if_neg c11] at H
     exact absurd H (by simp)

end Go.Proofs.Ytpoppdaaodmicaa.Q
