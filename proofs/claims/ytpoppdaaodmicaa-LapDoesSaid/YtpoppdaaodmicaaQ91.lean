-- Written by a program of this session's (wip/mk.py, over the kit's print.py); Lean checks it.
import Derived.Test.YtpoppdaaodmicaaQ0
namespace Go.Proofs.Ytpoppdaaodmicaa.Q
open Go.RowKit Go.Proofs.YtpoppdaaodmicaaW.PrintWords Go.Proofs.YtpoppdaaodmicaaW.PrintLast Go.Proofs.YtpoppdaaodmicaaW.PrintMore
attribute [local go_sem] max2_int min2_int max_two min_two max_three min_three max_four min_four   -- for this text's walks alone
set_option linter.unusedVariables false
set_option linter.unusedSimpArgs false

mutual
def reedpiperef12_asked.j0 : Nat → List Int → Int → Int → Int → Bool → Option (Int)
 | 0, _, _, _, _, _ => none
 | k + 1, x3, x4, x5, x6, x25 => if x25 = true then (some 2) else (if (x3.length : Int) = x4 then (reedpiperef12_asked.l0 k x3 x4 x5 x6 0) else (some 4))
def reedpiperef12_asked.l0 : Nat → List Int → Int → Int → Int → Int → Option (Int)
 | 0, _, _, _, _, _ => none
 | k + 1, x3, x4, x5, x6, x15 => if x15 < x4 then (if 0 ≤ x15 then (if x15 < (x3.length : Int) then (if (rd x3 x15) < x5 then (some 2) else (if (rd x3 x15) > x6 then (some 2) else (reedpiperef12_asked.l0 k x3 x4 x5 x6 (wrap64 (x15 + 1))))) else (none)) else (none)) else (some 0)
end
def reedpiperef12_asked.f (k : Nat) (a0 : Int) (a1 : Int) (a2 : Int) (l3 : List Int) (a4 : Int) (a5 : Int) (a6 : Int) : Option (Int) := if a0 > 3 then (reedpiperef12_asked.j0 k l3 a4 a5 a6 true) else (if a1 > 1 then (reedpiperef12_asked.j0 k l3 a4 a5 a6 true) else (reedpiperef12_asked.j0 k l3 a4 a5 a6 (decide (a2 > 1))))
set_option maxHeartbeats 8000000 in
set_option maxRecDepth 100000 in
theorem reedpiperef12_asked.calls (k : Nat) (a0 : Int) (a1 : Int) (a2 : Int) (A3 : Option Addr) (c3 : Nat) (l3 : List Int) (a4 : Int) (a5 : Int) (a6 : Int) (r : Int) (w : World) (hr3 : Kd.C (Kd.int .i64) w A3 l3.length l3) (hc3 : l3.length ≤ c3) (h : reedpiperef12_asked.f k a0 a1 a2 l3 a4 a5 a6 = some r) :
  Calls Try.prog 91 #[.int .u8 a0, .int .u8 a1, .int .u8 a2, .slice A3 l3.length c3, .int .i64 a4, .int .i64 a5, .int .i64 a6] w fun e w' => e = .returned (.int .i64 r) ∧ Drawn0 w w' := by
 have HR3 := Aside0.mk hr3
 have HC3 := Aside0.mk hc3
 clear hr3 hc3
 have H : (if a0 > 3 then (reedpiperef12_asked.j0 k l3 a4 a5 a6 true) else (if a1 > 1 then (reedpiperef12_asked.j0 k l3 a4 a5 a6 true) else (reedpiperef12_asked.j0 k l3 a4 a5 a6 (decide (a2 > 1))))) = some r := h
 clear h
 have HC8 := Aside0.mk H
 clear H
 go_enter Try.func91, Try.ntmps91
 go_upto_region 1 with (fail)
 go_cut [25] (fun v25 wc => ∃ (kq : Nat) (x25_7 : Bool), v25 = .bool x25_7 ∧ Aside0 (reedpiperef12_asked.j0 kq l3 a4 a5 a6 x25_7 = some r) ∧ Aside0 (kq ≤ k) ∧ Drawn0 w wc)
 case first =>
  have H := HC8.out
  clear HC8
  by_cases c9 : a0 > 3
  ·rw [if_pos c9] at H
   have c9b0 : decide (3 < a0) = true := decide_eq_true c9
   clear c9
   (first | rw [c9b0] | (simp only [i64_w, i32_w]; rw [c9b0]) | skip)
   have H' := Aside0.mk H
   clear H
   go_wp2
   go_meet
   case rel => exact ⟨_, (true), (by first | rfl | (simp; done) | (simp [*]; done)), H', ⟨by first | omega | exact Nat.le_refl _⟩, by repeat (first | exact Drawn0.refl _ | apply Drawn0.step)⟩
  ·rw [if_neg c9] at H
   have c9b0 : decide (3 < a0) = false := decide_eq_false c9
   clear c9
   (first | rw [c9b0] | (simp only [i64_w, i32_w]; rw [c9b0]) | skip)
   by_cases c10 : a1 > 1
   ·rw [if_pos c10] at H
    have c10b0 : decide (1 < a1) = true := decide_eq_true c10
    clear c10
    have H' := Aside0.mk H
    clear H
    go_wp2
    go_meet
    case rel => exact ⟨_, (true), (by first | rfl | (simp; done) | (simp [*]; done)), H', ⟨by first | omega | exact Nat.le_refl _⟩, by repeat (first | exact Drawn0.refl _ | apply Drawn0.step)⟩
   ·rw [if_neg c10] at H
    have c10b0 : decide (1 < a1) = false := decide_eq_false c10
    clear c10
    have H' := Aside0.mk H
    clear H
    go_wp2
    go_meet
    case rel => exact ⟨_, (decide (a2 > 1)), (by first | rfl | (simp; done) | (simp [*]; done)), H', ⟨by first | omega | exact Nat.le_refl _⟩, by repeat (first | exact Drawn0.refl _ | apply Drawn0.step)⟩
 case rest =>
  clear HC8
  try clear c1
  try clear p2
  try clear c3
  try clear c9
  try clear c9b0
  try clear c10
  try clear c10b0
  obtain ⟨kq, x25_7, rfl, HA, HJ7, ⟨mc7, rfl⟩⟩ := hcut
  cases kq with
  | zero => exact absurd HA.out (by simp [reedpiperef12_asked.j0])
  | succ kj7 =>
   have H := HA.out
   clear HA
   simp only [reedpiperef12_asked.j0] at H
   by_cases c11 : x25_7 = true
   ·subst c11
    have H1 : (some 2) = some r := by rw [if_pos rfl] at H; exact H
    clear H
    have H := H1
    clear H1
    obtain rfl := Option.some.inj H
    go_wp2
    go_ret
    exact ⟨by first | rfl | (simp; done) | (simp [*]; done), by repeat (first | exact Drawn0.refl _ | apply Drawn0.step)⟩
   ·replace c11 := Bool.eq_false_iff.mpr c11
    subst c11
    have H1 : (if (l3.length : Int) = a4 then (reedpiperef12_asked.l0 kj7 l3 a4 a5 a6 0) else (some 4)) = some r := by rw [if_neg (show ¬ (false = true) by decide)] at H; exact H
    clear H
    have H := H1
    clear H1
    by_cases c12 : (l3.length : Int) = a4
    ·rw [if_pos c12] at H
     have c12b0 : ((l3.length : Int) == a4) = true := beq_iff_eq.mpr c12
     have c12b1 : ((l3.length : Int) != a4) = false := bne_eq_false_iff_eq.mpr c12
     clear c12
     have H' := Aside0.mk H
     clear H
     go_wp2
     go_loopg [15] kj7 (fun kq v15 w' => ∃ (x15_2 : Int), v15 = .int .i64 x15_2 ∧ Aside0 (reedpiperef12_asked.l0 kq l3 a4 a5 a6 x15_2 = some r) ∧ Aside0 (kq ≤ kj7) ∧ Drawn0 w w')
     case atStart => exact ⟨(0), (by first | rfl | (simp; done) | (simp [*]; done)), H', ⟨Nat.le_refl _⟩, by repeat (first | exact Drawn0.refl _ | apply Drawn0.step)⟩
     case round =>
      clear H'
      try clear c1
      try clear p2
      try clear c3
      try clear c7
      try clear c9
      try clear c9b0
      try clear c10
      try clear c10b0
      try clear c11
      try clear c12
      try clear c12b0
      try clear c12b1
      try clear p2
      obtain ⟨x15_2, rfl, HA, HK2, ⟨m2, rfl⟩⟩ := hrel
      cases gk with
      | zero => exact absurd HA.out (by simp [reedpiperef12_asked.l0])
      | succ k2 =>
       have H := HA.out
       clear HA
       simp only [reedpiperef12_asked.l0] at H
       by_cases c13 : x15_2 < a4
       ·rw [if_pos c13] at H
        have c13b0 : decide (x15_2 < a4) = true := decide_eq_true c13
        clear c13
        by_cases c14 : 0 ≤ x15_2
        ·rw [if_pos c14] at H
         have c14b0 : decide (0 ≤ x15_2) = true := decide_eq_true c14
         clear c14
         by_cases c15 : x15_2 < (l3.length : Int)
         ·rw [if_pos c15] at H
          have c15b0 : decide (x15_2 < (l3.length : Int)) = true := decide_eq_true c15
          clear c15
          by_cases c16 : (rd l3 x15_2) < a5
          ·rw [if_pos c16] at H
           have c16b0 : decide ((rd l3 x15_2) < a5) = true := decide_eq_true c16
           clear c16
           obtain rfl := Option.some.inj H
           have p761 : 0 ≤ (x15_2 : Int) := of_decide_eq_true (by first | (with_reducible assumption) | assumption)
           have q761 : x15_2 < (l3.length : Int) := of_decide_eq_true (by first | (with_reducible assumption) | assumption)
           obtain ⟨ad761, e761, hx761_0⟩ := Kd.at_int HR3.out x15_2 p761 q761
           cases e761
           replace p761 := eq_true p761
           replace q761 := eq_true q761
           go_wp2
           go_ret
           exact ⟨by first | rfl | (simp; done) | (simp [*]; done), by repeat (first | exact Drawn0.refl _ | apply Drawn0.step)⟩
          ·rw [if_neg c16] at H
           have c16b0 : decide ((rd l3 x15_2) < a5) = false := decide_eq_false c16
           clear c16
           by_cases c17 : (rd l3 x15_2) > a6
           ·rw [if_pos c17] at H
            have c17b0 : decide (a6 < (rd l3 x15_2)) = true := decide_eq_true c17
            clear c17
            obtain rfl := Option.some.inj H
            have p761 : 0 ≤ (x15_2 : Int) := of_decide_eq_true (by first | (with_reducible assumption) | assumption)
            have q761 : x15_2 < (l3.length : Int) := of_decide_eq_true (by first | (with_reducible assumption) | assumption)
            obtain ⟨ad761, e761, hx761_0⟩ := Kd.at_int HR3.out x15_2 p761 q761
            cases e761
            replace p761 := eq_true p761
            replace q761 := eq_true q761
            have p762 : 0 ≤ (x15_2 : Int) := of_decide_eq_true (by first | (with_reducible assumption) | assumption)
            have q762 : x15_2 < (l3.length : Int) := of_decide_eq_true (by first | (with_reducible assumption) | assumption)
            obtain ⟨ad762, e762, hx762_0⟩ := Kd.at_int HR3.out x15_2 p762 q762
            obtain rfl : ad761 = ad762 := (by injection e762)
            replace p762 := eq_true p762
            replace q762 := eq_true q762
            go_wp2
            go_ret
            exact ⟨by first | rfl | (simp; done) | (simp [*]; done), by repeat (first | exact Drawn0.refl _ | apply Drawn0.step)⟩
           ·rw [if_neg c17] at H
            have c17b0 : decide (a6 < (rd l3 x15_2)) = false := decide_eq_false c17
            clear c17
            have H' := Aside0.mk H
            clear H
            have p761 : 0 ≤ (x15_2 : Int) := of_decide_eq_true (by first | (with_reducible assumption) | assumption)
            have q761 : x15_2 < (l3.length : Int) := of_decide_eq_true (by first | (with_reducible assumption) | assumption)
            obtain ⟨ad761, e761, hx761_0⟩ := Kd.at_int HR3.out x15_2 p761 q761
            cases e761
            replace p761 := eq_true p761
            replace q761 := eq_true q761
            have p762 : 0 ≤ (x15_2 : Int) := of_decide_eq_true (by first | (with_reducible assumption) | assumption)
            have q762 : x15_2 < (l3.length : Int) := of_decide_eq_true (by first | (with_reducible assumption) | assumption)
            obtain ⟨ad762, e762, hx762_0⟩ := Kd.at_int HR3.out x15_2 p762 q762
            obtain rfl : ad761 = ad762 := (by injection e762)
            replace p762 := eq_true p762
            replace q762 := eq_true q762
            go_wp2
            go_roundg k2
            case measure => have := HJ7.out; have := HK2.out; omega
            case rel => exact ⟨(wrap64 (x15_2 + 1)), (by first | rfl | (simp; done) | (simp [*]; done)), H', ⟨by have := HJ7.out; have := HK2.out; omega⟩, by repeat (first | exact Drawn0.refl _ | apply Drawn0.step)⟩
         ·rw [if_neg c15] at H
          exact absurd H (by simp)
        ·rw [if_neg c14] at H
         exact absurd H (by simp)
       ·rw [if_neg c13] at H
        have c13b0 : decide (x15_2 < a4) = false := decide_eq_false c13
        clear c13
        obtain rfl := Option.some.inj H
        go_wp2
        go_ret
        exact ⟨by first | rfl | (simp; done) | (simp [*]; done), by repeat (first | exact Drawn0.refl _ | apply Drawn0.step)⟩
    ·rw [if_neg c12] at H
     have c12b0 : ((l3.length : Int) == a4) = false := beq_eq_false_iff_ne.mpr c12
     have c12b1 : ((l3.length : Int) != a4) = true := bne_iff_ne.mpr c12
     obtain rfl := Option.some.inj H
     go_wp2
     go_ret
     exact ⟨by first | rfl | (simp; done) | (simp [*]; done), by repeat (first | exact Drawn0.refl _ | apply Drawn0.step)⟩

end Go.Proofs.Ytpoppdaaodmicaa.Q
