-- slices.ContainsFunc (79), IndexFunc (108) at the two closures that are handed to them (100: mdct.odd's; 78: lap.Check's); mdct.odd (70).
import Derived.Test.YtpoppdaaodmicaaQ0
import Derived.Lib.Hide
import Derived.LoopTactic
import Derived.Outline
namespace Go.Proofs.Ytpoppdaaodmicaa.Q
open Go.RowKit Go.Proofs.YtpoppdaaodmicaaW.PrintWords Go.Proofs.YtpoppdaaodmicaaW.PrintLast Go.Proofs.YtpoppdaaodmicaaW.PrintMore
set_option linter.unusedVariables false
set_option linter.unusedSimpArgs false

def Found (pr : Int → Bool) (l : List Int) (w : World) (e : Ending) (w' : World) : Prop := ∃ i : Int, e = .returned (.int .i64 i) ∧ decide (0 ≤ i) = l.any pr ∧ w = w'
theorem any_take_snoc {pr : Int → Bool} {l : List Int} {j : Nat} (hj : j < l.length) : (l.take (j + 1)).any pr = ((l.take j).any pr || pr (rd l (j : Int))) := by
  rw [List.take_add_one, List.getElem?_eq_getElem hj, List.any_append]
  congr 1
  unfold rd
  rw [show ((j : Int)).toNat = j by omega, List.getD_eq_getElem?_getD, List.getElem?_eq_getElem hj]
  simp
theorem any_of_at {pr : Int → Bool} {l : List Int} {j : Nat} (hj : j < l.length) (h : pr (rd l (j : Int)) = true) : l.any pr = true := by
  rw [List.any_eq_true]
  refine ⟨rd l (j : Int), ?_, h⟩
  unfold rd
  rw [show ((j : Int)).toNat = j by omega, List.getD_eq_getElem?_getD, List.getElem?_eq_getElem hj]
  exact List.getElem_mem hj
def oddB (m x : Int) : Bool := decide (x < -m) || decide (m < x)
def farB (x : Int) : Bool := decide (x < -1099511627776) || decide (1099511627776 < x)

set_option maxHeartbeats 1000000 in
theorem odd1.calls (m x : Int) (hm : 0 ≤ m) (hm2 : m ≤ 1073741824) (B0 : Nat) (w : World) (hc : w.cell? ⟨B0, 0, none⟩ = some (.int .i64 m)) :
    Calls Try.prog 100 #[.int .i64 x, .pointer (some ⟨B0, 0, none⟩)] w fun e w' => e = .returned (.bool (oddB m x)) ∧ w = w' := by
  by_cases h1 : x < -m
  · have h1b : decide (x < -m) = true := decide_eq_true h1
    have hg : oddB m x = true := by unfold oddB; rw [h1b]; rfl
    rw [hg]
    clear hg
    go_enter Try.func100, Try.ntmps100
    go_wp2_with fail
    go_ret
    exact ⟨rfl, rfl⟩
  · have h1b : decide (x < -m) = false := decide_eq_false h1
    have hg : oddB m x = decide (m < x) := by unfold oddB; rw [h1b]; rfl
    rw [hg]
    clear hg
    go_enter Try.func100, Try.ntmps100
    go_wp2_with fail
    go_ret
    exact ⟨rfl, rfl⟩
set_option maxHeartbeats 1000000 in
theorem far1.calls (x : Int) (w : World) : Calls Try.prog 78 #[.int .i64 x] w fun e w' => e = .returned (.bool (farB x)) ∧ w = w' := by
  by_cases h1 : x < -1099511627776
  · have h1b : decide (x < -1099511627776) = true := decide_eq_true h1
    have hg : farB x = true := by unfold farB; rw [h1b]; rfl
    rw [hg]
    clear hg
    go_enter Try.func78, Try.ntmps78
    go_wp2_with fail
    go_ret
    exact ⟨rfl, rfl⟩
  · have h1b : decide (x < -1099511627776) = false := decide_eq_false h1
    have hg : farB x = decide (1099511627776 < x) := by unfold farB; rw [h1b]; rfl
    rw [hg]
    clear hg
    go_enter Try.func78, Try.ntmps78
    go_wp2_with fail
    go_ret
    exact ⟨rfl, rfl⟩

set_option maxHeartbeats 1000000 in
theorem index100.calls (pr : Int → Bool) (B0 : Nat) (A0 : Option Addr) (c0 : Nat) (l : List Int) (w : World) (hl : l.length ≤ 9223372036854775807) (hr : Kd.C (Kd.int .i64) w A0 l.length l)
    (hg : ∀ x : Int, Calls Try.prog 100 #[.int .i64 x, .pointer (some ⟨B0, 0, none⟩)] w fun e w' => e = .returned (.bool (pr x)) ∧ w = w') :
    Calls Try.prog 108 #[.slice A0 l.length c0, .func (.func 100) #[] #[.pointer (some ⟨B0, 0, none⟩)]] w (Found pr l w) := by
  have HR := Lib.hid hr
  have HG := Lib.hid hg
  clear hr hg
  go_enter Try.func108, Try.ntmps108
  go_wp2_with fail
  go_loop [8] (fun v8 => ∃ j : Nat, j ≤ l.length ∧ v8 = .int .i64 (j : Int) ∧ Hid ((l.take j).any pr = false)) (fun v8 => (l.length - intOf v8).toNat)
  case atStart => exact ⟨0, by omega, rfl, Lib.hid (by simp)⟩
  case round =>
    obtain ⟨j, hj, rfl, HN⟩ := hrel
    by_cases hlt : j < l.length
    · obtain ⟨ad, rfl, hcell⟩ := Kd.at_int HR.out (j : Int) (by omega) (by omega)
      have hjk : (j : Int).toNat = j := by omega
      simp only [hjk] at hcell
      clear hjk
      have hs := any_take_snoc (pr := pr) hlt
      rw [HN.out, Bool.false_or] at hs
      have ha := any_of_at (pr := pr) hlt
      obtain ⟨x, hx⟩ : ∃ x, rd l (j : Int) = x := ⟨_, rfl⟩
      rw [hx] at hs ha hcell
      clear hx
      have c := HG.out x
      by_cases hp : pr x = true
      · have HA := Lib.hid (ha hp)
        rw [hp] at c
        have CC := Lib.hid c
        clear hs ha hp c
        go_wp2_with fail
        refine CC.out.mono ?_
        rintro e w' ⟨rfl, rfl⟩
        go_wp2_with fail
        go_ret
        exact ⟨(j : Int), rfl, by rw [HA.out]; exact decide_eq_true (by omega), rfl⟩
      · replace hp := Bool.eq_false_iff.mpr hp
        rw [hp] at c hs
        have HS := Lib.hid hs
        have CC := Lib.hid c
        clear hs ha hp c
        go_wp2_with fail
        refine CC.out.mono ?_
        rintro e w' ⟨rfl, rfl⟩
        go_wp2_with fail
        go_round
        case rel => exact ⟨j + 1, by omega, by go_num, HS⟩
        case measure => simp [intOf]; omega
    · obtain rfl : j = l.length := by omega
      go_wp2_with fail
      go_ret
      have := HN.out
      rw [List.take_length] at this
      exact ⟨-1, rfl, by rw [this]; rfl, rfl⟩
set_option maxHeartbeats 1000000 in
theorem contains100.calls (pr : Int → Bool) (B0 : Nat) (A0 : Option Addr) (c0 : Nat) (l : List Int) (w : World) (hl : l.length ≤ 9223372036854775807) (hr : Kd.C (Kd.int .i64) w A0 l.length l)
    (hg : ∀ x : Int, Calls Try.prog 100 #[.int .i64 x, .pointer (some ⟨B0, 0, none⟩)] w fun e w' => e = .returned (.bool (pr x)) ∧ w = w') :
    Calls Try.prog 79 #[.slice A0 l.length c0, .func (.func 100) #[] #[.pointer (some ⟨B0, 0, none⟩)]] w fun e w' => e = .returned (.bool (l.any pr)) ∧ w = w' := by
  have HC := Lib.hid (index100.calls pr B0 A0 c0 l w hl hr hg)
  obtain ⟨Y, hY⟩ : ∃ Y, l.any pr = Y := ⟨_, rfl⟩
  rw [hY]
  have HY := Lib.hid hY
  clear hr hg hY
  go_enter Try.func79, Try.ntmps79
  go_wp2_with fail
  refine HC.out.mono ?_
  rintro e w' ⟨i, rfl, h2, rfl⟩
  rw [HY.out] at h2
  subst h2
  go_wp2_with fail
  go_ret
  exact ⟨rfl, rfl⟩

set_option maxHeartbeats 1000000 in
theorem index78.calls (pr : Int → Bool) (A0 : Option Addr) (c0 : Nat) (l : List Int) (w : World) (hl : l.length ≤ 9223372036854775807) (hr : Kd.C (Kd.int .i64) w A0 l.length l)
    (hg : ∀ x : Int, Calls Try.prog 78 #[.int .i64 x] w fun e w' => e = .returned (.bool (pr x)) ∧ w = w') :
    Calls Try.prog 108 #[.slice A0 l.length c0, .func (.func 78) #[] #[]] w (Found pr l w) := by
  have HR := Lib.hid hr
  have HG := Lib.hid hg
  clear hr hg
  go_enter Try.func108, Try.ntmps108
  go_wp2_with fail
  go_loop [8] (fun v8 => ∃ j : Nat, j ≤ l.length ∧ v8 = .int .i64 (j : Int) ∧ Hid ((l.take j).any pr = false)) (fun v8 => (l.length - intOf v8).toNat)
  case atStart => exact ⟨0, by omega, rfl, Lib.hid (by simp)⟩
  case round =>
    obtain ⟨j, hj, rfl, HN⟩ := hrel
    by_cases hlt : j < l.length
    · obtain ⟨ad, rfl, hcell⟩ := Kd.at_int HR.out (j : Int) (by omega) (by omega)
      have hjk : (j : Int).toNat = j := by omega
      simp only [hjk] at hcell
      clear hjk
      have hs := any_take_snoc (pr := pr) hlt
      rw [HN.out, Bool.false_or] at hs
      have ha := any_of_at (pr := pr) hlt
      obtain ⟨x, hx⟩ : ∃ x, rd l (j : Int) = x := ⟨_, rfl⟩
      rw [hx] at hs ha hcell
      clear hx
      have c := HG.out x
      by_cases hp : pr x = true
      · have HA := Lib.hid (ha hp)
        rw [hp] at c
        have CC := Lib.hid c
        clear hs ha hp c
        go_wp2_with fail
        refine CC.out.mono ?_
        rintro e w' ⟨rfl, rfl⟩
        go_wp2_with fail
        go_ret
        exact ⟨(j : Int), rfl, by rw [HA.out]; exact decide_eq_true (by omega), rfl⟩
      · replace hp := Bool.eq_false_iff.mpr hp
        rw [hp] at c hs
        have HS := Lib.hid hs
        have CC := Lib.hid c
        clear hs ha hp c
        go_wp2_with fail
        refine CC.out.mono ?_
        rintro e w' ⟨rfl, rfl⟩
        go_wp2_with fail
        go_round
        case rel => exact ⟨j + 1, by omega, by go_num, HS⟩
        case measure => simp [intOf]; omega
    · obtain rfl : j = l.length := by omega
      go_wp2_with fail
      go_ret
      have := HN.out
      rw [List.take_length] at this
      exact ⟨-1, rfl, by rw [this]; rfl, rfl⟩
set_option maxHeartbeats 1000000 in
theorem contains78.calls (pr : Int → Bool) (A0 : Option Addr) (c0 : Nat) (l : List Int) (w : World) (hl : l.length ≤ 9223372036854775807) (hr : Kd.C (Kd.int .i64) w A0 l.length l)
    (hg : ∀ x : Int, Calls Try.prog 78 #[.int .i64 x] w fun e w' => e = .returned (.bool (pr x)) ∧ w = w') :
    Calls Try.prog 79 #[.slice A0 l.length c0, .func (.func 78) #[] #[]] w fun e w' => e = .returned (.bool (l.any pr)) ∧ w = w' := by
  have HC := Lib.hid (index78.calls pr A0 c0 l w hl hr hg)
  obtain ⟨Y, hY⟩ : ∃ Y, l.any pr = Y := ⟨_, rfl⟩
  rw [hY]
  have HY := Lib.hid hY
  clear hr hg hY
  go_enter Try.func79, Try.ntmps79
  go_wp2_with fail
  refine HC.out.mono ?_
  rintro e w' ⟨i, rfl, h2, rfl⟩
  rw [HY.out] at h2
  subst h2
  go_wp2_with fail
  go_ret
  exact ⟨rfl, rfl⟩

set_option maxHeartbeats 1000000 in
theorem odd.calls (m : Int) (hm : 0 ≤ m) (hm2 : m ≤ 1073741824) (A0 : Option Addr) (c0 : Nat) (l : List Int) (w : World) (hl : l.length ≤ 9223372036854775807) (hr : Kd.C (Kd.int .i64) w A0 l.length l) :
    Calls Try.prog 70 #[.slice A0 l.length c0, .int .i64 m] w fun e w' => e = .returned (.bool (l.any (oddB m))) ∧ Below w.heap.size w w' := by
  have HB := Lib.hid ((Below.refl w.heap.size w).alloc (Nat.le_refl _) (.cells #[.int .i64 m] 3))
  have HC := Lib.hid (contains100.calls (oddB m) w.heap.size A0 c0 l (w.alloc (.cells #[.int .i64 m] 3)) hl (Kd.C_below hr HB.out) (fun x => odd1.calls m x hm hm2 w.heap.size _ (by simp)))
  clear hr
  go_enter Try.func70, Try.ntmps70
  go_wp2_with fail
  refine HC.out.mono ?_
  rintro e w' ⟨rfl, rfl⟩
  go_wp2_with fail
  go_ret
  exact ⟨rfl, HB.out⟩

end Go.Proofs.Ytpoppdaaodmicaa.Q
