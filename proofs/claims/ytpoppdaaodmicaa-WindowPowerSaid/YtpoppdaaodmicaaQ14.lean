-- Written by a program of this session's (wip/mk.py, over the kit's print.py); Lean checks it.
import Derived.Test.YtpoppdaaodmicaaQ0
import Derived.Test.YtpoppdaaodmicaaBWindow
import Derived.Test.YtpoppdaaodmicaaQ39
namespace Go.Proofs.Ytpoppdaaodmicaa.Q
open Go.RowKit Go.Proofs.YtpoppdaaodmicaaW.PrintWords Go.Proofs.YtpoppdaaodmicaaW.PrintLast Go.Proofs.YtpoppdaaodmicaaW.PrintMore
attribute [local go_sem] max2_int min2_int max_two min_two max_three min_three max_four min_four   -- for this text's walks alone
set_option linter.unusedVariables false
set_option linter.unusedSimpArgs false

/-! ### reedpipelaw05_WindowPower: function 14 -/
mutual
def reedpipelaw05_WindowPower.l0 : Nat → Bool → Int → Option (Bool)
  | 0, _, _ => none
  | k + 1, x1, x2 => if x2 < 4 then ((window_Half.f k ((wrap64 (Int.tdiv x2 2)) % 256) ((Int.tmod x2 2) == 1)).bind fun bt374 => (if (Int.tmod x2 2) = 1 then (reedpipelaw05_WindowPower.j1 k x1 x2 bt374.1 bt374.2 32) else (reedpipelaw05_WindowPower.j1 k x1 x2 bt374.1 bt374.2 256))) else (some x1)
def reedpipelaw05_WindowPower.j1 : Nat → Bool → Int → List Int → Int → Int → Option (Bool)
  | 0, _, _, _, _, _ => none
  | k + 1, x1, x2, x3, x4, x5 => if x4 = 0 then (reedpipelaw05_WindowPower.j2 k x1 x2 x3 ((x3.length : Int) != x5)) else (reedpipelaw05_WindowPower.j2 k x1 x2 x3 true)
def reedpipelaw05_WindowPower.j2 : Nat → Bool → Int → List Int → Bool → Option (Bool)
  | 0, _, _, _, _ => none
  | k + 1, x1, x2, x3, x34 => if x34 = true then (some false) else (reedpipelaw05_WindowPower.l1 k x1 x2 x3 0)
def reedpipelaw05_WindowPower.l1 : Nat → Bool → Int → List Int → Int → Option (Bool)
  | 0, _, _, _, _ => none
  | k + 1, x1, x2, x3, x6 => if x6 < (x3.length : Int) then (if 0 ≤ x6 then (if 0 ≤ (wrap64 ((wrap64 ((x3.length : Int) - 1)) - x6)) then (if (wrap64 ((wrap64 ((x3.length : Int) - 1)) - x6)) < (x3.length : Int) then (if (rd x3 x6) ≤ 0 then (some false) else (if (rd x3 x6) > 4194304 then (some false) else (if x6 > 0 then (if 0 ≤ (wrap64 (x6 - 1)) then (if (wrap64 (x6 - 1)) < (x3.length : Int) then (if (rd x3 x6) < (rd x3 (wrap64 (x6 - 1))) then (some false) else (if (wrap64 ((wrap64 ((wrap64 ((rd x3 x6) * (rd x3 x6))) + (wrap64 ((rd x3 (wrap64 ((wrap64 ((x3.length : Int) - 1)) - x6))) * (rd x3 (wrap64 ((wrap64 ((x3.length : Int) - 1)) - x6))))))) - 17592186044416)) > 33554432 then (some false) else (if (wrap64 ((wrap64 ((wrap64 ((rd x3 x6) * (rd x3 x6))) + (wrap64 ((rd x3 (wrap64 ((wrap64 ((x3.length : Int) - 1)) - x6))) * (rd x3 (wrap64 ((wrap64 ((x3.length : Int) - 1)) - x6))))))) - 17592186044416)) < (-33554432) then (some false) else (reedpipelaw05_WindowPower.l1 k x1 x2 x3 (wrap64 (x6 + 1)))))) else (none)) else (none)) else (if (wrap64 ((wrap64 ((wrap64 ((rd x3 x6) * (rd x3 x6))) + (wrap64 ((rd x3 (wrap64 ((wrap64 ((x3.length : Int) - 1)) - x6))) * (rd x3 (wrap64 ((wrap64 ((x3.length : Int) - 1)) - x6))))))) - 17592186044416)) > 33554432 then (some false) else (if (wrap64 ((wrap64 ((wrap64 ((rd x3 x6) * (rd x3 x6))) + (wrap64 ((rd x3 (wrap64 ((wrap64 ((x3.length : Int) - 1)) - x6))) * (rd x3 (wrap64 ((wrap64 ((x3.length : Int) - 1)) - x6))))))) - 17592186044416)) < (-33554432) then (some false) else (reedpipelaw05_WindowPower.l1 k x1 x2 x3 (wrap64 (x6 + 1)))))))) else (none)) else (none)) else (none)) else (reedpipelaw05_WindowPower.l0 k x1 (wrap64 (x2 + 1)))
end
def reedpipelaw05_WindowPower.f (k : Nat)  : Option (Bool) := (reedpipelaw05_alive.f k).bind fun t373 => (reedpipelaw05_WindowPower.l0 k t373 0)
theorem reedpipelaw05_WindowPower.mono_l : ∀ k, (∀ y0 y1, LeO (reedpipelaw05_WindowPower.l0 k y0 y1) (reedpipelaw05_WindowPower.l0 (k + 1) y0 y1)) ∧ (∀ y0 y1 y2 y3 y4, LeO (reedpipelaw05_WindowPower.j1 k y0 y1 y2 y3 y4) (reedpipelaw05_WindowPower.j1 (k + 1) y0 y1 y2 y3 y4)) ∧ (∀ y0 y1 y2 y3, LeO (reedpipelaw05_WindowPower.j2 k y0 y1 y2 y3) (reedpipelaw05_WindowPower.j2 (k + 1) y0 y1 y2 y3)) ∧ (∀ y0 y1 y2 y3, LeO (reedpipelaw05_WindowPower.l1 k y0 y1 y2 y3) (reedpipelaw05_WindowPower.l1 (k + 1) y0 y1 y2 y3))
  | 0 => ⟨fun _ _ r h => by simp [reedpipelaw05_WindowPower.l0] at h, fun _ _ _ _ _ r h => by simp [reedpipelaw05_WindowPower.j1] at h, fun _ _ _ _ r h => by simp [reedpipelaw05_WindowPower.j2] at h, fun _ _ _ _ r h => by simp [reedpipelaw05_WindowPower.l1] at h⟩
  | k + 1 => by
    obtain ⟨ih0, ih1, ih2, ih3⟩ := reedpipelaw05_WindowPower.mono_l k
    refine ⟨?_, ?_, ?_, ?_⟩
    · intro y0 y1
      unfold reedpipelaw05_WindowPower.l0
      repeat' first
      | (with_reducible exact ih0 _ _)
      | (with_reducible exact ih1 _ _ _ _ _)
      | (with_reducible exact ih2 _ _ _ _)
      | (with_reducible exact ih3 _ _ _ _)
      | (with_reducible exact reedpipelaw05_alive.mono _)
      | (with_reducible exact window_Half.mono _ _ _)
      | (with_reducible exact LeO.refl _)
      | (with_reducible exact LeO.none _)
      | (with_reducible refine LeO.ite ?_ ?_)
      | (with_reducible refine LeO.bind ?_ (fun _ => ?_))
      | exact ih0 _ _
      | exact ih1 _ _ _ _ _
      | exact ih2 _ _ _ _
      | exact ih3 _ _ _ _
      | exact reedpipelaw05_alive.mono _
      | exact window_Half.mono _ _ _
      | exact LeO.none _
      | refine LeO.ite ?_ ?_
      | refine LeO.bind ?_ (fun _ => ?_)
    · intro y0 y1 y2 y3 y4
      unfold reedpipelaw05_WindowPower.j1
      repeat' first
      | (with_reducible exact ih0 _ _)
      | (with_reducible exact ih1 _ _ _ _ _)
      | (with_reducible exact ih2 _ _ _ _)
      | (with_reducible exact ih3 _ _ _ _)
      | (with_reducible exact reedpipelaw05_alive.mono _)
      | (with_reducible exact window_Half.mono _ _ _)
      | (with_reducible exact LeO.refl _)
      | (with_reducible exact LeO.none _)
      | (with_reducible refine LeO.ite ?_ ?_)
      | (with_reducible refine LeO.bind ?_ (fun _ => ?_))
      | exact ih0 _ _
      | exact ih1 _ _ _ _ _
      | exact ih2 _ _ _ _
      | exact ih3 _ _ _ _
      | exact reedpipelaw05_alive.mono _
      | exact window_Half.mono _ _ _
      | exact LeO.none _
      | refine LeO.ite ?_ ?_
      | refine LeO.bind ?_ (fun _ => ?_)
    · intro y0 y1 y2 y3
      unfold reedpipelaw05_WindowPower.j2
      repeat' first
      | (with_reducible exact ih0 _ _)
      | (with_reducible exact ih1 _ _ _ _ _)
      | (with_reducible exact ih2 _ _ _ _)
      | (with_reducible exact ih3 _ _ _ _)
      | (with_reducible exact reedpipelaw05_alive.mono _)
      | (with_reducible exact window_Half.mono _ _ _)
      | (with_reducible exact LeO.refl _)
      | (with_reducible exact LeO.none _)
      | (with_reducible refine LeO.ite ?_ ?_)
      | (with_reducible refine LeO.bind ?_ (fun _ => ?_))
      | exact ih0 _ _
      | exact ih1 _ _ _ _ _
      | exact ih2 _ _ _ _
      | exact ih3 _ _ _ _
      | exact reedpipelaw05_alive.mono _
      | exact window_Half.mono _ _ _
      | exact LeO.none _
      | refine LeO.ite ?_ ?_
      | refine LeO.bind ?_ (fun _ => ?_)
    · intro y0 y1 y2 y3
      unfold reedpipelaw05_WindowPower.l1
      repeat' first
      | (with_reducible exact ih0 _ _)
      | (with_reducible exact ih1 _ _ _ _ _)
      | (with_reducible exact ih2 _ _ _ _)
      | (with_reducible exact ih3 _ _ _ _)
      | (with_reducible exact reedpipelaw05_alive.mono _)
      | (with_reducible exact window_Half.mono _ _ _)
      | (with_reducible exact LeO.refl _)
      | (with_reducible exact LeO.none _)
      | (with_reducible refine LeO.ite ?_ ?_)
      | (with_reducible refine LeO.bind ?_ (fun _ => ?_))
      | exact ih0 _ _
      | exact ih1 _ _ _ _ _
      | exact ih2 _ _ _ _
      | exact ih3 _ _ _ _
      | exact reedpipelaw05_alive.mono _
      | exact window_Half.mono _ _ _
      | exact LeO.none _
      | refine LeO.ite ?_ ?_
      | refine LeO.bind ?_ (fun _ => ?_)
theorem reedpipelaw05_WindowPower.mono : ∀ k, LeO (reedpipelaw05_WindowPower.f k ) (reedpipelaw05_WindowPower.f (k + 1) ) := by
  intro  k
  obtain ⟨ih0, ih1, ih2, ih3⟩ := reedpipelaw05_WindowPower.mono_l k
  unfold reedpipelaw05_WindowPower.f
  repeat' first
      | (with_reducible exact ih0 _ _)
      | (with_reducible exact ih1 _ _ _ _ _)
      | (with_reducible exact ih2 _ _ _ _)
      | (with_reducible exact ih3 _ _ _ _)
      | (with_reducible exact reedpipelaw05_alive.mono _)
      | (with_reducible exact window_Half.mono _ _ _)
      | (with_reducible exact LeO.refl _)
      | (with_reducible exact LeO.none _)
      | (with_reducible refine LeO.ite ?_ ?_)
      | (with_reducible refine LeO.bind ?_ (fun _ => ?_))
      | exact ih0 _ _
      | exact ih1 _ _ _ _ _
      | exact ih2 _ _ _ _
      | exact ih3 _ _ _ _
      | exact reedpipelaw05_alive.mono _
      | exact window_Half.mono _ _ _
      | exact LeO.none _
      | refine LeO.ite ?_ ?_
      | refine LeO.bind ?_ (fun _ => ?_)
set_option maxHeartbeats 8000000 in
set_option maxRecDepth 100000 in
theorem reedpipelaw05_WindowPower.calls (k : Nat)  (r : Bool) (w : World) (h : reedpipelaw05_WindowPower.f k  = some r) :
    Calls Try.prog 14 #[] w fun e w' => e = .returned (.bool r) ∧ Below w.heap.size w w' := by
  have HB := Aside0.mk (Below.refl w.heap.size w)
  have H : ((reedpipelaw05_alive.f k).bind fun t373 => (reedpipelaw05_WindowPower.l0 k t373 0)) = some r := h
  clear h
  replace H := Option.bind_eq_some_iff.mp H
  obtain ⟨t373, A10, H⟩ := H
  replace H : (reedpipelaw05_WindowPower.l0 k t373 0) = some r := H
  have A1 := Aside0.mk A10
  clear A10
  have H' := Aside0.mk H
  clear H
  go_enter Try.func14, Try.ntmps14
  go_wp2_with (first | (go_at_call 39; (with_reducible refine (reedpipelaw05_alive.calls k  t373 _ A1.out).mono ?_); rintro e w2 ⟨rfl, hb⟩; have n0_ := Aside0.mk (below_step (by repeat (first | (with_reducible first | exact HB.out | apply below_alloc | apply pw_below_drewN | apply below_drew1) | exact HB.out)) hb); clear HB; have HB := n0_; clear n0_; (try clear hb); (try clear hb2); (try clear hk); (try clear hi)))
  repeat (go_quiet (first | (go_at_call 39; (with_reducible refine (reedpipelaw05_alive.calls k  t373 _ A1.out).mono ?_); rintro e w2 ⟨rfl, hb⟩; have n0_ := Aside0.mk (below_step (by repeat (first | (with_reducible first | exact HB.out | apply below_alloc | apply pw_below_drewN | apply below_drew1) | exact HB.out)) hb); clear HB; have HB := n0_; clear n0_; (try clear hb); (try clear hb2); (try clear hk); (try clear hi))); try go_wp2_with (first | (go_at_call 39; (with_reducible refine (reedpipelaw05_alive.calls k  t373 _ A1.out).mono ?_); rintro e w2 ⟨rfl, hb⟩; have n0_ := Aside0.mk (below_step (by repeat (first | (with_reducible first | exact HB.out | apply below_alloc | apply pw_below_drewN | apply below_drew1) | exact HB.out)) hb); clear HB; have HB := n0_; clear n0_; (try clear hb); (try clear hb2); (try clear hk); (try clear hi))))
  go_loopg [2] k (fun kq v2 w' => ∃ (x2_1 : Int), v2 = .int .i64 x2_1 ∧ Aside0 (reedpipelaw05_WindowPower.l0 kq t373 x2_1 = some r) ∧ Aside0 (kq ≤ k) ∧ Aside0 (Below w.heap.size w w'))
  case atStart => exact ⟨(0), (by first | rfl | (simp; done) | (simp [*]; done)), H', ⟨Nat.le_refl _⟩, ⟨by repeat (first | (with_reducible first | exact HB.out | apply below_alloc | apply pw_below_drewN | apply below_drew1) | exact HB.out)⟩⟩
  case round =>
    clear H'
    try clear c1
    try clear p2
    obtain ⟨x2_1, rfl, HA, HK1, HB⟩ := hrel
    cases gk with
    | zero => exact absurd HA.out (by simp [reedpipelaw05_WindowPower.l0])
    | succ k1 =>
      have H := HA.out
      clear HA
      simp only [reedpipelaw05_WindowPower.l0] at H
      by_cases c3 : x2_1 < 4
      · rw [if_pos c3] at H
        have c3b0 : decide (x2_1 < 4) = true := decide_eq_true c3
        clear c3
        replace H := Option.bind_eq_some_iff.mp H
        obtain ⟨⟨t374, t375⟩, A40, H⟩ := H
        replace H : (if (Int.tmod x2_1 2) = 1 then (reedpipelaw05_WindowPower.j1 k1 t373 x2_1 t374 t375 32) else (reedpipelaw05_WindowPower.j1 k1 t373 x2_1 t374 t375 256)) = some r := H
        have A4 := Aside0.mk A40
        clear A40
        have HC5 := Aside0.mk H
        clear H
        go_upto_if 26 with (first | (go_at_call 38; (with_reducible refine (window_Half.calls k1 ((wrap64 (Int.tdiv x2_1 2)) % 256) ((Int.tmod x2_1 2) == 1) t374 t375 _ A4.out).mono ?_); rintro e w6 ⟨v376, rfl, ho0, hb⟩; have n0_ := Aside0.mk (Kd.R_lower ho0 (below_size (by repeat (first | (with_reducible first | exact HB.out | apply below_alloc | apply pw_below_drewN | apply below_drew1) | exact HB.out)))); have n1_ := Aside0.mk (below_step (by repeat (first | (with_reducible first | exact HB.out | apply below_alloc | apply pw_below_drewN | apply below_drew1) | exact HB.out)) hb); clear HB; have HO377 := n0_; have HB := n1_; clear n0_ n1_; (try clear hb); (try clear hb2); (try clear hk); (try clear hi); (try clear ho0)))
        repeat (go_quiet (first | (go_at_call 38; (with_reducible refine (window_Half.calls k1 ((wrap64 (Int.tdiv x2_1 2)) % 256) ((Int.tmod x2_1 2) == 1) t374 t375 _ A4.out).mono ?_); rintro e w6 ⟨v376, rfl, ho0, hb⟩; have n0_ := Aside0.mk (Kd.R_lower ho0 (below_size (by repeat (first | (with_reducible first | exact HB.out | apply below_alloc | apply pw_below_drewN | apply below_drew1) | exact HB.out)))); have n1_ := Aside0.mk (below_step (by repeat (first | (with_reducible first | exact HB.out | apply below_alloc | apply pw_below_drewN | apply below_drew1) | exact HB.out)) hb); clear HB; have HO377 := n0_; have HB := n1_; clear n0_ n1_; (try clear hb); (try clear hb2); (try clear hk); (try clear hi); (try clear ho0))); go_upto_if 26 with (first | (go_at_call 38; (with_reducible refine (window_Half.calls k1 ((wrap64 (Int.tdiv x2_1 2)) % 256) ((Int.tmod x2_1 2) == 1) t374 t375 _ A4.out).mono ?_); rintro e w6 ⟨v376, rfl, ho0, hb⟩; have n0_ := Aside0.mk (Kd.R_lower ho0 (below_size (by repeat (first | (with_reducible first | exact HB.out | apply below_alloc | apply pw_below_drewN | apply below_drew1) | exact HB.out)))); have n1_ := Aside0.mk (below_step (by repeat (first | (with_reducible first | exact HB.out | apply below_alloc | apply pw_below_drewN | apply below_drew1) | exact HB.out)) hb); clear HB; have HO377 := n0_; have HB := n1_; clear n0_ n1_; (try clear hb); (try clear hb2); (try clear hk); (try clear hi); (try clear ho0))))
        (try simp only [Act.put, List.setIfInBounds_toArray, List.set_cons_zero, List.set_cons_succ])
        go_cut [5] (fun v5 wc => ∃ (kq : Nat) (x5_4 : Int), v5 = .int .i64 x5_4 ∧ Aside0 (reedpipelaw05_WindowPower.j1 kq t373 x2_1 t374 t375 x5_4 = some r) ∧ Aside0 (kq ≤ k1) ∧ Aside0 (Kd.R (Kd.int .i64) 3 wc w.heap.size (fun _ => True) v376 t374) ∧ Aside0 (Below w.heap.size w wc))
        case first =>
          have H := HC5.out
          clear HC5
          by_cases c7 : (Int.tmod x2_1 2) = 1
          · rw [if_pos c7] at H
            have c7b0 : ((Int.tmod x2_1 2) == 1) = true := beq_iff_eq.mpr c7
            have c7b1 : ((Int.tmod x2_1 2) != 1) = false := bne_eq_false_iff_eq.mpr c7
            clear c7
            (first | rw [c7b0] | (simp only [i64_w, i32_w]; rw [c7b0]) | skip)
            have H' := Aside0.mk H
            clear H
            go_wp2
            repeat (go_quiet (fail); try go_wp2)
            go_meet
            case rel => exact ⟨_, (32), (by first | rfl | (simp; done) | (simp [*]; done)), H', ⟨by have := HK1.out; first | omega | exact Nat.le_refl _⟩, ⟨by (with_reducible repeat (first | apply Kd.R_alloc | apply Kd.R_drewN | apply Kd.R_drew)); exact HO377.out⟩, ⟨by repeat (first | (with_reducible first | exact HB.out | apply below_alloc | apply pw_below_drewN | apply below_drew1) | exact HB.out)⟩⟩
          · rw [if_neg c7] at H
            have c7b0 : ((Int.tmod x2_1 2) == 1) = false := beq_eq_false_iff_ne.mpr c7
            have c7b1 : ((Int.tmod x2_1 2) != 1) = true := bne_iff_ne.mpr c7
            (first | rw [c7b0] | (simp only [i64_w, i32_w]; rw [c7b0]) | skip)
            have H' := Aside0.mk H
            clear H
            go_wp2
            repeat (go_quiet (fail); try go_wp2)
            go_meet
            case rel => exact ⟨_, (256), (by first | rfl | (simp; done) | (simp [*]; done)), H', ⟨by have := HK1.out; first | omega | exact Nat.le_refl _⟩, ⟨by (with_reducible repeat (first | apply Kd.R_alloc | apply Kd.R_drewN | apply Kd.R_drew)); exact HO377.out⟩, ⟨by repeat (first | (with_reducible first | exact HB.out | apply below_alloc | apply pw_below_drewN | apply below_drew1) | exact HB.out)⟩⟩
        case rest =>
          clear HC5
          try clear c1
          try clear p2
          try clear c3
          try clear c3b0
          try clear p6
          try clear c7
          try clear c7b0
          try clear c7b1
          try clear p2
          obtain ⟨kq, x5_4, rfl, HA, HJ4, HO_3, HB⟩ := hcut
          cases kq with
          | zero => exact absurd HA.out (by simp [reedpipelaw05_WindowPower.j1])
          | succ kj4 =>
            have H := HA.out
            clear HA
            simp only [reedpipelaw05_WindowPower.j1] at H
            have HC8 := Aside0.mk H
            clear H
            go_upto_region 9 with (fail)
            repeat (go_quiet (fail); go_upto_region 9 with (fail))
            go_cut [34] (fun v34 wc => ∃ (kq : Nat) (x34_7 : Bool), v34 = .bool x34_7 ∧ Aside0 (reedpipelaw05_WindowPower.j2 kq t373 x2_1 t374 x34_7 = some r) ∧ Aside0 (kq ≤ kj4) ∧ Aside0 (Kd.R (Kd.int .i64) 3 wc w.heap.size (fun _ => True) v376 t374) ∧ Aside0 (Below w.heap.size w wc))
            case first =>
              have H := HC8.out
              clear HC8
              by_cases c9 : t375 = 0
              · rw [if_pos c9] at H
                have c9b0 : (t375 == 0) = true := beq_iff_eq.mpr c9
                have c9b1 : (t375 != 0) = false := bne_eq_false_iff_eq.mpr c9
                clear c9
                (first | rw [c9b0] | (simp only [i64_w, i32_w]; rw [c9b0]) | skip)
                have H' := Aside0.mk H
                clear H
                obtain ⟨Ao10, co10, eo10⟩ := Kd.R_slice HO_3.out
                subst eo10
                go_wp2
                repeat (go_quiet (fail); try go_wp2)
                go_meet
                case rel => exact ⟨_, (((t374.length : Int) != x5_4)), (by first | rfl | (simp; done) | (simp [*]; done)), H', ⟨by have := HK1.out; have := HJ4.out; first | omega | exact Nat.le_refl _⟩, ⟨by (with_reducible repeat (first | apply Kd.R_alloc | apply Kd.R_drewN | apply Kd.R_drew)); exact HO_3.out⟩, ⟨by repeat (first | (with_reducible first | exact HB.out | apply below_alloc | apply pw_below_drewN | apply below_drew1) | exact HB.out)⟩⟩
              · rw [if_neg c9] at H
                have c9b0 : (t375 == 0) = false := beq_eq_false_iff_ne.mpr c9
                have c9b1 : (t375 != 0) = true := bne_iff_ne.mpr c9
                (first | rw [c9b0] | (simp only [i64_w, i32_w]; rw [c9b0]) | skip)
                have H' := Aside0.mk H
                clear H
                go_wp2
                repeat (go_quiet (fail); try go_wp2)
                go_meet
                case rel => exact ⟨_, (true), (by first | rfl | (simp; done) | (simp [*]; done)), H', ⟨by have := HK1.out; have := HJ4.out; first | omega | exact Nat.le_refl _⟩, ⟨by (with_reducible repeat (first | apply Kd.R_alloc | apply Kd.R_drewN | apply Kd.R_drew)); exact HO_3.out⟩, ⟨by repeat (first | (with_reducible first | exact HB.out | apply below_alloc | apply pw_below_drewN | apply below_drew1) | exact HB.out)⟩⟩
            case rest =>
              clear HC8
              try clear c1
              try clear p2
              try clear c3
              try clear c3b0
              try clear p6
              try clear c7
              try clear c7b0
              try clear c7b1
              try clear c9
              try clear c9b0
              try clear c9b1
              try clear p2
              try clear p6
              obtain ⟨kq, x34_7, rfl, HA, HJ7, HO_3, HB⟩ := hcut
              cases kq with
              | zero => exact absurd HA.out (by simp [reedpipelaw05_WindowPower.j2])
              | succ kj7 =>
                have H := HA.out
                clear HA
                simp only [reedpipelaw05_WindowPower.j2] at H
                by_cases c11 : x34_7 = true
                · subst c11
                  have H1 : (some false) = some r := by rw [if_pos rfl] at H; exact H
                  clear H
                  have H := H1
                  clear H1
                  obtain rfl := Option.some.inj H
                  go_wp2
                  repeat (go_quiet (fail); try go_wp2)
                  go_ret
                  exact ⟨by first | rfl | (simp [errW_none, errW_some] <;> rfl) | (simp [*, errW_none, errW_some] <;> rfl), by repeat (first | (with_reducible first | exact HB.out | apply below_alloc | apply pw_below_drewN | apply below_drew1) | exact HB.out)⟩
                · replace c11 := Bool.eq_false_iff.mpr c11
                  subst c11
                  have H1 : (reedpipelaw05_WindowPower.l1 kj7 t373 x2_1 t374 0) = some r := by rw [if_neg (show ¬ (false = true) by decide)] at H; exact H
                  clear H
                  have H := H1
                  clear H1
                  have H' := Aside0.mk H
                  clear H
                  go_wp2
                  repeat (go_quiet (fail); try go_wp2)
                  go_loopg [6] kj7 (fun kq v6 w' => ∃ (x6_4 : Int), v6 = .int .i64 x6_4 ∧ Aside0 (reedpipelaw05_WindowPower.l1 kq t373 x2_1 t374 x6_4 = some r) ∧ Aside0 (kq ≤ kj7) ∧ Aside0 (Kd.R (Kd.int .i64) 3 w' w.heap.size (fun _ => True) v376 t374) ∧ Aside0 (Below w.heap.size w w'))
                  case atStart => exact ⟨(0), (by first | rfl | (simp; done) | (simp [*]; done)), H', ⟨Nat.le_refl _⟩, ⟨by (with_reducible repeat (first | apply Kd.R_alloc | apply Kd.R_drewN | apply Kd.R_drew)); exact HO_3.out⟩, ⟨by repeat (first | (with_reducible first | exact HB.out | apply below_alloc | apply pw_below_drewN | apply below_drew1) | exact HB.out)⟩⟩
                  case round =>
                    clear H'
                    try clear c1
                    try clear p2
                    try clear c3
                    try clear c3b0
                    try clear p6
                    try clear c7
                    try clear c7b0
                    try clear c7b1
                    try clear c9
                    try clear c9b0
                    try clear c9b1
                    try clear c11
                    try clear p2
                    try clear p6
                    obtain ⟨x6_4, rfl, HA, HK4, HO_3, HB⟩ := hrel
                    cases gk with
                    | zero => exact absurd HA.out (by simp [reedpipelaw05_WindowPower.l1])
                    | succ k4 =>
                      have H := HA.out
                      clear HA
                      simp only [reedpipelaw05_WindowPower.l1] at H
                      by_cases c12 : x6_4 < (t374.length : Int)
                      · rw [if_pos c12] at H
                        have c12b0 : decide (x6_4 < (t374.length : Int)) = true := decide_eq_true c12
                        clear c12
                        by_cases c13 : 0 ≤ x6_4
                        · rw [if_pos c13] at H
                          have c13b0 : decide (0 ≤ x6_4) = true := decide_eq_true c13
                          clear c13
                          obtain ⟨ji14, hji14⟩ : ∃ j_ : Int, (wrap64 ((wrap64 ((t374.length : Int) - 1)) - x6_4)) = j_ := ⟨_, rfl⟩
                          replace H : (if 0 ≤ (ji14) then (if (ji14) < (t374.length : Int) then (if (rd t374 x6_4) ≤ 0 then (some false) else (if (rd t374 x6_4) > 4194304 then (some false) else (if x6_4 > 0 then (if 0 ≤ (wrap64 (x6_4 - 1)) then (if (wrap64 (x6_4 - 1)) < (t374.length : Int) then (if (rd t374 x6_4) < (rd t374 (wrap64 (x6_4 - 1))) then (some false) else (if (wrap64 ((wrap64 ((wrap64 ((rd t374 x6_4) * (rd t374 x6_4))) + (wrap64 ((rd t374 (ji14)) * (rd t374 (ji14)))))) - 17592186044416)) > 33554432 then (some false) else (if (wrap64 ((wrap64 ((wrap64 ((rd t374 x6_4) * (rd t374 x6_4))) + (wrap64 ((rd t374 (ji14)) * (rd t374 (ji14)))))) - 17592186044416)) < (-33554432) then (some false) else (reedpipelaw05_WindowPower.l1 k4 t373 x2_1 t374 (wrap64 (x6_4 + 1)))))) else (none)) else (none)) else (if (wrap64 ((wrap64 ((wrap64 ((rd t374 x6_4) * (rd t374 x6_4))) + (wrap64 ((rd t374 (ji14)) * (rd t374 (ji14)))))) - 17592186044416)) > 33554432 then (some false) else (if (wrap64 ((wrap64 ((wrap64 ((rd t374 x6_4) * (rd t374 x6_4))) + (wrap64 ((rd t374 (ji14)) * (rd t374 (ji14)))))) - 17592186044416)) < (-33554432) then (some false) else (reedpipelaw05_WindowPower.l1 k4 t373 x2_1 t374 (wrap64 (x6_4 + 1)))))))) else (none)) else (none)) = some r := by first | (rw [hji14] at H; exact H) | (simp only [hji14] at H ⊢; exact H)
                          have hji14w : (IntKind.i64.wrap ((wrap64 ((t374.length : Int) - 1)) - x6_4)) = ji14 := (i64_w _).trans hji14
                          by_cases c15 : 0 ≤ (ji14)
                          · rw [if_pos c15] at H
                            have c15b0 : decide (0 ≤ (ji14)) = true := decide_eq_true c15
                            clear c15
                            by_cases c16 : (ji14) < (t374.length : Int)
                            · rw [if_pos c16] at H
                              have c16b0 : decide ((ji14) < (t374.length : Int)) = true := decide_eq_true c16
                              clear c16
                              by_cases c17 : (rd t374 x6_4) ≤ 0
                              · rw [if_pos c17] at H
                                have c17b0 : decide ((rd t374 x6_4) ≤ 0) = true := decide_eq_true c17
                                clear c17
                                obtain rfl := Option.some.inj H
                                obtain ⟨Ao18, co18, eo18⟩ := Kd.R_slice HO_3.out
                                subst eo18
                                have p378 : 0 ≤ (x6_4 : Int) := of_decide_eq_true (by first | (with_reducible assumption) | assumption)
                                have q378 : x6_4 < (t374.length : Int) := of_decide_eq_true (by first | (with_reducible assumption) | assumption)
                                obtain ⟨ad378, e378, hx378_0⟩ := Kd.at_int (Kd.R_reads' HO_3.out).2.2 x6_4 p378 q378
                                cases e378
                                replace p378 := eq_true p378
                                replace q378 := eq_true q378
                                have p379 : 0 ≤ (x6_4 : Int) := of_decide_eq_true (by first | (with_reducible assumption) | assumption)
                                have q379 : x6_4 < (t374.length : Int) := of_decide_eq_true (by first | (with_reducible assumption) | assumption)
                                obtain ⟨ad379, e379, hx379_0⟩ := Kd.at_int (Kd.R_reads' HO_3.out).2.2 x6_4 p379 q379
                                obtain rfl : ad378 = ad379 := (by injection e379)
                                replace p379 := eq_true p379
                                replace q379 := eq_true q379
                                have p380 : 0 ≤ ((ji14) : Int) := of_decide_eq_true (by first | (with_reducible assumption) | assumption)
                                have q380 : (ji14) < (t374.length : Int) := of_decide_eq_true (by first | (with_reducible assumption) | assumption)
                                obtain ⟨ad380, e380, hx380_0⟩ := Kd.at_int (Kd.R_reads' HO_3.out).2.2 (ji14) p380 q380
                                obtain rfl : ad378 = ad380 := (by injection e380)
                                replace p380 := eq_true p380
                                replace q380 := eq_true q380
                                have p381 : 0 ≤ ((ji14) : Int) := of_decide_eq_true (by first | (with_reducible assumption) | assumption)
                                have q381 : (ji14) < (t374.length : Int) := of_decide_eq_true (by first | (with_reducible assumption) | assumption)
                                obtain ⟨ad381, e381, hx381_0⟩ := Kd.at_int (Kd.R_reads' HO_3.out).2.2 (ji14) p381 q381
                                obtain rfl : ad378 = ad381 := (by injection e381)
                                replace p381 := eq_true p381
                                replace q381 := eq_true q381
                                have p382 : 0 ≤ (x6_4 : Int) := of_decide_eq_true (by first | (with_reducible assumption) | assumption)
                                have q382 : x6_4 < (t374.length : Int) := of_decide_eq_true (by first | (with_reducible assumption) | assumption)
                                obtain ⟨ad382, e382, hx382_0⟩ := Kd.at_int (Kd.R_reads' HO_3.out).2.2 x6_4 p382 q382
                                obtain rfl : ad378 = ad382 := (by injection e382)
                                replace p382 := eq_true p382
                                replace q382 := eq_true q382
                                go_wp2
                                repeat (go_quiet (fail); try go_wp2)
                                go_ret
                                exact ⟨by first | rfl | (simp [errW_none, errW_some] <;> rfl) | (simp only [← hji14]; first | rfl | (simp [errW_none, errW_some] <;> rfl)) | (simp [*, errW_none, errW_some] <;> rfl), by repeat (first | (with_reducible first | exact HB.out | apply below_alloc | apply pw_below_drewN | apply below_drew1) | exact HB.out)⟩
                              · rw [if_neg c17] at H
                                have c17b0 : decide ((rd t374 x6_4) ≤ 0) = false := decide_eq_false c17
                                clear c17
                                by_cases c19 : (rd t374 x6_4) > 4194304
                                · rw [if_pos c19] at H
                                  have c19b0 : decide (4194304 < (rd t374 x6_4)) = true := decide_eq_true c19
                                  clear c19
                                  obtain rfl := Option.some.inj H
                                  obtain ⟨Ao20, co20, eo20⟩ := Kd.R_slice HO_3.out
                                  subst eo20
                                  have p378 : 0 ≤ (x6_4 : Int) := of_decide_eq_true (by first | (with_reducible assumption) | assumption)
                                  have q378 : x6_4 < (t374.length : Int) := of_decide_eq_true (by first | (with_reducible assumption) | assumption)
                                  obtain ⟨ad378, e378, hx378_0⟩ := Kd.at_int (Kd.R_reads' HO_3.out).2.2 x6_4 p378 q378
                                  cases e378
                                  replace p378 := eq_true p378
                                  replace q378 := eq_true q378
                                  have p379 : 0 ≤ (x6_4 : Int) := of_decide_eq_true (by first | (with_reducible assumption) | assumption)
                                  have q379 : x6_4 < (t374.length : Int) := of_decide_eq_true (by first | (with_reducible assumption) | assumption)
                                  obtain ⟨ad379, e379, hx379_0⟩ := Kd.at_int (Kd.R_reads' HO_3.out).2.2 x6_4 p379 q379
                                  obtain rfl : ad378 = ad379 := (by injection e379)
                                  replace p379 := eq_true p379
                                  replace q379 := eq_true q379
                                  have p380 : 0 ≤ ((ji14) : Int) := of_decide_eq_true (by first | (with_reducible assumption) | assumption)
                                  have q380 : (ji14) < (t374.length : Int) := of_decide_eq_true (by first | (with_reducible assumption) | assumption)
                                  obtain ⟨ad380, e380, hx380_0⟩ := Kd.at_int (Kd.R_reads' HO_3.out).2.2 (ji14) p380 q380
                                  obtain rfl : ad378 = ad380 := (by injection e380)
                                  replace p380 := eq_true p380
                                  replace q380 := eq_true q380
                                  have p381 : 0 ≤ ((ji14) : Int) := of_decide_eq_true (by first | (with_reducible assumption) | assumption)
                                  have q381 : (ji14) < (t374.length : Int) := of_decide_eq_true (by first | (with_reducible assumption) | assumption)
                                  obtain ⟨ad381, e381, hx381_0⟩ := Kd.at_int (Kd.R_reads' HO_3.out).2.2 (ji14) p381 q381
                                  obtain rfl : ad378 = ad381 := (by injection e381)
                                  replace p381 := eq_true p381
                                  replace q381 := eq_true q381
                                  have p382 : 0 ≤ (x6_4 : Int) := of_decide_eq_true (by first | (with_reducible assumption) | assumption)
                                  have q382 : x6_4 < (t374.length : Int) := of_decide_eq_true (by first | (with_reducible assumption) | assumption)
                                  obtain ⟨ad382, e382, hx382_0⟩ := Kd.at_int (Kd.R_reads' HO_3.out).2.2 x6_4 p382 q382
                                  obtain rfl : ad378 = ad382 := (by injection e382)
                                  replace p382 := eq_true p382
                                  replace q382 := eq_true q382
                                  have p383 : 0 ≤ (x6_4 : Int) := of_decide_eq_true (by first | (with_reducible assumption) | assumption)
                                  have q383 : x6_4 < (t374.length : Int) := of_decide_eq_true (by first | (with_reducible assumption) | assumption)
                                  obtain ⟨ad383, e383, hx383_0⟩ := Kd.at_int (Kd.R_reads' HO_3.out).2.2 x6_4 p383 q383
                                  obtain rfl : ad378 = ad383 := (by injection e383)
                                  replace p383 := eq_true p383
                                  replace q383 := eq_true q383
                                  go_wp2
                                  repeat (go_quiet (fail); try go_wp2)
                                  go_ret
                                  exact ⟨by first | rfl | (simp [errW_none, errW_some] <;> rfl) | (simp only [← hji14]; first | rfl | (simp [errW_none, errW_some] <;> rfl)) | (simp [*, errW_none, errW_some] <;> rfl), by repeat (first | (with_reducible first | exact HB.out | apply below_alloc | apply pw_below_drewN | apply below_drew1) | exact HB.out)⟩
                                · rw [if_neg c19] at H
                                  have c19b0 : decide (4194304 < (rd t374 x6_4)) = false := decide_eq_false c19
                                  clear c19
                                  by_cases c21 : x6_4 > 0
                                  · rw [if_pos c21] at H
                                    have c21b0 : decide (0 < x6_4) = true := decide_eq_true c21
                                    clear c21
                                    obtain ⟨ji22, hji22⟩ : ∃ j_ : Int, (wrap64 (x6_4 - 1)) = j_ := ⟨_, rfl⟩
                                    replace H : (if 0 ≤ (ji22) then (if (ji22) < (t374.length : Int) then (if (rd t374 x6_4) < (rd t374 (ji22)) then (some false) else (if (wrap64 ((wrap64 ((wrap64 ((rd t374 x6_4) * (rd t374 x6_4))) + (wrap64 ((rd t374 (ji14)) * (rd t374 (ji14)))))) - 17592186044416)) > 33554432 then (some false) else (if (wrap64 ((wrap64 ((wrap64 ((rd t374 x6_4) * (rd t374 x6_4))) + (wrap64 ((rd t374 (ji14)) * (rd t374 (ji14)))))) - 17592186044416)) < (-33554432) then (some false) else (reedpipelaw05_WindowPower.l1 k4 t373 x2_1 t374 (wrap64 (x6_4 + 1)))))) else (none)) else (none)) = some r := by first | (rw [hji22] at H; exact H) | (simp only [hji22] at H ⊢; exact H)
                                    have hji22w : (IntKind.i64.wrap (x6_4 - 1)) = ji22 := (i64_w _).trans hji22
                                    by_cases c23 : 0 ≤ (ji22)
                                    · rw [if_pos c23] at H
                                      have c23b0 : decide (0 ≤ (ji22)) = true := decide_eq_true c23
                                      clear c23
                                      by_cases c24 : (ji22) < (t374.length : Int)
                                      · rw [if_pos c24] at H
                                        have c24b0 : decide ((ji22) < (t374.length : Int)) = true := decide_eq_true c24
                                        clear c24
                                        by_cases c25 : (rd t374 x6_4) < (rd t374 (ji22))
                                        · rw [if_pos c25] at H
                                          have c25b0 : decide ((rd t374 x6_4) < (rd t374 (ji22))) = true := decide_eq_true c25
                                          clear c25
                                          obtain rfl := Option.some.inj H
                                          obtain ⟨Ao26, co26, eo26⟩ := Kd.R_slice HO_3.out
                                          subst eo26
                                          have p378 : 0 ≤ (x6_4 : Int) := of_decide_eq_true (by first | (with_reducible assumption) | assumption)
                                          have q378 : x6_4 < (t374.length : Int) := of_decide_eq_true (by first | (with_reducible assumption) | assumption)
                                          obtain ⟨ad378, e378, hx378_0⟩ := Kd.at_int (Kd.R_reads' HO_3.out).2.2 x6_4 p378 q378
                                          cases e378
                                          replace p378 := eq_true p378
                                          replace q378 := eq_true q378
                                          have p379 : 0 ≤ (x6_4 : Int) := of_decide_eq_true (by first | (with_reducible assumption) | assumption)
                                          have q379 : x6_4 < (t374.length : Int) := of_decide_eq_true (by first | (with_reducible assumption) | assumption)
                                          obtain ⟨ad379, e379, hx379_0⟩ := Kd.at_int (Kd.R_reads' HO_3.out).2.2 x6_4 p379 q379
                                          obtain rfl : ad378 = ad379 := (by injection e379)
                                          replace p379 := eq_true p379
                                          replace q379 := eq_true q379
                                          have p380 : 0 ≤ ((ji14) : Int) := of_decide_eq_true (by first | (with_reducible assumption) | assumption)
                                          have q380 : (ji14) < (t374.length : Int) := of_decide_eq_true (by first | (with_reducible assumption) | assumption)
                                          obtain ⟨ad380, e380, hx380_0⟩ := Kd.at_int (Kd.R_reads' HO_3.out).2.2 (ji14) p380 q380
                                          obtain rfl : ad378 = ad380 := (by injection e380)
                                          replace p380 := eq_true p380
                                          replace q380 := eq_true q380
                                          have p381 : 0 ≤ ((ji14) : Int) := of_decide_eq_true (by first | (with_reducible assumption) | assumption)
                                          have q381 : (ji14) < (t374.length : Int) := of_decide_eq_true (by first | (with_reducible assumption) | assumption)
                                          obtain ⟨ad381, e381, hx381_0⟩ := Kd.at_int (Kd.R_reads' HO_3.out).2.2 (ji14) p381 q381
                                          obtain rfl : ad378 = ad381 := (by injection e381)
                                          replace p381 := eq_true p381
                                          replace q381 := eq_true q381
                                          have p382 : 0 ≤ (x6_4 : Int) := of_decide_eq_true (by first | (with_reducible assumption) | assumption)
                                          have q382 : x6_4 < (t374.length : Int) := of_decide_eq_true (by first | (with_reducible assumption) | assumption)
                                          obtain ⟨ad382, e382, hx382_0⟩ := Kd.at_int (Kd.R_reads' HO_3.out).2.2 x6_4 p382 q382
                                          obtain rfl : ad378 = ad382 := (by injection e382)
                                          replace p382 := eq_true p382
                                          replace q382 := eq_true q382
                                          have p383 : 0 ≤ (x6_4 : Int) := of_decide_eq_true (by first | (with_reducible assumption) | assumption)
                                          have q383 : x6_4 < (t374.length : Int) := of_decide_eq_true (by first | (with_reducible assumption) | assumption)
                                          obtain ⟨ad383, e383, hx383_0⟩ := Kd.at_int (Kd.R_reads' HO_3.out).2.2 x6_4 p383 q383
                                          obtain rfl : ad378 = ad383 := (by injection e383)
                                          replace p383 := eq_true p383
                                          replace q383 := eq_true q383
                                          have p384 : 0 ≤ (x6_4 : Int) := of_decide_eq_true (by first | (with_reducible assumption) | assumption)
                                          have q384 : x6_4 < (t374.length : Int) := of_decide_eq_true (by first | (with_reducible assumption) | assumption)
                                          obtain ⟨ad384, e384, hx384_0⟩ := Kd.at_int (Kd.R_reads' HO_3.out).2.2 x6_4 p384 q384
                                          obtain rfl : ad378 = ad384 := (by injection e384)
                                          replace p384 := eq_true p384
                                          replace q384 := eq_true q384
                                          have p385 : 0 ≤ ((ji22) : Int) := of_decide_eq_true (by first | (with_reducible assumption) | assumption)
                                          have q385 : (ji22) < (t374.length : Int) := of_decide_eq_true (by first | (with_reducible assumption) | assumption)
                                          obtain ⟨ad385, e385, hx385_0⟩ := Kd.at_int (Kd.R_reads' HO_3.out).2.2 (ji22) p385 q385
                                          obtain rfl : ad378 = ad385 := (by injection e385)
                                          replace p385 := eq_true p385
                                          replace q385 := eq_true q385
                                          go_wp2
                                          repeat (go_quiet (fail); try go_wp2)
                                          go_ret
                                          exact ⟨by first | rfl | (simp [errW_none, errW_some] <;> rfl) | (simp only [← hji14, ← hji22]; first | rfl | (simp [errW_none, errW_some] <;> rfl)) | (simp [*, errW_none, errW_some] <;> rfl), by repeat (first | (with_reducible first | exact HB.out | apply below_alloc | apply pw_below_drewN | apply below_drew1) | exact HB.out)⟩
                                        · rw [if_neg c25] at H
                                          have c25b0 : decide ((rd t374 x6_4) < (rd t374 (ji22))) = false := decide_eq_false c25
                                          clear c25
                                          by_cases c27 : (wrap64 ((wrap64 ((wrap64 ((rd t374 x6_4) * (rd t374 x6_4))) + (wrap64 ((rd t374 (ji14)) * (rd t374 (ji14)))))) - 17592186044416)) > 33554432
                                          · rw [if_pos c27] at H
                                            have c27b0 : decide (33554432 < (wrap64 ((wrap64 ((wrap64 ((rd t374 x6_4) * (rd t374 x6_4))) + (wrap64 ((rd t374 (ji14)) * (rd t374 (ji14)))))) - 17592186044416))) = true := decide_eq_true c27
                                            clear c27
                                            obtain rfl := Option.some.inj H
                                            obtain ⟨Ao28, co28, eo28⟩ := Kd.R_slice HO_3.out
                                            subst eo28
                                            have p378 : 0 ≤ (x6_4 : Int) := of_decide_eq_true (by first | (with_reducible assumption) | assumption)
                                            have q378 : x6_4 < (t374.length : Int) := of_decide_eq_true (by first | (with_reducible assumption) | assumption)
                                            obtain ⟨ad378, e378, hx378_0⟩ := Kd.at_int (Kd.R_reads' HO_3.out).2.2 x6_4 p378 q378
                                            cases e378
                                            replace p378 := eq_true p378
                                            replace q378 := eq_true q378
                                            have p379 : 0 ≤ (x6_4 : Int) := of_decide_eq_true (by first | (with_reducible assumption) | assumption)
                                            have q379 : x6_4 < (t374.length : Int) := of_decide_eq_true (by first | (with_reducible assumption) | assumption)
                                            obtain ⟨ad379, e379, hx379_0⟩ := Kd.at_int (Kd.R_reads' HO_3.out).2.2 x6_4 p379 q379
                                            obtain rfl : ad378 = ad379 := (by injection e379)
                                            replace p379 := eq_true p379
                                            replace q379 := eq_true q379
                                            have p380 : 0 ≤ ((ji14) : Int) := of_decide_eq_true (by first | (with_reducible assumption) | assumption)
                                            have q380 : (ji14) < (t374.length : Int) := of_decide_eq_true (by first | (with_reducible assumption) | assumption)
                                            obtain ⟨ad380, e380, hx380_0⟩ := Kd.at_int (Kd.R_reads' HO_3.out).2.2 (ji14) p380 q380
                                            obtain rfl : ad378 = ad380 := (by injection e380)
                                            replace p380 := eq_true p380
                                            replace q380 := eq_true q380
                                            have p381 : 0 ≤ ((ji14) : Int) := of_decide_eq_true (by first | (with_reducible assumption) | assumption)
                                            have q381 : (ji14) < (t374.length : Int) := of_decide_eq_true (by first | (with_reducible assumption) | assumption)
                                            obtain ⟨ad381, e381, hx381_0⟩ := Kd.at_int (Kd.R_reads' HO_3.out).2.2 (ji14) p381 q381
                                            obtain rfl : ad378 = ad381 := (by injection e381)
                                            replace p381 := eq_true p381
                                            replace q381 := eq_true q381
                                            have p382 : 0 ≤ (x6_4 : Int) := of_decide_eq_true (by first | (with_reducible assumption) | assumption)
                                            have q382 : x6_4 < (t374.length : Int) := of_decide_eq_true (by first | (with_reducible assumption) | assumption)
                                            obtain ⟨ad382, e382, hx382_0⟩ := Kd.at_int (Kd.R_reads' HO_3.out).2.2 x6_4 p382 q382
                                            obtain rfl : ad378 = ad382 := (by injection e382)
                                            replace p382 := eq_true p382
                                            replace q382 := eq_true q382
                                            have p383 : 0 ≤ (x6_4 : Int) := of_decide_eq_true (by first | (with_reducible assumption) | assumption)
                                            have q383 : x6_4 < (t374.length : Int) := of_decide_eq_true (by first | (with_reducible assumption) | assumption)
                                            obtain ⟨ad383, e383, hx383_0⟩ := Kd.at_int (Kd.R_reads' HO_3.out).2.2 x6_4 p383 q383
                                            obtain rfl : ad378 = ad383 := (by injection e383)
                                            replace p383 := eq_true p383
                                            replace q383 := eq_true q383
                                            have p384 : 0 ≤ (x6_4 : Int) := of_decide_eq_true (by first | (with_reducible assumption) | assumption)
                                            have q384 : x6_4 < (t374.length : Int) := of_decide_eq_true (by first | (with_reducible assumption) | assumption)
                                            obtain ⟨ad384, e384, hx384_0⟩ := Kd.at_int (Kd.R_reads' HO_3.out).2.2 x6_4 p384 q384
                                            obtain rfl : ad378 = ad384 := (by injection e384)
                                            replace p384 := eq_true p384
                                            replace q384 := eq_true q384
                                            have p385 : 0 ≤ ((ji22) : Int) := of_decide_eq_true (by first | (with_reducible assumption) | assumption)
                                            have q385 : (ji22) < (t374.length : Int) := of_decide_eq_true (by first | (with_reducible assumption) | assumption)
                                            obtain ⟨ad385, e385, hx385_0⟩ := Kd.at_int (Kd.R_reads' HO_3.out).2.2 (ji22) p385 q385
                                            obtain rfl : ad378 = ad385 := (by injection e385)
                                            replace p385 := eq_true p385
                                            replace q385 := eq_true q385
                                            go_wp2
                                            repeat (go_quiet (fail); try go_wp2)
                                            go_ret
                                            exact ⟨by first | rfl | (simp [errW_none, errW_some] <;> rfl) | (simp only [← hji14, ← hji22]; first | rfl | (simp [errW_none, errW_some] <;> rfl)) | (simp [*, errW_none, errW_some] <;> rfl), by repeat (first | (with_reducible first | exact HB.out | apply below_alloc | apply pw_below_drewN | apply below_drew1) | exact HB.out)⟩
                                          · rw [if_neg c27] at H
                                            have c27b0 : decide (33554432 < (wrap64 ((wrap64 ((wrap64 ((rd t374 x6_4) * (rd t374 x6_4))) + (wrap64 ((rd t374 (ji14)) * (rd t374 (ji14)))))) - 17592186044416))) = false := decide_eq_false c27
                                            clear c27
                                            by_cases c29 : (wrap64 ((wrap64 ((wrap64 ((rd t374 x6_4) * (rd t374 x6_4))) + (wrap64 ((rd t374 (ji14)) * (rd t374 (ji14)))))) - 17592186044416)) < (-33554432)
                                            · rw [if_pos c29] at H
                                              have c29b0 : decide ((wrap64 ((wrap64 ((wrap64 ((rd t374 x6_4) * (rd t374 x6_4))) + (wrap64 ((rd t374 (ji14)) * (rd t374 (ji14)))))) - 17592186044416)) < (-33554432)) = true := decide_eq_true c29
                                              clear c29
                                              obtain rfl := Option.some.inj H
                                              obtain ⟨Ao30, co30, eo30⟩ := Kd.R_slice HO_3.out
                                              subst eo30
                                              have p378 : 0 ≤ (x6_4 : Int) := of_decide_eq_true (by first | (with_reducible assumption) | assumption)
                                              have q378 : x6_4 < (t374.length : Int) := of_decide_eq_true (by first | (with_reducible assumption) | assumption)
                                              obtain ⟨ad378, e378, hx378_0⟩ := Kd.at_int (Kd.R_reads' HO_3.out).2.2 x6_4 p378 q378
                                              cases e378
                                              replace p378 := eq_true p378
                                              replace q378 := eq_true q378
                                              have p379 : 0 ≤ (x6_4 : Int) := of_decide_eq_true (by first | (with_reducible assumption) | assumption)
                                              have q379 : x6_4 < (t374.length : Int) := of_decide_eq_true (by first | (with_reducible assumption) | assumption)
                                              obtain ⟨ad379, e379, hx379_0⟩ := Kd.at_int (Kd.R_reads' HO_3.out).2.2 x6_4 p379 q379
                                              obtain rfl : ad378 = ad379 := (by injection e379)
                                              replace p379 := eq_true p379
                                              replace q379 := eq_true q379
                                              have p380 : 0 ≤ ((ji14) : Int) := of_decide_eq_true (by first | (with_reducible assumption) | assumption)
                                              have q380 : (ji14) < (t374.length : Int) := of_decide_eq_true (by first | (with_reducible assumption) | assumption)
                                              obtain ⟨ad380, e380, hx380_0⟩ := Kd.at_int (Kd.R_reads' HO_3.out).2.2 (ji14) p380 q380
                                              obtain rfl : ad378 = ad380 := (by injection e380)
                                              replace p380 := eq_true p380
                                              replace q380 := eq_true q380
                                              have p381 : 0 ≤ ((ji14) : Int) := of_decide_eq_true (by first | (with_reducible assumption) | assumption)
                                              have q381 : (ji14) < (t374.length : Int) := of_decide_eq_true (by first | (with_reducible assumption) | assumption)
                                              obtain ⟨ad381, e381, hx381_0⟩ := Kd.at_int (Kd.R_reads' HO_3.out).2.2 (ji14) p381 q381
                                              obtain rfl : ad378 = ad381 := (by injection e381)
                                              replace p381 := eq_true p381
                                              replace q381 := eq_true q381
                                              have p382 : 0 ≤ (x6_4 : Int) := of_decide_eq_true (by first | (with_reducible assumption) | assumption)
                                              have q382 : x6_4 < (t374.length : Int) := of_decide_eq_true (by first | (with_reducible assumption) | assumption)
                                              obtain ⟨ad382, e382, hx382_0⟩ := Kd.at_int (Kd.R_reads' HO_3.out).2.2 x6_4 p382 q382
                                              obtain rfl : ad378 = ad382 := (by injection e382)
                                              replace p382 := eq_true p382
                                              replace q382 := eq_true q382
                                              have p383 : 0 ≤ (x6_4 : Int) := of_decide_eq_true (by first | (with_reducible assumption) | assumption)
                                              have q383 : x6_4 < (t374.length : Int) := of_decide_eq_true (by first | (with_reducible assumption) | assumption)
                                              obtain ⟨ad383, e383, hx383_0⟩ := Kd.at_int (Kd.R_reads' HO_3.out).2.2 x6_4 p383 q383
                                              obtain rfl : ad378 = ad383 := (by injection e383)
                                              replace p383 := eq_true p383
                                              replace q383 := eq_true q383
                                              have p384 : 0 ≤ (x6_4 : Int) := of_decide_eq_true (by first | (with_reducible assumption) | assumption)
                                              have q384 : x6_4 < (t374.length : Int) := of_decide_eq_true (by first | (with_reducible assumption) | assumption)
                                              obtain ⟨ad384, e384, hx384_0⟩ := Kd.at_int (Kd.R_reads' HO_3.out).2.2 x6_4 p384 q384
                                              obtain rfl : ad378 = ad384 := (by injection e384)
                                              replace p384 := eq_true p384
                                              replace q384 := eq_true q384
                                              have p385 : 0 ≤ ((ji22) : Int) := of_decide_eq_true (by first | (with_reducible assumption) | assumption)
                                              have q385 : (ji22) < (t374.length : Int) := of_decide_eq_true (by first | (with_reducible assumption) | assumption)
                                              obtain ⟨ad385, e385, hx385_0⟩ := Kd.at_int (Kd.R_reads' HO_3.out).2.2 (ji22) p385 q385
                                              obtain rfl : ad378 = ad385 := (by injection e385)
                                              replace p385 := eq_true p385
                                              replace q385 := eq_true q385
                                              go_wp2
                                              repeat (go_quiet (fail); try go_wp2)
                                              go_ret
                                              exact ⟨by first | rfl | (simp [errW_none, errW_some] <;> rfl) | (simp only [← hji14, ← hji22]; first | rfl | (simp [errW_none, errW_some] <;> rfl)) | (simp [*, errW_none, errW_some] <;> rfl), by repeat (first | (with_reducible first | exact HB.out | apply below_alloc | apply pw_below_drewN | apply below_drew1) | exact HB.out)⟩
                                            · rw [if_neg c29] at H
                                              have c29b0 : decide ((wrap64 ((wrap64 ((wrap64 ((rd t374 x6_4) * (rd t374 x6_4))) + (wrap64 ((rd t374 (ji14)) * (rd t374 (ji14)))))) - 17592186044416)) < (-33554432)) = false := decide_eq_false c29
                                              clear c29
                                              have H' := Aside0.mk H
                                              clear H
                                              obtain ⟨Ao31, co31, eo31⟩ := Kd.R_slice HO_3.out
                                              subst eo31
                                              have p378 : 0 ≤ (x6_4 : Int) := of_decide_eq_true (by first | (with_reducible assumption) | assumption)
                                              have q378 : x6_4 < (t374.length : Int) := of_decide_eq_true (by first | (with_reducible assumption) | assumption)
                                              obtain ⟨ad378, e378, hx378_0⟩ := Kd.at_int (Kd.R_reads' HO_3.out).2.2 x6_4 p378 q378
                                              cases e378
                                              replace p378 := eq_true p378
                                              replace q378 := eq_true q378
                                              have p379 : 0 ≤ (x6_4 : Int) := of_decide_eq_true (by first | (with_reducible assumption) | assumption)
                                              have q379 : x6_4 < (t374.length : Int) := of_decide_eq_true (by first | (with_reducible assumption) | assumption)
                                              obtain ⟨ad379, e379, hx379_0⟩ := Kd.at_int (Kd.R_reads' HO_3.out).2.2 x6_4 p379 q379
                                              obtain rfl : ad378 = ad379 := (by injection e379)
                                              replace p379 := eq_true p379
                                              replace q379 := eq_true q379
                                              have p380 : 0 ≤ ((ji14) : Int) := of_decide_eq_true (by first | (with_reducible assumption) | assumption)
                                              have q380 : (ji14) < (t374.length : Int) := of_decide_eq_true (by first | (with_reducible assumption) | assumption)
                                              obtain ⟨ad380, e380, hx380_0⟩ := Kd.at_int (Kd.R_reads' HO_3.out).2.2 (ji14) p380 q380
                                              obtain rfl : ad378 = ad380 := (by injection e380)
                                              replace p380 := eq_true p380
                                              replace q380 := eq_true q380
                                              have p381 : 0 ≤ ((ji14) : Int) := of_decide_eq_true (by first | (with_reducible assumption) | assumption)
                                              have q381 : (ji14) < (t374.length : Int) := of_decide_eq_true (by first | (with_reducible assumption) | assumption)
                                              obtain ⟨ad381, e381, hx381_0⟩ := Kd.at_int (Kd.R_reads' HO_3.out).2.2 (ji14) p381 q381
                                              obtain rfl : ad378 = ad381 := (by injection e381)
                                              replace p381 := eq_true p381
                                              replace q381 := eq_true q381
                                              have p382 : 0 ≤ (x6_4 : Int) := of_decide_eq_true (by first | (with_reducible assumption) | assumption)
                                              have q382 : x6_4 < (t374.length : Int) := of_decide_eq_true (by first | (with_reducible assumption) | assumption)
                                              obtain ⟨ad382, e382, hx382_0⟩ := Kd.at_int (Kd.R_reads' HO_3.out).2.2 x6_4 p382 q382
                                              obtain rfl : ad378 = ad382 := (by injection e382)
                                              replace p382 := eq_true p382
                                              replace q382 := eq_true q382
                                              have p383 : 0 ≤ (x6_4 : Int) := of_decide_eq_true (by first | (with_reducible assumption) | assumption)
                                              have q383 : x6_4 < (t374.length : Int) := of_decide_eq_true (by first | (with_reducible assumption) | assumption)
                                              obtain ⟨ad383, e383, hx383_0⟩ := Kd.at_int (Kd.R_reads' HO_3.out).2.2 x6_4 p383 q383
                                              obtain rfl : ad378 = ad383 := (by injection e383)
                                              replace p383 := eq_true p383
                                              replace q383 := eq_true q383
                                              have p384 : 0 ≤ (x6_4 : Int) := of_decide_eq_true (by first | (with_reducible assumption) | assumption)
                                              have q384 : x6_4 < (t374.length : Int) := of_decide_eq_true (by first | (with_reducible assumption) | assumption)
                                              obtain ⟨ad384, e384, hx384_0⟩ := Kd.at_int (Kd.R_reads' HO_3.out).2.2 x6_4 p384 q384
                                              obtain rfl : ad378 = ad384 := (by injection e384)
                                              replace p384 := eq_true p384
                                              replace q384 := eq_true q384
                                              have p385 : 0 ≤ ((ji22) : Int) := of_decide_eq_true (by first | (with_reducible assumption) | assumption)
                                              have q385 : (ji22) < (t374.length : Int) := of_decide_eq_true (by first | (with_reducible assumption) | assumption)
                                              obtain ⟨ad385, e385, hx385_0⟩ := Kd.at_int (Kd.R_reads' HO_3.out).2.2 (ji22) p385 q385
                                              obtain rfl : ad378 = ad385 := (by injection e385)
                                              replace p385 := eq_true p385
                                              replace q385 := eq_true q385
                                              go_wp2
                                              repeat (go_quiet (fail); try go_wp2)
                                              go_roundg k4
                                              case measure => have := HK1.out; have := HJ4.out; have := HJ7.out; have := HK4.out; omega
                                              case rel => exact ⟨(wrap64 (x6_4 + 1)), (by first | rfl | (simp; done) | (simp [*]; done)), H', ⟨by have := HK1.out; have := HJ4.out; have := HJ7.out; have := HK4.out; omega⟩, ⟨by (with_reducible repeat (first | apply Kd.R_alloc | apply Kd.R_drewN | apply Kd.R_drew)); exact HO_3.out⟩, ⟨by repeat (first | (with_reducible first | exact HB.out | apply below_alloc | apply pw_below_drewN | apply below_drew1) | exact HB.out)⟩⟩
                                      · rw [if_neg c24] at H
                                        exact absurd H (by simp)
                                    · rw [if_neg c23] at H
                                      exact absurd H (by simp)
                                  · rw [if_neg c21] at H
                                    have c21b0 : decide (0 < x6_4) = false := decide_eq_false c21
                                    clear c21
                                    by_cases c32 : (wrap64 ((wrap64 ((wrap64 ((rd t374 x6_4) * (rd t374 x6_4))) + (wrap64 ((rd t374 (ji14)) * (rd t374 (ji14)))))) - 17592186044416)) > 33554432
                                    · rw [if_pos c32] at H
                                      have c32b0 : decide (33554432 < (wrap64 ((wrap64 ((wrap64 ((rd t374 x6_4) * (rd t374 x6_4))) + (wrap64 ((rd t374 (ji14)) * (rd t374 (ji14)))))) - 17592186044416))) = true := decide_eq_true c32
                                      clear c32
                                      obtain rfl := Option.some.inj H
                                      obtain ⟨Ao33, co33, eo33⟩ := Kd.R_slice HO_3.out
                                      subst eo33
                                      have p378 : 0 ≤ (x6_4 : Int) := of_decide_eq_true (by first | (with_reducible assumption) | assumption)
                                      have q378 : x6_4 < (t374.length : Int) := of_decide_eq_true (by first | (with_reducible assumption) | assumption)
                                      obtain ⟨ad378, e378, hx378_0⟩ := Kd.at_int (Kd.R_reads' HO_3.out).2.2 x6_4 p378 q378
                                      cases e378
                                      replace p378 := eq_true p378
                                      replace q378 := eq_true q378
                                      have p379 : 0 ≤ (x6_4 : Int) := of_decide_eq_true (by first | (with_reducible assumption) | assumption)
                                      have q379 : x6_4 < (t374.length : Int) := of_decide_eq_true (by first | (with_reducible assumption) | assumption)
                                      obtain ⟨ad379, e379, hx379_0⟩ := Kd.at_int (Kd.R_reads' HO_3.out).2.2 x6_4 p379 q379
                                      obtain rfl : ad378 = ad379 := (by injection e379)
                                      replace p379 := eq_true p379
                                      replace q379 := eq_true q379
                                      have p380 : 0 ≤ ((ji14) : Int) := of_decide_eq_true (by first | (with_reducible assumption) | assumption)
                                      have q380 : (ji14) < (t374.length : Int) := of_decide_eq_true (by first | (with_reducible assumption) | assumption)
                                      obtain ⟨ad380, e380, hx380_0⟩ := Kd.at_int (Kd.R_reads' HO_3.out).2.2 (ji14) p380 q380
                                      obtain rfl : ad378 = ad380 := (by injection e380)
                                      replace p380 := eq_true p380
                                      replace q380 := eq_true q380
                                      have p381 : 0 ≤ ((ji14) : Int) := of_decide_eq_true (by first | (with_reducible assumption) | assumption)
                                      have q381 : (ji14) < (t374.length : Int) := of_decide_eq_true (by first | (with_reducible assumption) | assumption)
                                      obtain ⟨ad381, e381, hx381_0⟩ := Kd.at_int (Kd.R_reads' HO_3.out).2.2 (ji14) p381 q381
                                      obtain rfl : ad378 = ad381 := (by injection e381)
                                      replace p381 := eq_true p381
                                      replace q381 := eq_true q381
                                      have p382 : 0 ≤ (x6_4 : Int) := of_decide_eq_true (by first | (with_reducible assumption) | assumption)
                                      have q382 : x6_4 < (t374.length : Int) := of_decide_eq_true (by first | (with_reducible assumption) | assumption)
                                      obtain ⟨ad382, e382, hx382_0⟩ := Kd.at_int (Kd.R_reads' HO_3.out).2.2 x6_4 p382 q382
                                      obtain rfl : ad378 = ad382 := (by injection e382)
                                      replace p382 := eq_true p382
                                      replace q382 := eq_true q382
                                      have p383 : 0 ≤ (x6_4 : Int) := of_decide_eq_true (by first | (with_reducible assumption) | assumption)
                                      have q383 : x6_4 < (t374.length : Int) := of_decide_eq_true (by first | (with_reducible assumption) | assumption)
                                      obtain ⟨ad383, e383, hx383_0⟩ := Kd.at_int (Kd.R_reads' HO_3.out).2.2 x6_4 p383 q383
                                      obtain rfl : ad378 = ad383 := (by injection e383)
                                      replace p383 := eq_true p383
                                      replace q383 := eq_true q383
                                      go_wp2
                                      repeat (go_quiet (fail); try go_wp2)
                                      go_ret
                                      exact ⟨by first | rfl | (simp [errW_none, errW_some] <;> rfl) | (simp only [← hji14]; first | rfl | (simp [errW_none, errW_some] <;> rfl)) | (simp [*, errW_none, errW_some] <;> rfl), by repeat (first | (with_reducible first | exact HB.out | apply below_alloc | apply pw_below_drewN | apply below_drew1) | exact HB.out)⟩
                                    · rw [if_neg c32] at H
                                      have c32b0 : decide (33554432 < (wrap64 ((wrap64 ((wrap64 ((rd t374 x6_4) * (rd t374 x6_4))) + (wrap64 ((rd t374 (ji14)) * (rd t374 (ji14)))))) - 17592186044416))) = false := decide_eq_false c32
                                      clear c32
                                      by_cases c34 : (wrap64 ((wrap64 ((wrap64 ((rd t374 x6_4) * (rd t374 x6_4))) + (wrap64 ((rd t374 (ji14)) * (rd t374 (ji14)))))) - 17592186044416)) < (-33554432)
                                      · rw [if_pos c34] at H
                                        have c34b0 : decide ((wrap64 ((wrap64 ((wrap64 ((rd t374 x6_4) * (rd t374 x6_4))) + (wrap64 ((rd t374 (ji14)) * (rd t374 (ji14)))))) - 17592186044416)) < (-33554432)) = true := decide_eq_true c34
                                        clear c34
                                        obtain rfl := Option.some.inj H
                                        obtain ⟨Ao35, co35, eo35⟩ := Kd.R_slice HO_3.out
                                        subst eo35
                                        have p378 : 0 ≤ (x6_4 : Int) := of_decide_eq_true (by first | (with_reducible assumption) | assumption)
                                        have q378 : x6_4 < (t374.length : Int) := of_decide_eq_true (by first | (with_reducible assumption) | assumption)
                                        obtain ⟨ad378, e378, hx378_0⟩ := Kd.at_int (Kd.R_reads' HO_3.out).2.2 x6_4 p378 q378
                                        cases e378
                                        replace p378 := eq_true p378
                                        replace q378 := eq_true q378
                                        have p379 : 0 ≤ (x6_4 : Int) := of_decide_eq_true (by first | (with_reducible assumption) | assumption)
                                        have q379 : x6_4 < (t374.length : Int) := of_decide_eq_true (by first | (with_reducible assumption) | assumption)
                                        obtain ⟨ad379, e379, hx379_0⟩ := Kd.at_int (Kd.R_reads' HO_3.out).2.2 x6_4 p379 q379
                                        obtain rfl : ad378 = ad379 := (by injection e379)
                                        replace p379 := eq_true p379
                                        replace q379 := eq_true q379
                                        have p380 : 0 ≤ ((ji14) : Int) := of_decide_eq_true (by first | (with_reducible assumption) | assumption)
                                        have q380 : (ji14) < (t374.length : Int) := of_decide_eq_true (by first | (with_reducible assumption) | assumption)
                                        obtain ⟨ad380, e380, hx380_0⟩ := Kd.at_int (Kd.R_reads' HO_3.out).2.2 (ji14) p380 q380
                                        obtain rfl : ad378 = ad380 := (by injection e380)
                                        replace p380 := eq_true p380
                                        replace q380 := eq_true q380
                                        have p381 : 0 ≤ ((ji14) : Int) := of_decide_eq_true (by first | (with_reducible assumption) | assumption)
                                        have q381 : (ji14) < (t374.length : Int) := of_decide_eq_true (by first | (with_reducible assumption) | assumption)
                                        obtain ⟨ad381, e381, hx381_0⟩ := Kd.at_int (Kd.R_reads' HO_3.out).2.2 (ji14) p381 q381
                                        obtain rfl : ad378 = ad381 := (by injection e381)
                                        replace p381 := eq_true p381
                                        replace q381 := eq_true q381
                                        have p382 : 0 ≤ (x6_4 : Int) := of_decide_eq_true (by first | (with_reducible assumption) | assumption)
                                        have q382 : x6_4 < (t374.length : Int) := of_decide_eq_true (by first | (with_reducible assumption) | assumption)
                                        obtain ⟨ad382, e382, hx382_0⟩ := Kd.at_int (Kd.R_reads' HO_3.out).2.2 x6_4 p382 q382
                                        obtain rfl : ad378 = ad382 := (by injection e382)
                                        replace p382 := eq_true p382
                                        replace q382 := eq_true q382
                                        have p383 : 0 ≤ (x6_4 : Int) := of_decide_eq_true (by first | (with_reducible assumption) | assumption)
                                        have q383 : x6_4 < (t374.length : Int) := of_decide_eq_true (by first | (with_reducible assumption) | assumption)
                                        obtain ⟨ad383, e383, hx383_0⟩ := Kd.at_int (Kd.R_reads' HO_3.out).2.2 x6_4 p383 q383
                                        obtain rfl : ad378 = ad383 := (by injection e383)
                                        replace p383 := eq_true p383
                                        replace q383 := eq_true q383
                                        go_wp2
                                        repeat (go_quiet (fail); try go_wp2)
                                        go_ret
                                        exact ⟨by first | rfl | (simp [errW_none, errW_some] <;> rfl) | (simp only [← hji14]; first | rfl | (simp [errW_none, errW_some] <;> rfl)) | (simp [*, errW_none, errW_some] <;> rfl), by repeat (first | (with_reducible first | exact HB.out | apply below_alloc | apply pw_below_drewN | apply below_drew1) | exact HB.out)⟩
                                      · rw [if_neg c34] at H
                                        have c34b0 : decide ((wrap64 ((wrap64 ((wrap64 ((rd t374 x6_4) * (rd t374 x6_4))) + (wrap64 ((rd t374 (ji14)) * (rd t374 (ji14)))))) - 17592186044416)) < (-33554432)) = false := decide_eq_false c34
                                        clear c34
                                        have H' := Aside0.mk H
                                        clear H
                                        obtain ⟨Ao36, co36, eo36⟩ := Kd.R_slice HO_3.out
                                        subst eo36
                                        have p378 : 0 ≤ (x6_4 : Int) := of_decide_eq_true (by first | (with_reducible assumption) | assumption)
                                        have q378 : x6_4 < (t374.length : Int) := of_decide_eq_true (by first | (with_reducible assumption) | assumption)
                                        obtain ⟨ad378, e378, hx378_0⟩ := Kd.at_int (Kd.R_reads' HO_3.out).2.2 x6_4 p378 q378
                                        cases e378
                                        replace p378 := eq_true p378
                                        replace q378 := eq_true q378
                                        have p379 : 0 ≤ (x6_4 : Int) := of_decide_eq_true (by first | (with_reducible assumption) | assumption)
                                        have q379 : x6_4 < (t374.length : Int) := of_decide_eq_true (by first | (with_reducible assumption) | assumption)
                                        obtain ⟨ad379, e379, hx379_0⟩ := Kd.at_int (Kd.R_reads' HO_3.out).2.2 x6_4 p379 q379
                                        obtain rfl : ad378 = ad379 := (by injection e379)
                                        replace p379 := eq_true p379
                                        replace q379 := eq_true q379
                                        have p380 : 0 ≤ ((ji14) : Int) := of_decide_eq_true (by first | (with_reducible assumption) | assumption)
                                        have q380 : (ji14) < (t374.length : Int) := of_decide_eq_true (by first | (with_reducible assumption) | assumption)
                                        obtain ⟨ad380, e380, hx380_0⟩ := Kd.at_int (Kd.R_reads' HO_3.out).2.2 (ji14) p380 q380
                                        obtain rfl : ad378 = ad380 := (by injection e380)
                                        replace p380 := eq_true p380
                                        replace q380 := eq_true q380
                                        have p381 : 0 ≤ ((ji14) : Int) := of_decide_eq_true (by first | (with_reducible assumption) | assumption)
                                        have q381 : (ji14) < (t374.length : Int) := of_decide_eq_true (by first | (with_reducible assumption) | assumption)
                                        obtain ⟨ad381, e381, hx381_0⟩ := Kd.at_int (Kd.R_reads' HO_3.out).2.2 (ji14) p381 q381
                                        obtain rfl : ad378 = ad381 := (by injection e381)
                                        replace p381 := eq_true p381
                                        replace q381 := eq_true q381
                                        have p382 : 0 ≤ (x6_4 : Int) := of_decide_eq_true (by first | (with_reducible assumption) | assumption)
                                        have q382 : x6_4 < (t374.length : Int) := of_decide_eq_true (by first | (with_reducible assumption) | assumption)
                                        obtain ⟨ad382, e382, hx382_0⟩ := Kd.at_int (Kd.R_reads' HO_3.out).2.2 x6_4 p382 q382
                                        obtain rfl : ad378 = ad382 := (by injection e382)
                                        replace p382 := eq_true p382
                                        replace q382 := eq_true q382
                                        have p383 : 0 ≤ (x6_4 : Int) := of_decide_eq_true (by first | (with_reducible assumption) | assumption)
                                        have q383 : x6_4 < (t374.length : Int) := of_decide_eq_true (by first | (with_reducible assumption) | assumption)
                                        obtain ⟨ad383, e383, hx383_0⟩ := Kd.at_int (Kd.R_reads' HO_3.out).2.2 x6_4 p383 q383
                                        obtain rfl : ad378 = ad383 := (by injection e383)
                                        replace p383 := eq_true p383
                                        replace q383 := eq_true q383
                                        go_wp2
                                        repeat (go_quiet (fail); try go_wp2)
                                        go_roundg k4
                                        case measure => have := HK1.out; have := HJ4.out; have := HJ7.out; have := HK4.out; omega
                                        case rel => exact ⟨(wrap64 (x6_4 + 1)), (by first | rfl | (simp; done) | (simp [*]; done)), H', ⟨by have := HK1.out; have := HJ4.out; have := HJ7.out; have := HK4.out; omega⟩, ⟨by (with_reducible repeat (first | apply Kd.R_alloc | apply Kd.R_drewN | apply Kd.R_drew)); exact HO_3.out⟩, ⟨by repeat (first | (with_reducible first | exact HB.out | apply below_alloc | apply pw_below_drewN | apply below_drew1) | exact HB.out)⟩⟩
                            · rw [if_neg c16] at H
                              exact absurd H (by simp)
                          · rw [if_neg c15] at H
                            exact absurd H (by simp)
                        · rw [if_neg c13] at H
                          exact absurd H (by simp)
                      · rw [if_neg c12] at H
                        have c12b0 : decide (x6_4 < (t374.length : Int)) = false := decide_eq_false c12
                        clear c12
                        have H' := Aside0.mk H
                        clear H
                        obtain ⟨Ao37, co37, eo37⟩ := Kd.R_slice HO_3.out
                        subst eo37
                        go_wp2
                        repeat (go_quiet (fail); try go_wp2)
                        go_roundg k4
                        case measure => have := HK1.out; have := HJ4.out; have := HJ7.out; have := HK4.out; omega
                        case rel => exact ⟨(wrap64 (x2_1 + 1)), (by first | rfl | (simp; done) | (simp [*]; done)), H', ⟨by have := HK1.out; have := HJ4.out; have := HJ7.out; have := HK4.out; omega⟩, ⟨by repeat (first | (with_reducible first | exact HB.out | apply below_alloc | apply pw_below_drewN | apply below_drew1) | exact HB.out)⟩⟩
      · rw [if_neg c3] at H
        have c3b0 : decide (x2_1 < 4) = false := decide_eq_false c3
        clear c3
        obtain rfl := Option.some.inj H
        go_wp2
        repeat (go_quiet (fail); try go_wp2)
        go_ret
        exact ⟨by first | rfl | (simp [errW_none, errW_some] <;> rfl) | (simp [*, errW_none, errW_some] <;> rfl), by repeat (first | (with_reducible first | exact HB.out | apply below_alloc | apply pw_below_drewN | apply below_drew1) | exact HB.out)⟩

/-- THE ONE PURE STATEMENT of reedpipelaw05_WindowPower: yours. -/
def reedpipelaw05_WindowPower.Pure : Prop := ∃ k, reedpipelaw05_WindowPower.f k  = some true
theorem reedpipelaw05_WindowPower.walk (P : reedpipelaw05_WindowPower.Pure)  (w : World)  :
    Calls Try.prog 14 #[] w fun e w' => e = .returned (.bool true) ∧ Below w.heap.size w w' := by
  obtain ⟨k, h⟩ := P  
  refine (reedpipelaw05_WindowPower.calls k  true w h).mono ?_
  rintro e w' ⟨rfl, hd⟩
  exact ⟨rfl, hd⟩

end Go.Proofs.Ytpoppdaaodmicaa.Q
