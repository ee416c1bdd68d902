-- Written by a program of this session's (wip/mk.py, over the kit's print.py); Lean checks it.
import Derived.Test.YtpoppdaaodmicaaQ0
import Derived.Test.YtpoppdaaodmicaaQ29
import Derived.Test.YtpoppdaaodmicaaQ30
import Derived.Test.YtpoppdaaodmicaaQ31
namespace Go.Proofs.Ytpoppdaaodmicaa.Q
open Go.RowKit Go.Proofs.YtpoppdaaodmicaaW.PrintWords Go.Proofs.YtpoppdaaodmicaaW.PrintLast Go.Proofs.YtpoppdaaodmicaaW.PrintMore
attribute [local go_sem] max2_int min2_int max_two min_two max_three min_three max_four min_four   -- for this text's walks alone
set_option linter.unusedVariables false
set_option linter.unusedSimpArgs false

/-! ### reedpipelaw04_TrigCircle: function 7 -/
mutual
def reedpipelaw04_TrigCircle.l0 : Nat → Bool → Int → Option (Bool)
  | 0, _, _ => none
  | k + 1, x1, x2 => if x2 < 2048 then ((trig_Cos.f k x2).bind fun t144 => ((trig_Sin.f k x2).bind fun t145 => (if (wrap64 ((wrap64 ((wrap64 (t144 * t144)) + (wrap64 (t145 * t145)))) - 4503599627370496)) > 268435456 then (reedpipelaw04_TrigCircle.j1 k x1 x2 t144 true) else (if (wrap64 ((wrap64 ((wrap64 (t144 * t144)) + (wrap64 (t145 * t145)))) - 4503599627370496)) < (-268435456) then (reedpipelaw04_TrigCircle.j1 k x1 x2 t144 true) else (if t144 > 67108864 then (reedpipelaw04_TrigCircle.j1 k x1 x2 t144 true) else (reedpipelaw04_TrigCircle.j1 k x1 x2 t144 (decide (t144 < (-67108864))))))))) else (some x1)
def reedpipelaw04_TrigCircle.j1 : Nat → Bool → Int → Int → Bool → Option (Bool)
  | 0, _, _, _, _ => none
  | k + 1, x1, x2, x3, x36 => if x36 = true then (some false) else (if x2 < 1024 then ((trig_Cos.f k (wrap64 (x2 + 1))).bind fun t146 => (if t146 ≥ x3 then (some false) else (reedpipelaw04_TrigCircle.l0 k x1 (wrap64 (x2 + 1))))) else (reedpipelaw04_TrigCircle.l0 k x1 (wrap64 (x2 + 1))))
end
def reedpipelaw04_TrigCircle.f (k : Nat)  : Option (Bool) := (reedpipelaw04_alive.f k).bind fun t143 => (reedpipelaw04_TrigCircle.l0 k t143 0)
theorem reedpipelaw04_TrigCircle.mono_l : ∀ k, (∀ y0 y1, LeO (reedpipelaw04_TrigCircle.l0 k y0 y1) (reedpipelaw04_TrigCircle.l0 (k + 1) y0 y1)) ∧ (∀ y0 y1 y2 y3, LeO (reedpipelaw04_TrigCircle.j1 k y0 y1 y2 y3) (reedpipelaw04_TrigCircle.j1 (k + 1) y0 y1 y2 y3))
  | 0 => ⟨fun _ _ r h => by simp [reedpipelaw04_TrigCircle.l0] at h, fun _ _ _ _ r h => by simp [reedpipelaw04_TrigCircle.j1] at h⟩
  | k + 1 => by
    obtain ⟨ih0, ih1⟩ := reedpipelaw04_TrigCircle.mono_l k
    refine ⟨?_, ?_⟩
    · intro y0 y1
      unfold reedpipelaw04_TrigCircle.l0
      repeat' first
      | (with_reducible exact ih0 _ _)
      | (with_reducible exact ih1 _ _ _ _)
      | (with_reducible exact reedpipelaw04_alive.mono _)
      | (with_reducible exact trig_Cos.mono _ _)
      | (with_reducible exact trig_Sin.mono _ _)
      | (with_reducible exact LeO.refl _)
      | (with_reducible exact LeO.none _)
      | (with_reducible refine LeO.ite ?_ ?_)
      | (with_reducible refine LeO.bind ?_ (fun _ => ?_))
      | exact ih0 _ _
      | exact ih1 _ _ _ _
      | exact reedpipelaw04_alive.mono _
      | exact trig_Cos.mono _ _
      | exact trig_Sin.mono _ _
      | exact LeO.none _
      | refine LeO.ite ?_ ?_
      | refine LeO.bind ?_ (fun _ => ?_)
    · intro y0 y1 y2 y3
      unfold reedpipelaw04_TrigCircle.j1
      repeat' first
      | (with_reducible exact ih0 _ _)
      | (with_reducible exact ih1 _ _ _ _)
      | (with_reducible exact reedpipelaw04_alive.mono _)
      | (with_reducible exact trig_Cos.mono _ _)
      | (with_reducible exact trig_Sin.mono _ _)
      | (with_reducible exact LeO.refl _)
      | (with_reducible exact LeO.none _)
      | (with_reducible refine LeO.ite ?_ ?_)
      | (with_reducible refine LeO.bind ?_ (fun _ => ?_))
      | exact ih0 _ _
      | exact ih1 _ _ _ _
      | exact reedpipelaw04_alive.mono _
      | exact trig_Cos.mono _ _
      | exact trig_Sin.mono _ _
      | exact LeO.none _
      | refine LeO.ite ?_ ?_
      | refine LeO.bind ?_ (fun _ => ?_)
theorem reedpipelaw04_TrigCircle.mono : ∀ k, LeO (reedpipelaw04_TrigCircle.f k ) (reedpipelaw04_TrigCircle.f (k + 1) ) := by
  intro  k
  obtain ⟨ih0, ih1⟩ := reedpipelaw04_TrigCircle.mono_l k
  unfold reedpipelaw04_TrigCircle.f
  repeat' first
      | (with_reducible exact ih0 _ _)
      | (with_reducible exact ih1 _ _ _ _)
      | (with_reducible exact reedpipelaw04_alive.mono _)
      | (with_reducible exact trig_Cos.mono _ _)
      | (with_reducible exact trig_Sin.mono _ _)
      | (with_reducible exact LeO.refl _)
      | (with_reducible exact LeO.none _)
      | (with_reducible refine LeO.ite ?_ ?_)
      | (with_reducible refine LeO.bind ?_ (fun _ => ?_))
      | exact ih0 _ _
      | exact ih1 _ _ _ _
      | exact reedpipelaw04_alive.mono _
      | exact trig_Cos.mono _ _
      | exact trig_Sin.mono _ _
      | exact LeO.none _
      | refine LeO.ite ?_ ?_
      | refine LeO.bind ?_ (fun _ => ?_)
set_option maxHeartbeats 8000000 in
set_option maxRecDepth 100000 in
theorem reedpipelaw04_TrigCircle.calls (k : Nat)  (r : Bool) (w : World) (h : reedpipelaw04_TrigCircle.f k  = some r) :
    Calls Try.prog 7 #[] w fun e w' => e = .returned (.bool r) ∧ Below w.heap.size w w' := by
  have HB := Aside0.mk (Below.refl w.heap.size w)
  have H : ((reedpipelaw04_alive.f k).bind fun t143 => (reedpipelaw04_TrigCircle.l0 k t143 0)) = some r := h
  clear h
  replace H := Option.bind_eq_some_iff.mp H
  obtain ⟨t143, A10, H⟩ := H
  replace H : (reedpipelaw04_TrigCircle.l0 k t143 0) = some r := H
  have A1 := Aside0.mk A10
  clear A10
  have H' := Aside0.mk H
  clear H
  go_enter Try.func7, Try.ntmps7
  go_wp2_with (first | ((with_reducible refine gate_callee (f := 29) rfl ?_); refine goesL_ (some 6) rfl rfl Try.func29 (by kernel_rfl) rfl #[] rfl (by (try simp only [List.map_toArray, List.map_cons, List.map_nil]); first | done | rfl | (simp only [List.length_drop, List.length_take]; rfl)) ?_; (with_reducible refine (reedpipelaw04_alive.calls k  t143 _ A1.out).mono ?_); rintro e w2 ⟨rfl, hb⟩; refine ⟨_, rfl, ?_⟩; have n0_ := Aside0.mk (below_step (by repeat (first | (with_reducible first | exact HB.out | apply below_alloc | apply pw_below_drewN | apply below_drew1) | exact HB.out)) hb); clear HB; have HB := n0_; clear n0_; (try clear hb); (try clear hb2); (try clear hk); (try clear hi)))
  go_loopg [2] k (fun kq v2 w' => ∃ (x2_1 : Int), v2 = .int .i64 x2_1 ∧ Aside0 (reedpipelaw04_TrigCircle.l0 kq t143 x2_1 = some r) ∧ Aside0 (kq ≤ k) ∧ Aside0 (Below w.heap.size w w'))
  case atStart => exact ⟨(0), (by first | rfl | (simp; done) | (simp [*]; done)), H', ⟨Nat.le_refl _⟩, ⟨by repeat (first | (with_reducible first | exact HB.out | apply below_alloc | apply pw_below_drewN | apply below_drew1) | exact HB.out)⟩⟩
  case round =>
    clear H'
    try clear c2
    try clear p2
    obtain ⟨x2_1, rfl, HA, HK1, HB⟩ := hrel
    cases gk with
    | zero => exact absurd HA.out (by simp [reedpipelaw04_TrigCircle.l0])
    | succ k1 =>
      have H := HA.out
      clear HA
      simp only [reedpipelaw04_TrigCircle.l0] at H
      by_cases c3 : x2_1 < 2048
      · rw [if_pos c3] at H
        have c3b0 : decide (x2_1 < 2048) = true := decide_eq_true c3
        clear c3
        replace H := Option.bind_eq_some_iff.mp H
        obtain ⟨t144, A40, H⟩ := H
        replace H : ((trig_Sin.f k1 x2_1).bind fun t145 => (if (wrap64 ((wrap64 ((wrap64 (t144 * t144)) + (wrap64 (t145 * t145)))) - 4503599627370496)) > 268435456 then (reedpipelaw04_TrigCircle.j1 k1 t143 x2_1 t144 true) else (if (wrap64 ((wrap64 ((wrap64 (t144 * t144)) + (wrap64 (t145 * t145)))) - 4503599627370496)) < (-268435456) then (reedpipelaw04_TrigCircle.j1 k1 t143 x2_1 t144 true) else (if t144 > 67108864 then (reedpipelaw04_TrigCircle.j1 k1 t143 x2_1 t144 true) else (reedpipelaw04_TrigCircle.j1 k1 t143 x2_1 t144 (decide (t144 < (-67108864)))))))) = some r := H
        have A4 := Aside0.mk A40
        clear A40
        replace H := Option.bind_eq_some_iff.mp H
        obtain ⟨t145, A50, H⟩ := H
        replace H : (if (wrap64 ((wrap64 ((wrap64 (t144 * t144)) + (wrap64 (t145 * t145)))) - 4503599627370496)) > 268435456 then (reedpipelaw04_TrigCircle.j1 k1 t143 x2_1 t144 true) else (if (wrap64 ((wrap64 ((wrap64 (t144 * t144)) + (wrap64 (t145 * t145)))) - 4503599627370496)) < (-268435456) then (reedpipelaw04_TrigCircle.j1 k1 t143 x2_1 t144 true) else (if t144 > 67108864 then (reedpipelaw04_TrigCircle.j1 k1 t143 x2_1 t144 true) else (reedpipelaw04_TrigCircle.j1 k1 t143 x2_1 t144 (decide (t144 < (-67108864))))))) = some r := H
        have A5 := Aside0.mk A50
        clear A50
        have HC6 := Aside0.mk H
        clear H
        go_upto_region 7 with (first | ((with_reducible refine gate_callee (f := 30) rfl ?_); refine goesL_ (some 12) rfl rfl Try.func30 (by kernel_rfl) rfl #[.int .i64 x2_1] rfl (by (try simp only [List.map_toArray, List.map_cons, List.map_nil]); first | done | rfl | (simp only [List.length_drop, List.length_take]; rfl)) ?_; (with_reducible refine (trig_Cos.calls k1 x2_1 t144 _ A4.out).mono ?_); rintro e w7 ⟨rfl, hb⟩; refine ⟨_, rfl, ?_⟩; have n0_ := Aside0.mk (below_step (by repeat (first | (with_reducible first | exact HB.out | apply below_alloc | apply pw_below_drewN | apply below_drew1) | exact HB.out)) hb); clear HB; have HB := n0_; clear n0_; (try clear hb); (try clear hb2); (try clear hk); (try clear hi)) | ((with_reducible refine gate_callee (f := 31) rfl ?_); refine goesL_ (some 14) rfl rfl Try.func31 (by kernel_rfl) rfl #[.int .i64 x2_1] rfl (by (try simp only [List.map_toArray, List.map_cons, List.map_nil]); first | done | rfl | (simp only [List.length_drop, List.length_take]; rfl)) ?_; (with_reducible refine (trig_Sin.calls k1 x2_1 t145 _ A5.out).mono ?_); rintro e w8 ⟨rfl, hb⟩; refine ⟨_, rfl, ?_⟩; have n0_ := Aside0.mk (below_step (by repeat (first | (with_reducible first | exact HB.out | apply below_alloc | apply pw_below_drewN | apply below_drew1) | exact HB.out)) hb); clear HB; have HB := n0_; clear n0_; (try clear hb); (try clear hb2); (try clear hk); (try clear hi)))
        (try simp only [Act.put, List.setIfInBounds_toArray, List.set_cons_zero, List.set_cons_succ])
        go_cut [36] (fun v36 wc => ∃ (kq : Nat) (x36_5 : Bool), v36 = .bool x36_5 ∧ Aside0 (reedpipelaw04_TrigCircle.j1 kq t143 x2_1 t144 x36_5 = some r) ∧ Aside0 (kq ≤ k1) ∧ Aside0 (Below w.heap.size w wc))
        case first =>
          have H := HC6.out
          clear HC6
          by_cases c9 : (wrap64 ((wrap64 ((wrap64 (t144 * t144)) + (wrap64 (t145 * t145)))) - 4503599627370496)) > 268435456
          · rw [if_pos c9] at H
            have c9b0 : decide (268435456 < (wrap64 ((wrap64 ((wrap64 (t144 * t144)) + (wrap64 (t145 * t145)))) - 4503599627370496))) = true := decide_eq_true c9
            clear c9
            (first | rw [c9b0] | (simp only [i64_w, i32_w]; rw [c9b0]) | skip)
            have H' := Aside0.mk H
            clear H
            go_wp2
            go_meet
            case rel => exact ⟨_, (true), (by first | rfl | (simp; done) | (simp [*]; done)), H', ⟨by have := HK1.out; first | omega | exact Nat.le_refl _⟩, ⟨by repeat (first | (with_reducible first | exact HB.out | apply below_alloc | apply pw_below_drewN | apply below_drew1) | exact HB.out)⟩⟩
          · rw [if_neg c9] at H
            have c9b0 : decide (268435456 < (wrap64 ((wrap64 ((wrap64 (t144 * t144)) + (wrap64 (t145 * t145)))) - 4503599627370496))) = false := decide_eq_false c9
            clear c9
            (first | rw [c9b0] | (simp only [i64_w, i32_w]; rw [c9b0]) | skip)
            by_cases c10 : (wrap64 ((wrap64 ((wrap64 (t144 * t144)) + (wrap64 (t145 * t145)))) - 4503599627370496)) < (-268435456)
            · rw [if_pos c10] at H
              have c10b0 : decide ((wrap64 ((wrap64 ((wrap64 (t144 * t144)) + (wrap64 (t145 * t145)))) - 4503599627370496)) < (-268435456)) = true := decide_eq_true c10
              clear c10
              have H' := Aside0.mk H
              clear H
              go_wp2
              go_meet
              case rel => exact ⟨_, (true), (by first | rfl | (simp; done) | (simp [*]; done)), H', ⟨by have := HK1.out; first | omega | exact Nat.le_refl _⟩, ⟨by repeat (first | (with_reducible first | exact HB.out | apply below_alloc | apply pw_below_drewN | apply below_drew1) | exact HB.out)⟩⟩
            · rw [if_neg c10] at H
              have c10b0 : decide ((wrap64 ((wrap64 ((wrap64 (t144 * t144)) + (wrap64 (t145 * t145)))) - 4503599627370496)) < (-268435456)) = false := decide_eq_false c10
              clear c10
              by_cases c11 : t144 > 67108864
              · rw [if_pos c11] at H
                have c11b0 : decide (67108864 < t144) = true := decide_eq_true c11
                clear c11
                have H' := Aside0.mk H
                clear H
                go_wp2
                go_meet
                case rel => exact ⟨_, (true), (by first | rfl | (simp; done) | (simp [*]; done)), H', ⟨by have := HK1.out; first | omega | exact Nat.le_refl _⟩, ⟨by repeat (first | (with_reducible first | exact HB.out | apply below_alloc | apply pw_below_drewN | apply below_drew1) | exact HB.out)⟩⟩
              · rw [if_neg c11] at H
                have c11b0 : decide (67108864 < t144) = false := decide_eq_false c11
                clear c11
                have H' := Aside0.mk H
                clear H
                go_wp2
                go_meet
                case rel => exact ⟨_, (decide (t144 < (-67108864))), (by first | rfl | (simp; done) | (simp [*]; done)), H', ⟨by have := HK1.out; first | omega | exact Nat.le_refl _⟩, ⟨by repeat (first | (with_reducible first | exact HB.out | apply below_alloc | apply pw_below_drewN | apply below_drew1) | exact HB.out)⟩⟩
        case rest =>
          clear HC6
          try clear c1
          try clear c2
          try clear p2
          try clear c3
          try clear c3b0
          try clear p6
          try clear c7
          try clear c9
          try clear c9b0
          try clear c10
          try clear c10b0
          try clear c11
          try clear c11b0
          try clear p2
          obtain ⟨kq, x36_5, rfl, HA, HJ5, HB⟩ := hcut
          cases kq with
          | zero => exact absurd HA.out (by simp [reedpipelaw04_TrigCircle.j1])
          | succ kj5 =>
            have H := HA.out
            clear HA
            simp only [reedpipelaw04_TrigCircle.j1] at H
            by_cases c12 : x36_5 = true
            · subst c12
              have H1 : (some false) = some r := by rw [if_pos rfl] at H; exact H
              clear H
              have H := H1
              clear H1
              obtain rfl := Option.some.inj H
              go_wp2
              go_ret
              exact ⟨by first | rfl | (simp [errW_none, errW_some] <;> rfl) | (simp [*, errW_none, errW_some] <;> rfl), by repeat (first | (with_reducible first | exact HB.out | apply below_alloc | apply pw_below_drewN | apply below_drew1) | exact HB.out)⟩
            · replace c12 := Bool.eq_false_iff.mpr c12
              subst c12
              have H1 : (if x2_1 < 1024 then ((trig_Cos.f kj5 (wrap64 (x2_1 + 1))).bind fun t146 => (if t146 ≥ t144 then (some false) else (reedpipelaw04_TrigCircle.l0 kj5 t143 (wrap64 (x2_1 + 1))))) else (reedpipelaw04_TrigCircle.l0 kj5 t143 (wrap64 (x2_1 + 1)))) = some r := by rw [if_neg (show ¬ (false = true) by decide)] at H; exact H
              clear H
              have H := H1
              clear H1
              by_cases c13 : x2_1 < 1024
              · rw [if_pos c13] at H
                have c13b0 : decide (x2_1 < 1024) = true := decide_eq_true c13
                clear c13
                replace H := Option.bind_eq_some_iff.mp H
                obtain ⟨t146, A140, H⟩ := H
                replace H : (if t146 ≥ t144 then (some false) else (reedpipelaw04_TrigCircle.l0 kj5 t143 (wrap64 (x2_1 + 1)))) = some r := H
                have A14 := Aside0.mk A140
                clear A140
                by_cases c15 : t146 ≥ t144
                · rw [if_pos c15] at H
                  have c15b0 : decide (t144 ≤ t146) = true := decide_eq_true c15
                  clear c15
                  obtain rfl := Option.some.inj H
                  go_wp2_with (first | (go_at_call 30; (with_reducible refine (trig_Cos.calls kj5 (wrap64 (x2_1 + 1)) t146 _ A14.out).mono ?_); rintro e w16 ⟨rfl, hb⟩; have n0_ := Aside0.mk (below_step (by repeat (first | (with_reducible first | exact HB.out | apply below_alloc | apply pw_below_drewN | apply below_drew1) | exact HB.out)) hb); clear HB; have HB := n0_; clear n0_; (try clear hb); (try clear hb2); (try clear hk); (try clear hi)))
                  go_ret
                  exact ⟨by first | rfl | (simp [errW_none, errW_some] <;> rfl) | (simp [*, errW_none, errW_some] <;> rfl), by repeat (first | (with_reducible first | exact HB.out | apply below_alloc | apply pw_below_drewN | apply below_drew1) | exact HB.out)⟩
                · rw [if_neg c15] at H
                  have c15b0 : decide (t144 ≤ t146) = false := decide_eq_false c15
                  clear c15
                  have H' := Aside0.mk H
                  clear H
                  go_wp2_with (first | (go_at_call 30; (with_reducible refine (trig_Cos.calls kj5 (wrap64 (x2_1 + 1)) t146 _ A14.out).mono ?_); rintro e w17 ⟨rfl, hb⟩; have n0_ := Aside0.mk (below_step (by repeat (first | (with_reducible first | exact HB.out | apply below_alloc | apply pw_below_drewN | apply below_drew1) | exact HB.out)) hb); clear HB; have HB := n0_; clear n0_; (try clear hb); (try clear hb2); (try clear hk); (try clear hi)))
                  go_roundg kj5
                  case measure => have := HK1.out; have := HJ5.out; omega
                  case rel => exact ⟨(wrap64 (x2_1 + 1)), (by first | rfl | (simp; done) | (simp [*]; done)), H', ⟨by have := HK1.out; have := HJ5.out; omega⟩, ⟨by repeat (first | (with_reducible first | exact HB.out | apply below_alloc | apply pw_below_drewN | apply below_drew1) | exact HB.out)⟩⟩
              · rw [if_neg c13] at H
                have c13b0 : decide (x2_1 < 1024) = false := decide_eq_false c13
                clear c13
                have H' := Aside0.mk H
                clear H
                go_wp2
                go_roundg kj5
                case measure => have := HK1.out; have := HJ5.out; omega
                case rel => exact ⟨(wrap64 (x2_1 + 1)), (by first | rfl | (simp; done) | (simp [*]; done)), H', ⟨by have := HK1.out; have := HJ5.out; omega⟩, ⟨by repeat (first | (with_reducible first | exact HB.out | apply below_alloc | apply pw_below_drewN | apply below_drew1) | exact HB.out)⟩⟩
      · rw [if_neg c3] at H
        have c3b0 : decide (x2_1 < 2048) = false := decide_eq_false c3
        clear c3
        obtain rfl := Option.some.inj H
        go_wp2
        go_ret
        exact ⟨by first | rfl | (simp [errW_none, errW_some] <;> rfl) | (simp [*, errW_none, errW_some] <;> rfl), by repeat (first | (with_reducible first | exact HB.out | apply below_alloc | apply pw_below_drewN | apply below_drew1) | exact HB.out)⟩

/-- THE ONE PURE STATEMENT of reedpipelaw04_TrigCircle: yours. -/
def reedpipelaw04_TrigCircle.Pure : Prop := ∃ k, reedpipelaw04_TrigCircle.f k  = some true
theorem reedpipelaw04_TrigCircle.walk (P : reedpipelaw04_TrigCircle.Pure)  (w : World)  :
    Calls Try.prog 7 #[] w fun e w' => e = .returned (.bool true) ∧ Below w.heap.size w w' := by
  obtain ⟨k, h⟩ := P  
  refine (reedpipelaw04_TrigCircle.calls k  true w h).mono ?_
  rintro e w' ⟨rfl, hd⟩
  exact ⟨rfl, hd⟩

end Go.Proofs.Ytpoppdaaodmicaa.Q
