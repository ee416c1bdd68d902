-- Written by a program of this session's (wip/mk.py, over the kit's print.py); Lean checks it.
import Derived.Test.YtpoppdaaodmicaaQ0
import Derived.Test.YtpoppdaaodmicaaBWindow
import Derived.Test.YtpoppdaaodmicaaQ39
namespace Go.Proofs.Ytpoppdaaodmicaa.Q
open Go.RowKit Go.Proofs.YtpoppdaaodmicaaW.PrintWords Go.Proofs.YtpoppdaaodmicaaW.PrintLast Go.Proofs.YtpoppdaaodmicaaW.PrintMore
attribute [local go_sem] max2_int min2_int max_two min_two max_three min_three max_four min_four   -- for this text's walks alone
set_option linter.unusedVariables false
set_option linter.unusedSimpArgs false

/-! ### reedpipelaw05_WindowHalves: function 15 -/
mutual
def reedpipelaw05_WindowHalves.l0 : Nat → Bool → Int → Option (Bool)
  | 0, _, _ => none
  | k + 1, x1, x2 => if x2 < 2 then ((window_Half.f k 0 (x2 == 1)).bind fun bt387 => ((window_Half.f k 1 (x2 == 1)).bind fun bt391 => (if bt387.2 = 0 then (if bt391.2 = 0 then (if (bt387.1.length : Int) = (bt391.1.length : Int) then (reedpipelaw05_WindowHalves.j1 k x1 x2 bt387.1 bt391.1 (decide ((bt387.1.length : Int) < 32))) else (reedpipelaw05_WindowHalves.j1 k x1 x2 bt387.1 bt391.1 true)) else (reedpipelaw05_WindowHalves.j1 k x1 x2 bt387.1 bt391.1 true)) else (reedpipelaw05_WindowHalves.j1 k x1 x2 bt387.1 bt391.1 true)))) else (some x1)
def reedpipelaw05_WindowHalves.j1 : Nat → Bool → Int → List Int → List Int → Bool → Option (Bool)
  | 0, _, _, _, _, _ => none
  | k + 1, x1, x2, x3, x5, x42 => if x42 = true then (some false) else (if 0 < (x3.length : Int) then (if 0 ≤ (wrap64 ((x3.length : Int) - 1)) then (if (wrap64 ((x3.length : Int) - 1)) < (x3.length : Int) then (if (wrap64 (16 * (rd x3 0))) ≥ (rd x3 (wrap64 ((x3.length : Int) - 1))) then (some false) else (if 0 < (x5.length : Int) then (if (wrap64 ((x3.length : Int) - 1)) < (x5.length : Int) then (if (wrap64 (16 * (rd x5 0))) ≥ (rd x5 (wrap64 ((x3.length : Int) - 1))) then (some false) else (if (wrap64 (10 * (rd x3 (wrap64 ((x3.length : Int) - 1))))) < 37748736 then (some false) else (if (wrap64 (10 * (rd x5 (wrap64 ((x3.length : Int) - 1))))) < 37748736 then (some false) else (if (rd x3 0) = (rd x5 0) then (some false) else (if 0 ≤ (wrap64 (Int.tdiv (wrap64 ((x3.length : Int) - 1)) 2)) then (if (wrap64 (Int.tdiv (wrap64 ((x3.length : Int) - 1)) 2)) < (x3.length : Int) then (if (wrap64 (Int.tdiv (wrap64 ((x3.length : Int) - 1)) 2)) < (x5.length : Int) then (if (rd x3 (wrap64 (Int.tdiv (wrap64 ((x3.length : Int) - 1)) 2))) = (rd x5 (wrap64 (Int.tdiv (wrap64 ((x3.length : Int) - 1)) 2))) then (some false) else (reedpipelaw05_WindowHalves.l0 k x1 (wrap64 (x2 + 1)))) else (none)) else (none)) else (none)))))) else (none)) else (none))) else (none)) else (none)) else (none))
end
def reedpipelaw05_WindowHalves.f (k : Nat)  : Option (Bool) := (reedpipelaw05_alive.f k).bind fun t386 => (reedpipelaw05_WindowHalves.l0 k t386 0)
theorem reedpipelaw05_WindowHalves.mono_l : ∀ k, (∀ y0 y1, LeO (reedpipelaw05_WindowHalves.l0 k y0 y1) (reedpipelaw05_WindowHalves.l0 (k + 1) y0 y1)) ∧ (∀ y0 y1 y2 y3 y4, LeO (reedpipelaw05_WindowHalves.j1 k y0 y1 y2 y3 y4) (reedpipelaw05_WindowHalves.j1 (k + 1) y0 y1 y2 y3 y4))
  | 0 => ⟨fun _ _ r h => by simp [reedpipelaw05_WindowHalves.l0] at h, fun _ _ _ _ _ r h => by simp [reedpipelaw05_WindowHalves.j1] at h⟩
  | k + 1 => by
    obtain ⟨ih0, ih1⟩ := reedpipelaw05_WindowHalves.mono_l k
    refine ⟨?_, ?_⟩
    · intro y0 y1
      unfold reedpipelaw05_WindowHalves.l0
      repeat' first
      | (with_reducible exact ih0 _ _)
      | (with_reducible exact ih1 _ _ _ _ _)
      | (with_reducible exact reedpipelaw05_alive.mono _)
      | (with_reducible exact window_Half.mono _ _ _)
      | (with_reducible exact LeO.refl _)
      | (with_reducible exact LeO.none _)
      | (with_reducible refine LeO.ite ?_ ?_)
      | (with_reducible refine LeO.bind ?_ (fun _ => ?_))
      | exact ih0 _ _
      | exact ih1 _ _ _ _ _
      | exact reedpipelaw05_alive.mono _
      | exact window_Half.mono _ _ _
      | exact LeO.none _
      | refine LeO.ite ?_ ?_
      | refine LeO.bind ?_ (fun _ => ?_)
    · intro y0 y1 y2 y3 y4
      unfold reedpipelaw05_WindowHalves.j1
      repeat' first
      | (with_reducible exact ih0 _ _)
      | (with_reducible exact ih1 _ _ _ _ _)
      | (with_reducible exact reedpipelaw05_alive.mono _)
      | (with_reducible exact window_Half.mono _ _ _)
      | (with_reducible exact LeO.refl _)
      | (with_reducible exact LeO.none _)
      | (with_reducible refine LeO.ite ?_ ?_)
      | (with_reducible refine LeO.bind ?_ (fun _ => ?_))
      | exact ih0 _ _
      | exact ih1 _ _ _ _ _
      | exact reedpipelaw05_alive.mono _
      | exact window_Half.mono _ _ _
      | exact LeO.none _
      | refine LeO.ite ?_ ?_
      | refine LeO.bind ?_ (fun _ => ?_)
theorem reedpipelaw05_WindowHalves.mono : ∀ k, LeO (reedpipelaw05_WindowHalves.f k ) (reedpipelaw05_WindowHalves.f (k + 1) ) := by
  intro  k
  obtain ⟨ih0, ih1⟩ := reedpipelaw05_WindowHalves.mono_l k
  unfold reedpipelaw05_WindowHalves.f
  repeat' first
      | (with_reducible exact ih0 _ _)
      | (with_reducible exact ih1 _ _ _ _ _)
      | (with_reducible exact reedpipelaw05_alive.mono _)
      | (with_reducible exact window_Half.mono _ _ _)
      | (with_reducible exact LeO.refl _)
      | (with_reducible exact LeO.none _)
      | (with_reducible refine LeO.ite ?_ ?_)
      | (with_reducible refine LeO.bind ?_ (fun _ => ?_))
      | exact ih0 _ _
      | exact ih1 _ _ _ _ _
      | exact reedpipelaw05_alive.mono _
      | exact window_Half.mono _ _ _
      | exact LeO.none _
      | refine LeO.ite ?_ ?_
      | refine LeO.bind ?_ (fun _ => ?_)
set_option maxHeartbeats 8000000 in
set_option maxRecDepth 100000 in
theorem reedpipelaw05_WindowHalves.calls (k : Nat)  (r : Bool) (w : World) (h : reedpipelaw05_WindowHalves.f k  = some r) :
    Calls Try.prog 15 #[] w fun e w' => e = .returned (.bool r) ∧ Below w.heap.size w w' := by
  have HB := Aside0.mk (Below.refl w.heap.size w)
  have H : ((reedpipelaw05_alive.f k).bind fun t386 => (reedpipelaw05_WindowHalves.l0 k t386 0)) = some r := h
  clear h
  replace H := Option.bind_eq_some_iff.mp H
  obtain ⟨t386, A10, H⟩ := H
  replace H : (reedpipelaw05_WindowHalves.l0 k t386 0) = some r := H
  have A1 := Aside0.mk A10
  clear A10
  have H' := Aside0.mk H
  clear H
  go_enter Try.func15, Try.ntmps15
  go_wp2_with (first | (go_at_call 39; (with_reducible refine (reedpipelaw05_alive.calls k  t386 _ A1.out).mono ?_); rintro e w2 ⟨rfl, hb⟩; have n0_ := Aside0.mk (below_step (by repeat (first | (with_reducible first | exact HB.out | apply below_alloc | apply pw_below_drewN | apply below_drew1) | exact HB.out)) hb); clear HB; have HB := n0_; clear n0_; (try clear hb); (try clear hb2); (try clear hk); (try clear hi)))
  repeat (go_quiet (first | (go_at_call 39; (with_reducible refine (reedpipelaw05_alive.calls k  t386 _ A1.out).mono ?_); rintro e w2 ⟨rfl, hb⟩; have n0_ := Aside0.mk (below_step (by repeat (first | (with_reducible first | exact HB.out | apply below_alloc | apply pw_below_drewN | apply below_drew1) | exact HB.out)) hb); clear HB; have HB := n0_; clear n0_; (try clear hb); (try clear hb2); (try clear hk); (try clear hi))); try go_wp2_with (first | (go_at_call 39; (with_reducible refine (reedpipelaw05_alive.calls k  t386 _ A1.out).mono ?_); rintro e w2 ⟨rfl, hb⟩; have n0_ := Aside0.mk (below_step (by repeat (first | (with_reducible first | exact HB.out | apply below_alloc | apply pw_below_drewN | apply below_drew1) | exact HB.out)) hb); clear HB; have HB := n0_; clear n0_; (try clear hb); (try clear hb2); (try clear hk); (try clear hi))))
  go_loopg [2] k (fun kq v2 w' => ∃ (x2_1 : Int), v2 = .int .i64 x2_1 ∧ Aside0 (reedpipelaw05_WindowHalves.l0 kq t386 x2_1 = some r) ∧ Aside0 (kq ≤ k) ∧ Aside0 (Below w.heap.size w w'))
  case atStart => exact ⟨(0), (by first | rfl | (simp; done) | (simp [*]; done)), H', ⟨Nat.le_refl _⟩, ⟨by repeat (first | (with_reducible first | exact HB.out | apply below_alloc | apply pw_below_drewN | apply below_drew1) | exact HB.out)⟩⟩
  case round =>
    clear H'
    try clear c1
    try clear p2
    obtain ⟨x2_1, rfl, HA, HK1, HB⟩ := hrel
    cases gk with
    | zero => exact absurd HA.out (by simp [reedpipelaw05_WindowHalves.l0])
    | succ k1 =>
      have H := HA.out
      clear HA
      simp only [reedpipelaw05_WindowHalves.l0] at H
      by_cases c3 : x2_1 < 2
      · rw [if_pos c3] at H
        have c3b0 : decide (x2_1 < 2) = true := decide_eq_true c3
        clear c3
        replace H := Option.bind_eq_some_iff.mp H
        obtain ⟨⟨t387, t388⟩, A40, H⟩ := H
        replace H : ((window_Half.f k1 1 (x2_1 == 1)).bind fun bt391 => (if t388 = 0 then (if bt391.2 = 0 then (if (t387.length : Int) = (bt391.1.length : Int) then (reedpipelaw05_WindowHalves.j1 k1 t386 x2_1 t387 bt391.1 (decide ((t387.length : Int) < 32))) else (reedpipelaw05_WindowHalves.j1 k1 t386 x2_1 t387 bt391.1 true)) else (reedpipelaw05_WindowHalves.j1 k1 t386 x2_1 t387 bt391.1 true)) else (reedpipelaw05_WindowHalves.j1 k1 t386 x2_1 t387 bt391.1 true))) = some r := H
        have A4 := Aside0.mk A40
        clear A40
        replace H := Option.bind_eq_some_iff.mp H
        obtain ⟨⟨t391, t392⟩, A50, H⟩ := H
        replace H : (if t388 = 0 then (if t392 = 0 then (if (t387.length : Int) = (t391.length : Int) then (reedpipelaw05_WindowHalves.j1 k1 t386 x2_1 t387 t391 (decide ((t387.length : Int) < 32))) else (reedpipelaw05_WindowHalves.j1 k1 t386 x2_1 t387 t391 true)) else (reedpipelaw05_WindowHalves.j1 k1 t386 x2_1 t387 t391 true)) else (reedpipelaw05_WindowHalves.j1 k1 t386 x2_1 t387 t391 true)) = some r := H
        have A5 := Aside0.mk A50
        clear A50
        have HC6 := Aside0.mk H
        clear H
        go_upto_region 7 with (first | (go_at_call 38; (with_reducible refine (window_Half.calls k1 0 (x2_1 == 1) t387 t388 _ A4.out).mono ?_); rintro e w7 ⟨v389, rfl, ho0, hb⟩; have n0_ := Aside0.mk (Kd.R_lower ho0 (below_size (by repeat (first | (with_reducible first | exact HB.out | apply below_alloc | apply pw_below_drewN | apply below_drew1) | exact HB.out)))); have n1_ := Aside0.mk (below_step (by repeat (first | (with_reducible first | exact HB.out | apply below_alloc | apply pw_below_drewN | apply below_drew1) | exact HB.out)) hb); clear HB; have HO390 := n0_; have HB := n1_; clear n0_ n1_; (try clear hb); (try clear hb2); (try clear hk); (try clear hi); (try clear ho0)) | (go_at_call 38; (with_reducible refine (window_Half.calls k1 1 (x2_1 == 1) t391 t392 _ A5.out).mono ?_); rintro e w8 ⟨v393, rfl, ho0, hb⟩; have n0_ := Aside0.mk (Kd.R_elder' (by (with_reducible repeat (first | apply Kd.R_alloc | apply Kd.R_drewN | apply Kd.R_drew)); exact HO390.out) (Kd.R_base ho0) hb); have n1_ := Aside0.mk (Kd.R_lower (Kd.R_new' ho0 (Kd.R_lt (by (with_reducible repeat (first | apply Kd.R_alloc | apply Kd.R_drewN | apply Kd.R_drew)); exact HO390.out))) (below_size (by repeat (first | (with_reducible first | exact HB.out | apply below_alloc | apply pw_below_drewN | apply below_drew1) | exact HB.out)))); have n2_ := Aside0.mk (below_step (by repeat (first | (with_reducible first | exact HB.out | apply below_alloc | apply pw_below_drewN | apply below_drew1) | exact HB.out)) hb); clear HO390; clear HB; have HO390 := n0_; have HO394 := n1_; have HB := n2_; clear n0_ n1_ n2_; (try clear hb); (try clear hb2); (try clear hk); (try clear hi); (try clear ho0)))
        repeat (go_quiet (first | (go_at_call 38; (with_reducible refine (window_Half.calls k1 0 (x2_1 == 1) t387 t388 _ A4.out).mono ?_); rintro e w7 ⟨v389, rfl, ho0, hb⟩; have n0_ := Aside0.mk (Kd.R_lower ho0 (below_size (by repeat (first | (with_reducible first | exact HB.out | apply below_alloc | apply pw_below_drewN | apply below_drew1) | exact HB.out)))); have n1_ := Aside0.mk (below_step (by repeat (first | (with_reducible first | exact HB.out | apply below_alloc | apply pw_below_drewN | apply below_drew1) | exact HB.out)) hb); clear HB; have HO390 := n0_; have HB := n1_; clear n0_ n1_; (try clear hb); (try clear hb2); (try clear hk); (try clear hi); (try clear ho0)) | (go_at_call 38; (with_reducible refine (window_Half.calls k1 1 (x2_1 == 1) t391 t392 _ A5.out).mono ?_); rintro e w8 ⟨v393, rfl, ho0, hb⟩; have n0_ := Aside0.mk (Kd.R_elder' (by (with_reducible repeat (first | apply Kd.R_alloc | apply Kd.R_drewN | apply Kd.R_drew)); exact HO390.out) (Kd.R_base ho0) hb); have n1_ := Aside0.mk (Kd.R_lower (Kd.R_new' ho0 (Kd.R_lt (by (with_reducible repeat (first | apply Kd.R_alloc | apply Kd.R_drewN | apply Kd.R_drew)); exact HO390.out))) (below_size (by repeat (first | (with_reducible first | exact HB.out | apply below_alloc | apply pw_below_drewN | apply below_drew1) | exact HB.out)))); have n2_ := Aside0.mk (below_step (by repeat (first | (with_reducible first | exact HB.out | apply below_alloc | apply pw_below_drewN | apply below_drew1) | exact HB.out)) hb); clear HO390; clear HB; have HO390 := n0_; have HO394 := n1_; have HB := n2_; clear n0_ n1_ n2_; (try clear hb); (try clear hb2); (try clear hk); (try clear hi); (try clear ho0))); go_upto_region 7 with (first | (go_at_call 38; (with_reducible refine (window_Half.calls k1 0 (x2_1 == 1) t387 t388 _ A4.out).mono ?_); rintro e w7 ⟨v389, rfl, ho0, hb⟩; have n0_ := Aside0.mk (Kd.R_lower ho0 (below_size (by repeat (first | (with_reducible first | exact HB.out | apply below_alloc | apply pw_below_drewN | apply below_drew1) | exact HB.out)))); have n1_ := Aside0.mk (below_step (by repeat (first | (with_reducible first | exact HB.out | apply below_alloc | apply pw_below_drewN | apply below_drew1) | exact HB.out)) hb); clear HB; have HO390 := n0_; have HB := n1_; clear n0_ n1_; (try clear hb); (try clear hb2); (try clear hk); (try clear hi); (try clear ho0)) | (go_at_call 38; (with_reducible refine (window_Half.calls k1 1 (x2_1 == 1) t391 t392 _ A5.out).mono ?_); rintro e w8 ⟨v393, rfl, ho0, hb⟩; have n0_ := Aside0.mk (Kd.R_elder' (by (with_reducible repeat (first | apply Kd.R_alloc | apply Kd.R_drewN | apply Kd.R_drew)); exact HO390.out) (Kd.R_base ho0) hb); have n1_ := Aside0.mk (Kd.R_lower (Kd.R_new' ho0 (Kd.R_lt (by (with_reducible repeat (first | apply Kd.R_alloc | apply Kd.R_drewN | apply Kd.R_drew)); exact HO390.out))) (below_size (by repeat (first | (with_reducible first | exact HB.out | apply below_alloc | apply pw_below_drewN | apply below_drew1) | exact HB.out)))); have n2_ := Aside0.mk (below_step (by repeat (first | (with_reducible first | exact HB.out | apply below_alloc | apply pw_below_drewN | apply below_drew1) | exact HB.out)) hb); clear HO390; clear HB; have HO390 := n0_; have HO394 := n1_; have HB := n2_; clear n0_ n1_ n2_; (try clear hb); (try clear hb2); (try clear hk); (try clear hi); (try clear ho0))))
        (try simp only [Act.put, List.setIfInBounds_toArray, List.set_cons_zero, List.set_cons_succ])
        go_cut [42] (fun v42 wc => ∃ (kq : Nat) (x42_5 : Bool), v42 = .bool x42_5 ∧ Aside0 (reedpipelaw05_WindowHalves.j1 kq t386 x2_1 t387 t391 x42_5 = some r) ∧ Aside0 (kq ≤ k1) ∧ Aside0 (Kd.R (Kd.int .i64) 3 wc w.heap.size (fun k_ => some k_ ≠ (v393 : Value).ownBlock) v389 t387) ∧ Aside0 (Kd.R (Kd.int .i64) 3 wc w.heap.size (fun k_ => some k_ ≠ (v389 : Value).ownBlock) v393 t391) ∧ Aside0 (Below w.heap.size w wc))
        case first =>
          have H := HC6.out
          clear HC6
          by_cases c9 : t388 = 0
          · rw [if_pos c9] at H
            have c9b0 : (t388 == 0) = true := beq_iff_eq.mpr c9
            have c9b1 : (t388 != 0) = false := bne_eq_false_iff_eq.mpr c9
            clear c9
            (first | rw [c9b0] | (simp only [i64_w, i32_w]; rw [c9b0]) | skip)
            by_cases c10 : t392 = 0
            · rw [if_pos c10] at H
              have c10b0 : (t392 == 0) = true := beq_iff_eq.mpr c10
              have c10b1 : (t392 != 0) = false := bne_eq_false_iff_eq.mpr c10
              clear c10
              by_cases c11 : (t387.length : Int) = (t391.length : Int)
              · rw [if_pos c11] at H
                have c11b0 : ((t387.length : Int) == (t391.length : Int)) = true := beq_iff_eq.mpr c11
                have c11b1 : ((t387.length : Int) != (t391.length : Int)) = false := bne_eq_false_iff_eq.mpr c11
                have c11b2 : (t387.length == t391.length) = true := by first | simpa using c11 | (simp at c11 ⊢; omega)
                clear c11
                have H' := Aside0.mk H
                clear H
                obtain ⟨Ao12, co12, eo12⟩ := Kd.R_slice HO390.out
                subst eo12
                obtain ⟨Ao13, co13, eo13⟩ := Kd.R_slice HO394.out
                subst eo13
                go_wp2
                repeat (go_quiet (fail); try go_wp2)
                go_meet
                case rel => exact ⟨_, (decide ((t387.length : Int) < 32)), (by first | rfl | (simp; done) | (simp [*]; done)), H', ⟨by have := HK1.out; first | omega | exact Nat.le_refl _⟩, ⟨by (with_reducible repeat (first | apply Kd.R_alloc | apply Kd.R_drewN | apply Kd.R_drew)); exact Kd.R_mono HO390.out (fun _ hk => hk.2)⟩, ⟨by (with_reducible repeat (first | apply Kd.R_alloc | apply Kd.R_drewN | apply Kd.R_drew)); exact Kd.R_mono HO394.out (fun _ hk => hk.2)⟩, ⟨by repeat (first | (with_reducible first | exact HB.out | apply below_alloc | apply pw_below_drewN | apply below_drew1) | exact HB.out)⟩⟩
              · rw [if_neg c11] at H
                have c11b0 : ((t387.length : Int) == (t391.length : Int)) = false := beq_eq_false_iff_ne.mpr c11
                have c11b1 : ((t387.length : Int) != (t391.length : Int)) = true := bne_iff_ne.mpr c11
                have c11b2 : (t387.length == t391.length) = false := by first | simpa using c11 | (simp at c11 ⊢; omega)
                have H' := Aside0.mk H
                clear H
                obtain ⟨Ao14, co14, eo14⟩ := Kd.R_slice HO390.out
                subst eo14
                obtain ⟨Ao15, co15, eo15⟩ := Kd.R_slice HO394.out
                subst eo15
                go_wp2
                repeat (go_quiet (fail); try go_wp2)
                go_meet
                case rel => exact ⟨_, (true), (by first | rfl | (simp; done) | (simp [*]; done)), H', ⟨by have := HK1.out; first | omega | exact Nat.le_refl _⟩, ⟨by (with_reducible repeat (first | apply Kd.R_alloc | apply Kd.R_drewN | apply Kd.R_drew)); exact Kd.R_mono HO390.out (fun _ hk => hk.2)⟩, ⟨by (with_reducible repeat (first | apply Kd.R_alloc | apply Kd.R_drewN | apply Kd.R_drew)); exact Kd.R_mono HO394.out (fun _ hk => hk.2)⟩, ⟨by repeat (first | (with_reducible first | exact HB.out | apply below_alloc | apply pw_below_drewN | apply below_drew1) | exact HB.out)⟩⟩
            · rw [if_neg c10] at H
              have c10b0 : (t392 == 0) = false := beq_eq_false_iff_ne.mpr c10
              have c10b1 : (t392 != 0) = true := bne_iff_ne.mpr c10
              have H' := Aside0.mk H
              clear H
              go_wp2
              repeat (go_quiet (fail); try go_wp2)
              go_meet
              case rel => exact ⟨_, (true), (by first | rfl | (simp; done) | (simp [*]; done)), H', ⟨by have := HK1.out; first | omega | exact Nat.le_refl _⟩, ⟨by (with_reducible repeat (first | apply Kd.R_alloc | apply Kd.R_drewN | apply Kd.R_drew)); exact Kd.R_mono HO390.out (fun _ hk => hk.2)⟩, ⟨by (with_reducible repeat (first | apply Kd.R_alloc | apply Kd.R_drewN | apply Kd.R_drew)); exact Kd.R_mono HO394.out (fun _ hk => hk.2)⟩, ⟨by repeat (first | (with_reducible first | exact HB.out | apply below_alloc | apply pw_below_drewN | apply below_drew1) | exact HB.out)⟩⟩
          · rw [if_neg c9] at H
            have c9b0 : (t388 == 0) = false := beq_eq_false_iff_ne.mpr c9
            have c9b1 : (t388 != 0) = true := bne_iff_ne.mpr c9
            (first | rw [c9b0] | (simp only [i64_w, i32_w]; rw [c9b0]) | skip)
            have H' := Aside0.mk H
            clear H
            go_wp2
            repeat (go_quiet (fail); try go_wp2)
            go_meet
            case rel => exact ⟨_, (true), (by first | rfl | (simp; done) | (simp [*]; done)), H', ⟨by have := HK1.out; first | omega | exact Nat.le_refl _⟩, ⟨by (with_reducible repeat (first | apply Kd.R_alloc | apply Kd.R_drewN | apply Kd.R_drew)); exact Kd.R_mono HO390.out (fun _ hk => hk.2)⟩, ⟨by (with_reducible repeat (first | apply Kd.R_alloc | apply Kd.R_drewN | apply Kd.R_drew)); exact Kd.R_mono HO394.out (fun _ hk => hk.2)⟩, ⟨by repeat (first | (with_reducible first | exact HB.out | apply below_alloc | apply pw_below_drewN | apply below_drew1) | exact HB.out)⟩⟩
        case rest =>
          clear HC6
          try clear c1
          try clear p2
          try clear c3
          try clear c3b0
          try clear c9
          try clear c9b0
          try clear c9b1
          try clear c10
          try clear c10b0
          try clear c10b1
          try clear c11
          try clear c11b0
          try clear c11b1
          try clear c11b2
          try clear c15
          try clear p2
          obtain ⟨kq, x42_5, rfl, HA, HJ5, HO_3, HO_5, HB⟩ := hcut
          cases kq with
          | zero => exact absurd HA.out (by simp [reedpipelaw05_WindowHalves.j1])
          | succ kj5 =>
            have H := HA.out
            clear HA
            simp only [reedpipelaw05_WindowHalves.j1] at H
            by_cases c16 : x42_5 = true
            · subst c16
              have H1 : (some false) = some r := by rw [if_pos rfl] at H; exact H
              clear H
              have H := H1
              clear H1
              obtain rfl := Option.some.inj H
              go_wp2
              repeat (go_quiet (fail); try go_wp2)
              go_ret
              exact ⟨by first | rfl | (simp [errW_none, errW_some] <;> rfl) | (simp [*, errW_none, errW_some] <;> rfl), by repeat (first | (with_reducible first | exact HB.out | apply below_alloc | apply pw_below_drewN | apply below_drew1) | exact HB.out)⟩
            · replace c16 := Bool.eq_false_iff.mpr c16
              subst c16
              have H1 : (if 0 < (t387.length : Int) then (if 0 ≤ (wrap64 ((t387.length : Int) - 1)) then (if (wrap64 ((t387.length : Int) - 1)) < (t387.length : Int) then (if (wrap64 (16 * (rd t387 0))) ≥ (rd t387 (wrap64 ((t387.length : Int) - 1))) then (some false) else (if 0 < (t391.length : Int) then (if (wrap64 ((t387.length : Int) - 1)) < (t391.length : Int) then (if (wrap64 (16 * (rd t391 0))) ≥ (rd t391 (wrap64 ((t387.length : Int) - 1))) then (some false) else (if (wrap64 (10 * (rd t387 (wrap64 ((t387.length : Int) - 1))))) < 37748736 then (some false) else (if (wrap64 (10 * (rd t391 (wrap64 ((t387.length : Int) - 1))))) < 37748736 then (some false) else (if (rd t387 0) = (rd t391 0) then (some false) else (if 0 ≤ (wrap64 (Int.tdiv (wrap64 ((t387.length : Int) - 1)) 2)) then (if (wrap64 (Int.tdiv (wrap64 ((t387.length : Int) - 1)) 2)) < (t387.length : Int) then (if (wrap64 (Int.tdiv (wrap64 ((t387.length : Int) - 1)) 2)) < (t391.length : Int) then (if (rd t387 (wrap64 (Int.tdiv (wrap64 ((t387.length : Int) - 1)) 2))) = (rd t391 (wrap64 (Int.tdiv (wrap64 ((t387.length : Int) - 1)) 2))) then (some false) else (reedpipelaw05_WindowHalves.l0 kj5 t386 (wrap64 (x2_1 + 1)))) else (none)) else (none)) else (none)))))) else (none)) else (none))) else (none)) else (none)) else (none)) = some r := by rw [if_neg (show ¬ (false = true) by decide)] at H; exact H
              clear H
              have H := H1
              clear H1
              by_cases c17 : 0 < (t387.length : Int)
              · rw [if_pos c17] at H
                have c17b0 : decide (0 < (t387.length : Int)) = true := decide_eq_true c17
                have c17b1 : decide (0 < t387.length) = true := decide_eq_true (by omega)
                clear c17
                obtain ⟨ji18, hji18⟩ : ∃ j_ : Int, (wrap64 ((t387.length : Int) - 1)) = j_ := ⟨_, rfl⟩
                replace H : (if 0 ≤ (ji18) then (if (ji18) < (t387.length : Int) then (if (wrap64 (16 * (rd t387 0))) ≥ (rd t387 (ji18)) then (some false) else (if 0 < (t391.length : Int) then (if (ji18) < (t391.length : Int) then (if (wrap64 (16 * (rd t391 0))) ≥ (rd t391 (ji18)) then (some false) else (if (wrap64 (10 * (rd t387 (ji18)))) < 37748736 then (some false) else (if (wrap64 (10 * (rd t391 (ji18)))) < 37748736 then (some false) else (if (rd t387 0) = (rd t391 0) then (some false) else (if 0 ≤ (wrap64 (Int.tdiv (ji18) 2)) then (if (wrap64 (Int.tdiv (ji18) 2)) < (t387.length : Int) then (if (wrap64 (Int.tdiv (ji18) 2)) < (t391.length : Int) then (if (rd t387 (wrap64 (Int.tdiv (ji18) 2))) = (rd t391 (wrap64 (Int.tdiv (ji18) 2))) then (some false) else (reedpipelaw05_WindowHalves.l0 kj5 t386 (wrap64 (x2_1 + 1)))) else (none)) else (none)) else (none)))))) else (none)) else (none))) else (none)) else (none)) = some r := by first | (rw [hji18] at H; exact H) | (simp only [hji18] at H ⊢; exact H)
                have hji18w : (IntKind.i64.wrap ((t387.length : Int) - 1)) = ji18 := (i64_w _).trans hji18
                by_cases c19 : 0 ≤ (ji18)
                · rw [if_pos c19] at H
                  have c19b0 : decide (0 ≤ (ji18)) = true := decide_eq_true c19
                  clear c19
                  by_cases c20 : (ji18) < (t387.length : Int)
                  · rw [if_pos c20] at H
                    have c20b0 : decide ((ji18) < (t387.length : Int)) = true := decide_eq_true c20
                    clear c20
                    by_cases c21 : (wrap64 (16 * (rd t387 0))) ≥ (rd t387 (ji18))
                    · rw [if_pos c21] at H
                      have c21b0 : decide ((rd t387 (ji18)) ≤ (wrap64 (16 * (rd t387 0)))) = true := decide_eq_true c21
                      clear c21
                      obtain rfl := Option.some.inj H
                      obtain ⟨Ao22, co22, eo22⟩ := Kd.R_slice HO_3.out
                      subst eo22
                      have p395 : 0 ≤ (0 : Int) := (by omega)
                      have q395 : 0 < (t387.length : Int) := of_decide_eq_true (by first | (with_reducible assumption) | assumption)
                      obtain ⟨ad395, e395, hx395_0⟩ := Kd.at_int (Kd.R_reads' HO_3.out).2.2 0 p395 q395
                      cases e395
                      have qi395 : (0 < t387.length) = True := eq_true (by omega)
                      (try rw [show ((0 : Int)).toNat = 0 from rfl] at hx395_0)
                      (try rw [Addr.add_zero'] at hx395_0)
                      replace p395 := eq_true p395
                      replace q395 := eq_true q395
                      have p396 : 0 ≤ ((ji18) : Int) := of_decide_eq_true (by first | (with_reducible assumption) | assumption)
                      have q396 : (ji18) < (t387.length : Int) := of_decide_eq_true (by first | (with_reducible assumption) | assumption)
                      obtain ⟨ad396, e396, hx396_0⟩ := Kd.at_int (Kd.R_reads' HO_3.out).2.2 (ji18) p396 q396
                      obtain rfl : ad395 = ad396 := (by injection e396)
                      replace p396 := eq_true p396
                      replace q396 := eq_true q396
                      go_wp2
                      repeat (go_quiet (fail); try go_wp2)
                      go_ret
                      exact ⟨by first | rfl | (simp [errW_none, errW_some] <;> rfl) | (simp only [← hji18]; first | rfl | (simp [errW_none, errW_some] <;> rfl)) | (simp [*, errW_none, errW_some] <;> rfl), by repeat (first | (with_reducible first | exact HB.out | apply below_alloc | apply pw_below_drewN | apply below_drew1) | exact HB.out)⟩
                    · rw [if_neg c21] at H
                      have c21b0 : decide ((rd t387 (ji18)) ≤ (wrap64 (16 * (rd t387 0)))) = false := decide_eq_false c21
                      clear c21
                      by_cases c23 : 0 < (t391.length : Int)
                      · rw [if_pos c23] at H
                        have c23b0 : decide (0 < (t391.length : Int)) = true := decide_eq_true c23
                        have c23b1 : decide (0 < t391.length) = true := decide_eq_true (by omega)
                        clear c23
                        by_cases c24 : (ji18) < (t391.length : Int)
                        · rw [if_pos c24] at H
                          have c24b0 : decide ((ji18) < (t391.length : Int)) = true := decide_eq_true c24
                          clear c24
                          by_cases c25 : (wrap64 (16 * (rd t391 0))) ≥ (rd t391 (ji18))
                          · rw [if_pos c25] at H
                            have c25b0 : decide ((rd t391 (ji18)) ≤ (wrap64 (16 * (rd t391 0)))) = true := decide_eq_true c25
                            clear c25
                            obtain rfl := Option.some.inj H
                            obtain ⟨Ao26, co26, eo26⟩ := Kd.R_slice HO_3.out
                            subst eo26
                            have p395 : 0 ≤ (0 : Int) := (by omega)
                            have q395 : 0 < (t387.length : Int) := of_decide_eq_true (by first | (with_reducible assumption) | assumption)
                            obtain ⟨ad395, e395, hx395_0⟩ := Kd.at_int (Kd.R_reads' HO_3.out).2.2 0 p395 q395
                            cases e395
                            have qi395 : (0 < t387.length) = True := eq_true (by omega)
                            (try rw [show ((0 : Int)).toNat = 0 from rfl] at hx395_0)
                            (try rw [Addr.add_zero'] at hx395_0)
                            replace p395 := eq_true p395
                            replace q395 := eq_true q395
                            have p396 : 0 ≤ ((ji18) : Int) := of_decide_eq_true (by first | (with_reducible assumption) | assumption)
                            have q396 : (ji18) < (t387.length : Int) := of_decide_eq_true (by first | (with_reducible assumption) | assumption)
                            obtain ⟨ad396, e396, hx396_0⟩ := Kd.at_int (Kd.R_reads' HO_3.out).2.2 (ji18) p396 q396
                            obtain rfl : ad395 = ad396 := (by injection e396)
                            replace p396 := eq_true p396
                            replace q396 := eq_true q396
                            obtain ⟨Ao27, co27, eo27⟩ := Kd.R_slice HO_5.out
                            subst eo27
                            have p397 : 0 ≤ (0 : Int) := (by omega)
                            have q397 : 0 < (t391.length : Int) := of_decide_eq_true (by first | (with_reducible assumption) | assumption)
                            obtain ⟨ad397, e397, hx397_0⟩ := Kd.at_int (Kd.R_reads' HO_5.out).2.2 0 p397 q397
                            cases e397
                            have qi397 : (0 < t391.length) = True := eq_true (by omega)
                            (try rw [show ((0 : Int)).toNat = 0 from rfl] at hx397_0)
                            (try rw [Addr.add_zero'] at hx397_0)
                            replace p397 := eq_true p397
                            replace q397 := eq_true q397
                            have p398 : 0 ≤ ((ji18) : Int) := of_decide_eq_true (by first | (with_reducible assumption) | assumption)
                            have q398 : (ji18) < (t391.length : Int) := of_decide_eq_true (by first | (with_reducible assumption) | assumption)
                            obtain ⟨ad398, e398, hx398_0⟩ := Kd.at_int (Kd.R_reads' HO_5.out).2.2 (ji18) p398 q398
                            obtain rfl : ad397 = ad398 := (by injection e398)
                            replace p398 := eq_true p398
                            replace q398 := eq_true q398
                            go_wp2
                            repeat (go_quiet (fail); try go_wp2)
                            go_ret
                            exact ⟨by first | rfl | (simp [errW_none, errW_some] <;> rfl) | (simp only [← hji18]; first | rfl | (simp [errW_none, errW_some] <;> rfl)) | (simp [*, errW_none, errW_some] <;> rfl), by repeat (first | (with_reducible first | exact HB.out | apply below_alloc | apply pw_below_drewN | apply below_drew1) | exact HB.out)⟩
                          · rw [if_neg c25] at H
                            have c25b0 : decide ((rd t391 (ji18)) ≤ (wrap64 (16 * (rd t391 0)))) = false := decide_eq_false c25
                            clear c25
                            by_cases c28 : (wrap64 (10 * (rd t387 (ji18)))) < 37748736
                            · rw [if_pos c28] at H
                              have c28b0 : decide ((wrap64 (10 * (rd t387 (ji18)))) < 37748736) = true := decide_eq_true c28
                              clear c28
                              obtain rfl := Option.some.inj H
                              obtain ⟨Ao29, co29, eo29⟩ := Kd.R_slice HO_3.out
                              subst eo29
                              have p395 : 0 ≤ (0 : Int) := (by omega)
                              have q395 : 0 < (t387.length : Int) := of_decide_eq_true (by first | (with_reducible assumption) | assumption)
                              obtain ⟨ad395, e395, hx395_0⟩ := Kd.at_int (Kd.R_reads' HO_3.out).2.2 0 p395 q395
                              cases e395
                              have qi395 : (0 < t387.length) = True := eq_true (by omega)
                              (try rw [show ((0 : Int)).toNat = 0 from rfl] at hx395_0)
                              (try rw [Addr.add_zero'] at hx395_0)
                              replace p395 := eq_true p395
                              replace q395 := eq_true q395
                              have p396 : 0 ≤ ((ji18) : Int) := of_decide_eq_true (by first | (with_reducible assumption) | assumption)
                              have q396 : (ji18) < (t387.length : Int) := of_decide_eq_true (by first | (with_reducible assumption) | assumption)
                              obtain ⟨ad396, e396, hx396_0⟩ := Kd.at_int (Kd.R_reads' HO_3.out).2.2 (ji18) p396 q396
                              obtain rfl : ad395 = ad396 := (by injection e396)
                              replace p396 := eq_true p396
                              replace q396 := eq_true q396
                              obtain ⟨Ao30, co30, eo30⟩ := Kd.R_slice HO_5.out
                              subst eo30
                              have p397 : 0 ≤ (0 : Int) := (by omega)
                              have q397 : 0 < (t391.length : Int) := of_decide_eq_true (by first | (with_reducible assumption) | assumption)
                              obtain ⟨ad397, e397, hx397_0⟩ := Kd.at_int (Kd.R_reads' HO_5.out).2.2 0 p397 q397
                              cases e397
                              have qi397 : (0 < t391.length) = True := eq_true (by omega)
                              (try rw [show ((0 : Int)).toNat = 0 from rfl] at hx397_0)
                              (try rw [Addr.add_zero'] at hx397_0)
                              replace p397 := eq_true p397
                              replace q397 := eq_true q397
                              have p398 : 0 ≤ ((ji18) : Int) := of_decide_eq_true (by first | (with_reducible assumption) | assumption)
                              have q398 : (ji18) < (t391.length : Int) := of_decide_eq_true (by first | (with_reducible assumption) | assumption)
                              obtain ⟨ad398, e398, hx398_0⟩ := Kd.at_int (Kd.R_reads' HO_5.out).2.2 (ji18) p398 q398
                              obtain rfl : ad397 = ad398 := (by injection e398)
                              replace p398 := eq_true p398
                              replace q398 := eq_true q398
                              have p399 : 0 ≤ ((ji18) : Int) := of_decide_eq_true (by first | (with_reducible assumption) | assumption)
                              have q399 : (ji18) < (t387.length : Int) := of_decide_eq_true (by first | (with_reducible assumption) | assumption)
                              obtain ⟨ad399, e399, hx399_0⟩ := Kd.at_int (Kd.R_reads' HO_3.out).2.2 (ji18) p399 q399
                              obtain rfl : ad395 = ad399 := (by injection e399)
                              replace p399 := eq_true p399
                              replace q399 := eq_true q399
                              go_wp2
                              repeat (go_quiet (fail); try go_wp2)
                              go_ret
                              exact ⟨by first | rfl | (simp [errW_none, errW_some] <;> rfl) | (simp only [← hji18]; first | rfl | (simp [errW_none, errW_some] <;> rfl)) | (simp [*, errW_none, errW_some] <;> rfl), by repeat (first | (with_reducible first | exact HB.out | apply below_alloc | apply pw_below_drewN | apply below_drew1) | exact HB.out)⟩
                            · rw [if_neg c28] at H
                              have c28b0 : decide ((wrap64 (10 * (rd t387 (ji18)))) < 37748736) = false := decide_eq_false c28
                              clear c28
                              by_cases c31 : (wrap64 (10 * (rd t391 (ji18)))) < 37748736
                              · rw [if_pos c31] at H
                                have c31b0 : decide ((wrap64 (10 * (rd t391 (ji18)))) < 37748736) = true := decide_eq_true c31
                                clear c31
                                obtain rfl := Option.some.inj H
                                obtain ⟨Ao32, co32, eo32⟩ := Kd.R_slice HO_3.out
                                subst eo32
                                have p395 : 0 ≤ (0 : Int) := (by omega)
                                have q395 : 0 < (t387.length : Int) := of_decide_eq_true (by first | (with_reducible assumption) | assumption)
                                obtain ⟨ad395, e395, hx395_0⟩ := Kd.at_int (Kd.R_reads' HO_3.out).2.2 0 p395 q395
                                cases e395
                                have qi395 : (0 < t387.length) = True := eq_true (by omega)
                                (try rw [show ((0 : Int)).toNat = 0 from rfl] at hx395_0)
                                (try rw [Addr.add_zero'] at hx395_0)
                                replace p395 := eq_true p395
                                replace q395 := eq_true q395
                                have p396 : 0 ≤ ((ji18) : Int) := of_decide_eq_true (by first | (with_reducible assumption) | assumption)
                                have q396 : (ji18) < (t387.length : Int) := of_decide_eq_true (by first | (with_reducible assumption) | assumption)
                                obtain ⟨ad396, e396, hx396_0⟩ := Kd.at_int (Kd.R_reads' HO_3.out).2.2 (ji18) p396 q396
                                obtain rfl : ad395 = ad396 := (by injection e396)
                                replace p396 := eq_true p396
                                replace q396 := eq_true q396
                                obtain ⟨Ao33, co33, eo33⟩ := Kd.R_slice HO_5.out
                                subst eo33
                                have p397 : 0 ≤ (0 : Int) := (by omega)
                                have q397 : 0 < (t391.length : Int) := of_decide_eq_true (by first | (with_reducible assumption) | assumption)
                                obtain ⟨ad397, e397, hx397_0⟩ := Kd.at_int (Kd.R_reads' HO_5.out).2.2 0 p397 q397
                                cases e397
                                have qi397 : (0 < t391.length) = True := eq_true (by omega)
                                (try rw [show ((0 : Int)).toNat = 0 from rfl] at hx397_0)
                                (try rw [Addr.add_zero'] at hx397_0)
                                replace p397 := eq_true p397
                                replace q397 := eq_true q397
                                have p398 : 0 ≤ ((ji18) : Int) := of_decide_eq_true (by first | (with_reducible assumption) | assumption)
                                have q398 : (ji18) < (t391.length : Int) := of_decide_eq_true (by first | (with_reducible assumption) | assumption)
                                obtain ⟨ad398, e398, hx398_0⟩ := Kd.at_int (Kd.R_reads' HO_5.out).2.2 (ji18) p398 q398
                                obtain rfl : ad397 = ad398 := (by injection e398)
                                replace p398 := eq_true p398
                                replace q398 := eq_true q398
                                have p399 : 0 ≤ ((ji18) : Int) := of_decide_eq_true (by first | (with_reducible assumption) | assumption)
                                have q399 : (ji18) < (t387.length : Int) := of_decide_eq_true (by first | (with_reducible assumption) | assumption)
                                obtain ⟨ad399, e399, hx399_0⟩ := Kd.at_int (Kd.R_reads' HO_3.out).2.2 (ji18) p399 q399
                                obtain rfl : ad395 = ad399 := (by injection e399)
                                replace p399 := eq_true p399
                                replace q399 := eq_true q399
                                have p400 : 0 ≤ ((ji18) : Int) := of_decide_eq_true (by first | (with_reducible assumption) | assumption)
                                have q400 : (ji18) < (t391.length : Int) := of_decide_eq_true (by first | (with_reducible assumption) | assumption)
                                obtain ⟨ad400, e400, hx400_0⟩ := Kd.at_int (Kd.R_reads' HO_5.out).2.2 (ji18) p400 q400
                                obtain rfl : ad397 = ad400 := (by injection e400)
                                replace p400 := eq_true p400
                                replace q400 := eq_true q400
                                go_wp2
                                repeat (go_quiet (fail); try go_wp2)
                                go_ret
                                exact ⟨by first | rfl | (simp [errW_none, errW_some] <;> rfl) | (simp only [← hji18]; first | rfl | (simp [errW_none, errW_some] <;> rfl)) | (simp [*, errW_none, errW_some] <;> rfl), by repeat (first | (with_reducible first | exact HB.out | apply below_alloc | apply pw_below_drewN | apply below_drew1) | exact HB.out)⟩
                              · rw [if_neg c31] at H
                                have c31b0 : decide ((wrap64 (10 * (rd t391 (ji18)))) < 37748736) = false := decide_eq_false c31
                                clear c31
                                by_cases c34 : (rd t387 0) = (rd t391 0)
                                · rw [if_pos c34] at H
                                  have c34b0 : ((rd t387 0) == (rd t391 0)) = true := beq_iff_eq.mpr c34
                                  have c34b1 : ((rd t387 0) != (rd t391 0)) = false := bne_eq_false_iff_eq.mpr c34
                                  clear c34
                                  obtain rfl := Option.some.inj H
                                  obtain ⟨Ao35, co35, eo35⟩ := Kd.R_slice HO_3.out
                                  subst eo35
                                  have p395 : 0 ≤ (0 : Int) := (by omega)
                                  have q395 : 0 < (t387.length : Int) := of_decide_eq_true (by first | (with_reducible assumption) | assumption)
                                  obtain ⟨ad395, e395, hx395_0⟩ := Kd.at_int (Kd.R_reads' HO_3.out).2.2 0 p395 q395
                                  cases e395
                                  have qi395 : (0 < t387.length) = True := eq_true (by omega)
                                  (try rw [show ((0 : Int)).toNat = 0 from rfl] at hx395_0)
                                  (try rw [Addr.add_zero'] at hx395_0)
                                  replace p395 := eq_true p395
                                  replace q395 := eq_true q395
                                  have p396 : 0 ≤ ((ji18) : Int) := of_decide_eq_true (by first | (with_reducible assumption) | assumption)
                                  have q396 : (ji18) < (t387.length : Int) := of_decide_eq_true (by first | (with_reducible assumption) | assumption)
                                  obtain ⟨ad396, e396, hx396_0⟩ := Kd.at_int (Kd.R_reads' HO_3.out).2.2 (ji18) p396 q396
                                  obtain rfl : ad395 = ad396 := (by injection e396)
                                  replace p396 := eq_true p396
                                  replace q396 := eq_true q396
                                  obtain ⟨Ao36, co36, eo36⟩ := Kd.R_slice HO_5.out
                                  subst eo36
                                  have p397 : 0 ≤ (0 : Int) := (by omega)
                                  have q397 : 0 < (t391.length : Int) := of_decide_eq_true (by first | (with_reducible assumption) | assumption)
                                  obtain ⟨ad397, e397, hx397_0⟩ := Kd.at_int (Kd.R_reads' HO_5.out).2.2 0 p397 q397
                                  cases e397
                                  have qi397 : (0 < t391.length) = True := eq_true (by omega)
                                  (try rw [show ((0 : Int)).toNat = 0 from rfl] at hx397_0)
                                  (try rw [Addr.add_zero'] at hx397_0)
                                  replace p397 := eq_true p397
                                  replace q397 := eq_true q397
                                  have p398 : 0 ≤ ((ji18) : Int) := of_decide_eq_true (by first | (with_reducible assumption) | assumption)
                                  have q398 : (ji18) < (t391.length : Int) := of_decide_eq_true (by first | (with_reducible assumption) | assumption)
                                  obtain ⟨ad398, e398, hx398_0⟩ := Kd.at_int (Kd.R_reads' HO_5.out).2.2 (ji18) p398 q398
                                  obtain rfl : ad397 = ad398 := (by injection e398)
                                  replace p398 := eq_true p398
                                  replace q398 := eq_true q398
                                  have p399 : 0 ≤ ((ji18) : Int) := of_decide_eq_true (by first | (with_reducible assumption) | assumption)
                                  have q399 : (ji18) < (t387.length : Int) := of_decide_eq_true (by first | (with_reducible assumption) | assumption)
                                  obtain ⟨ad399, e399, hx399_0⟩ := Kd.at_int (Kd.R_reads' HO_3.out).2.2 (ji18) p399 q399
                                  obtain rfl : ad395 = ad399 := (by injection e399)
                                  replace p399 := eq_true p399
                                  replace q399 := eq_true q399
                                  have p400 : 0 ≤ ((ji18) : Int) := of_decide_eq_true (by first | (with_reducible assumption) | assumption)
                                  have q400 : (ji18) < (t391.length : Int) := of_decide_eq_true (by first | (with_reducible assumption) | assumption)
                                  obtain ⟨ad400, e400, hx400_0⟩ := Kd.at_int (Kd.R_reads' HO_5.out).2.2 (ji18) p400 q400
                                  obtain rfl : ad397 = ad400 := (by injection e400)
                                  replace p400 := eq_true p400
                                  replace q400 := eq_true q400
                                  have p401 : 0 ≤ (0 : Int) := (by omega)
                                  have q401 : 0 < (t387.length : Int) := of_decide_eq_true (by first | (with_reducible assumption) | assumption)
                                  obtain ⟨ad401, e401, hx401_0⟩ := Kd.at_int (Kd.R_reads' HO_3.out).2.2 0 p401 q401
                                  obtain rfl : ad395 = ad401 := (by injection e401)
                                  have qi401 : (0 < t387.length) = True := eq_true (by omega)
                                  (try rw [show ((0 : Int)).toNat = 0 from rfl] at hx401_0)
                                  (try rw [Addr.add_zero'] at hx401_0)
                                  replace p401 := eq_true p401
                                  replace q401 := eq_true q401
                                  have p402 : 0 ≤ (0 : Int) := (by omega)
                                  have q402 : 0 < (t391.length : Int) := of_decide_eq_true (by first | (with_reducible assumption) | assumption)
                                  obtain ⟨ad402, e402, hx402_0⟩ := Kd.at_int (Kd.R_reads' HO_5.out).2.2 0 p402 q402
                                  obtain rfl : ad397 = ad402 := (by injection e402)
                                  have qi402 : (0 < t391.length) = True := eq_true (by omega)
                                  (try rw [show ((0 : Int)).toNat = 0 from rfl] at hx402_0)
                                  (try rw [Addr.add_zero'] at hx402_0)
                                  replace p402 := eq_true p402
                                  replace q402 := eq_true q402
                                  go_wp2
                                  repeat (go_quiet (fail); try go_wp2)
                                  go_ret
                                  exact ⟨by first | rfl | (simp [errW_none, errW_some] <;> rfl) | (simp only [← hji18]; first | rfl | (simp [errW_none, errW_some] <;> rfl)) | (simp [*, errW_none, errW_some] <;> rfl), by repeat (first | (with_reducible first | exact HB.out | apply below_alloc | apply pw_below_drewN | apply below_drew1) | exact HB.out)⟩
                                · rw [if_neg c34] at H
                                  have c34b0 : ((rd t387 0) == (rd t391 0)) = false := beq_eq_false_iff_ne.mpr c34
                                  have c34b1 : ((rd t387 0) != (rd t391 0)) = true := bne_iff_ne.mpr c34
                                  obtain ⟨ji37, hji37⟩ : ∃ j_ : Int, (wrap64 (Int.tdiv (ji18) 2)) = j_ := ⟨_, rfl⟩
                                  replace H : (if 0 ≤ (ji37) then (if (ji37) < (t387.length : Int) then (if (ji37) < (t391.length : Int) then (if (rd t387 (ji37)) = (rd t391 (ji37)) then (some false) else (reedpipelaw05_WindowHalves.l0 kj5 t386 (wrap64 (x2_1 + 1)))) else (none)) else (none)) else (none)) = some r := by first | (rw [hji37] at H; exact H) | (simp only [hji37] at H ⊢; exact H)
                                  have hji37w : (IntKind.i64.wrap (Int.tdiv (ji18) 2)) = ji37 := (i64_w _).trans hji37
                                  by_cases c38 : 0 ≤ (ji37)
                                  · rw [if_pos c38] at H
                                    have c38b0 : decide (0 ≤ (ji37)) = true := decide_eq_true c38
                                    clear c38
                                    by_cases c39 : (ji37) < (t387.length : Int)
                                    · rw [if_pos c39] at H
                                      have c39b0 : decide ((ji37) < (t387.length : Int)) = true := decide_eq_true c39
                                      clear c39
                                      by_cases c40 : (ji37) < (t391.length : Int)
                                      · rw [if_pos c40] at H
                                        have c40b0 : decide ((ji37) < (t391.length : Int)) = true := decide_eq_true c40
                                        clear c40
                                        by_cases c41 : (rd t387 (ji37)) = (rd t391 (ji37))
                                        · rw [if_pos c41] at H
                                          have c41b0 : ((rd t387 (ji37)) == (rd t391 (ji37))) = true := beq_iff_eq.mpr c41
                                          have c41b1 : ((rd t387 (ji37)) != (rd t391 (ji37))) = false := bne_eq_false_iff_eq.mpr c41
                                          clear c41
                                          obtain rfl := Option.some.inj H
                                          obtain ⟨Ao42, co42, eo42⟩ := Kd.R_slice HO_3.out
                                          subst eo42
                                          have p395 : 0 ≤ (0 : Int) := (by omega)
                                          have q395 : 0 < (t387.length : Int) := of_decide_eq_true (by first | (with_reducible assumption) | assumption)
                                          obtain ⟨ad395, e395, hx395_0⟩ := Kd.at_int (Kd.R_reads' HO_3.out).2.2 0 p395 q395
                                          cases e395
                                          have qi395 : (0 < t387.length) = True := eq_true (by omega)
                                          (try rw [show ((0 : Int)).toNat = 0 from rfl] at hx395_0)
                                          (try rw [Addr.add_zero'] at hx395_0)
                                          replace p395 := eq_true p395
                                          replace q395 := eq_true q395
                                          have p396 : 0 ≤ ((ji18) : Int) := of_decide_eq_true (by first | (with_reducible assumption) | assumption)
                                          have q396 : (ji18) < (t387.length : Int) := of_decide_eq_true (by first | (with_reducible assumption) | assumption)
                                          obtain ⟨ad396, e396, hx396_0⟩ := Kd.at_int (Kd.R_reads' HO_3.out).2.2 (ji18) p396 q396
                                          obtain rfl : ad395 = ad396 := (by injection e396)
                                          replace p396 := eq_true p396
                                          replace q396 := eq_true q396
                                          obtain ⟨Ao43, co43, eo43⟩ := Kd.R_slice HO_5.out
                                          subst eo43
                                          have p397 : 0 ≤ (0 : Int) := (by omega)
                                          have q397 : 0 < (t391.length : Int) := of_decide_eq_true (by first | (with_reducible assumption) | assumption)
                                          obtain ⟨ad397, e397, hx397_0⟩ := Kd.at_int (Kd.R_reads' HO_5.out).2.2 0 p397 q397
                                          cases e397
                                          have qi397 : (0 < t391.length) = True := eq_true (by omega)
                                          (try rw [show ((0 : Int)).toNat = 0 from rfl] at hx397_0)
                                          (try rw [Addr.add_zero'] at hx397_0)
                                          replace p397 := eq_true p397
                                          replace q397 := eq_true q397
                                          have p398 : 0 ≤ ((ji18) : Int) := of_decide_eq_true (by first | (with_reducible assumption) | assumption)
                                          have q398 : (ji18) < (t391.length : Int) := of_decide_eq_true (by first | (with_reducible assumption) | assumption)
                                          obtain ⟨ad398, e398, hx398_0⟩ := Kd.at_int (Kd.R_reads' HO_5.out).2.2 (ji18) p398 q398
                                          obtain rfl : ad397 = ad398 := (by injection e398)
                                          replace p398 := eq_true p398
                                          replace q398 := eq_true q398
                                          have p399 : 0 ≤ ((ji18) : Int) := of_decide_eq_true (by first | (with_reducible assumption) | assumption)
                                          have q399 : (ji18) < (t387.length : Int) := of_decide_eq_true (by first | (with_reducible assumption) | assumption)
                                          obtain ⟨ad399, e399, hx399_0⟩ := Kd.at_int (Kd.R_reads' HO_3.out).2.2 (ji18) p399 q399
                                          obtain rfl : ad395 = ad399 := (by injection e399)
                                          replace p399 := eq_true p399
                                          replace q399 := eq_true q399
                                          have p400 : 0 ≤ ((ji18) : Int) := of_decide_eq_true (by first | (with_reducible assumption) | assumption)
                                          have q400 : (ji18) < (t391.length : Int) := of_decide_eq_true (by first | (with_reducible assumption) | assumption)
                                          obtain ⟨ad400, e400, hx400_0⟩ := Kd.at_int (Kd.R_reads' HO_5.out).2.2 (ji18) p400 q400
                                          obtain rfl : ad397 = ad400 := (by injection e400)
                                          replace p400 := eq_true p400
                                          replace q400 := eq_true q400
                                          have p401 : 0 ≤ (0 : Int) := (by omega)
                                          have q401 : 0 < (t387.length : Int) := of_decide_eq_true (by first | (with_reducible assumption) | assumption)
                                          obtain ⟨ad401, e401, hx401_0⟩ := Kd.at_int (Kd.R_reads' HO_3.out).2.2 0 p401 q401
                                          obtain rfl : ad395 = ad401 := (by injection e401)
                                          have qi401 : (0 < t387.length) = True := eq_true (by omega)
                                          (try rw [show ((0 : Int)).toNat = 0 from rfl] at hx401_0)
                                          (try rw [Addr.add_zero'] at hx401_0)
                                          replace p401 := eq_true p401
                                          replace q401 := eq_true q401
                                          have p402 : 0 ≤ (0 : Int) := (by omega)
                                          have q402 : 0 < (t391.length : Int) := of_decide_eq_true (by first | (with_reducible assumption) | assumption)
                                          obtain ⟨ad402, e402, hx402_0⟩ := Kd.at_int (Kd.R_reads' HO_5.out).2.2 0 p402 q402
                                          obtain rfl : ad397 = ad402 := (by injection e402)
                                          have qi402 : (0 < t391.length) = True := eq_true (by omega)
                                          (try rw [show ((0 : Int)).toNat = 0 from rfl] at hx402_0)
                                          (try rw [Addr.add_zero'] at hx402_0)
                                          replace p402 := eq_true p402
                                          replace q402 := eq_true q402
                                          have p403 : 0 ≤ ((ji37) : Int) := of_decide_eq_true (by first | (with_reducible assumption) | assumption)
                                          have q403 : (ji37) < (t387.length : Int) := of_decide_eq_true (by first | (with_reducible assumption) | assumption)
                                          obtain ⟨ad403, e403, hx403_0⟩ := Kd.at_int (Kd.R_reads' HO_3.out).2.2 (ji37) p403 q403
                                          obtain rfl : ad395 = ad403 := (by injection e403)
                                          replace p403 := eq_true p403
                                          replace q403 := eq_true q403
                                          have p404 : 0 ≤ ((ji37) : Int) := of_decide_eq_true (by first | (with_reducible assumption) | assumption)
                                          have q404 : (ji37) < (t391.length : Int) := of_decide_eq_true (by first | (with_reducible assumption) | assumption)
                                          obtain ⟨ad404, e404, hx404_0⟩ := Kd.at_int (Kd.R_reads' HO_5.out).2.2 (ji37) p404 q404
                                          obtain rfl : ad397 = ad404 := (by injection e404)
                                          replace p404 := eq_true p404
                                          replace q404 := eq_true q404
                                          go_wp2
                                          repeat (go_quiet (fail); try go_wp2)
                                          go_ret
                                          exact ⟨by first | rfl | (simp [errW_none, errW_some] <;> rfl) | (simp only [← hji18, ← hji37]; first | rfl | (simp [errW_none, errW_some] <;> rfl)) | (simp [*, errW_none, errW_some] <;> rfl), by repeat (first | (with_reducible first | exact HB.out | apply below_alloc | apply pw_below_drewN | apply below_drew1) | exact HB.out)⟩
                                        · rw [if_neg c41] at H
                                          have c41b0 : ((rd t387 (ji37)) == (rd t391 (ji37))) = false := beq_eq_false_iff_ne.mpr c41
                                          have c41b1 : ((rd t387 (ji37)) != (rd t391 (ji37))) = true := bne_iff_ne.mpr c41
                                          have H' := Aside0.mk H
                                          clear H
                                          obtain ⟨Ao44, co44, eo44⟩ := Kd.R_slice HO_3.out
                                          subst eo44
                                          have p395 : 0 ≤ (0 : Int) := (by omega)
                                          have q395 : 0 < (t387.length : Int) := of_decide_eq_true (by first | (with_reducible assumption) | assumption)
                                          obtain ⟨ad395, e395, hx395_0⟩ := Kd.at_int (Kd.R_reads' HO_3.out).2.2 0 p395 q395
                                          cases e395
                                          have qi395 : (0 < t387.length) = True := eq_true (by omega)
                                          (try rw [show ((0 : Int)).toNat = 0 from rfl] at hx395_0)
                                          (try rw [Addr.add_zero'] at hx395_0)
                                          replace p395 := eq_true p395
                                          replace q395 := eq_true q395
                                          have p396 : 0 ≤ ((ji18) : Int) := of_decide_eq_true (by first | (with_reducible assumption) | assumption)
                                          have q396 : (ji18) < (t387.length : Int) := of_decide_eq_true (by first | (with_reducible assumption) | assumption)
                                          obtain ⟨ad396, e396, hx396_0⟩ := Kd.at_int (Kd.R_reads' HO_3.out).2.2 (ji18) p396 q396
                                          obtain rfl : ad395 = ad396 := (by injection e396)
                                          replace p396 := eq_true p396
                                          replace q396 := eq_true q396
                                          obtain ⟨Ao45, co45, eo45⟩ := Kd.R_slice HO_5.out
                                          subst eo45
                                          have p397 : 0 ≤ (0 : Int) := (by omega)
                                          have q397 : 0 < (t391.length : Int) := of_decide_eq_true (by first | (with_reducible assumption) | assumption)
                                          obtain ⟨ad397, e397, hx397_0⟩ := Kd.at_int (Kd.R_reads' HO_5.out).2.2 0 p397 q397
                                          cases e397
                                          have qi397 : (0 < t391.length) = True := eq_true (by omega)
                                          (try rw [show ((0 : Int)).toNat = 0 from rfl] at hx397_0)
                                          (try rw [Addr.add_zero'] at hx397_0)
                                          replace p397 := eq_true p397
                                          replace q397 := eq_true q397
                                          have p398 : 0 ≤ ((ji18) : Int) := of_decide_eq_true (by first | (with_reducible assumption) | assumption)
                                          have q398 : (ji18) < (t391.length : Int) := of_decide_eq_true (by first | (with_reducible assumption) | assumption)
                                          obtain ⟨ad398, e398, hx398_0⟩ := Kd.at_int (Kd.R_reads' HO_5.out).2.2 (ji18) p398 q398
                                          obtain rfl : ad397 = ad398 := (by injection e398)
                                          replace p398 := eq_true p398
                                          replace q398 := eq_true q398
                                          have p399 : 0 ≤ ((ji18) : Int) := of_decide_eq_true (by first | (with_reducible assumption) | assumption)
                                          have q399 : (ji18) < (t387.length : Int) := of_decide_eq_true (by first | (with_reducible assumption) | assumption)
                                          obtain ⟨ad399, e399, hx399_0⟩ := Kd.at_int (Kd.R_reads' HO_3.out).2.2 (ji18) p399 q399
                                          obtain rfl : ad395 = ad399 := (by injection e399)
                                          replace p399 := eq_true p399
                                          replace q399 := eq_true q399
                                          have p400 : 0 ≤ ((ji18) : Int) := of_decide_eq_true (by first | (with_reducible assumption) | assumption)
                                          have q400 : (ji18) < (t391.length : Int) := of_decide_eq_true (by first | (with_reducible assumption) | assumption)
                                          obtain ⟨ad400, e400, hx400_0⟩ := Kd.at_int (Kd.R_reads' HO_5.out).2.2 (ji18) p400 q400
                                          obtain rfl : ad397 = ad400 := (by injection e400)
                                          replace p400 := eq_true p400
                                          replace q400 := eq_true q400
                                          have p401 : 0 ≤ (0 : Int) := (by omega)
                                          have q401 : 0 < (t387.length : Int) := of_decide_eq_true (by first | (with_reducible assumption) | assumption)
                                          obtain ⟨ad401, e401, hx401_0⟩ := Kd.at_int (Kd.R_reads' HO_3.out).2.2 0 p401 q401
                                          obtain rfl : ad395 = ad401 := (by injection e401)
                                          have qi401 : (0 < t387.length) = True := eq_true (by omega)
                                          (try rw [show ((0 : Int)).toNat = 0 from rfl] at hx401_0)
                                          (try rw [Addr.add_zero'] at hx401_0)
                                          replace p401 := eq_true p401
                                          replace q401 := eq_true q401
                                          have p402 : 0 ≤ (0 : Int) := (by omega)
                                          have q402 : 0 < (t391.length : Int) := of_decide_eq_true (by first | (with_reducible assumption) | assumption)
                                          obtain ⟨ad402, e402, hx402_0⟩ := Kd.at_int (Kd.R_reads' HO_5.out).2.2 0 p402 q402
                                          obtain rfl : ad397 = ad402 := (by injection e402)
                                          have qi402 : (0 < t391.length) = True := eq_true (by omega)
                                          (try rw [show ((0 : Int)).toNat = 0 from rfl] at hx402_0)
                                          (try rw [Addr.add_zero'] at hx402_0)
                                          replace p402 := eq_true p402
                                          replace q402 := eq_true q402
                                          have p403 : 0 ≤ ((ji37) : Int) := of_decide_eq_true (by first | (with_reducible assumption) | assumption)
                                          have q403 : (ji37) < (t387.length : Int) := of_decide_eq_true (by first | (with_reducible assumption) | assumption)
                                          obtain ⟨ad403, e403, hx403_0⟩ := Kd.at_int (Kd.R_reads' HO_3.out).2.2 (ji37) p403 q403
                                          obtain rfl : ad395 = ad403 := (by injection e403)
                                          replace p403 := eq_true p403
                                          replace q403 := eq_true q403
                                          have p404 : 0 ≤ ((ji37) : Int) := of_decide_eq_true (by first | (with_reducible assumption) | assumption)
                                          have q404 : (ji37) < (t391.length : Int) := of_decide_eq_true (by first | (with_reducible assumption) | assumption)
                                          obtain ⟨ad404, e404, hx404_0⟩ := Kd.at_int (Kd.R_reads' HO_5.out).2.2 (ji37) p404 q404
                                          obtain rfl : ad397 = ad404 := (by injection e404)
                                          replace p404 := eq_true p404
                                          replace q404 := eq_true q404
                                          go_wp2
                                          repeat (go_quiet (fail); try go_wp2)
                                          go_roundg kj5
                                          case measure => have := HK1.out; have := HJ5.out; omega
                                          case rel => exact ⟨(wrap64 (x2_1 + 1)), (by first | rfl | (simp; done) | (simp [*]; done)), H', ⟨by have := HK1.out; have := HJ5.out; omega⟩, ⟨by repeat (first | (with_reducible first | exact HB.out | apply below_alloc | apply pw_below_drewN | apply below_drew1) | exact HB.out)⟩⟩
                                      · rw [if_neg c40] at H
                                        exact absurd H (by simp)
                                    · rw [if_neg c39] at H
                                      exact absurd H (by simp)
                                  · rw [if_neg c38] at H
                                    exact absurd H (by simp)
                        · rw [if_neg c24] at H
                          exact absurd H (by simp)
                      · rw [if_neg c23] at H
                        exact absurd H (by simp)
                  · rw [if_neg c20] at H
                    exact absurd H (by simp)
                · rw [if_neg c19] at H
                  exact absurd H (by simp)
              · rw [if_neg c17] at H
                exact absurd H (by simp)
      · rw [if_neg c3] at H
        have c3b0 : decide (x2_1 < 2) = false := decide_eq_false c3
        clear c3
        obtain rfl := Option.some.inj H
        go_wp2
        repeat (go_quiet (fail); try go_wp2)
        go_ret
        exact ⟨by first | rfl | (simp [errW_none, errW_some] <;> rfl) | (simp [*, errW_none, errW_some] <;> rfl), by repeat (first | (with_reducible first | exact HB.out | apply below_alloc | apply pw_below_drewN | apply below_drew1) | exact HB.out)⟩

/-- THE ONE PURE STATEMENT of reedpipelaw05_WindowHalves: yours. -/
def reedpipelaw05_WindowHalves.Pure : Prop := ∃ k, reedpipelaw05_WindowHalves.f k  = some true
theorem reedpipelaw05_WindowHalves.walk (P : reedpipelaw05_WindowHalves.Pure)  (w : World)  :
    Calls Try.prog 15 #[] w fun e w' => e = .returned (.bool true) ∧ Below w.heap.size w w' := by
  obtain ⟨k, h⟩ := P  
  refine (reedpipelaw05_WindowHalves.calls k  true w h).mono ?_
  rintro e w' ⟨rfl, hd⟩
  exact ⟨rfl, hd⟩

end Go.Proofs.Ytpoppdaaodmicaa.Q
