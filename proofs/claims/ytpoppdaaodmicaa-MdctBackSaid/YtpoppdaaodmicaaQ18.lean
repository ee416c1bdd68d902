-- Written by a program of this session's (wip/mk.py, over the kit's print.py); Lean checks it.
import Derived.Test.YtpoppdaaodmicaaQ0
import Derived.Test.YtpoppdaaodmicaaQ36
import Derived.Test.YtpoppdaaodmicaaQ37
import Derived.Test.YtpoppdaaodmicaaQ46
namespace Go.Proofs.Ytpoppdaaodmicaa.Q
open Go.RowKit Go.Proofs.YtpoppdaaodmicaaW.PrintWords Go.Proofs.YtpoppdaaodmicaaW.PrintLast Go.Proofs.YtpoppdaaodmicaaW.PrintMore
attribute [local go_sem] max2_int min2_int max_two min_two max_three min_three max_four min_four   -- for this text's walks alone
set_option linter.unusedVariables false
set_option linter.unusedSimpArgs false

/-! ### reedpipelaw11_MdctBack: function 18 -/
mutual
def reedpipelaw11_MdctBack.j0 : Nat → List Int → Bool → Bool → Option (Bool)
  | 0, _, _, _ => none
  | k + 1, x0, x3, x19 => if x19 = true then (some x3) else ((mdct_Forward.f x0).bind fun bt524 => (if bt524.2 = 0 then ((mdct_Inverse.f bt524.1).bind fun bt528 => (if bt528.2 = 0 then (reedpipelaw11_MdctBack.j1 k x0 x3 bt528.1 ((bt528.1.length : Int) != (x0.length : Int))) else (reedpipelaw11_MdctBack.j1 k x0 x3 bt528.1 true))) else (if x3 = true then (some ((bt524.1.length : Int) == 0)) else (some false))))
def reedpipelaw11_MdctBack.j1 : Nat → List Int → Bool → List Int → Bool → Option (Bool)
  | 0, _, _, _, _ => none
  | k + 1, x0, x3, x6, x47 => if x47 = true then (some false) else (reedpipelaw11_MdctBack.l0 k x0 x3 x6 (wrap64 ((x0.length : Int) / 2)) 0)
def reedpipelaw11_MdctBack.l0 : Nat → List Int → Bool → List Int → Int → Int → Option (Bool)
  | 0, _, _, _, _, _ => none
  | k + 1, x0, x3, x6, x8, x9 => if x9 < x8 then (if 0 ≤ x9 then (if x9 < (x6.length : Int) then (if x9 < (x0.length : Int) then (if 0 ≤ (wrap64 ((wrap64 (x8 - 1)) - x9)) then (if (wrap64 ((wrap64 (x8 - 1)) - x9)) < (x0.length : Int) then (if 0 ≤ (wrap64 (x8 + x9)) then (if (wrap64 (x8 + x9)) < (x6.length : Int) then (if (wrap64 (x8 + x9)) < (x0.length : Int) then (if 0 ≤ (wrap64 ((wrap64 ((wrap64 (2 * x8)) - 1)) - x9)) then (if (wrap64 ((wrap64 ((wrap64 (2 * x8)) - 1)) - x9)) < (x0.length : Int) then (if (wrap64 ((rd x6 x9) - (wrap64 ((rd x0 x9) - (rd x0 (wrap64 ((wrap64 (x8 - 1)) - x9))))))) > 512 then (some false) else (if (wrap64 ((rd x6 x9) - (wrap64 ((rd x0 x9) - (rd x0 (wrap64 ((wrap64 (x8 - 1)) - x9))))))) < (-512) then (some false) else (if (wrap64 ((rd x6 (wrap64 (x8 + x9))) - (wrap64 ((rd x0 (wrap64 (x8 + x9))) + (rd x0 (wrap64 ((wrap64 ((wrap64 (2 * x8)) - 1)) - x9))))))) > 512 then (some false) else (if (wrap64 ((rd x6 (wrap64 (x8 + x9))) - (wrap64 ((rd x0 (wrap64 (x8 + x9))) + (rd x0 (wrap64 ((wrap64 ((wrap64 (2 * x8)) - 1)) - x9))))))) < (-512) then (some false) else (reedpipelaw11_MdctBack.l0 k x0 x3 x6 x8 (wrap64 (x9 + 1))))))) else (none)) else (none)) else (none)) else (none)) else (none)) else (none)) else (none)) else (none)) else (none)) else (none)) else (some x3)
end
def reedpipelaw11_MdctBack.f (k : Nat) (l0 : List Int) : Option (Bool) := (reedpipelaw11_alive.f k).bind fun t523 => (if (l0.length : Int) > 1000 then (reedpipelaw11_MdctBack.j0 k l0 t523 true) else (reedpipelaw11_MdctBack.j0 k l0 t523 (!t523)))
theorem reedpipelaw11_MdctBack.mono_l : ∀ k, (∀ y0 y1 y2, LeO (reedpipelaw11_MdctBack.j0 k y0 y1 y2) (reedpipelaw11_MdctBack.j0 (k + 1) y0 y1 y2)) ∧ (∀ y0 y1 y2 y3, LeO (reedpipelaw11_MdctBack.j1 k y0 y1 y2 y3) (reedpipelaw11_MdctBack.j1 (k + 1) y0 y1 y2 y3)) ∧ (∀ y0 y1 y2 y3 y4, LeO (reedpipelaw11_MdctBack.l0 k y0 y1 y2 y3 y4) (reedpipelaw11_MdctBack.l0 (k + 1) y0 y1 y2 y3 y4))
  | 0 => ⟨fun _ _ _ r h => by simp [reedpipelaw11_MdctBack.j0] at h, fun _ _ _ _ r h => by simp [reedpipelaw11_MdctBack.j1] at h, fun _ _ _ _ _ r h => by simp [reedpipelaw11_MdctBack.l0] at h⟩
  | k + 1 => by
    obtain ⟨ih0, ih1, ih2⟩ := reedpipelaw11_MdctBack.mono_l k
    refine ⟨?_, ?_, ?_⟩
    · intro y0 y1 y2
      unfold reedpipelaw11_MdctBack.j0
      repeat' first
      | (with_reducible exact ih0 _ _ _)
      | (with_reducible exact ih1 _ _ _ _)
      | (with_reducible exact ih2 _ _ _ _ _)
      | (with_reducible exact reedpipelaw11_alive.mono _)
      | (with_reducible exact LeO.refl _)
      | (with_reducible exact LeO.none _)
      | (with_reducible refine LeO.ite ?_ ?_)
      | (with_reducible refine LeO.bind ?_ (fun _ => ?_))
      | exact ih0 _ _ _
      | exact ih1 _ _ _ _
      | exact ih2 _ _ _ _ _
      | exact reedpipelaw11_alive.mono _
      | exact LeO.none _
      | refine LeO.ite ?_ ?_
      | refine LeO.bind ?_ (fun _ => ?_)
    · intro y0 y1 y2 y3
      unfold reedpipelaw11_MdctBack.j1
      repeat' first
      | (with_reducible exact ih0 _ _ _)
      | (with_reducible exact ih1 _ _ _ _)
      | (with_reducible exact ih2 _ _ _ _ _)
      | (with_reducible exact reedpipelaw11_alive.mono _)
      | (with_reducible exact LeO.refl _)
      | (with_reducible exact LeO.none _)
      | (with_reducible refine LeO.ite ?_ ?_)
      | (with_reducible refine LeO.bind ?_ (fun _ => ?_))
      | exact ih0 _ _ _
      | exact ih1 _ _ _ _
      | exact ih2 _ _ _ _ _
      | exact reedpipelaw11_alive.mono _
      | exact LeO.none _
      | refine LeO.ite ?_ ?_
      | refine LeO.bind ?_ (fun _ => ?_)
    · intro y0 y1 y2 y3 y4
      unfold reedpipelaw11_MdctBack.l0
      repeat' first
      | (with_reducible exact ih0 _ _ _)
      | (with_reducible exact ih1 _ _ _ _)
      | (with_reducible exact ih2 _ _ _ _ _)
      | (with_reducible exact reedpipelaw11_alive.mono _)
      | (with_reducible exact LeO.refl _)
      | (with_reducible exact LeO.none _)
      | (with_reducible refine LeO.ite ?_ ?_)
      | (with_reducible refine LeO.bind ?_ (fun _ => ?_))
      | exact ih0 _ _ _
      | exact ih1 _ _ _ _
      | exact ih2 _ _ _ _ _
      | exact reedpipelaw11_alive.mono _
      | exact LeO.none _
      | refine LeO.ite ?_ ?_
      | refine LeO.bind ?_ (fun _ => ?_)
theorem reedpipelaw11_MdctBack.mono : ∀ a0 k, LeO (reedpipelaw11_MdctBack.f k a0) (reedpipelaw11_MdctBack.f (k + 1) a0) := by
  intro a0 k
  obtain ⟨ih0, ih1, ih2⟩ := reedpipelaw11_MdctBack.mono_l k
  unfold reedpipelaw11_MdctBack.f
  repeat' first
      | (with_reducible exact ih0 _ _ _)
      | (with_reducible exact ih1 _ _ _ _)
      | (with_reducible exact ih2 _ _ _ _ _)
      | (with_reducible exact reedpipelaw11_alive.mono _)
      | (with_reducible exact LeO.refl _)
      | (with_reducible exact LeO.none _)
      | (with_reducible refine LeO.ite ?_ ?_)
      | (with_reducible refine LeO.bind ?_ (fun _ => ?_))
      | exact ih0 _ _ _
      | exact ih1 _ _ _ _
      | exact ih2 _ _ _ _ _
      | exact reedpipelaw11_alive.mono _
      | exact LeO.none _
      | refine LeO.ite ?_ ?_
      | refine LeO.bind ?_ (fun _ => ?_)
set_option maxHeartbeats 8000000 in
set_option maxRecDepth 100000 in
theorem reedpipelaw11_MdctBack.calls (k : Nat) (A0 : Option Addr) (c0 : Nat) (l0 : List Int) (r : Bool) (w : World) (hr0 : Kd.C (Kd.int .i64) w A0 l0.length l0) (hc0 : l0.length ≤ c0) (h : reedpipelaw11_MdctBack.f k l0 = some r) :
    Calls Try.prog 18 #[.slice A0 l0.length c0] w fun e w' => e = .returned (.bool r) ∧ Below w.heap.size w w' := by
  have HR0 := Aside0.mk hr0
  have HC0 := Aside0.mk hc0
  clear hr0 hc0
  have HB := Aside0.mk (Below.refl w.heap.size w)
  have H : ((reedpipelaw11_alive.f k).bind fun t523 => (if (l0.length : Int) > 1000 then (reedpipelaw11_MdctBack.j0 k l0 t523 true) else (reedpipelaw11_MdctBack.j0 k l0 t523 (!t523)))) = some r := h
  clear h
  replace H := Option.bind_eq_some_iff.mp H
  obtain ⟨t523, A20, H⟩ := H
  replace H : (if (l0.length : Int) > 1000 then (reedpipelaw11_MdctBack.j0 k l0 t523 true) else (reedpipelaw11_MdctBack.j0 k l0 t523 (!t523))) = some r := H
  have A2 := Aside0.mk A20
  clear A20
  have HC3 := Aside0.mk H
  clear H
  go_enter Try.func18, Try.ntmps18
  go_upto_region 2 with (first | (go_at_call 36; (with_reducible refine (reedpipelaw11_alive.calls k  t523 _ A2.out).mono ?_); rintro e w4 ⟨rfl, hb⟩; have n0_ := Aside0.mk (below_step (by repeat (first | (with_reducible first | exact HB.out | apply below_alloc | apply pw_below_drewN | apply below_drew1) | exact HB.out)) hb); clear HB; have HB := n0_; clear n0_; (try clear hb); (try clear hb2); (try clear hk); (try clear hi)))
  repeat (go_quiet (first | (go_at_call 36; (with_reducible refine (reedpipelaw11_alive.calls k  t523 _ A2.out).mono ?_); rintro e w4 ⟨rfl, hb⟩; have n0_ := Aside0.mk (below_step (by repeat (first | (with_reducible first | exact HB.out | apply below_alloc | apply pw_below_drewN | apply below_drew1) | exact HB.out)) hb); clear HB; have HB := n0_; clear n0_; (try clear hb); (try clear hb2); (try clear hk); (try clear hi))); go_upto_region 2 with (first | (go_at_call 36; (with_reducible refine (reedpipelaw11_alive.calls k  t523 _ A2.out).mono ?_); rintro e w4 ⟨rfl, hb⟩; have n0_ := Aside0.mk (below_step (by repeat (first | (with_reducible first | exact HB.out | apply below_alloc | apply pw_below_drewN | apply below_drew1) | exact HB.out)) hb); clear HB; have HB := n0_; clear n0_; (try clear hb); (try clear hb2); (try clear hk); (try clear hi))))
  (try simp only [Act.put, List.setIfInBounds_toArray, List.set_cons_zero, List.set_cons_succ])
  go_cut [19] (fun v19 wc => ∃ (kq : Nat) (x19_2 : Bool), v19 = .bool x19_2 ∧ Aside0 (reedpipelaw11_MdctBack.j0 kq l0 t523 x19_2 = some r) ∧ Aside0 (kq ≤ k) ∧ Aside0 (Below w.heap.size w wc))
  case first =>
    have H := HC3.out
    clear HC3
    by_cases c5 : (l0.length : Int) > 1000
    · rw [if_pos c5] at H
      have c5b0 : decide (1000 < (l0.length : Int)) = true := decide_eq_true c5
      have c5b1 : decide (1000 < l0.length) = true := decide_eq_true (by omega)
      clear c5
      (first | rw [c5b0] | (simp only [i64_w, i32_w]; rw [c5b0]) | skip)
      have H' := Aside0.mk H
      clear H
      go_wp2
      repeat (go_quiet (fail); try go_wp2)
      go_meet
      case rel => exact ⟨_, (true), (by first | rfl | (simp; done) | (simp [*]; done)), H', ⟨by first | omega | exact Nat.le_refl _⟩, ⟨by repeat (first | (with_reducible first | exact HB.out | apply below_alloc | apply pw_below_drewN | apply below_drew1) | exact HB.out)⟩⟩
    · rw [if_neg c5] at H
      have c5b0 : decide (1000 < (l0.length : Int)) = false := decide_eq_false c5
      have c5b1 : decide (1000 < l0.length) = false := decide_eq_false (by omega)
      clear c5
      (first | rw [c5b0] | (simp only [i64_w, i32_w]; rw [c5b0]) | skip)
      have H' := Aside0.mk H
      clear H
      go_wp2
      repeat (go_quiet (fail); try go_wp2)
      go_meet
      case rel => exact ⟨_, (!t523), (by first | rfl | (simp; done) | (simp [*]; done)), H', ⟨by first | omega | exact Nat.le_refl _⟩, ⟨by repeat (first | (with_reducible first | exact HB.out | apply below_alloc | apply pw_below_drewN | apply below_drew1) | exact HB.out)⟩⟩
  case rest =>
    clear HC3
    try clear c1
    try clear p2
    try clear c5
    try clear c5b0
    try clear c5b1
    obtain ⟨kq, x19_2, rfl, HA, HJ2, HB⟩ := hcut
    cases kq with
    | zero => exact absurd HA.out (by simp [reedpipelaw11_MdctBack.j0])
    | succ kj2 =>
      have H := HA.out
      clear HA
      simp only [reedpipelaw11_MdctBack.j0] at H
      by_cases c6 : x19_2 = true
      · subst c6
        have H1 : (some t523) = some r := by rw [if_pos rfl] at H; exact H
        clear H
        have H := H1
        clear H1
        obtain rfl := Option.some.inj H
        go_wp2
        repeat (go_quiet (fail); try go_wp2)
        go_ret
        exact ⟨by first | rfl | (simp [errW_none, errW_some] <;> rfl) | (simp [*, errW_none, errW_some] <;> rfl), by repeat (first | (with_reducible first | exact HB.out | apply below_alloc | apply pw_below_drewN | apply below_drew1) | exact HB.out)⟩
      · replace c6 := Bool.eq_false_iff.mpr c6
        subst c6
        have H1 : ((mdct_Forward.f l0).bind fun bt524 => (if bt524.2 = 0 then ((mdct_Inverse.f bt524.1).bind fun bt528 => (if bt528.2 = 0 then (reedpipelaw11_MdctBack.j1 kj2 l0 t523 bt528.1 ((bt528.1.length : Int) != (l0.length : Int))) else (reedpipelaw11_MdctBack.j1 kj2 l0 t523 bt528.1 true))) else (if t523 = true then (some ((bt524.1.length : Int) == 0)) else (some false)))) = some r := by rw [if_neg (show ¬ (false = true) by decide)] at H; exact H
        clear H
        have H := H1
        clear H1
        replace H := Option.bind_eq_some_iff.mp H
        obtain ⟨⟨t524, t525⟩, A70, H⟩ := H
        replace H : (if t525 = 0 then ((mdct_Inverse.f t524).bind fun bt528 => (if bt528.2 = 0 then (reedpipelaw11_MdctBack.j1 kj2 l0 t523 bt528.1 ((bt528.1.length : Int) != (l0.length : Int))) else (reedpipelaw11_MdctBack.j1 kj2 l0 t523 bt528.1 true))) else (if t523 = true then (some ((t524.length : Int) == 0)) else (some false))) = some r := H
        have A7 := Aside0.mk A70
        clear A70
        by_cases c8 : t525 = 0
        · rw [if_pos c8] at H
          have c8b0 : (t525 == 0) = true := beq_iff_eq.mpr c8
          have c8b1 : (t525 != 0) = false := bne_eq_false_iff_eq.mpr c8
          clear c8
          replace H := Option.bind_eq_some_iff.mp H
          obtain ⟨⟨t528, t529⟩, A90, H⟩ := H
          replace H : (if t529 = 0 then (reedpipelaw11_MdctBack.j1 kj2 l0 t523 t528 ((t528.length : Int) != (l0.length : Int))) else (reedpipelaw11_MdctBack.j1 kj2 l0 t523 t528 true)) = some r := H
          have A9 := Aside0.mk A90
          clear A90
          have HC10 := Aside0.mk H
          clear H
          go_upto_region 8 with (first | (go_at_call 37; (with_reducible refine (mdct_Forward.calls _ _ l0 t524 t525 _ ?side1 ?side2 A7.out).mono ?_); (case side1 => repeat (first | exact (Kd.C_below HR0.out HB.out) | (with_reducible refine Kd.C_alloc ?_ _) | (with_reducible refine Kd.C_drewN ?_ _) | (with_reducible refine Kd.C_drew ?_))); (case side2 => exact HC0.out); rintro e w11 ⟨v526, rfl, ho0, hb⟩; have n0_ := Aside0.mk (Kd.R_lower ho0 (below_size (by repeat (first | (with_reducible first | exact HB.out | apply below_alloc | apply pw_below_drewN | apply below_drew1) | exact HB.out)))); have n1_ := Aside0.mk (below_step (by repeat (first | (with_reducible first | exact HB.out | apply below_alloc | apply pw_below_drewN | apply below_drew1) | exact HB.out)) hb); clear HB; have HO527 := n0_; have HB := n1_; clear n0_ n1_; (try clear hb); (try clear hb2); (try clear hk); (try clear hi); (try clear ho0); obtain ⟨Ao12, co12, eo12⟩ := Kd.R_slice HO527.out; subst eo12) | (go_at_call 46; (with_reducible refine (mdct_Inverse.calls _ _ t524 t528 t529 _ ?side1 ?side2 A9.out).mono ?_); (case side1 => repeat (first | exact (Kd.R_reads' HO527.out).2.2 | (with_reducible refine Kd.C_alloc ?_ _) | (with_reducible refine Kd.C_drewN ?_ _) | (with_reducible refine Kd.C_drew ?_))); (case side2 => exact (Kd.R_reads' HO527.out).2.1); rintro e w13 ⟨v530, rfl, ho0, hb⟩; have n0_ := Aside0.mk (Kd.R_elder' (by (with_reducible repeat (first | apply Kd.R_alloc | apply Kd.R_drewN | apply Kd.R_drew)); exact HO527.out) (Kd.R_base ho0) hb); have n1_ := Aside0.mk (Kd.R_lower (Kd.R_new' ho0 (Kd.R_lt (by (with_reducible repeat (first | apply Kd.R_alloc | apply Kd.R_drewN | apply Kd.R_drew)); exact HO527.out))) (below_size (by repeat (first | (with_reducible first | exact HB.out | apply below_alloc | apply pw_below_drewN | apply below_drew1) | exact HB.out)))); have n2_ := Aside0.mk (below_step (by repeat (first | (with_reducible first | exact HB.out | apply below_alloc | apply pw_below_drewN | apply below_drew1) | exact HB.out)) hb); clear HO527; clear HB; have HO527 := n0_; have HO531 := n1_; have HB := n2_; clear n0_ n1_ n2_; (try clear hb); (try clear hb2); (try clear hk); (try clear hi); (try clear ho0)))
          repeat (go_quiet (first | (go_at_call 37; (with_reducible refine (mdct_Forward.calls _ _ l0 t524 t525 _ ?side1 ?side2 A7.out).mono ?_); (case side1 => repeat (first | exact (Kd.C_below HR0.out HB.out) | (with_reducible refine Kd.C_alloc ?_ _) | (with_reducible refine Kd.C_drewN ?_ _) | (with_reducible refine Kd.C_drew ?_))); (case side2 => exact HC0.out); rintro e w11 ⟨v526, rfl, ho0, hb⟩; have n0_ := Aside0.mk (Kd.R_lower ho0 (below_size (by repeat (first | (with_reducible first | exact HB.out | apply below_alloc | apply pw_below_drewN | apply below_drew1) | exact HB.out)))); have n1_ := Aside0.mk (below_step (by repeat (first | (with_reducible first | exact HB.out | apply below_alloc | apply pw_below_drewN | apply below_drew1) | exact HB.out)) hb); clear HB; have HO527 := n0_; have HB := n1_; clear n0_ n1_; (try clear hb); (try clear hb2); (try clear hk); (try clear hi); (try clear ho0); obtain ⟨Ao12, co12, eo12⟩ := Kd.R_slice HO527.out; subst eo12) | (go_at_call 46; (with_reducible refine (mdct_Inverse.calls _ _ t524 t528 t529 _ ?side1 ?side2 A9.out).mono ?_); (case side1 => repeat (first | exact (Kd.R_reads' HO527.out).2.2 | (with_reducible refine Kd.C_alloc ?_ _) | (with_reducible refine Kd.C_drewN ?_ _) | (with_reducible refine Kd.C_drew ?_))); (case side2 => exact (Kd.R_reads' HO527.out).2.1); rintro e w13 ⟨v530, rfl, ho0, hb⟩; have n0_ := Aside0.mk (Kd.R_elder' (by (with_reducible repeat (first | apply Kd.R_alloc | apply Kd.R_drewN | apply Kd.R_drew)); exact HO527.out) (Kd.R_base ho0) hb); have n1_ := Aside0.mk (Kd.R_lower (Kd.R_new' ho0 (Kd.R_lt (by (with_reducible repeat (first | apply Kd.R_alloc | apply Kd.R_drewN | apply Kd.R_drew)); exact HO527.out))) (below_size (by repeat (first | (with_reducible first | exact HB.out | apply below_alloc | apply pw_below_drewN | apply below_drew1) | exact HB.out)))); have n2_ := Aside0.mk (below_step (by repeat (first | (with_reducible first | exact HB.out | apply below_alloc | apply pw_below_drewN | apply below_drew1) | exact HB.out)) hb); clear HO527; clear HB; have HO527 := n0_; have HO531 := n1_; have HB := n2_; clear n0_ n1_ n2_; (try clear hb); (try clear hb2); (try clear hk); (try clear hi); (try clear ho0))); go_upto_region 8 with (first | (go_at_call 37; (with_reducible refine (mdct_Forward.calls _ _ l0 t524 t525 _ ?side1 ?side2 A7.out).mono ?_); (case side1 => repeat (first | exact (Kd.C_below HR0.out HB.out) | (with_reducible refine Kd.C_alloc ?_ _) | (with_reducible refine Kd.C_drewN ?_ _) | (with_reducible refine Kd.C_drew ?_))); (case side2 => exact HC0.out); rintro e w11 ⟨v526, rfl, ho0, hb⟩; have n0_ := Aside0.mk (Kd.R_lower ho0 (below_size (by repeat (first | (with_reducible first | exact HB.out | apply below_alloc | apply pw_below_drewN | apply below_drew1) | exact HB.out)))); have n1_ := Aside0.mk (below_step (by repeat (first | (with_reducible first | exact HB.out | apply below_alloc | apply pw_below_drewN | apply below_drew1) | exact HB.out)) hb); clear HB; have HO527 := n0_; have HB := n1_; clear n0_ n1_; (try clear hb); (try clear hb2); (try clear hk); (try clear hi); (try clear ho0); obtain ⟨Ao12, co12, eo12⟩ := Kd.R_slice HO527.out; subst eo12) | (go_at_call 46; (with_reducible refine (mdct_Inverse.calls _ _ t524 t528 t529 _ ?side1 ?side2 A9.out).mono ?_); (case side1 => repeat (first | exact (Kd.R_reads' HO527.out).2.2 | (with_reducible refine Kd.C_alloc ?_ _) | (with_reducible refine Kd.C_drewN ?_ _) | (with_reducible refine Kd.C_drew ?_))); (case side2 => exact (Kd.R_reads' HO527.out).2.1); rintro e w13 ⟨v530, rfl, ho0, hb⟩; have n0_ := Aside0.mk (Kd.R_elder' (by (with_reducible repeat (first | apply Kd.R_alloc | apply Kd.R_drewN | apply Kd.R_drew)); exact HO527.out) (Kd.R_base ho0) hb); have n1_ := Aside0.mk (Kd.R_lower (Kd.R_new' ho0 (Kd.R_lt (by (with_reducible repeat (first | apply Kd.R_alloc | apply Kd.R_drewN | apply Kd.R_drew)); exact HO527.out))) (below_size (by repeat (first | (with_reducible first | exact HB.out | apply below_alloc | apply pw_below_drewN | apply below_drew1) | exact HB.out)))); have n2_ := Aside0.mk (below_step (by repeat (first | (with_reducible first | exact HB.out | apply below_alloc | apply pw_below_drewN | apply below_drew1) | exact HB.out)) hb); clear HO527; clear HB; have HO527 := n0_; have HO531 := n1_; have HB := n2_; clear n0_ n1_ n2_; (try clear hb); (try clear hb2); (try clear hk); (try clear hi); (try clear ho0))))
          (try simp only [Act.put, List.setIfInBounds_toArray, List.set_cons_zero, List.set_cons_succ])
          go_cut [47] (fun v47 wc => ∃ (kq : Nat) (x47_9 : Bool), v47 = .bool x47_9 ∧ Aside0 (reedpipelaw11_MdctBack.j1 kq l0 t523 t528 x47_9 = some r) ∧ Aside0 (kq ≤ kj2) ∧ Aside0 (Kd.R (Kd.int .i64) 3 wc w.heap.size (fun _ => True) v530 t528) ∧ Aside0 (Below w.heap.size w wc))
          case first =>
            have H := HC10.out
            clear HC10
            by_cases c14 : t529 = 0
            · rw [if_pos c14] at H
              have c14b0 : (t529 == 0) = true := beq_iff_eq.mpr c14
              have c14b1 : (t529 != 0) = false := bne_eq_false_iff_eq.mpr c14
              clear c14
              (first | rw [c14b0] | (simp only [i64_w, i32_w]; rw [c14b0]) | skip)
              have H' := Aside0.mk H
              clear H
              obtain ⟨Ao15, co15, eo15⟩ := Kd.R_slice HO531.out
              subst eo15
              go_wp2
              repeat (go_quiet (fail); try go_wp2)
              go_meet
              case rel => exact ⟨_, (((t528.length : Int) != (l0.length : Int))), (by first | rfl | (simp; done) | (simp [*]; done)), H', ⟨by have := HJ2.out; first | omega | exact Nat.le_refl _⟩, ⟨by (with_reducible repeat (first | apply Kd.R_alloc | apply Kd.R_drewN | apply Kd.R_drew)); exact Kd.R_mono HO531.out (fun _ hk => trivial)⟩, ⟨by repeat (first | (with_reducible first | exact HB.out | apply below_alloc | apply pw_below_drewN | apply below_drew1) | exact HB.out)⟩⟩
            · rw [if_neg c14] at H
              have c14b0 : (t529 == 0) = false := beq_eq_false_iff_ne.mpr c14
              have c14b1 : (t529 != 0) = true := bne_iff_ne.mpr c14
              (first | rw [c14b0] | (simp only [i64_w, i32_w]; rw [c14b0]) | skip)
              have H' := Aside0.mk H
              clear H
              go_wp2
              repeat (go_quiet (fail); try go_wp2)
              go_meet
              case rel => exact ⟨_, (true), (by first | rfl | (simp; done) | (simp [*]; done)), H', ⟨by have := HJ2.out; first | omega | exact Nat.le_refl _⟩, ⟨by (with_reducible repeat (first | apply Kd.R_alloc | apply Kd.R_drewN | apply Kd.R_drew)); exact Kd.R_mono HO531.out (fun _ hk => trivial)⟩, ⟨by repeat (first | (with_reducible first | exact HB.out | apply below_alloc | apply pw_below_drewN | apply below_drew1) | exact HB.out)⟩⟩
          case rest =>
            clear HC10
            try clear c1
            try clear p2
            try clear c5
            try clear c5b0
            try clear c5b1
            try clear c6
            try clear c8
            try clear c8b0
            try clear c8b1
            try clear c14
            try clear c14b0
            try clear c14b1
            try clear p2
            obtain ⟨kq, x47_9, rfl, HA, HJ9, HO_6, HB⟩ := hcut
            cases kq with
            | zero => exact absurd HA.out (by simp [reedpipelaw11_MdctBack.j1])
            | succ kj9 =>
              have H := HA.out
              clear HA
              simp only [reedpipelaw11_MdctBack.j1] at H
              by_cases c16 : x47_9 = true
              · subst c16
                have H1 : (some false) = some r := by rw [if_pos rfl] at H; exact H
                clear H
                have H := H1
                clear H1
                obtain rfl := Option.some.inj H
                go_wp2
                repeat (go_quiet (fail); try go_wp2)
                go_ret
                exact ⟨by first | rfl | (simp [errW_none, errW_some] <;> rfl) | (simp [*, errW_none, errW_some] <;> rfl), by repeat (first | (with_reducible first | exact HB.out | apply below_alloc | apply pw_below_drewN | apply below_drew1) | exact HB.out)⟩
              · replace c16 := Bool.eq_false_iff.mpr c16
                subst c16
                have H1 : (reedpipelaw11_MdctBack.l0 kj9 l0 t523 t528 (wrap64 ((l0.length : Int) / 2)) 0) = some r := by rw [if_neg (show ¬ (false = true) by decide)] at H; exact H
                clear H
                have H := H1
                clear H1
                have H' := Aside0.mk H
                clear H
                go_wp2
                repeat (go_quiet (fail); try go_wp2)
                go_loopg [9] kj9 (fun kq v9 w' => ∃ (x9_3 : Int), v9 = .int .i64 x9_3 ∧ Aside0 (reedpipelaw11_MdctBack.l0 kq l0 t523 t528 (wrap64 ((l0.length : Int) / 2)) x9_3 = some r) ∧ Aside0 (kq ≤ kj9) ∧ Aside0 (Kd.R (Kd.int .i64) 3 w' w.heap.size (fun _ => True) v530 t528) ∧ Aside0 (Below w.heap.size w w'))
                case atStart => exact ⟨(0), (by first | rfl | (simp; done) | (simp [*]; done)), H', ⟨Nat.le_refl _⟩, ⟨by (with_reducible repeat (first | apply Kd.R_alloc | apply Kd.R_drewN | apply Kd.R_drew)); exact HO_6.out⟩, ⟨by repeat (first | (with_reducible first | exact HB.out | apply below_alloc | apply pw_below_drewN | apply below_drew1) | exact HB.out)⟩⟩
                case round =>
                  clear H'
                  try clear c1
                  try clear p2
                  try clear c5
                  try clear c5b0
                  try clear c5b1
                  try clear c6
                  try clear p6
                  try clear c8
                  try clear c8b0
                  try clear c8b1
                  try clear c14
                  try clear c14b0
                  try clear c14b1
                  try clear c16
                  try clear p2
                  obtain ⟨x9_3, rfl, HA, HK3, HO_6, HB⟩ := hrel
                  cases gk with
                  | zero => exact absurd HA.out (by simp [reedpipelaw11_MdctBack.l0])
                  | succ k3 =>
                    have H := HA.out
                    clear HA
                    simp only [reedpipelaw11_MdctBack.l0] at H
                    by_cases c17 : x9_3 < (wrap64 ((l0.length : Int) / 2))
                    · rw [if_pos c17] at H
                      have c17b0 : decide (x9_3 < (wrap64 ((l0.length : Int) / 2))) = true := decide_eq_true c17
                      clear c17
                      by_cases c18 : 0 ≤ x9_3
                      · rw [if_pos c18] at H
                        have c18b0 : decide (0 ≤ x9_3) = true := decide_eq_true c18
                        clear c18
                        by_cases c19 : x9_3 < (t528.length : Int)
                        · rw [if_pos c19] at H
                          have c19b0 : decide (x9_3 < (t528.length : Int)) = true := decide_eq_true c19
                          clear c19
                          by_cases c20 : x9_3 < (l0.length : Int)
                          · rw [if_pos c20] at H
                            have c20b0 : decide (x9_3 < (l0.length : Int)) = true := decide_eq_true c20
                            clear c20
                            obtain ⟨ji21, hji21⟩ : ∃ j_ : Int, (wrap64 ((wrap64 ((wrap64 ((l0.length : Int) / 2)) - 1)) - x9_3)) = j_ := ⟨_, rfl⟩
                            replace H : (if 0 ≤ (ji21) then (if (ji21) < (l0.length : Int) then (if 0 ≤ (wrap64 ((wrap64 ((l0.length : Int) / 2)) + x9_3)) then (if (wrap64 ((wrap64 ((l0.length : Int) / 2)) + x9_3)) < (t528.length : Int) then (if (wrap64 ((wrap64 ((l0.length : Int) / 2)) + x9_3)) < (l0.length : Int) then (if 0 ≤ (wrap64 ((wrap64 ((wrap64 (2 * (wrap64 ((l0.length : Int) / 2)))) - 1)) - x9_3)) then (if (wrap64 ((wrap64 ((wrap64 (2 * (wrap64 ((l0.length : Int) / 2)))) - 1)) - x9_3)) < (l0.length : Int) then (if (wrap64 ((rd t528 x9_3) - (wrap64 ((rd l0 x9_3) - (rd l0 (ji21)))))) > 512 then (some false) else (if (wrap64 ((rd t528 x9_3) - (wrap64 ((rd l0 x9_3) - (rd l0 (ji21)))))) < (-512) then (some false) else (if (wrap64 ((rd t528 (wrap64 ((wrap64 ((l0.length : Int) / 2)) + x9_3))) - (wrap64 ((rd l0 (wrap64 ((wrap64 ((l0.length : Int) / 2)) + x9_3))) + (rd l0 (wrap64 ((wrap64 ((wrap64 (2 * (wrap64 ((l0.length : Int) / 2)))) - 1)) - x9_3))))))) > 512 then (some false) else (if (wrap64 ((rd t528 (wrap64 ((wrap64 ((l0.length : Int) / 2)) + x9_3))) - (wrap64 ((rd l0 (wrap64 ((wrap64 ((l0.length : Int) / 2)) + x9_3))) + (rd l0 (wrap64 ((wrap64 ((wrap64 (2 * (wrap64 ((l0.length : Int) / 2)))) - 1)) - x9_3))))))) < (-512) then (some false) else (reedpipelaw11_MdctBack.l0 k3 l0 t523 t528 (wrap64 ((l0.length : Int) / 2)) (wrap64 (x9_3 + 1))))))) else (none)) else (none)) else (none)) else (none)) else (none)) else (none)) else (none)) = some r := by first | (rw [hji21] at H; exact H) | (simp only [hji21] at H ⊢; exact H)
                            have hji21w : (IntKind.i64.wrap ((wrap64 ((wrap64 ((l0.length : Int) / 2)) - 1)) - x9_3)) = ji21 := (i64_w _).trans hji21
                            by_cases c22 : 0 ≤ (ji21)
                            · rw [if_pos c22] at H
                              have c22b0 : decide (0 ≤ (ji21)) = true := decide_eq_true c22
                              clear c22
                              by_cases c23 : (ji21) < (l0.length : Int)
                              · rw [if_pos c23] at H
                                have c23b0 : decide ((ji21) < (l0.length : Int)) = true := decide_eq_true c23
                                clear c23
                                obtain ⟨ji24, hji24⟩ : ∃ j_ : Int, (wrap64 ((wrap64 ((l0.length : Int) / 2)) + x9_3)) = j_ := ⟨_, rfl⟩
                                replace H : (if 0 ≤ (ji24) then (if (ji24) < (t528.length : Int) then (if (ji24) < (l0.length : Int) then (if 0 ≤ (wrap64 ((wrap64 ((wrap64 (2 * (wrap64 ((l0.length : Int) / 2)))) - 1)) - x9_3)) then (if (wrap64 ((wrap64 ((wrap64 (2 * (wrap64 ((l0.length : Int) / 2)))) - 1)) - x9_3)) < (l0.length : Int) then (if (wrap64 ((rd t528 x9_3) - (wrap64 ((rd l0 x9_3) - (rd l0 (ji21)))))) > 512 then (some false) else (if (wrap64 ((rd t528 x9_3) - (wrap64 ((rd l0 x9_3) - (rd l0 (ji21)))))) < (-512) then (some false) else (if (wrap64 ((rd t528 (ji24)) - (wrap64 ((rd l0 (ji24)) + (rd l0 (wrap64 ((wrap64 ((wrap64 (2 * (wrap64 ((l0.length : Int) / 2)))) - 1)) - x9_3))))))) > 512 then (some false) else (if (wrap64 ((rd t528 (ji24)) - (wrap64 ((rd l0 (ji24)) + (rd l0 (wrap64 ((wrap64 ((wrap64 (2 * (wrap64 ((l0.length : Int) / 2)))) - 1)) - x9_3))))))) < (-512) then (some false) else (reedpipelaw11_MdctBack.l0 k3 l0 t523 t528 (wrap64 ((l0.length : Int) / 2)) (wrap64 (x9_3 + 1))))))) else (none)) else (none)) else (none)) else (none)) else (none)) = some r := by first | (rw [hji24] at H; exact H) | (simp only [hji24] at H ⊢; exact H)
                                have hji24w : (IntKind.i64.wrap ((wrap64 ((l0.length : Int) / 2)) + x9_3)) = ji24 := (i64_w _).trans hji24
                                by_cases c25 : 0 ≤ (ji24)
                                · rw [if_pos c25] at H
                                  have c25b0 : decide (0 ≤ (ji24)) = true := decide_eq_true c25
                                  clear c25
                                  by_cases c26 : (ji24) < (t528.length : Int)
                                  · rw [if_pos c26] at H
                                    have c26b0 : decide ((ji24) < (t528.length : Int)) = true := decide_eq_true c26
                                    clear c26
                                    by_cases c27 : (ji24) < (l0.length : Int)
                                    · rw [if_pos c27] at H
                                      have c27b0 : decide ((ji24) < (l0.length : Int)) = true := decide_eq_true c27
                                      clear c27
                                      obtain ⟨ji28, hji28⟩ : ∃ j_ : Int, (wrap64 ((wrap64 ((wrap64 (2 * (wrap64 ((l0.length : Int) / 2)))) - 1)) - x9_3)) = j_ := ⟨_, rfl⟩
                                      replace H : (if 0 ≤ (ji28) then (if (ji28) < (l0.length : Int) then (if (wrap64 ((rd t528 x9_3) - (wrap64 ((rd l0 x9_3) - (rd l0 (ji21)))))) > 512 then (some false) else (if (wrap64 ((rd t528 x9_3) - (wrap64 ((rd l0 x9_3) - (rd l0 (ji21)))))) < (-512) then (some false) else (if (wrap64 ((rd t528 (ji24)) - (wrap64 ((rd l0 (ji24)) + (rd l0 (ji28)))))) > 512 then (some false) else (if (wrap64 ((rd t528 (ji24)) - (wrap64 ((rd l0 (ji24)) + (rd l0 (ji28)))))) < (-512) then (some false) else (reedpipelaw11_MdctBack.l0 k3 l0 t523 t528 (wrap64 ((l0.length : Int) / 2)) (wrap64 (x9_3 + 1))))))) else (none)) else (none)) = some r := by first | (rw [hji28] at H; exact H) | (simp only [hji28] at H ⊢; exact H)
                                      have hji28w : (IntKind.i64.wrap ((wrap64 ((wrap64 (2 * (wrap64 ((l0.length : Int) / 2)))) - 1)) - x9_3)) = ji28 := (i64_w _).trans hji28
                                      by_cases c29 : 0 ≤ (ji28)
                                      · rw [if_pos c29] at H
                                        have c29b0 : decide (0 ≤ (ji28)) = true := decide_eq_true c29
                                        clear c29
                                        by_cases c30 : (ji28) < (l0.length : Int)
                                        · rw [if_pos c30] at H
                                          have c30b0 : decide ((ji28) < (l0.length : Int)) = true := decide_eq_true c30
                                          clear c30
                                          by_cases c31 : (wrap64 ((rd t528 x9_3) - (wrap64 ((rd l0 x9_3) - (rd l0 (ji21)))))) > 512
                                          · rw [if_pos c31] at H
                                            have c31b0 : decide (512 < (wrap64 ((rd t528 x9_3) - (wrap64 ((rd l0 x9_3) - (rd l0 (ji21))))))) = true := decide_eq_true c31
                                            clear c31
                                            obtain rfl := Option.some.inj H
                                            obtain ⟨Ao32, co32, eo32⟩ := Kd.R_slice HO_6.out
                                            subst eo32
                                            have p532 : 0 ≤ (x9_3 : Int) := of_decide_eq_true (by first | (with_reducible assumption) | assumption)
                                            have q532 : x9_3 < (t528.length : Int) := of_decide_eq_true (by first | (with_reducible assumption) | assumption)
                                            obtain ⟨ad532, e532, hx532_0⟩ := Kd.at_int (Kd.R_reads' HO_6.out).2.2 x9_3 p532 q532
                                            cases e532
                                            replace p532 := eq_true p532
                                            replace q532 := eq_true q532
                                            have p533 : 0 ≤ (x9_3 : Int) := of_decide_eq_true (by first | (with_reducible assumption) | assumption)
                                            have q533 : x9_3 < (l0.length : Int) := of_decide_eq_true (by first | (with_reducible assumption) | assumption)
                                            obtain ⟨ad533, e533, hx533_0⟩ := Kd.at_int HR0.out x9_3 p533 q533
                                            cases e533
                                            replace hx533_0 := (HB.out.cell (World.block_lt_of_cell? w _ hx533_0)).trans hx533_0
                                            replace p533 := eq_true p533
                                            replace q533 := eq_true q533
                                            have p534 : 0 ≤ ((ji21) : Int) := of_decide_eq_true (by first | (with_reducible assumption) | assumption)
                                            have q534 : (ji21) < (l0.length : Int) := of_decide_eq_true (by first | (with_reducible assumption) | assumption)
                                            obtain ⟨ad534, e534, hx534_0⟩ := Kd.at_int HR0.out (ji21) p534 q534
                                            obtain rfl : ad533 = ad534 := (by injection e534)
                                            replace hx534_0 := (HB.out.cell (World.block_lt_of_cell? w _ hx534_0)).trans hx534_0
                                            replace p534 := eq_true p534
                                            replace q534 := eq_true q534
                                            have p535 : 0 ≤ ((ji24) : Int) := of_decide_eq_true (by first | (with_reducible assumption) | assumption)
                                            have q535 : (ji24) < (t528.length : Int) := of_decide_eq_true (by first | (with_reducible assumption) | assumption)
                                            obtain ⟨ad535, e535, hx535_0⟩ := Kd.at_int (Kd.R_reads' HO_6.out).2.2 (ji24) p535 q535
                                            obtain rfl : ad532 = ad535 := (by injection e535)
                                            replace p535 := eq_true p535
                                            replace q535 := eq_true q535
                                            have p536 : 0 ≤ ((ji24) : Int) := of_decide_eq_true (by first | (with_reducible assumption) | assumption)
                                            have q536 : (ji24) < (l0.length : Int) := of_decide_eq_true (by first | (with_reducible assumption) | assumption)
                                            obtain ⟨ad536, e536, hx536_0⟩ := Kd.at_int HR0.out (ji24) p536 q536
                                            obtain rfl : ad533 = ad536 := (by injection e536)
                                            replace hx536_0 := (HB.out.cell (World.block_lt_of_cell? w _ hx536_0)).trans hx536_0
                                            replace p536 := eq_true p536
                                            replace q536 := eq_true q536
                                            have p537 : 0 ≤ ((ji28) : Int) := of_decide_eq_true (by first | (with_reducible assumption) | assumption)
                                            have q537 : (ji28) < (l0.length : Int) := of_decide_eq_true (by first | (with_reducible assumption) | assumption)
                                            obtain ⟨ad537, e537, hx537_0⟩ := Kd.at_int HR0.out (ji28) p537 q537
                                            obtain rfl : ad533 = ad537 := (by injection e537)
                                            replace hx537_0 := (HB.out.cell (World.block_lt_of_cell? w _ hx537_0)).trans hx537_0
                                            replace p537 := eq_true p537
                                            replace q537 := eq_true q537
                                            go_wp2
                                            repeat (go_quiet (fail); try go_wp2)
                                            go_ret
                                            exact ⟨by first | rfl | (simp [errW_none, errW_some] <;> rfl) | (simp only [← hji21, ← hji24, ← hji28]; first | rfl | (simp [errW_none, errW_some] <;> rfl)) | (simp [*, errW_none, errW_some] <;> rfl), by repeat (first | (with_reducible first | exact HB.out | apply below_alloc | apply pw_below_drewN | apply below_drew1) | exact HB.out)⟩
                                          · rw [if_neg c31] at H
                                            have c31b0 : decide (512 < (wrap64 ((rd t528 x9_3) - (wrap64 ((rd l0 x9_3) - (rd l0 (ji21))))))) = false := decide_eq_false c31
                                            clear c31
                                            by_cases c33 : (wrap64 ((rd t528 x9_3) - (wrap64 ((rd l0 x9_3) - (rd l0 (ji21)))))) < (-512)
                                            · rw [if_pos c33] at H
                                              have c33b0 : decide ((wrap64 ((rd t528 x9_3) - (wrap64 ((rd l0 x9_3) - (rd l0 (ji21)))))) < (-512)) = true := decide_eq_true c33
                                              clear c33
                                              obtain rfl := Option.some.inj H
                                              obtain ⟨Ao34, co34, eo34⟩ := Kd.R_slice HO_6.out
                                              subst eo34
                                              have p532 : 0 ≤ (x9_3 : Int) := of_decide_eq_true (by first | (with_reducible assumption) | assumption)
                                              have q532 : x9_3 < (t528.length : Int) := of_decide_eq_true (by first | (with_reducible assumption) | assumption)
                                              obtain ⟨ad532, e532, hx532_0⟩ := Kd.at_int (Kd.R_reads' HO_6.out).2.2 x9_3 p532 q532
                                              cases e532
                                              replace p532 := eq_true p532
                                              replace q532 := eq_true q532
                                              have p533 : 0 ≤ (x9_3 : Int) := of_decide_eq_true (by first | (with_reducible assumption) | assumption)
                                              have q533 : x9_3 < (l0.length : Int) := of_decide_eq_true (by first | (with_reducible assumption) | assumption)
                                              obtain ⟨ad533, e533, hx533_0⟩ := Kd.at_int HR0.out x9_3 p533 q533
                                              cases e533
                                              replace hx533_0 := (HB.out.cell (World.block_lt_of_cell? w _ hx533_0)).trans hx533_0
                                              replace p533 := eq_true p533
                                              replace q533 := eq_true q533
                                              have p534 : 0 ≤ ((ji21) : Int) := of_decide_eq_true (by first | (with_reducible assumption) | assumption)
                                              have q534 : (ji21) < (l0.length : Int) := of_decide_eq_true (by first | (with_reducible assumption) | assumption)
                                              obtain ⟨ad534, e534, hx534_0⟩ := Kd.at_int HR0.out (ji21) p534 q534
                                              obtain rfl : ad533 = ad534 := (by injection e534)
                                              replace hx534_0 := (HB.out.cell (World.block_lt_of_cell? w _ hx534_0)).trans hx534_0
                                              replace p534 := eq_true p534
                                              replace q534 := eq_true q534
                                              have p535 : 0 ≤ ((ji24) : Int) := of_decide_eq_true (by first | (with_reducible assumption) | assumption)
                                              have q535 : (ji24) < (t528.length : Int) := of_decide_eq_true (by first | (with_reducible assumption) | assumption)
                                              obtain ⟨ad535, e535, hx535_0⟩ := Kd.at_int (Kd.R_reads' HO_6.out).2.2 (ji24) p535 q535
                                              obtain rfl : ad532 = ad535 := (by injection e535)
                                              replace p535 := eq_true p535
                                              replace q535 := eq_true q535
                                              have p536 : 0 ≤ ((ji24) : Int) := of_decide_eq_true (by first | (with_reducible assumption) | assumption)
                                              have q536 : (ji24) < (l0.length : Int) := of_decide_eq_true (by first | (with_reducible assumption) | assumption)
                                              obtain ⟨ad536, e536, hx536_0⟩ := Kd.at_int HR0.out (ji24) p536 q536
                                              obtain rfl : ad533 = ad536 := (by injection e536)
                                              replace hx536_0 := (HB.out.cell (World.block_lt_of_cell? w _ hx536_0)).trans hx536_0
                                              replace p536 := eq_true p536
                                              replace q536 := eq_true q536
                                              have p537 : 0 ≤ ((ji28) : Int) := of_decide_eq_true (by first | (with_reducible assumption) | assumption)
                                              have q537 : (ji28) < (l0.length : Int) := of_decide_eq_true (by first | (with_reducible assumption) | assumption)
                                              obtain ⟨ad537, e537, hx537_0⟩ := Kd.at_int HR0.out (ji28) p537 q537
                                              obtain rfl : ad533 = ad537 := (by injection e537)
                                              replace hx537_0 := (HB.out.cell (World.block_lt_of_cell? w _ hx537_0)).trans hx537_0
                                              replace p537 := eq_true p537
                                              replace q537 := eq_true q537
                                              go_wp2
                                              repeat (go_quiet (fail); try go_wp2)
                                              go_ret
                                              exact ⟨by first | rfl | (simp [errW_none, errW_some] <;> rfl) | (simp only [← hji21, ← hji24, ← hji28]; first | rfl | (simp [errW_none, errW_some] <;> rfl)) | (simp [*, errW_none, errW_some] <;> rfl), by repeat (first | (with_reducible first | exact HB.out | apply below_alloc | apply pw_below_drewN | apply below_drew1) | exact HB.out)⟩
                                            · rw [if_neg c33] at H
                                              have c33b0 : decide ((wrap64 ((rd t528 x9_3) - (wrap64 ((rd l0 x9_3) - (rd l0 (ji21)))))) < (-512)) = false := decide_eq_false c33
                                              clear c33
                                              by_cases c35 : (wrap64 ((rd t528 (ji24)) - (wrap64 ((rd l0 (ji24)) + (rd l0 (ji28)))))) > 512
                                              · rw [if_pos c35] at H
                                                have c35b0 : decide (512 < (wrap64 ((rd t528 (ji24)) - (wrap64 ((rd l0 (ji24)) + (rd l0 (ji28))))))) = true := decide_eq_true c35
                                                clear c35
                                                obtain rfl := Option.some.inj H
                                                obtain ⟨Ao36, co36, eo36⟩ := Kd.R_slice HO_6.out
                                                subst eo36
                                                have p532 : 0 ≤ (x9_3 : Int) := of_decide_eq_true (by first | (with_reducible assumption) | assumption)
                                                have q532 : x9_3 < (t528.length : Int) := of_decide_eq_true (by first | (with_reducible assumption) | assumption)
                                                obtain ⟨ad532, e532, hx532_0⟩ := Kd.at_int (Kd.R_reads' HO_6.out).2.2 x9_3 p532 q532
                                                cases e532
                                                replace p532 := eq_true p532
                                                replace q532 := eq_true q532
                                                have p533 : 0 ≤ (x9_3 : Int) := of_decide_eq_true (by first | (with_reducible assumption) | assumption)
                                                have q533 : x9_3 < (l0.length : Int) := of_decide_eq_true (by first | (with_reducible assumption) | assumption)
                                                obtain ⟨ad533, e533, hx533_0⟩ := Kd.at_int HR0.out x9_3 p533 q533
                                                cases e533
                                                replace hx533_0 := (HB.out.cell (World.block_lt_of_cell? w _ hx533_0)).trans hx533_0
                                                replace p533 := eq_true p533
                                                replace q533 := eq_true q533
                                                have p534 : 0 ≤ ((ji21) : Int) := of_decide_eq_true (by first | (with_reducible assumption) | assumption)
                                                have q534 : (ji21) < (l0.length : Int) := of_decide_eq_true (by first | (with_reducible assumption) | assumption)
                                                obtain ⟨ad534, e534, hx534_0⟩ := Kd.at_int HR0.out (ji21) p534 q534
                                                obtain rfl : ad533 = ad534 := (by injection e534)
                                                replace hx534_0 := (HB.out.cell (World.block_lt_of_cell? w _ hx534_0)).trans hx534_0
                                                replace p534 := eq_true p534
                                                replace q534 := eq_true q534
                                                have p535 : 0 ≤ ((ji24) : Int) := of_decide_eq_true (by first | (with_reducible assumption) | assumption)
                                                have q535 : (ji24) < (t528.length : Int) := of_decide_eq_true (by first | (with_reducible assumption) | assumption)
                                                obtain ⟨ad535, e535, hx535_0⟩ := Kd.at_int (Kd.R_reads' HO_6.out).2.2 (ji24) p535 q535
                                                obtain rfl : ad532 = ad535 := (by injection e535)
                                                replace p535 := eq_true p535
                                                replace q535 := eq_true q535
                                                have p536 : 0 ≤ ((ji24) : Int) := of_decide_eq_true (by first | (with_reducible assumption) | assumption)
                                                have q536 : (ji24) < (l0.length : Int) := of_decide_eq_true (by first | (with_reducible assumption) | assumption)
                                                obtain ⟨ad536, e536, hx536_0⟩ := Kd.at_int HR0.out (ji24) p536 q536
                                                obtain rfl : ad533 = ad536 := (by injection e536)
                                                replace hx536_0 := (HB.out.cell (World.block_lt_of_cell? w _ hx536_0)).trans hx536_0
                                                replace p536 := eq_true p536
                                                replace q536 := eq_true q536
                                                have p537 : 0 ≤ ((ji28) : Int) := of_decide_eq_true (by first | (with_reducible assumption) | assumption)
                                                have q537 : (ji28) < (l0.length : Int) := of_decide_eq_true (by first | (with_reducible assumption) | assumption)
                                                obtain ⟨ad537, e537, hx537_0⟩ := Kd.at_int HR0.out (ji28) p537 q537
                                                obtain rfl : ad533 = ad537 := (by injection e537)
                                                replace hx537_0 := (HB.out.cell (World.block_lt_of_cell? w _ hx537_0)).trans hx537_0
                                                replace p537 := eq_true p537
                                                replace q537 := eq_true q537
                                                go_wp2
                                                repeat (go_quiet (fail); try go_wp2)
                                                go_ret
                                                exact ⟨by first | rfl | (simp [errW_none, errW_some] <;> rfl) | (simp only [← hji21, ← hji24, ← hji28]; first | rfl | (simp [errW_none, errW_some] <;> rfl)) | (simp [*, errW_none, errW_some] <;> rfl), by repeat (first | (with_reducible first | exact HB.out | apply below_alloc | apply pw_below_drewN | apply below_drew1) | exact HB.out)⟩
                                              · rw [if_neg c35] at H
                                                have c35b0 : decide (512 < (wrap64 ((rd t528 (ji24)) - (wrap64 ((rd l0 (ji24)) + (rd l0 (ji28))))))) = false := decide_eq_false c35
                                                clear c35
                                                by_cases c37 : (wrap64 ((rd t528 (ji24)) - (wrap64 ((rd l0 (ji24)) + (rd l0 (ji28)))))) < (-512)
                                                · rw [if_pos c37] at H
                                                  have c37b0 : decide ((wrap64 ((rd t528 (ji24)) - (wrap64 ((rd l0 (ji24)) + (rd l0 (ji28)))))) < (-512)) = true := decide_eq_true c37
                                                  clear c37
                                                  obtain rfl := Option.some.inj H
                                                  obtain ⟨Ao38, co38, eo38⟩ := Kd.R_slice HO_6.out
                                                  subst eo38
                                                  have p532 : 0 ≤ (x9_3 : Int) := of_decide_eq_true (by first | (with_reducible assumption) | assumption)
                                                  have q532 : x9_3 < (t528.length : Int) := of_decide_eq_true (by first | (with_reducible assumption) | assumption)
                                                  obtain ⟨ad532, e532, hx532_0⟩ := Kd.at_int (Kd.R_reads' HO_6.out).2.2 x9_3 p532 q532
                                                  cases e532
                                                  replace p532 := eq_true p532
                                                  replace q532 := eq_true q532
                                                  have p533 : 0 ≤ (x9_3 : Int) := of_decide_eq_true (by first | (with_reducible assumption) | assumption)
                                                  have q533 : x9_3 < (l0.length : Int) := of_decide_eq_true (by first | (with_reducible assumption) | assumption)
                                                  obtain ⟨ad533, e533, hx533_0⟩ := Kd.at_int HR0.out x9_3 p533 q533
                                                  cases e533
                                                  replace hx533_0 := (HB.out.cell (World.block_lt_of_cell? w _ hx533_0)).trans hx533_0
                                                  replace p533 := eq_true p533
                                                  replace q533 := eq_true q533
                                                  have p534 : 0 ≤ ((ji21) : Int) := of_decide_eq_true (by first | (with_reducible assumption) | assumption)
                                                  have q534 : (ji21) < (l0.length : Int) := of_decide_eq_true (by first | (with_reducible assumption) | assumption)
                                                  obtain ⟨ad534, e534, hx534_0⟩ := Kd.at_int HR0.out (ji21) p534 q534
                                                  obtain rfl : ad533 = ad534 := (by injection e534)
                                                  replace hx534_0 := (HB.out.cell (World.block_lt_of_cell? w _ hx534_0)).trans hx534_0
                                                  replace p534 := eq_true p534
                                                  replace q534 := eq_true q534
                                                  have p535 : 0 ≤ ((ji24) : Int) := of_decide_eq_true (by first | (with_reducible assumption) | assumption)
                                                  have q535 : (ji24) < (t528.length : Int) := of_decide_eq_true (by first | (with_reducible assumption) | assumption)
                                                  obtain ⟨ad535, e535, hx535_0⟩ := Kd.at_int (Kd.R_reads' HO_6.out).2.2 (ji24) p535 q535
                                                  obtain rfl : ad532 = ad535 := (by injection e535)
                                                  replace p535 := eq_true p535
                                                  replace q535 := eq_true q535
                                                  have p536 : 0 ≤ ((ji24) : Int) := of_decide_eq_true (by first | (with_reducible assumption) | assumption)
                                                  have q536 : (ji24) < (l0.length : Int) := of_decide_eq_true (by first | (with_reducible assumption) | assumption)
                                                  obtain ⟨ad536, e536, hx536_0⟩ := Kd.at_int HR0.out (ji24) p536 q536
                                                  obtain rfl : ad533 = ad536 := (by injection e536)
                                                  replace hx536_0 := (HB.out.cell (World.block_lt_of_cell? w _ hx536_0)).trans hx536_0
                                                  replace p536 := eq_true p536
                                                  replace q536 := eq_true q536
                                                  have p537 : 0 ≤ ((ji28) : Int) := of_decide_eq_true (by first | (with_reducible assumption) | assumption)
                                                  have q537 : (ji28) < (l0.length : Int) := of_decide_eq_true (by first | (with_reducible assumption) | assumption)
                                                  obtain ⟨ad537, e537, hx537_0⟩ := Kd.at_int HR0.out (ji28) p537 q537
                                                  obtain rfl : ad533 = ad537 := (by injection e537)
                                                  replace hx537_0 := (HB.out.cell (World.block_lt_of_cell? w _ hx537_0)).trans hx537_0
                                                  replace p537 := eq_true p537
                                                  replace q537 := eq_true q537
                                                  go_wp2
                                                  repeat (go_quiet (fail); try go_wp2)
                                                  go_ret
                                                  exact ⟨by first | rfl | (simp [errW_none, errW_some] <;> rfl) | (simp only [← hji21, ← hji24, ← hji28]; first | rfl | (simp [errW_none, errW_some] <;> rfl)) | (simp [*, errW_none, errW_some] <;> rfl), by repeat (first | (with_reducible first | exact HB.out | apply below_alloc | apply pw_below_drewN | apply below_drew1) | exact HB.out)⟩
                                                · rw [if_neg c37] at H
                                                  have c37b0 : decide ((wrap64 ((rd t528 (ji24)) - (wrap64 ((rd l0 (ji24)) + (rd l0 (ji28)))))) < (-512)) = false := decide_eq_false c37
                                                  clear c37
                                                  have H' := Aside0.mk H
                                                  clear H
                                                  obtain ⟨Ao39, co39, eo39⟩ := Kd.R_slice HO_6.out
                                                  subst eo39
                                                  have p532 : 0 ≤ (x9_3 : Int) := of_decide_eq_true (by first | (with_reducible assumption) | assumption)
                                                  have q532 : x9_3 < (t528.length : Int) := of_decide_eq_true (by first | (with_reducible assumption) | assumption)
                                                  obtain ⟨ad532, e532, hx532_0⟩ := Kd.at_int (Kd.R_reads' HO_6.out).2.2 x9_3 p532 q532
                                                  cases e532
                                                  replace p532 := eq_true p532
                                                  replace q532 := eq_true q532
                                                  have p533 : 0 ≤ (x9_3 : Int) := of_decide_eq_true (by first | (with_reducible assumption) | assumption)
                                                  have q533 : x9_3 < (l0.length : Int) := of_decide_eq_true (by first | (with_reducible assumption) | assumption)
                                                  obtain ⟨ad533, e533, hx533_0⟩ := Kd.at_int HR0.out x9_3 p533 q533
                                                  cases e533
                                                  replace hx533_0 := (HB.out.cell (World.block_lt_of_cell? w _ hx533_0)).trans hx533_0
                                                  replace p533 := eq_true p533
                                                  replace q533 := eq_true q533
                                                  have p534 : 0 ≤ ((ji21) : Int) := of_decide_eq_true (by first | (with_reducible assumption) | assumption)
                                                  have q534 : (ji21) < (l0.length : Int) := of_decide_eq_true (by first | (with_reducible assumption) | assumption)
                                                  obtain ⟨ad534, e534, hx534_0⟩ := Kd.at_int HR0.out (ji21) p534 q534
                                                  obtain rfl : ad533 = ad534 := (by injection e534)
                                                  replace hx534_0 := (HB.out.cell (World.block_lt_of_cell? w _ hx534_0)).trans hx534_0
                                                  replace p534 := eq_true p534
                                                  replace q534 := eq_true q534
                                                  have p535 : 0 ≤ ((ji24) : Int) := of_decide_eq_true (by first | (with_reducible assumption) | assumption)
                                                  have q535 : (ji24) < (t528.length : Int) := of_decide_eq_true (by first | (with_reducible assumption) | assumption)
                                                  obtain ⟨ad535, e535, hx535_0⟩ := Kd.at_int (Kd.R_reads' HO_6.out).2.2 (ji24) p535 q535
                                                  obtain rfl : ad532 = ad535 := (by injection e535)
                                                  replace p535 := eq_true p535
                                                  replace q535 := eq_true q535
                                                  have p536 : 0 ≤ ((ji24) : Int) := of_decide_eq_true (by first | (with_reducible assumption) | assumption)
                                                  have q536 : (ji24) < (l0.length : Int) := of_decide_eq_true (by first | (with_reducible assumption) | assumption)
                                                  obtain ⟨ad536, e536, hx536_0⟩ := Kd.at_int HR0.out (ji24) p536 q536
                                                  obtain rfl : ad533 = ad536 := (by injection e536)
                                                  replace hx536_0 := (HB.out.cell (World.block_lt_of_cell? w _ hx536_0)).trans hx536_0
                                                  replace p536 := eq_true p536
                                                  replace q536 := eq_true q536
                                                  have p537 : 0 ≤ ((ji28) : Int) := of_decide_eq_true (by first | (with_reducible assumption) | assumption)
                                                  have q537 : (ji28) < (l0.length : Int) := of_decide_eq_true (by first | (with_reducible assumption) | assumption)
                                                  obtain ⟨ad537, e537, hx537_0⟩ := Kd.at_int HR0.out (ji28) p537 q537
                                                  obtain rfl : ad533 = ad537 := (by injection e537)
                                                  replace hx537_0 := (HB.out.cell (World.block_lt_of_cell? w _ hx537_0)).trans hx537_0
                                                  replace p537 := eq_true p537
                                                  replace q537 := eq_true q537
                                                  go_wp2
                                                  repeat (go_quiet (fail); try go_wp2)
                                                  go_roundg k3
                                                  case measure => have := HJ2.out; have := HJ9.out; have := HK3.out; omega
                                                  case rel => exact ⟨(wrap64 (x9_3 + 1)), (by first | rfl | (simp; done) | (simp [*]; done)), H', ⟨by have := HJ2.out; have := HJ9.out; have := HK3.out; omega⟩, ⟨by (with_reducible repeat (first | apply Kd.R_alloc | apply Kd.R_drewN | apply Kd.R_drew)); exact HO_6.out⟩, ⟨by repeat (first | (with_reducible first | exact HB.out | apply below_alloc | apply pw_below_drewN | apply below_drew1) | exact HB.out)⟩⟩
                                        · rw [if_neg c30] at H
                                          exact absurd H (by simp)
                                      · rw [if_neg c29] at H
                                        exact absurd H (by simp)
                                    · rw [if_neg c27] at H
                                      exact absurd H (by simp)
                                  · rw [if_neg c26] at H
                                    exact absurd H (by simp)
                                · rw [if_neg c25] at H
                                  exact absurd H (by simp)
                              · rw [if_neg c23] at H
                                exact absurd H (by simp)
                            · rw [if_neg c22] at H
                              exact absurd H (by simp)
                          · rw [if_neg c20] at H
                            exact absurd H (by simp)
                        · rw [if_neg c19] at H
                          exact absurd H (by simp)
                      · rw [if_neg c18] at H
                        exact absurd H (by simp)
                    · rw [if_neg c17] at H
                      have c17b0 : decide (x9_3 < (wrap64 ((l0.length : Int) / 2))) = false := decide_eq_false c17
                      clear c17
                      obtain rfl := Option.some.inj H
                      go_wp2
                      repeat (go_quiet (fail); try go_wp2)
                      go_ret
                      exact ⟨by first | rfl | (simp [errW_none, errW_some] <;> rfl) | (simp [*, errW_none, errW_some] <;> rfl), by repeat (first | (with_reducible first | exact HB.out | apply below_alloc | apply pw_below_drewN | apply below_drew1) | exact HB.out)⟩
        · rw [if_neg c8] at H
          have c8b0 : (t525 == 0) = false := beq_eq_false_iff_ne.mpr c8
          have c8b1 : (t525 != 0) = true := bne_iff_ne.mpr c8
          by_cases c40 : t523 = true
          · subst c40
            have H1 : (some ((t524.length : Int) == 0)) = some r := by rw [if_pos rfl] at H; exact H
            clear H
            have H := H1
            clear H1
            obtain rfl := Option.some.inj H
            go_wp2_with (first | (go_at_call 37; (with_reducible refine (mdct_Forward.calls _ _ l0 t524 t525 _ ?side1 ?side2 A7.out).mono ?_); (case side1 => repeat (first | exact (Kd.C_below HR0.out HB.out) | (with_reducible refine Kd.C_alloc ?_ _) | (with_reducible refine Kd.C_drewN ?_ _) | (with_reducible refine Kd.C_drew ?_))); (case side2 => exact HC0.out); rintro e w41 ⟨v526, rfl, ho0, hb⟩; have n0_ := Aside0.mk (Kd.R_lower ho0 (below_size (by repeat (first | (with_reducible first | exact HB.out | apply below_alloc | apply pw_below_drewN | apply below_drew1) | exact HB.out)))); have n1_ := Aside0.mk (below_step (by repeat (first | (with_reducible first | exact HB.out | apply below_alloc | apply pw_below_drewN | apply below_drew1) | exact HB.out)) hb); clear HB; have HO527 := n0_; have HB := n1_; clear n0_ n1_; (try clear hb); (try clear hb2); (try clear hk); (try clear hi); (try clear ho0); obtain ⟨Ao42, co42, eo42⟩ := Kd.R_slice HO527.out; subst eo42))
            repeat (go_quiet (first | (go_at_call 37; (with_reducible refine (mdct_Forward.calls _ _ l0 t524 t525 _ ?side1 ?side2 A7.out).mono ?_); (case side1 => repeat (first | exact (Kd.C_below HR0.out HB.out) | (with_reducible refine Kd.C_alloc ?_ _) | (with_reducible refine Kd.C_drewN ?_ _) | (with_reducible refine Kd.C_drew ?_))); (case side2 => exact HC0.out); rintro e w41 ⟨v526, rfl, ho0, hb⟩; have n0_ := Aside0.mk (Kd.R_lower ho0 (below_size (by repeat (first | (with_reducible first | exact HB.out | apply below_alloc | apply pw_below_drewN | apply below_drew1) | exact HB.out)))); have n1_ := Aside0.mk (below_step (by repeat (first | (with_reducible first | exact HB.out | apply below_alloc | apply pw_below_drewN | apply below_drew1) | exact HB.out)) hb); clear HB; have HO527 := n0_; have HB := n1_; clear n0_ n1_; (try clear hb); (try clear hb2); (try clear hk); (try clear hi); (try clear ho0); obtain ⟨Ao42, co42, eo42⟩ := Kd.R_slice HO527.out; subst eo42)); try go_wp2_with (first | (go_at_call 37; (with_reducible refine (mdct_Forward.calls _ _ l0 t524 t525 _ ?side1 ?side2 A7.out).mono ?_); (case side1 => repeat (first | exact (Kd.C_below HR0.out HB.out) | (with_reducible refine Kd.C_alloc ?_ _) | (with_reducible refine Kd.C_drewN ?_ _) | (with_reducible refine Kd.C_drew ?_))); (case side2 => exact HC0.out); rintro e w41 ⟨v526, rfl, ho0, hb⟩; have n0_ := Aside0.mk (Kd.R_lower ho0 (below_size (by repeat (first | (with_reducible first | exact HB.out | apply below_alloc | apply pw_below_drewN | apply below_drew1) | exact HB.out)))); have n1_ := Aside0.mk (below_step (by repeat (first | (with_reducible first | exact HB.out | apply below_alloc | apply pw_below_drewN | apply below_drew1) | exact HB.out)) hb); clear HB; have HO527 := n0_; have HB := n1_; clear n0_ n1_; (try clear hb); (try clear hb2); (try clear hk); (try clear hi); (try clear ho0); obtain ⟨Ao42, co42, eo42⟩ := Kd.R_slice HO527.out; subst eo42)))
            go_ret
            exact ⟨by first | rfl | (simp [errW_none, errW_some] <;> rfl) | (simp [*, errW_none, errW_some] <;> rfl), by repeat (first | (with_reducible first | exact HB.out | apply below_alloc | apply pw_below_drewN | apply below_drew1) | exact HB.out)⟩
          · replace c40 := Bool.eq_false_iff.mpr c40
            subst c40
            have H1 : (some false) = some r := by rw [if_neg (show ¬ (false = true) by decide)] at H; exact H
            clear H
            have H := H1
            clear H1
            obtain rfl := Option.some.inj H
            go_wp2_with (first | (go_at_call 37; (with_reducible refine (mdct_Forward.calls _ _ l0 t524 t525 _ ?side1 ?side2 A7.out).mono ?_); (case side1 => repeat (first | exact (Kd.C_below HR0.out HB.out) | (with_reducible refine Kd.C_alloc ?_ _) | (with_reducible refine Kd.C_drewN ?_ _) | (with_reducible refine Kd.C_drew ?_))); (case side2 => exact HC0.out); rintro e w43 ⟨v526, rfl, ho0, hb⟩; have n0_ := Aside0.mk (Kd.R_lower ho0 (below_size (by repeat (first | (with_reducible first | exact HB.out | apply below_alloc | apply pw_below_drewN | apply below_drew1) | exact HB.out)))); have n1_ := Aside0.mk (below_step (by repeat (first | (with_reducible first | exact HB.out | apply below_alloc | apply pw_below_drewN | apply below_drew1) | exact HB.out)) hb); clear HB; have HO527 := n0_; have HB := n1_; clear n0_ n1_; (try clear hb); (try clear hb2); (try clear hk); (try clear hi); (try clear ho0)))
            repeat (go_quiet (first | (go_at_call 37; (with_reducible refine (mdct_Forward.calls _ _ l0 t524 t525 _ ?side1 ?side2 A7.out).mono ?_); (case side1 => repeat (first | exact (Kd.C_below HR0.out HB.out) | (with_reducible refine Kd.C_alloc ?_ _) | (with_reducible refine Kd.C_drewN ?_ _) | (with_reducible refine Kd.C_drew ?_))); (case side2 => exact HC0.out); rintro e w43 ⟨v526, rfl, ho0, hb⟩; have n0_ := Aside0.mk (Kd.R_lower ho0 (below_size (by repeat (first | (with_reducible first | exact HB.out | apply below_alloc | apply pw_below_drewN | apply below_drew1) | exact HB.out)))); have n1_ := Aside0.mk (below_step (by repeat (first | (with_reducible first | exact HB.out | apply below_alloc | apply pw_below_drewN | apply below_drew1) | exact HB.out)) hb); clear HB; have HO527 := n0_; have HB := n1_; clear n0_ n1_; (try clear hb); (try clear hb2); (try clear hk); (try clear hi); (try clear ho0))); try go_wp2_with (first | (go_at_call 37; (with_reducible refine (mdct_Forward.calls _ _ l0 t524 t525 _ ?side1 ?side2 A7.out).mono ?_); (case side1 => repeat (first | exact (Kd.C_below HR0.out HB.out) | (with_reducible refine Kd.C_alloc ?_ _) | (with_reducible refine Kd.C_drewN ?_ _) | (with_reducible refine Kd.C_drew ?_))); (case side2 => exact HC0.out); rintro e w43 ⟨v526, rfl, ho0, hb⟩; have n0_ := Aside0.mk (Kd.R_lower ho0 (below_size (by repeat (first | (with_reducible first | exact HB.out | apply below_alloc | apply pw_below_drewN | apply below_drew1) | exact HB.out)))); have n1_ := Aside0.mk (below_step (by repeat (first | (with_reducible first | exact HB.out | apply below_alloc | apply pw_below_drewN | apply below_drew1) | exact HB.out)) hb); clear HB; have HO527 := n0_; have HB := n1_; clear n0_ n1_; (try clear hb); (try clear hb2); (try clear hk); (try clear hi); (try clear ho0))))
            go_ret
            exact ⟨by first | rfl | (simp [errW_none, errW_some] <;> rfl) | (simp [*, errW_none, errW_some] <;> rfl), by repeat (first | (with_reducible first | exact HB.out | apply below_alloc | apply pw_below_drewN | apply below_drew1) | exact HB.out)⟩

/-- THE ONE PURE STATEMENT of reedpipelaw11_MdctBack: yours. -/
def reedpipelaw11_MdctBack.Pure : Prop := ∀ (l0 : List Int), l0.length ≤ maxLen → l0.length * 8 ≤ 140737488351232 → (∀ x ∈ l0, (Lit.int .i64 x).wf = true) → ∃ k, reedpipelaw11_MdctBack.f k l0 = some true
theorem reedpipelaw11_MdctBack.walk (P : reedpipelaw11_MdctBack.Pure) (a0 : Option Addr) (len0 cap0 : Nat) (z0 : List Int) (w : World) (w0 : (a0 = none ∧ len0 = 0 ∧ cap0 = 0 ∧ z0 = []) ∨ ∃ x, a0 = some x ∧ len0 ≤ cap0 ∧ cap0 ≤ maxLen ∧ z0.length = cap0 ∧ (∀ i, i < z0.length → w.cell? (x.add i) = some (.int .i64 (z0.getD i 0))) ∧ ∀ n ∈ z0, (Lit.int .i64 n).wf = true) (y0 : len0 * 8 ≤ 140737488351232) :
    Calls Try.prog 18 #[.slice a0 len0 cap0] w fun e w' => e = .returned (.bool true) ∧ Below w.heap.size w w' := by
  obtain ⟨l0, rfl, hr0, hm0, hw0, hc0⟩ := ReadsInt.ofRowC w0
  obtain ⟨k, h⟩ := P l0 hm0 y0 hw0
  refine (reedpipelaw11_MdctBack.calls k _ _ l0 true w (Kd.C_of_reads (d := (0 : Int)) (h1 := fun _ => rfl) hr0) hc0 h).mono ?_
  rintro e w' ⟨rfl, hd⟩
  exact ⟨rfl, hd⟩

end Go.Proofs.Ytpoppdaaodmicaa.Q
