-- Written by a program of this session's (wip/mk.py, over the kit's print.py); Lean checks it.
import Derived.Test.YtpoppdaaodmicaaQ0
import Derived.Test.YtpoppdaaodmicaaQ51
import Derived.Test.YtpoppdaaodmicaaBBlock
namespace Go.Proofs.Ytpoppdaaodmicaa.Q
open Go.RowKit Go.Proofs.YtpoppdaaodmicaaW.PrintWords Go.Proofs.YtpoppdaaodmicaaW.PrintLast Go.Proofs.YtpoppdaaodmicaaW.PrintMore
attribute [local go_sem] max2_int min2_int max_two min_two max_three min_three max_four min_four   -- for this text's walks alone
set_option linter.unusedVariables false
set_option linter.unusedSimpArgs false

/-! ### reedpipelaw12_BlockPower: function 21 -/
mutual
def reedpipelaw12_BlockPower.l0 : Nat → Bool → Int → Option (Bool)
  | 0, _, _ => none
  | k + 1, x1, x2 => if x2 < 72 then (if ((Int.tmod x2 3) % 256) = 2 then (reedpipelaw12_BlockPower.j1 k x1 x2 3 ((Int.tmod (wrap64 (Int.tdiv x2 3)) 3) % 256)) else (reedpipelaw12_BlockPower.j1 k x1 x2 ((Int.tmod x2 3) % 256) ((Int.tmod (wrap64 (Int.tdiv x2 3)) 3) % 256))) else (some x1)
def reedpipelaw12_BlockPower.j1 : Nat → Bool → Int → Int → Int → Option (Bool)
  | 0, _, _, _, _ => none
  | k + 1, x1, x2, x3, x4 => if x4 = 2 then (reedpipelaw12_BlockPower.j2 k x1 x2 x3 3) else (reedpipelaw12_BlockPower.j2 k x1 x2 x3 x4)
def reedpipelaw12_BlockPower.j2 : Nat → Bool → Int → Int → Int → Option (Bool)
  | 0, _, _, _, _ => none
  | k + 1, x1, x2, x3, x4 => if ((x3 == 1) != (x4 == 3)) = true then (reedpipelaw12_BlockPower.l0 k x1 (wrap64 (x2 + 1))) else ((block_Window.f k x3 ((Int.tmod (wrap64 (Int.tdiv x2 9)) 2) % 256) ((Int.tmod (wrap64 (Int.tdiv x2 18)) 2) % 256)).bind fun bt642 => ((block_Window.f k x4 ((Int.tmod (wrap64 (Int.tdiv x2 18)) 2) % 256) ((Int.tmod (wrap64 (Int.tdiv x2 36)) 2) % 256)).bind fun bt646 => (if bt642.2 = 0 then (if bt646.2 = 0 then (if (bt642.1.length : Int) = 512 then (reedpipelaw12_BlockPower.j3 k x1 x2 bt642.1 bt646.1 ((bt646.1.length : Int) != 512)) else (reedpipelaw12_BlockPower.j3 k x1 x2 bt642.1 bt646.1 true)) else (reedpipelaw12_BlockPower.j3 k x1 x2 bt642.1 bt646.1 true)) else (reedpipelaw12_BlockPower.j3 k x1 x2 bt642.1 bt646.1 true))))
def reedpipelaw12_BlockPower.j3 : Nat → Bool → Int → List Int → List Int → Bool → Option (Bool)
  | 0, _, _, _, _, _ => none
  | k + 1, x1, x2, x8, x10, x76 => if x76 = true then (some false) else (reedpipelaw12_BlockPower.l1 k x1 x2 x8 x10 0)
def reedpipelaw12_BlockPower.l1 : Nat → Bool → Int → List Int → List Int → Int → Option (Bool)
  | 0, _, _, _, _, _ => none
  | k + 1, x1, x2, x8, x10, x12 => if x12 < 256 then (if 0 ≤ (wrap64 (256 + x12)) then (if (wrap64 (256 + x12)) < (x8.length : Int) then (if 0 ≤ x12 then (if x12 < (x10.length : Int) then (if (wrap64 ((wrap64 ((wrap64 ((rd x8 (wrap64 (256 + x12))) * (rd x8 (wrap64 (256 + x12))))) + (wrap64 ((rd x10 x12) * (rd x10 x12))))) - 17592186044416)) > 33554432 then (some false) else (if (wrap64 ((wrap64 ((wrap64 ((rd x8 (wrap64 (256 + x12))) * (rd x8 (wrap64 (256 + x12))))) + (wrap64 ((rd x10 x12) * (rd x10 x12))))) - 17592186044416)) < (-33554432) then (some false) else (reedpipelaw12_BlockPower.l1 k x1 x2 x8 x10 (wrap64 (x12 + 1))))) else (none)) else (none)) else (none)) else (none)) else (reedpipelaw12_BlockPower.l0 k x1 (wrap64 (x2 + 1)))
end
def reedpipelaw12_BlockPower.f (k : Nat)  : Option (Bool) := (reedpipelaw12_alive.f k).bind fun t641 => (reedpipelaw12_BlockPower.l0 k t641 0)
theorem reedpipelaw12_BlockPower.mono_l : ∀ k, (∀ y0 y1, LeO (reedpipelaw12_BlockPower.l0 k y0 y1) (reedpipelaw12_BlockPower.l0 (k + 1) y0 y1)) ∧ (∀ y0 y1 y2 y3, LeO (reedpipelaw12_BlockPower.j1 k y0 y1 y2 y3) (reedpipelaw12_BlockPower.j1 (k + 1) y0 y1 y2 y3)) ∧ (∀ y0 y1 y2 y3, LeO (reedpipelaw12_BlockPower.j2 k y0 y1 y2 y3) (reedpipelaw12_BlockPower.j2 (k + 1) y0 y1 y2 y3)) ∧ (∀ y0 y1 y2 y3 y4, LeO (reedpipelaw12_BlockPower.j3 k y0 y1 y2 y3 y4) (reedpipelaw12_BlockPower.j3 (k + 1) y0 y1 y2 y3 y4)) ∧ (∀ y0 y1 y2 y3 y4, LeO (reedpipelaw12_BlockPower.l1 k y0 y1 y2 y3 y4) (reedpipelaw12_BlockPower.l1 (k + 1) y0 y1 y2 y3 y4))
  | 0 => ⟨fun _ _ r h => by simp [reedpipelaw12_BlockPower.l0] at h, fun _ _ _ _ r h => by simp [reedpipelaw12_BlockPower.j1] at h, fun _ _ _ _ r h => by simp [reedpipelaw12_BlockPower.j2] at h, fun _ _ _ _ _ r h => by simp [reedpipelaw12_BlockPower.j3] at h, fun _ _ _ _ _ r h => by simp [reedpipelaw12_BlockPower.l1] at h⟩
  | k + 1 => by
    obtain ⟨ih0, ih1, ih2, ih3, ih4⟩ := reedpipelaw12_BlockPower.mono_l k
    refine ⟨?_, ?_, ?_, ?_, ?_⟩
    · intro y0 y1
      unfold reedpipelaw12_BlockPower.l0
      repeat' first
      | (with_reducible exact ih0 _ _)
      | (with_reducible exact ih1 _ _ _ _)
      | (with_reducible exact ih2 _ _ _ _)
      | (with_reducible exact ih3 _ _ _ _ _)
      | (with_reducible exact ih4 _ _ _ _ _)
      | (with_reducible exact block_Window.mono _ _ _ _)
      | (with_reducible exact reedpipelaw12_alive.mono _)
      | (with_reducible exact LeO.refl _)
      | (with_reducible exact LeO.none _)
      | (with_reducible refine LeO.ite ?_ ?_)
      | (with_reducible refine LeO.bind ?_ (fun _ => ?_))
      | exact ih0 _ _
      | exact ih1 _ _ _ _
      | exact ih2 _ _ _ _
      | exact ih3 _ _ _ _ _
      | exact ih4 _ _ _ _ _
      | exact block_Window.mono _ _ _ _
      | exact reedpipelaw12_alive.mono _
      | exact LeO.none _
      | refine LeO.ite ?_ ?_
      | refine LeO.bind ?_ (fun _ => ?_)
    · intro y0 y1 y2 y3
      unfold reedpipelaw12_BlockPower.j1
      repeat' first
      | (with_reducible exact ih0 _ _)
      | (with_reducible exact ih1 _ _ _ _)
      | (with_reducible exact ih2 _ _ _ _)
      | (with_reducible exact ih3 _ _ _ _ _)
      | (with_reducible exact ih4 _ _ _ _ _)
      | (with_reducible exact block_Window.mono _ _ _ _)
      | (with_reducible exact reedpipelaw12_alive.mono _)
      | (with_reducible exact LeO.refl _)
      | (with_reducible exact LeO.none _)
      | (with_reducible refine LeO.ite ?_ ?_)
      | (with_reducible refine LeO.bind ?_ (fun _ => ?_))
      | exact ih0 _ _
      | exact ih1 _ _ _ _
      | exact ih2 _ _ _ _
      | exact ih3 _ _ _ _ _
      | exact ih4 _ _ _ _ _
      | exact block_Window.mono _ _ _ _
      | exact reedpipelaw12_alive.mono _
      | exact LeO.none _
      | refine LeO.ite ?_ ?_
      | refine LeO.bind ?_ (fun _ => ?_)
    · intro y0 y1 y2 y3
      unfold reedpipelaw12_BlockPower.j2
      repeat' first
      | (with_reducible exact ih0 _ _)
      | (with_reducible exact ih1 _ _ _ _)
      | (with_reducible exact ih2 _ _ _ _)
      | (with_reducible exact ih3 _ _ _ _ _)
      | (with_reducible exact ih4 _ _ _ _ _)
      | (with_reducible exact block_Window.mono _ _ _ _)
      | (with_reducible exact reedpipelaw12_alive.mono _)
      | (with_reducible exact LeO.refl _)
      | (with_reducible exact LeO.none _)
      | (with_reducible refine LeO.ite ?_ ?_)
      | (with_reducible refine LeO.bind ?_ (fun _ => ?_))
      | exact ih0 _ _
      | exact ih1 _ _ _ _
      | exact ih2 _ _ _ _
      | exact ih3 _ _ _ _ _
      | exact ih4 _ _ _ _ _
      | exact block_Window.mono _ _ _ _
      | exact reedpipelaw12_alive.mono _
      | exact LeO.none _
      | refine LeO.ite ?_ ?_
      | refine LeO.bind ?_ (fun _ => ?_)
    · intro y0 y1 y2 y3 y4
      unfold reedpipelaw12_BlockPower.j3
      repeat' first
      | (with_reducible exact ih0 _ _)
      | (with_reducible exact ih1 _ _ _ _)
      | (with_reducible exact ih2 _ _ _ _)
      | (with_reducible exact ih3 _ _ _ _ _)
      | (with_reducible exact ih4 _ _ _ _ _)
      | (with_reducible exact block_Window.mono _ _ _ _)
      | (with_reducible exact reedpipelaw12_alive.mono _)
      | (with_reducible exact LeO.refl _)
      | (with_reducible exact LeO.none _)
      | (with_reducible refine LeO.ite ?_ ?_)
      | (with_reducible refine LeO.bind ?_ (fun _ => ?_))
      | exact ih0 _ _
      | exact ih1 _ _ _ _
      | exact ih2 _ _ _ _
      | exact ih3 _ _ _ _ _
      | exact ih4 _ _ _ _ _
      | exact block_Window.mono _ _ _ _
      | exact reedpipelaw12_alive.mono _
      | exact LeO.none _
      | refine LeO.ite ?_ ?_
      | refine LeO.bind ?_ (fun _ => ?_)
    · intro y0 y1 y2 y3 y4
      unfold reedpipelaw12_BlockPower.l1
      repeat' first
      | (with_reducible exact ih0 _ _)
      | (with_reducible exact ih1 _ _ _ _)
      | (with_reducible exact ih2 _ _ _ _)
      | (with_reducible exact ih3 _ _ _ _ _)
      | (with_reducible exact ih4 _ _ _ _ _)
      | (with_reducible exact block_Window.mono _ _ _ _)
      | (with_reducible exact reedpipelaw12_alive.mono _)
      | (with_reducible exact LeO.refl _)
      | (with_reducible exact LeO.none _)
      | (with_reducible refine LeO.ite ?_ ?_)
      | (with_reducible refine LeO.bind ?_ (fun _ => ?_))
      | exact ih0 _ _
      | exact ih1 _ _ _ _
      | exact ih2 _ _ _ _
      | exact ih3 _ _ _ _ _
      | exact ih4 _ _ _ _ _
      | exact block_Window.mono _ _ _ _
      | exact reedpipelaw12_alive.mono _
      | exact LeO.none _
      | refine LeO.ite ?_ ?_
      | refine LeO.bind ?_ (fun _ => ?_)
theorem reedpipelaw12_BlockPower.mono : ∀ k, LeO (reedpipelaw12_BlockPower.f k ) (reedpipelaw12_BlockPower.f (k + 1) ) := by
  intro  k
  obtain ⟨ih0, ih1, ih2, ih3, ih4⟩ := reedpipelaw12_BlockPower.mono_l k
  unfold reedpipelaw12_BlockPower.f
  repeat' first
      | (with_reducible exact ih0 _ _)
      | (with_reducible exact ih1 _ _ _ _)
      | (with_reducible exact ih2 _ _ _ _)
      | (with_reducible exact ih3 _ _ _ _ _)
      | (with_reducible exact ih4 _ _ _ _ _)
      | (with_reducible exact block_Window.mono _ _ _ _)
      | (with_reducible exact reedpipelaw12_alive.mono _)
      | (with_reducible exact LeO.refl _)
      | (with_reducible exact LeO.none _)
      | (with_reducible refine LeO.ite ?_ ?_)
      | (with_reducible refine LeO.bind ?_ (fun _ => ?_))
      | exact ih0 _ _
      | exact ih1 _ _ _ _
      | exact ih2 _ _ _ _
      | exact ih3 _ _ _ _ _
      | exact ih4 _ _ _ _ _
      | exact block_Window.mono _ _ _ _
      | exact reedpipelaw12_alive.mono _
      | exact LeO.none _
      | refine LeO.ite ?_ ?_
      | refine LeO.bind ?_ (fun _ => ?_)
set_option maxHeartbeats 8000000 in
set_option maxRecDepth 100000 in
theorem reedpipelaw12_BlockPower.calls (k : Nat)  (r : Bool) (w : World) (h : reedpipelaw12_BlockPower.f k  = some r) :
    Calls Try.prog 21 #[] w fun e w' => e = .returned (.bool r) ∧ Below w.heap.size w w' := by
  have HB := Aside0.mk (Below.refl w.heap.size w)
  have H : ((reedpipelaw12_alive.f k).bind fun t641 => (reedpipelaw12_BlockPower.l0 k t641 0)) = some r := h
  clear h
  replace H := Option.bind_eq_some_iff.mp H
  obtain ⟨t641, A10, H⟩ := H
  replace H : (reedpipelaw12_BlockPower.l0 k t641 0) = some r := H
  have A1 := Aside0.mk A10
  clear A10
  have H' := Aside0.mk H
  clear H
  go_enter Try.func21, Try.ntmps21
  go_wp2_with (first | (go_at_call 51; (with_reducible refine (reedpipelaw12_alive.calls k  t641 _ A1.out).mono ?_); rintro e w2 ⟨rfl, hb⟩; have n0_ := Aside0.mk (below_step (by repeat (first | (with_reducible first | exact HB.out | apply below_alloc | apply pw_below_drewN | apply below_drew1) | exact HB.out)) hb); clear HB; have HB := n0_; clear n0_; (try clear hb); (try clear hb2); (try clear hk); (try clear hi)))
  repeat (go_quiet (first | (go_at_call 51; (with_reducible refine (reedpipelaw12_alive.calls k  t641 _ A1.out).mono ?_); rintro e w2 ⟨rfl, hb⟩; have n0_ := Aside0.mk (below_step (by repeat (first | (with_reducible first | exact HB.out | apply below_alloc | apply pw_below_drewN | apply below_drew1) | exact HB.out)) hb); clear HB; have HB := n0_; clear n0_; (try clear hb); (try clear hb2); (try clear hk); (try clear hi))); try go_wp2_with (first | (go_at_call 51; (with_reducible refine (reedpipelaw12_alive.calls k  t641 _ A1.out).mono ?_); rintro e w2 ⟨rfl, hb⟩; have n0_ := Aside0.mk (below_step (by repeat (first | (with_reducible first | exact HB.out | apply below_alloc | apply pw_below_drewN | apply below_drew1) | exact HB.out)) hb); clear HB; have HB := n0_; clear n0_; (try clear hb); (try clear hb2); (try clear hk); (try clear hi))))
  go_loopg [2] k (fun kq v2 w' => ∃ (x2_1 : Int), v2 = .int .i64 x2_1 ∧ Aside0 (reedpipelaw12_BlockPower.l0 kq t641 x2_1 = some r) ∧ Aside0 (kq ≤ k) ∧ Aside0 (Below w.heap.size w w'))
  case atStart => exact ⟨(0), (by first | rfl | (simp; done) | (simp [*]; done)), H', ⟨Nat.le_refl _⟩, ⟨by repeat (first | (with_reducible first | exact HB.out | apply below_alloc | apply pw_below_drewN | apply below_drew1) | exact HB.out)⟩⟩
  case round =>
    clear H'
    try clear c2
    try clear p2
    obtain ⟨x2_1, rfl, HA, HK1, HB⟩ := hrel
    cases gk with
    | zero => exact absurd HA.out (by simp [reedpipelaw12_BlockPower.l0])
    | succ k1 =>
      have H := HA.out
      clear HA
      simp only [reedpipelaw12_BlockPower.l0] at H
      by_cases c3 : x2_1 < 72
      · rw [if_pos c3] at H
        have c3b0 : decide (x2_1 < 72) = true := decide_eq_true c3
        clear c3
        have HC4 := Aside0.mk H
        clear H
        go_upto_if 27 with (fail)
        repeat (go_quiet (fail); go_upto_if 27 with (fail))
        go_cut [3] (fun v3 wc => ∃ (kq : Nat) (x3_3 : Int), v3 = .int .u8 x3_3 ∧ Aside0 (reedpipelaw12_BlockPower.j1 kq t641 x2_1 x3_3 ((Int.tmod (wrap64 (Int.tdiv x2_1 3)) 3) % 256) = some r) ∧ Aside0 (kq ≤ k1) ∧ Aside0 (Below w.heap.size w wc))
        case first =>
          have H := HC4.out
          clear HC4
          by_cases c5 : ((Int.tmod x2_1 3) % 256) = 2
          · rw [if_pos c5] at H
            have c5b0 : (((Int.tmod x2_1 3) % 256) == 2) = true := beq_iff_eq.mpr c5
            have c5b1 : (((Int.tmod x2_1 3) % 256) != 2) = false := bne_eq_false_iff_eq.mpr c5
            clear c5
            (first | rw [c5b0] | (simp only [i64_w, i32_w]; rw [c5b0]) | skip)
            have H' := Aside0.mk H
            clear H
            go_wp2
            repeat (go_quiet (fail); try go_wp2)
            go_meet
            case rel => exact ⟨_, (3), (by first | rfl | (simp; done) | (simp [*]; done)), H', ⟨by have := HK1.out; first | omega | exact Nat.le_refl _⟩, ⟨by repeat (first | (with_reducible first | exact HB.out | apply below_alloc | apply pw_below_drewN | apply below_drew1) | exact HB.out)⟩⟩
          · rw [if_neg c5] at H
            have c5b0 : (((Int.tmod x2_1 3) % 256) == 2) = false := beq_eq_false_iff_ne.mpr c5
            have c5b1 : (((Int.tmod x2_1 3) % 256) != 2) = true := bne_iff_ne.mpr c5
            (first | rw [c5b0] | (simp only [i64_w, i32_w]; rw [c5b0]) | skip)
            have H' := Aside0.mk H
            clear H
            go_wp2
            repeat (go_quiet (fail); try go_wp2)
            go_meet
            case rel => exact ⟨_, ((Int.tmod x2_1 3) % 256), (by first | rfl | (simp; done) | (simp [*]; done)), H', ⟨by have := HK1.out; first | omega | exact Nat.le_refl _⟩, ⟨by repeat (first | (with_reducible first | exact HB.out | apply below_alloc | apply pw_below_drewN | apply below_drew1) | exact HB.out)⟩⟩
        case rest =>
          clear HC4
          try clear c2
          try clear p2
          try clear c3
          try clear c3b0
          try clear c5
          try clear c5b0
          try clear c5b1
          try clear p2
          obtain ⟨kq, x3_3, rfl, HA, HJ3, HB⟩ := hcut
          cases kq with
          | zero => exact absurd HA.out (by simp [reedpipelaw12_BlockPower.j1])
          | succ kj3 =>
            have H := HA.out
            clear HA
            simp only [reedpipelaw12_BlockPower.j1] at H
            have HC6 := Aside0.mk H
            clear H
            go_upto_if 29 with (fail)
            repeat (go_quiet (fail); go_upto_if 29 with (fail))
            go_cut [4] (fun v4 wc => ∃ (kq : Nat) (x4_5 : Int), v4 = .int .u8 x4_5 ∧ Aside0 (reedpipelaw12_BlockPower.j2 kq t641 x2_1 x3_3 x4_5 = some r) ∧ Aside0 (kq ≤ kj3) ∧ Aside0 (Below w.heap.size w wc))
            case first =>
              have H := HC6.out
              clear HC6
              by_cases c7 : ((Int.tmod (wrap64 (Int.tdiv x2_1 3)) 3) % 256) = 2
              · rw [if_pos c7] at H
                have c7b0 : (((Int.tmod (wrap64 (Int.tdiv x2_1 3)) 3) % 256) == 2) = true := beq_iff_eq.mpr c7
                have c7b1 : (((Int.tmod (wrap64 (Int.tdiv x2_1 3)) 3) % 256) != 2) = false := bne_eq_false_iff_eq.mpr c7
                clear c7
                (first | rw [c7b0] | (simp only [i64_w, i32_w]; rw [c7b0]) | skip)
                have H' := Aside0.mk H
                clear H
                go_wp2
                repeat (go_quiet (fail); try go_wp2)
                go_meet
                case rel => exact ⟨_, (3), (by first | rfl | (simp; done) | (simp [*]; done)), H', ⟨by have := HK1.out; have := HJ3.out; first | omega | exact Nat.le_refl _⟩, ⟨by repeat (first | (with_reducible first | exact HB.out | apply below_alloc | apply pw_below_drewN | apply below_drew1) | exact HB.out)⟩⟩
              · rw [if_neg c7] at H
                have c7b0 : (((Int.tmod (wrap64 (Int.tdiv x2_1 3)) 3) % 256) == 2) = false := beq_eq_false_iff_ne.mpr c7
                have c7b1 : (((Int.tmod (wrap64 (Int.tdiv x2_1 3)) 3) % 256) != 2) = true := bne_iff_ne.mpr c7
                (first | rw [c7b0] | (simp only [i64_w, i32_w]; rw [c7b0]) | skip)
                have H' := Aside0.mk H
                clear H
                go_wp2
                repeat (go_quiet (fail); try go_wp2)
                go_meet
                case rel => exact ⟨_, (((Int.tmod (wrap64 (Int.tdiv x2_1 3)) 3) % 256)), (by first | rfl | (simp; done) | (simp [*]; done)), H', ⟨by have := HK1.out; have := HJ3.out; first | omega | exact Nat.le_refl _⟩, ⟨by repeat (first | (with_reducible first | exact HB.out | apply below_alloc | apply pw_below_drewN | apply below_drew1) | exact HB.out)⟩⟩
            case rest =>
              clear HC6
              try clear c2
              try clear p2
              try clear c3
              try clear c3b0
              try clear c5
              try clear c5b0
              try clear c5b1
              try clear p6
              try clear c7
              try clear c7b0
              try clear c7b1
              try clear p2
              obtain ⟨kq, x4_5, rfl, HA, HJ5, HB⟩ := hcut
              cases kq with
              | zero => exact absurd HA.out (by simp [reedpipelaw12_BlockPower.j2])
              | succ kj5 =>
                have H := HA.out
                clear HA
                simp only [reedpipelaw12_BlockPower.j2] at H
                by_cases c8 : ((x3_3 == 1) != (x4_5 == 3)) = true
                · rw [if_pos c8] at H
                  have c8b0 : ((x3_3 == 1) != (x4_5 == 3)) = true := c8
                  (try (have c8b1 : decide ((x3_3 == 1) = (x4_5 == 3)) = false := by simpa using c8))
                  (try (have c8b2 : ((x3_3 == 1) == (x4_5 == 3)) = false := by simpa using c8))
                  (try (have c8b3 : ¬ ((x3_3 == 1) = (x4_5 == 3)) := by simpa using c8))
                  clear c8
                  have H' := Aside0.mk H
                  clear H
                  go_wp2
                  repeat (go_quiet (fail); try go_wp2)
                  go_roundg kj5
                  case measure => have := HK1.out; have := HJ3.out; have := HJ5.out; omega
                  case rel => exact ⟨(wrap64 (x2_1 + 1)), (by first | rfl | (simp; done) | (simp [*]; done)), H', ⟨by have := HK1.out; have := HJ3.out; have := HJ5.out; omega⟩, ⟨by repeat (first | (with_reducible first | exact HB.out | apply below_alloc | apply pw_below_drewN | apply below_drew1) | exact HB.out)⟩⟩
                · rw [if_neg c8] at H
                  have c8b0 : ((x3_3 == 1) != (x4_5 == 3)) = false := by simpa using c8
                  (try (have c8b1 : decide ((x3_3 == 1) = (x4_5 == 3)) = true := by simpa using c8))
                  (try (have c8b2 : ((x3_3 == 1) == (x4_5 == 3)) = true := by simpa using c8))
                  clear c8
                  replace H := Option.bind_eq_some_iff.mp H
                  obtain ⟨⟨t642, t643⟩, A90, H⟩ := H
                  replace H : ((block_Window.f kj5 x4_5 ((Int.tmod (wrap64 (Int.tdiv x2_1 18)) 2) % 256) ((Int.tmod (wrap64 (Int.tdiv x2_1 36)) 2) % 256)).bind fun bt646 => (if t643 = 0 then (if bt646.2 = 0 then (if (t642.length : Int) = 512 then (reedpipelaw12_BlockPower.j3 kj5 t641 x2_1 t642 bt646.1 ((bt646.1.length : Int) != 512)) else (reedpipelaw12_BlockPower.j3 kj5 t641 x2_1 t642 bt646.1 true)) else (reedpipelaw12_BlockPower.j3 kj5 t641 x2_1 t642 bt646.1 true)) else (reedpipelaw12_BlockPower.j3 kj5 t641 x2_1 t642 bt646.1 true))) = some r := H
                  have A9 := Aside0.mk A90
                  clear A90
                  replace H := Option.bind_eq_some_iff.mp H
                  obtain ⟨⟨t646, t647⟩, A100, H⟩ := H
                  replace H : (if t643 = 0 then (if t647 = 0 then (if (t642.length : Int) = 512 then (reedpipelaw12_BlockPower.j3 kj5 t641 x2_1 t642 t646 ((t646.length : Int) != 512)) else (reedpipelaw12_BlockPower.j3 kj5 t641 x2_1 t642 t646 true)) else (reedpipelaw12_BlockPower.j3 kj5 t641 x2_1 t642 t646 true)) else (reedpipelaw12_BlockPower.j3 kj5 t641 x2_1 t642 t646 true)) = some r := H
                  have A10 := Aside0.mk A100
                  clear A100
                  have HC11 := Aside0.mk H
                  clear H
                  go_upto_region 14 with (first | (go_at_call 52; (with_reducible refine (block_Window.calls kj5 x3_3 ((Int.tmod (wrap64 (Int.tdiv x2_1 9)) 2) % 256) ((Int.tmod (wrap64 (Int.tdiv x2_1 18)) 2) % 256) t642 t643 _ A9.out).mono ?_); rintro e w12 ⟨v644, rfl, ho0, hb⟩; have n0_ := Aside0.mk (Kd.R_lower ho0 (below_size (by repeat (first | (with_reducible first | exact HB.out | apply below_alloc | apply pw_below_drewN | apply below_drew1) | exact HB.out)))); have n1_ := Aside0.mk (below_step (by repeat (first | (with_reducible first | exact HB.out | apply below_alloc | apply pw_below_drewN | apply below_drew1) | exact HB.out)) hb); clear HB; have HO645 := n0_; have HB := n1_; clear n0_ n1_; (try clear hb); (try clear hb2); (try clear hk); (try clear hi); (try clear ho0)) | (go_at_call 52; (with_reducible refine (block_Window.calls kj5 x4_5 ((Int.tmod (wrap64 (Int.tdiv x2_1 18)) 2) % 256) ((Int.tmod (wrap64 (Int.tdiv x2_1 36)) 2) % 256) t646 t647 _ A10.out).mono ?_); rintro e w13 ⟨v648, rfl, ho0, hb⟩; have n0_ := Aside0.mk (Kd.R_elder' (by (with_reducible repeat (first | apply Kd.R_alloc | apply Kd.R_drewN | apply Kd.R_drew)); exact HO645.out) (Kd.R_base ho0) hb); have n1_ := Aside0.mk (Kd.R_lower (Kd.R_new' ho0 (Kd.R_lt (by (with_reducible repeat (first | apply Kd.R_alloc | apply Kd.R_drewN | apply Kd.R_drew)); exact HO645.out))) (below_size (by repeat (first | (with_reducible first | exact HB.out | apply below_alloc | apply pw_below_drewN | apply below_drew1) | exact HB.out)))); have n2_ := Aside0.mk (below_step (by repeat (first | (with_reducible first | exact HB.out | apply below_alloc | apply pw_below_drewN | apply below_drew1) | exact HB.out)) hb); clear HO645; clear HB; have HO645 := n0_; have HO649 := n1_; have HB := n2_; clear n0_ n1_ n2_; (try clear hb); (try clear hb2); (try clear hk); (try clear hi); (try clear ho0)))
                  repeat (go_quiet (first | (go_at_call 52; (with_reducible refine (block_Window.calls kj5 x3_3 ((Int.tmod (wrap64 (Int.tdiv x2_1 9)) 2) % 256) ((Int.tmod (wrap64 (Int.tdiv x2_1 18)) 2) % 256) t642 t643 _ A9.out).mono ?_); rintro e w12 ⟨v644, rfl, ho0, hb⟩; have n0_ := Aside0.mk (Kd.R_lower ho0 (below_size (by repeat (first | (with_reducible first | exact HB.out | apply below_alloc | apply pw_below_drewN | apply below_drew1) | exact HB.out)))); have n1_ := Aside0.mk (below_step (by repeat (first | (with_reducible first | exact HB.out | apply below_alloc | apply pw_below_drewN | apply below_drew1) | exact HB.out)) hb); clear HB; have HO645 := n0_; have HB := n1_; clear n0_ n1_; (try clear hb); (try clear hb2); (try clear hk); (try clear hi); (try clear ho0)) | (go_at_call 52; (with_reducible refine (block_Window.calls kj5 x4_5 ((Int.tmod (wrap64 (Int.tdiv x2_1 18)) 2) % 256) ((Int.tmod (wrap64 (Int.tdiv x2_1 36)) 2) % 256) t646 t647 _ A10.out).mono ?_); rintro e w13 ⟨v648, rfl, ho0, hb⟩; have n0_ := Aside0.mk (Kd.R_elder' (by (with_reducible repeat (first | apply Kd.R_alloc | apply Kd.R_drewN | apply Kd.R_drew)); exact HO645.out) (Kd.R_base ho0) hb); have n1_ := Aside0.mk (Kd.R_lower (Kd.R_new' ho0 (Kd.R_lt (by (with_reducible repeat (first | apply Kd.R_alloc | apply Kd.R_drewN | apply Kd.R_drew)); exact HO645.out))) (below_size (by repeat (first | (with_reducible first | exact HB.out | apply below_alloc | apply pw_below_drewN | apply below_drew1) | exact HB.out)))); have n2_ := Aside0.mk (below_step (by repeat (first | (with_reducible first | exact HB.out | apply below_alloc | apply pw_below_drewN | apply below_drew1) | exact HB.out)) hb); clear HO645; clear HB; have HO645 := n0_; have HO649 := n1_; have HB := n2_; clear n0_ n1_ n2_; (try clear hb); (try clear hb2); (try clear hk); (try clear hi); (try clear ho0))); go_upto_region 14 with (first | (go_at_call 52; (with_reducible refine (block_Window.calls kj5 x3_3 ((Int.tmod (wrap64 (Int.tdiv x2_1 9)) 2) % 256) ((Int.tmod (wrap64 (Int.tdiv x2_1 18)) 2) % 256) t642 t643 _ A9.out).mono ?_); rintro e w12 ⟨v644, rfl, ho0, hb⟩; have n0_ := Aside0.mk (Kd.R_lower ho0 (below_size (by repeat (first | (with_reducible first | exact HB.out | apply below_alloc | apply pw_below_drewN | apply below_drew1) | exact HB.out)))); have n1_ := Aside0.mk (below_step (by repeat (first | (with_reducible first | exact HB.out | apply below_alloc | apply pw_below_drewN | apply below_drew1) | exact HB.out)) hb); clear HB; have HO645 := n0_; have HB := n1_; clear n0_ n1_; (try clear hb); (try clear hb2); (try clear hk); (try clear hi); (try clear ho0)) | (go_at_call 52; (with_reducible refine (block_Window.calls kj5 x4_5 ((Int.tmod (wrap64 (Int.tdiv x2_1 18)) 2) % 256) ((Int.tmod (wrap64 (Int.tdiv x2_1 36)) 2) % 256) t646 t647 _ A10.out).mono ?_); rintro e w13 ⟨v648, rfl, ho0, hb⟩; have n0_ := Aside0.mk (Kd.R_elder' (by (with_reducible repeat (first | apply Kd.R_alloc | apply Kd.R_drewN | apply Kd.R_drew)); exact HO645.out) (Kd.R_base ho0) hb); have n1_ := Aside0.mk (Kd.R_lower (Kd.R_new' ho0 (Kd.R_lt (by (with_reducible repeat (first | apply Kd.R_alloc | apply Kd.R_drewN | apply Kd.R_drew)); exact HO645.out))) (below_size (by repeat (first | (with_reducible first | exact HB.out | apply below_alloc | apply pw_below_drewN | apply below_drew1) | exact HB.out)))); have n2_ := Aside0.mk (below_step (by repeat (first | (with_reducible first | exact HB.out | apply below_alloc | apply pw_below_drewN | apply below_drew1) | exact HB.out)) hb); clear HO645; clear HB; have HO645 := n0_; have HO649 := n1_; have HB := n2_; clear n0_ n1_ n2_; (try clear hb); (try clear hb2); (try clear hk); (try clear hi); (try clear ho0))))
                  (try simp only [Act.put, List.setIfInBounds_toArray, List.set_cons_zero, List.set_cons_succ])
                  go_cut [76] (fun v76 wc => ∃ (kq : Nat) (x76_10 : Bool), v76 = .bool x76_10 ∧ Aside0 (reedpipelaw12_BlockPower.j3 kq t641 x2_1 t642 t646 x76_10 = some r) ∧ Aside0 (kq ≤ kj5) ∧ Aside0 (Kd.R (Kd.int .i64) 3 wc w.heap.size (fun k_ => some k_ ≠ (v648 : Value).ownBlock) v644 t642) ∧ Aside0 (Kd.R (Kd.int .i64) 3 wc w.heap.size (fun k_ => some k_ ≠ (v644 : Value).ownBlock) v648 t646) ∧ Aside0 (Below w.heap.size w wc))
                  case first =>
                    have H := HC11.out
                    clear HC11
                    by_cases c14 : t643 = 0
                    · rw [if_pos c14] at H
                      have c14b0 : (t643 == 0) = true := beq_iff_eq.mpr c14
                      have c14b1 : (t643 != 0) = false := bne_eq_false_iff_eq.mpr c14
                      clear c14
                      (first | rw [c14b0] | (simp only [i64_w, i32_w]; rw [c14b0]) | skip)
                      by_cases c15 : t647 = 0
                      · rw [if_pos c15] at H
                        have c15b0 : (t647 == 0) = true := beq_iff_eq.mpr c15
                        have c15b1 : (t647 != 0) = false := bne_eq_false_iff_eq.mpr c15
                        clear c15
                        by_cases c16 : (t642.length : Int) = 512
                        · rw [if_pos c16] at H
                          have c16b0 : ((t642.length : Int) == 512) = true := beq_iff_eq.mpr c16
                          have c16b1 : ((t642.length : Int) != 512) = false := bne_eq_false_iff_eq.mpr c16
                          clear c16
                          have H' := Aside0.mk H
                          clear H
                          obtain ⟨Ao17, co17, eo17⟩ := Kd.R_slice HO645.out
                          subst eo17
                          obtain ⟨Ao18, co18, eo18⟩ := Kd.R_slice HO649.out
                          subst eo18
                          go_wp2
                          repeat (go_quiet (fail); try go_wp2)
                          go_meet
                          case rel => exact ⟨_, (((t646.length : Int) != 512)), (by first | rfl | (simp; done) | (simp [*]; done)), H', ⟨by have := HK1.out; have := HJ3.out; have := HJ5.out; first | omega | exact Nat.le_refl _⟩, ⟨by (with_reducible repeat (first | apply Kd.R_alloc | apply Kd.R_drewN | apply Kd.R_drew)); exact Kd.R_mono HO645.out (fun _ hk => hk.2)⟩, ⟨by (with_reducible repeat (first | apply Kd.R_alloc | apply Kd.R_drewN | apply Kd.R_drew)); exact Kd.R_mono HO649.out (fun _ hk => hk.2)⟩, ⟨by repeat (first | (with_reducible first | exact HB.out | apply below_alloc | apply pw_below_drewN | apply below_drew1) | exact HB.out)⟩⟩
                        · rw [if_neg c16] at H
                          have c16b0 : ((t642.length : Int) == 512) = false := beq_eq_false_iff_ne.mpr c16
                          have c16b1 : ((t642.length : Int) != 512) = true := bne_iff_ne.mpr c16
                          have H' := Aside0.mk H
                          clear H
                          obtain ⟨Ao19, co19, eo19⟩ := Kd.R_slice HO645.out
                          subst eo19
                          go_wp2
                          repeat (go_quiet (fail); try go_wp2)
                          go_meet
                          case rel => exact ⟨_, (true), (by first | rfl | (simp; done) | (simp [*]; done)), H', ⟨by have := HK1.out; have := HJ3.out; have := HJ5.out; first | omega | exact Nat.le_refl _⟩, ⟨by (with_reducible repeat (first | apply Kd.R_alloc | apply Kd.R_drewN | apply Kd.R_drew)); exact Kd.R_mono HO645.out (fun _ hk => hk.2)⟩, ⟨by (with_reducible repeat (first | apply Kd.R_alloc | apply Kd.R_drewN | apply Kd.R_drew)); exact Kd.R_mono HO649.out (fun _ hk => hk.2)⟩, ⟨by repeat (first | (with_reducible first | exact HB.out | apply below_alloc | apply pw_below_drewN | apply below_drew1) | exact HB.out)⟩⟩
                      · rw [if_neg c15] at H
                        have c15b0 : (t647 == 0) = false := beq_eq_false_iff_ne.mpr c15
                        have c15b1 : (t647 != 0) = true := bne_iff_ne.mpr c15
                        have H' := Aside0.mk H
                        clear H
                        go_wp2
                        repeat (go_quiet (fail); try go_wp2)
                        go_meet
                        case rel => exact ⟨_, (true), (by first | rfl | (simp; done) | (simp [*]; done)), H', ⟨by have := HK1.out; have := HJ3.out; have := HJ5.out; first | omega | exact Nat.le_refl _⟩, ⟨by (with_reducible repeat (first | apply Kd.R_alloc | apply Kd.R_drewN | apply Kd.R_drew)); exact Kd.R_mono HO645.out (fun _ hk => hk.2)⟩, ⟨by (with_reducible repeat (first | apply Kd.R_alloc | apply Kd.R_drewN | apply Kd.R_drew)); exact Kd.R_mono HO649.out (fun _ hk => hk.2)⟩, ⟨by repeat (first | (with_reducible first | exact HB.out | apply below_alloc | apply pw_below_drewN | apply below_drew1) | exact HB.out)⟩⟩
                    · rw [if_neg c14] at H
                      have c14b0 : (t643 == 0) = false := beq_eq_false_iff_ne.mpr c14
                      have c14b1 : (t643 != 0) = true := bne_iff_ne.mpr c14
                      (first | rw [c14b0] | (simp only [i64_w, i32_w]; rw [c14b0]) | skip)
                      have H' := Aside0.mk H
                      clear H
                      go_wp2
                      repeat (go_quiet (fail); try go_wp2)
                      go_meet
                      case rel => exact ⟨_, (true), (by first | rfl | (simp; done) | (simp [*]; done)), H', ⟨by have := HK1.out; have := HJ3.out; have := HJ5.out; first | omega | exact Nat.le_refl _⟩, ⟨by (with_reducible repeat (first | apply Kd.R_alloc | apply Kd.R_drewN | apply Kd.R_drew)); exact Kd.R_mono HO645.out (fun _ hk => hk.2)⟩, ⟨by (with_reducible repeat (first | apply Kd.R_alloc | apply Kd.R_drewN | apply Kd.R_drew)); exact Kd.R_mono HO649.out (fun _ hk => hk.2)⟩, ⟨by repeat (first | (with_reducible first | exact HB.out | apply below_alloc | apply pw_below_drewN | apply below_drew1) | exact HB.out)⟩⟩
                  case rest =>
                    clear HC11
                    try clear c1
                    try clear c2
                    try clear p2
                    try clear c3
                    try clear c3b0
                    try clear c5
                    try clear c5b0
                    try clear c5b1
                    try clear p6
                    try clear c7
                    try clear c7b0
                    try clear c7b1
                    try clear c8
                    try clear c8b0
                    try clear c8b1
                    try clear c8b2
                    try clear c14
                    try clear c14b0
                    try clear c14b1
                    try clear c15
                    try clear c15b0
                    try clear c15b1
                    try clear c16
                    try clear c16b0
                    try clear c16b1
                    try clear p2
                    try clear p6
                    obtain ⟨kq, x76_10, rfl, HA, HJ10, HO_8, HO_10, HB⟩ := hcut
                    cases kq with
                    | zero => exact absurd HA.out (by simp [reedpipelaw12_BlockPower.j3])
                    | succ kj10 =>
                      have H := HA.out
                      clear HA
                      simp only [reedpipelaw12_BlockPower.j3] at H
                      by_cases c20 : x76_10 = true
                      · subst c20
                        have H1 : (some false) = some r := by rw [if_pos rfl] at H; exact H
                        clear H
                        have H := H1
                        clear H1
                        obtain rfl := Option.some.inj H
                        go_wp2
                        repeat (go_quiet (fail); try go_wp2)
                        go_ret
                        exact ⟨by first | rfl | (simp [errW_none, errW_some] <;> rfl) | (simp [*, errW_none, errW_some] <;> rfl), by repeat (first | (with_reducible first | exact HB.out | apply below_alloc | apply pw_below_drewN | apply below_drew1) | exact HB.out)⟩
                      · replace c20 := Bool.eq_false_iff.mpr c20
                        subst c20
                        have H1 : (reedpipelaw12_BlockPower.l1 kj10 t641 x2_1 t642 t646 0) = some r := by rw [if_neg (show ¬ (false = true) by decide)] at H; exact H
                        clear H
                        have H := H1
                        clear H1
                        have H' := Aside0.mk H
                        clear H
                        go_wp2
                        repeat (go_quiet (fail); try go_wp2)
                        go_loopg [12] kj10 (fun kq v12 w' => ∃ (x12_5 : Int), v12 = .int .i64 x12_5 ∧ Aside0 (reedpipelaw12_BlockPower.l1 kq t641 x2_1 t642 t646 x12_5 = some r) ∧ Aside0 (kq ≤ kj10) ∧ Aside0 (Kd.R (Kd.int .i64) 3 w' w.heap.size (fun k_ => some k_ ≠ (v648 : Value).ownBlock) v644 t642) ∧ Aside0 (Kd.R (Kd.int .i64) 3 w' w.heap.size (fun k_ => some k_ ≠ (v644 : Value).ownBlock) v648 t646) ∧ Aside0 (Below w.heap.size w w'))
                        case atStart => exact ⟨(0), (by first | rfl | (simp; done) | (simp [*]; done)), H', ⟨Nat.le_refl _⟩, ⟨by (with_reducible repeat (first | apply Kd.R_alloc | apply Kd.R_drewN | apply Kd.R_drew)); exact HO_8.out⟩, ⟨by (with_reducible repeat (first | apply Kd.R_alloc | apply Kd.R_drewN | apply Kd.R_drew)); exact HO_10.out⟩, ⟨by repeat (first | (with_reducible first | exact HB.out | apply below_alloc | apply pw_below_drewN | apply below_drew1) | exact HB.out)⟩⟩
                        case round =>
                          clear H'
                          try clear c1
                          try clear c2
                          try clear p2
                          try clear c3
                          try clear c3b0
                          try clear c5
                          try clear c5b0
                          try clear c5b1
                          try clear p6
                          try clear c7
                          try clear c7b0
                          try clear c7b1
                          try clear c8
                          try clear c8b0
                          try clear c8b1
                          try clear c8b2
                          try clear c14
                          try clear c14b0
                          try clear c14b1
                          try clear c15
                          try clear c15b0
                          try clear c15b1
                          try clear c16
                          try clear c16b0
                          try clear c16b1
                          try clear c20
                          try clear p2
                          try clear p6
                          obtain ⟨x12_5, rfl, HA, HK5, HO_8, HO_10, HB⟩ := hrel
                          cases gk with
                          | zero => exact absurd HA.out (by simp [reedpipelaw12_BlockPower.l1])
                          | succ k5 =>
                            have H := HA.out
                            clear HA
                            simp only [reedpipelaw12_BlockPower.l1] at H
                            by_cases c21 : x12_5 < 256
                            · rw [if_pos c21] at H
                              have c21b0 : decide (x12_5 < 256) = true := decide_eq_true c21
                              clear c21
                              obtain ⟨ji22, hji22⟩ : ∃ j_ : Int, (wrap64 (256 + x12_5)) = j_ := ⟨_, rfl⟩
                              replace H : (if 0 ≤ (ji22) then (if (ji22) < (t642.length : Int) then (if 0 ≤ x12_5 then (if x12_5 < (t646.length : Int) then (if (wrap64 ((wrap64 ((wrap64 ((rd t642 (ji22)) * (rd t642 (ji22)))) + (wrap64 ((rd t646 x12_5) * (rd t646 x12_5))))) - 17592186044416)) > 33554432 then (some false) else (if (wrap64 ((wrap64 ((wrap64 ((rd t642 (ji22)) * (rd t642 (ji22)))) + (wrap64 ((rd t646 x12_5) * (rd t646 x12_5))))) - 17592186044416)) < (-33554432) then (some false) else (reedpipelaw12_BlockPower.l1 k5 t641 x2_1 t642 t646 (wrap64 (x12_5 + 1))))) else (none)) else (none)) else (none)) else (none)) = some r := by first | (rw [hji22] at H; exact H) | (simp only [hji22] at H ⊢; exact H)
                              have hji22w : (IntKind.i64.wrap (256 + x12_5)) = ji22 := (i64_w _).trans hji22
                              by_cases c23 : 0 ≤ (ji22)
                              · rw [if_pos c23] at H
                                have c23b0 : decide (0 ≤ (ji22)) = true := decide_eq_true c23
                                clear c23
                                by_cases c24 : (ji22) < (t642.length : Int)
                                · rw [if_pos c24] at H
                                  have c24b0 : decide ((ji22) < (t642.length : Int)) = true := decide_eq_true c24
                                  clear c24
                                  by_cases c25 : 0 ≤ x12_5
                                  · rw [if_pos c25] at H
                                    have c25b0 : decide (0 ≤ x12_5) = true := decide_eq_true c25
                                    clear c25
                                    by_cases c26 : x12_5 < (t646.length : Int)
                                    · rw [if_pos c26] at H
                                      have c26b0 : decide (x12_5 < (t646.length : Int)) = true := decide_eq_true c26
                                      clear c26
                                      by_cases c27 : (wrap64 ((wrap64 ((wrap64 ((rd t642 (ji22)) * (rd t642 (ji22)))) + (wrap64 ((rd t646 x12_5) * (rd t646 x12_5))))) - 17592186044416)) > 33554432
                                      · rw [if_pos c27] at H
                                        have c27b0 : decide (33554432 < (wrap64 ((wrap64 ((wrap64 ((rd t642 (ji22)) * (rd t642 (ji22)))) + (wrap64 ((rd t646 x12_5) * (rd t646 x12_5))))) - 17592186044416))) = true := decide_eq_true c27
                                        clear c27
                                        obtain rfl := Option.some.inj H
                                        obtain ⟨Ao28, co28, eo28⟩ := Kd.R_slice HO_8.out
                                        subst eo28
                                        have p650 : 0 ≤ ((ji22) : Int) := of_decide_eq_true (by first | (with_reducible assumption) | assumption)
                                        have q650 : (ji22) < (t642.length : Int) := of_decide_eq_true (by first | (with_reducible assumption) | assumption)
                                        obtain ⟨ad650, e650, hx650_0⟩ := Kd.at_int (Kd.R_reads' HO_8.out).2.2 (ji22) p650 q650
                                        cases e650
                                        replace p650 := eq_true p650
                                        replace q650 := eq_true q650
                                        have p651 : 0 ≤ ((ji22) : Int) := of_decide_eq_true (by first | (with_reducible assumption) | assumption)
                                        have q651 : (ji22) < (t642.length : Int) := of_decide_eq_true (by first | (with_reducible assumption) | assumption)
                                        obtain ⟨ad651, e651, hx651_0⟩ := Kd.at_int (Kd.R_reads' HO_8.out).2.2 (ji22) p651 q651
                                        obtain rfl : ad650 = ad651 := (by injection e651)
                                        replace p651 := eq_true p651
                                        replace q651 := eq_true q651
                                        obtain ⟨Ao29, co29, eo29⟩ := Kd.R_slice HO_10.out
                                        subst eo29
                                        have p652 : 0 ≤ (x12_5 : Int) := of_decide_eq_true (by first | (with_reducible assumption) | assumption)
                                        have q652 : x12_5 < (t646.length : Int) := of_decide_eq_true (by first | (with_reducible assumption) | assumption)
                                        obtain ⟨ad652, e652, hx652_0⟩ := Kd.at_int (Kd.R_reads' HO_10.out).2.2 x12_5 p652 q652
                                        cases e652
                                        replace p652 := eq_true p652
                                        replace q652 := eq_true q652
                                        have p653 : 0 ≤ (x12_5 : Int) := of_decide_eq_true (by first | (with_reducible assumption) | assumption)
                                        have q653 : x12_5 < (t646.length : Int) := of_decide_eq_true (by first | (with_reducible assumption) | assumption)
                                        obtain ⟨ad653, e653, hx653_0⟩ := Kd.at_int (Kd.R_reads' HO_10.out).2.2 x12_5 p653 q653
                                        obtain rfl : ad652 = ad653 := (by injection e653)
                                        replace p653 := eq_true p653
                                        replace q653 := eq_true q653
                                        go_wp2
                                        repeat (go_quiet (fail); try go_wp2)
                                        go_ret
                                        exact ⟨by first | rfl | (simp [errW_none, errW_some] <;> rfl) | (simp only [← hji22]; first | rfl | (simp [errW_none, errW_some] <;> rfl)) | (simp [*, errW_none, errW_some] <;> rfl), by repeat (first | (with_reducible first | exact HB.out | apply below_alloc | apply pw_below_drewN | apply below_drew1) | exact HB.out)⟩
                                      · rw [if_neg c27] at H
                                        have c27b0 : decide (33554432 < (wrap64 ((wrap64 ((wrap64 ((rd t642 (ji22)) * (rd t642 (ji22)))) + (wrap64 ((rd t646 x12_5) * (rd t646 x12_5))))) - 17592186044416))) = false := decide_eq_false c27
                                        clear c27
                                        by_cases c30 : (wrap64 ((wrap64 ((wrap64 ((rd t642 (ji22)) * (rd t642 (ji22)))) + (wrap64 ((rd t646 x12_5) * (rd t646 x12_5))))) - 17592186044416)) < (-33554432)
                                        · rw [if_pos c30] at H
                                          have c30b0 : decide ((wrap64 ((wrap64 ((wrap64 ((rd t642 (ji22)) * (rd t642 (ji22)))) + (wrap64 ((rd t646 x12_5) * (rd t646 x12_5))))) - 17592186044416)) < (-33554432)) = true := decide_eq_true c30
                                          clear c30
                                          obtain rfl := Option.some.inj H
                                          obtain ⟨Ao31, co31, eo31⟩ := Kd.R_slice HO_8.out
                                          subst eo31
                                          have p650 : 0 ≤ ((ji22) : Int) := of_decide_eq_true (by first | (with_reducible assumption) | assumption)
                                          have q650 : (ji22) < (t642.length : Int) := of_decide_eq_true (by first | (with_reducible assumption) | assumption)
                                          obtain ⟨ad650, e650, hx650_0⟩ := Kd.at_int (Kd.R_reads' HO_8.out).2.2 (ji22) p650 q650
                                          cases e650
                                          replace p650 := eq_true p650
                                          replace q650 := eq_true q650
                                          have p651 : 0 ≤ ((ji22) : Int) := of_decide_eq_true (by first | (with_reducible assumption) | assumption)
                                          have q651 : (ji22) < (t642.length : Int) := of_decide_eq_true (by first | (with_reducible assumption) | assumption)
                                          obtain ⟨ad651, e651, hx651_0⟩ := Kd.at_int (Kd.R_reads' HO_8.out).2.2 (ji22) p651 q651
                                          obtain rfl : ad650 = ad651 := (by injection e651)
                                          replace p651 := eq_true p651
                                          replace q651 := eq_true q651
                                          obtain ⟨Ao32, co32, eo32⟩ := Kd.R_slice HO_10.out
                                          subst eo32
                                          have p652 : 0 ≤ (x12_5 : Int) := of_decide_eq_true (by first | (with_reducible assumption) | assumption)
                                          have q652 : x12_5 < (t646.length : Int) := of_decide_eq_true (by first | (with_reducible assumption) | assumption)
                                          obtain ⟨ad652, e652, hx652_0⟩ := Kd.at_int (Kd.R_reads' HO_10.out).2.2 x12_5 p652 q652
                                          cases e652
                                          replace p652 := eq_true p652
                                          replace q652 := eq_true q652
                                          have p653 : 0 ≤ (x12_5 : Int) := of_decide_eq_true (by first | (with_reducible assumption) | assumption)
                                          have q653 : x12_5 < (t646.length : Int) := of_decide_eq_true (by first | (with_reducible assumption) | assumption)
                                          obtain ⟨ad653, e653, hx653_0⟩ := Kd.at_int (Kd.R_reads' HO_10.out).2.2 x12_5 p653 q653
                                          obtain rfl : ad652 = ad653 := (by injection e653)
                                          replace p653 := eq_true p653
                                          replace q653 := eq_true q653
                                          go_wp2
                                          repeat (go_quiet (fail); try go_wp2)
                                          go_ret
                                          exact ⟨by first | rfl | (simp [errW_none, errW_some] <;> rfl) | (simp only [← hji22]; first | rfl | (simp [errW_none, errW_some] <;> rfl)) | (simp [*, errW_none, errW_some] <;> rfl), by repeat (first | (with_reducible first | exact HB.out | apply below_alloc | apply pw_below_drewN | apply below_drew1) | exact HB.out)⟩
                                        · rw [if_neg c30] at H
                                          have c30b0 : decide ((wrap64 ((wrap64 ((wrap64 ((rd t642 (ji22)) * (rd t642 (ji22)))) + (wrap64 ((rd t646 x12_5) * (rd t646 x12_5))))) - 17592186044416)) < (-33554432)) = false := decide_eq_false c30
                                          clear c30
                                          have H' := Aside0.mk H
                                          clear H
                                          obtain ⟨Ao33, co33, eo33⟩ := Kd.R_slice HO_8.out
                                          subst eo33
                                          have p650 : 0 ≤ ((ji22) : Int) := of_decide_eq_true (by first | (with_reducible assumption) | assumption)
                                          have q650 : (ji22) < (t642.length : Int) := of_decide_eq_true (by first | (with_reducible assumption) | assumption)
                                          obtain ⟨ad650, e650, hx650_0⟩ := Kd.at_int (Kd.R_reads' HO_8.out).2.2 (ji22) p650 q650
                                          cases e650
                                          replace p650 := eq_true p650
                                          replace q650 := eq_true q650
                                          have p651 : 0 ≤ ((ji22) : Int) := of_decide_eq_true (by first | (with_reducible assumption) | assumption)
                                          have q651 : (ji22) < (t642.length : Int) := of_decide_eq_true (by first | (with_reducible assumption) | assumption)
                                          obtain ⟨ad651, e651, hx651_0⟩ := Kd.at_int (Kd.R_reads' HO_8.out).2.2 (ji22) p651 q651
                                          obtain rfl : ad650 = ad651 := (by injection e651)
                                          replace p651 := eq_true p651
                                          replace q651 := eq_true q651
                                          obtain ⟨Ao34, co34, eo34⟩ := Kd.R_slice HO_10.out
                                          subst eo34
                                          have p652 : 0 ≤ (x12_5 : Int) := of_decide_eq_true (by first | (with_reducible assumption) | assumption)
                                          have q652 : x12_5 < (t646.length : Int) := of_decide_eq_true (by first | (with_reducible assumption) | assumption)
                                          obtain ⟨ad652, e652, hx652_0⟩ := Kd.at_int (Kd.R_reads' HO_10.out).2.2 x12_5 p652 q652
                                          cases e652
                                          replace p652 := eq_true p652
                                          replace q652 := eq_true q652
                                          have p653 : 0 ≤ (x12_5 : Int) := of_decide_eq_true (by first | (with_reducible assumption) | assumption)
                                          have q653 : x12_5 < (t646.length : Int) := of_decide_eq_true (by first | (with_reducible assumption) | assumption)
                                          obtain ⟨ad653, e653, hx653_0⟩ := Kd.at_int (Kd.R_reads' HO_10.out).2.2 x12_5 p653 q653
                                          obtain rfl : ad652 = ad653 := (by injection e653)
                                          replace p653 := eq_true p653
                                          replace q653 := eq_true q653
                                          go_wp2
                                          repeat (go_quiet (fail); try go_wp2)
                                          go_roundg k5
                                          case measure => have := HK1.out; have := HJ3.out; have := HJ5.out; have := HJ10.out; have := HK5.out; omega
                                          case rel => exact ⟨(wrap64 (x12_5 + 1)), (by first | rfl | (simp; done) | (simp [*]; done)), H', ⟨by have := HK1.out; have := HJ3.out; have := HJ5.out; have := HJ10.out; have := HK5.out; omega⟩, ⟨by (with_reducible repeat (first | apply Kd.R_alloc | apply Kd.R_drewN | apply Kd.R_drew)); exact HO_8.out⟩, ⟨by (with_reducible repeat (first | apply Kd.R_alloc | apply Kd.R_drewN | apply Kd.R_drew)); exact HO_10.out⟩, ⟨by repeat (first | (with_reducible first | exact HB.out | apply below_alloc | apply pw_below_drewN | apply below_drew1) | exact HB.out)⟩⟩
                                    · rw [if_neg c26] at H
                                      exact absurd H (by simp)
                                  · rw [if_neg c25] at H
                                    exact absurd H (by simp)
                                · rw [if_neg c24] at H
                                  exact absurd H (by simp)
                              · rw [if_neg c23] at H
                                exact absurd H (by simp)
                            · rw [if_neg c21] at H
                              have c21b0 : decide (x12_5 < 256) = false := decide_eq_false c21
                              clear c21
                              have H' := Aside0.mk H
                              clear H
                              go_wp2
                              repeat (go_quiet (fail); try go_wp2)
                              go_roundg k5
                              case measure => have := HK1.out; have := HJ3.out; have := HJ5.out; have := HJ10.out; have := HK5.out; omega
                              case rel => exact ⟨(wrap64 (x2_1 + 1)), (by first | rfl | (simp; done) | (simp [*]; done)), H', ⟨by have := HK1.out; have := HJ3.out; have := HJ5.out; have := HJ10.out; have := HK5.out; omega⟩, ⟨by repeat (first | (with_reducible first | exact HB.out | apply below_alloc | apply pw_below_drewN | apply below_drew1) | exact HB.out)⟩⟩
      · rw [if_neg c3] at H
        have c3b0 : decide (x2_1 < 72) = false := decide_eq_false c3
        clear c3
        obtain rfl := Option.some.inj H
        go_wp2
        repeat (go_quiet (fail); try go_wp2)
        go_ret
        exact ⟨by first | rfl | (simp [errW_none, errW_some] <;> rfl) | (simp [*, errW_none, errW_some] <;> rfl), by repeat (first | (with_reducible first | exact HB.out | apply below_alloc | apply pw_below_drewN | apply below_drew1) | exact HB.out)⟩

/-- THE ONE PURE STATEMENT of reedpipelaw12_BlockPower: yours. -/
def reedpipelaw12_BlockPower.Pure : Prop := ∃ k, reedpipelaw12_BlockPower.f k  = some true
theorem reedpipelaw12_BlockPower.walk (P : reedpipelaw12_BlockPower.Pure)  (w : World)  :
    Calls Try.prog 21 #[] w fun e w' => e = .returned (.bool true) ∧ Below w.heap.size w w' := by
  obtain ⟨k, h⟩ := P  
  refine (reedpipelaw12_BlockPower.calls k  true w h).mono ?_
  rintro e w' ⟨rfl, hd⟩
  exact ⟨rfl, hd⟩

end Go.Proofs.Ytpoppdaaodmicaa.Q
