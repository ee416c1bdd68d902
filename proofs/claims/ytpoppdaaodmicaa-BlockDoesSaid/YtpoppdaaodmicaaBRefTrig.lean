-- Several functions' contracts in one text.
import Derived.Test.YtpoppdaaodmicaaQ0
/- Written by a program of this session's (wip/mk.py, over the kit's print.py); Lean checks it. -/
namespace Go.Proofs.Ytpoppdaaodmicaa.Q
open Go.RowKit Go.Proofs.YtpoppdaaodmicaaW.PrintWords Go.Proofs.YtpoppdaaodmicaaW.PrintLast Go.Proofs.YtpoppdaaodmicaaW.PrintMore
attribute [local go_sem] max2_int min2_int max_two min_two max_three min_three max_four min_four   -- for this text's walks alone
set_option linter.unusedVariables false
set_option linter.unusedSimpArgs false

/-! ### reedpiperef03_Down: function 63 -/
def reedpiperef03_Down.f (a0 : Int) (a1 : Int) : Option (Int) := if a1 = 0 then (some a0) else (if 0 ≤ (wrap64 (a1 - 1)) then (if 0 ≤ a1 then (if (wrap64 (a0 - (shl .i64 (shr .i64 a0 a1) a1))) ≥ (shl .i64 1 (wrap64 (a1 - 1))) then (some (wrap64 ((shr .i64 a0 a1) + 1))) else (some (shr .i64 a0 a1))) else (none)) else (none))
set_option maxHeartbeats 8000000 in
set_option maxRecDepth 100000 in
theorem reedpiperef03_Down.calls (a0 : Int) (a1 : Int) (r : Int) (w : World) (h : reedpiperef03_Down.f a0 a1 = some r) :
    Calls Try.prog 63 #[.int .i64 a0, .int .i64 a1] w fun e w' => e = .returned (.int .i64 r) ∧ Drawn0 w w' := by
  have H : (if a1 = 0 then (some a0) else (if 0 ≤ (wrap64 (a1 - 1)) then (if 0 ≤ a1 then (if (wrap64 (a0 - (shl .i64 (shr .i64 a0 a1) a1))) ≥ (shl .i64 1 (wrap64 (a1 - 1))) then (some (wrap64 ((shr .i64 a0 a1) + 1))) else (some (shr .i64 a0 a1))) else (none)) else (none))) = some r := h
  clear h
  by_cases c3 : a1 = 0
  · rw [if_pos c3] at H
    have c3b0 : (a1 == 0) = true := beq_iff_eq.mpr c3
    have c3b1 : (a1 != 0) = false := bne_eq_false_iff_eq.mpr c3
    clear c3
    obtain rfl := Option.some.inj H
    go_enter Try.func63, Try.ntmps63
    go_wp2
    go_ret
    exact ⟨by first | rfl | (simp; done) | (simp [*]; done), by repeat (first | exact Drawn0.refl _ | apply Drawn0.step)⟩
  · rw [if_neg c3] at H
    have c3b0 : (a1 == 0) = false := beq_eq_false_iff_ne.mpr c3
    have c3b1 : (a1 != 0) = true := bne_iff_ne.mpr c3
    obtain ⟨ji4, hji4⟩ : ∃ j_ : Int, (wrap64 (a1 - 1)) = j_ := ⟨_, rfl⟩
    replace H : (if 0 ≤ (ji4) then (if 0 ≤ a1 then (if (wrap64 (a0 - (shl .i64 (shr .i64 a0 a1) a1))) ≥ (shl .i64 1 (ji4)) then (some (wrap64 ((shr .i64 a0 a1) + 1))) else (some (shr .i64 a0 a1))) else (none)) else (none)) = some r := by first | (rw [hji4] at H; exact H) | (simp only [hji4] at H ⊢; exact H)
    have hji4w : (IntKind.i64.wrap (a1 - 1)) = ji4 := (i64_w _).trans hji4
    by_cases c5 : 0 ≤ (ji4)
    · rw [if_pos c5] at H
      have c5b0 := eq_true c5
      have c5b1 : decide (0 ≤ (ji4)) = true := decide_eq_true c5
      clear c5
      obtain ⟨ji6, hji6⟩ : ∃ j_ : Int, (shl .i64 1 (ji4)) = j_ := ⟨_, rfl⟩
      replace H : (if 0 ≤ a1 then (if (wrap64 (a0 - (shl .i64 (shr .i64 a0 a1) a1))) ≥ (ji6) then (some (wrap64 ((shr .i64 a0 a1) + 1))) else (some (shr .i64 a0 a1))) else (none)) = some r := by first | (rw [hji6] at H; exact H) | (simp only [hji6] at H ⊢; exact H)
      have hji6_ : (IntKind.i64.wrap (1 * 2 ^ min (ji4).toNat 64)) = ji6 := hji6
      have hji6z : (ji4) ≤ 64 → (IntKind.i64.wrap (1 * 2 ^ (ji4).toNat)) = ji6 := shl_small hji6
      have hji6u : (IntKind.i64.wrap (2 ^ min (ji4).toNat 64)) = ji6 := by have h_ := hji6_; rw [Int.one_mul] at h_; exact h_
      have hji6v : (ji4) ≤ 64 → (IntKind.i64.wrap (2 ^ (ji4).toNat)) = ji6 := fun hle_ => by have h_ := hji6z hle_; rw [Int.one_mul] at h_; exact h_
      have hji6y : (wrap64 (1 * 2 ^ min (ji4).toNat 64)) = ji6 := (i64_w _).symm.trans hji6_
      have hji6x : (ji4) ≤ 64 → (wrap64 (1 * 2 ^ (ji4).toNat)) = ji6 := fun h_ => (i64_w _).symm.trans (hji6z h_)
      by_cases c7 : 0 ≤ a1
      · rw [if_pos c7] at H
        have c7b0 := eq_true c7
        have c7b1 : decide (0 ≤ a1) = true := decide_eq_true c7
        clear c7
        obtain ⟨ji8, hji8⟩ : ∃ j_ : Int, (shr .i64 a0 a1) = j_ := ⟨_, rfl⟩
        replace H : (if (wrap64 (a0 - (shl .i64 (ji8) a1))) ≥ (ji6) then (some (wrap64 ((ji8) + 1))) else (some ji8)) = some r := by first | (rw [hji8] at H; exact H) | (simp only [hji8] at H ⊢; exact H)
        have hji8_ : (a0 / 2 ^ min a1.toNat 64) = ji8 := hji8
        have hji8z : a1 ≤ 64 → (a0 / 2 ^ a1.toNat) = ji8 := shr_small hji8
        have c9b0 := eq_true (of_decide_eq_true (by first | (with_reducible assumption) | assumption) : 0 ≤ a1)
        obtain ⟨ji10, hji10⟩ : ∃ j_ : Int, (shl .i64 (ji8) a1) = j_ := ⟨_, rfl⟩
        replace H : (if (wrap64 (a0 - (ji10))) ≥ (ji6) then (some (wrap64 ((ji8) + 1))) else (some ji8)) = some r := by first | (rw [hji10] at H; exact H) | (simp only [hji10] at H ⊢; exact H)
        have hji10_ : (IntKind.i64.wrap ((ji8) * 2 ^ min a1.toNat 64)) = ji10 := hji10
        have hji10z : a1 ≤ 64 → (IntKind.i64.wrap ((ji8) * 2 ^ a1.toNat)) = ji10 := shl_small hji10
        have hji10y : (wrap64 ((ji8) * 2 ^ min a1.toNat 64)) = ji10 := (i64_w _).symm.trans hji10_
        have hji10x : a1 ≤ 64 → (wrap64 ((ji8) * 2 ^ a1.toNat)) = ji10 := fun h_ => (i64_w _).symm.trans (hji10z h_)
        by_cases c11 : (wrap64 (a0 - (ji10))) ≥ (ji6)
        · rw [if_pos c11] at H
          have c11b0 : decide ((ji6) ≤ (wrap64 (a0 - (ji10)))) = true := decide_eq_true c11
          clear c11
          obtain rfl := Option.some.inj H
          go_enter Try.func63, Try.ntmps63
          go_wp2
          go_ret
          exact ⟨by first | rfl | (simp; done) | (simp only [← hji4, ← hji6, ← hji8, ← hji10] <;> (first | rfl | simp)) | (simp [*]; done), by repeat (first | exact Drawn0.refl _ | apply Drawn0.step)⟩
        · rw [if_neg c11] at H
          have c11b0 : decide ((ji6) ≤ (wrap64 (a0 - (ji10)))) = false := decide_eq_false c11
          clear c11
          obtain rfl := Option.some.inj H
          go_enter Try.func63, Try.ntmps63
          go_wp2
          go_ret
          exact ⟨by first | rfl | (simp; done) | (simp only [← hji4, ← hji6, ← hji8, ← hji10] <;> (first | rfl | simp)) | (simp [*]; done), by repeat (first | exact Drawn0.refl _ | apply Drawn0.step)⟩
      · rw [if_neg c7] at H
        exact absurd H (by simp)
    · rw [if_neg c5] at H
      exact absurd H (by simp)

end Go.Proofs.Ytpoppdaaodmicaa.Q

/- Written by a program of this session's (wip/mk.py, over the kit's print.py); Lean checks it. -/
namespace Go.Proofs.Ytpoppdaaodmicaa.Q
open Go.RowKit Go.Proofs.YtpoppdaaodmicaaW.PrintWords Go.Proofs.YtpoppdaaodmicaaW.PrintLast Go.Proofs.YtpoppdaaodmicaaW.PrintMore
attribute [local go_sem] max2_int min2_int max_two min_two max_three min_three max_four min_four   -- for this text's walks alone
set_option linter.unusedVariables false
set_option linter.unusedSimpArgs false

/-! ### reedpiperef04_arc: function 98 -/
def reedpiperef04_arc.f (a0 : Int) : Option (Int) := (reedpiperef03_Down.f (wrap64 (a0 * 3454217652358)) 20).bind fun t113 => (some t113)
set_option maxHeartbeats 8000000 in
set_option maxRecDepth 100000 in
theorem reedpiperef04_arc.calls (a0 : Int) (r : Int) (w : World) (h : reedpiperef04_arc.f a0 = some r) :
    Calls Try.prog 98 #[.int .i64 a0] w fun e w' => e = .returned (.int .i64 r) ∧ Drawn0 w w' := by
  have H : ((reedpiperef03_Down.f (wrap64 (a0 * 3454217652358)) 20).bind fun t113 => (some t113)) = some r := h
  clear h
  replace H := Option.bind_eq_some_iff.mp H
  obtain ⟨t113, A20, H⟩ := H
  replace H : (some t113) = some r := H
  have A2 := Aside0.mk A20
  clear A20
  obtain rfl := Option.some.inj H
  go_enter Try.func98, Try.ntmps98
  go_wp2_with (first | ((with_reducible refine gate_callee (f := 63) rfl ?_); refine goesL_ (some 5) rfl rfl Try.func63 (by kernel_rfl) rfl #[.int .i64 (wrap64 (a0 * 3454217652358)), .int .i64 20] rfl (by (try simp only [List.map_toArray, List.map_cons, List.map_nil]); first | done | rfl | (simp only [List.length_drop, List.length_take]; rfl)) ?_; (with_reducible refine (reedpiperef03_Down.calls (wrap64 (a0 * 3454217652358)) 20 t113 _ A2.out).mono ?_); rintro e w' ⟨rfl, ⟨nd, rfl⟩⟩; refine ⟨_, rfl, ?_⟩))
  go_ret
  exact ⟨by first | rfl | (simp; done) | (simp [*]; done), by repeat (first | exact Drawn0.refl _ | apply Drawn0.step)⟩

end Go.Proofs.Ytpoppdaaodmicaa.Q

/- Written by a program of this session's (wip/mk.py, over the kit's print.py); Lean checks it. -/
namespace Go.Proofs.Ytpoppdaaodmicaa.Q
open Go.RowKit Go.Proofs.YtpoppdaaodmicaaW.PrintWords Go.Proofs.YtpoppdaaodmicaaW.PrintLast Go.Proofs.YtpoppdaaodmicaaW.PrintMore
attribute [local go_sem] max2_int min2_int max_two min_two max_three min_three max_four min_four   -- for this text's walks alone
set_option linter.unusedVariables false
set_option linter.unusedSimpArgs false

/-! ### reedpiperef04_cosine: function 64 -/
def reedpiperef04_cosine.l0 : Nat → Int → Int → Int → Int → Option (Int)
  | 0, _, _, _, _ => none
  | k + 1, x4, x5, x6, x7 => if x7 ≤ 7 then ((reedpiperef03_Down.f (wrap64 (x5 * x4)) 30).bind fun t116 => (if (wrap64 ((wrap64 (2 * x7)) * (wrap64 ((wrap64 (2 * x7)) - 1)))) = 0 then (none) else (if (Int.tmod x7 2) = 1 then (reedpiperef04_cosine.l0 k x4 (wrap64 (Int.tdiv t116 (wrap64 ((wrap64 (2 * x7)) * (wrap64 ((wrap64 (2 * x7)) - 1)))))) (wrap64 (x6 - (wrap64 (Int.tdiv t116 (wrap64 ((wrap64 (2 * x7)) * (wrap64 ((wrap64 (2 * x7)) - 1)))))))) (wrap64 (x7 + 1))) else (reedpiperef04_cosine.l0 k x4 (wrap64 (Int.tdiv t116 (wrap64 ((wrap64 (2 * x7)) * (wrap64 ((wrap64 (2 * x7)) - 1)))))) (wrap64 (x6 + (wrap64 (Int.tdiv t116 (wrap64 ((wrap64 (2 * x7)) * (wrap64 ((wrap64 (2 * x7)) - 1)))))))) (wrap64 (x7 + 1)))))) else (some x6)
def reedpiperef04_cosine.f (k : Nat) (a0 : Int) : Option (Int) := (reedpiperef04_arc.f a0).bind fun t114 => ((reedpiperef03_Down.f (wrap64 (t114 * t114)) 30).bind fun t115 => (reedpiperef04_cosine.l0 k t115 1073741824 1073741824 1))
theorem reedpiperef04_cosine.mono_l : ∀ k, (∀ y0 y1 y2 y3, LeO (reedpiperef04_cosine.l0 k y0 y1 y2 y3) (reedpiperef04_cosine.l0 (k + 1) y0 y1 y2 y3))
  | 0 => fun _ _ _ _ r h => by simp [reedpiperef04_cosine.l0] at h
  | k + 1 => by
    have ih0 := reedpiperef04_cosine.mono_l k
    · intro y0 y1 y2 y3
      unfold reedpiperef04_cosine.l0
      repeat' first
      | (with_reducible exact ih0 _ _ _ _)
      | (with_reducible exact LeO.refl _)
      | (with_reducible exact LeO.none _)
      | (with_reducible refine LeO.ite ?_ ?_)
      | (with_reducible refine LeO.bind ?_ (fun _ => ?_))
      | exact ih0 _ _ _ _
      | exact LeO.none _
      | refine LeO.ite ?_ ?_
      | refine LeO.bind ?_ (fun _ => ?_)
theorem reedpiperef04_cosine.mono : ∀ a0 k, LeO (reedpiperef04_cosine.f k a0) (reedpiperef04_cosine.f (k + 1) a0) := by
  intro a0 k
  have ih0 := reedpiperef04_cosine.mono_l k
  unfold reedpiperef04_cosine.f
  repeat' first
      | (with_reducible exact ih0 _ _ _ _)
      | (with_reducible exact LeO.refl _)
      | (with_reducible exact LeO.none _)
      | (with_reducible refine LeO.ite ?_ ?_)
      | (with_reducible refine LeO.bind ?_ (fun _ => ?_))
      | exact ih0 _ _ _ _
      | exact LeO.none _
      | refine LeO.ite ?_ ?_
      | refine LeO.bind ?_ (fun _ => ?_)
set_option maxHeartbeats 8000000 in
set_option maxRecDepth 100000 in
theorem reedpiperef04_cosine.calls (k : Nat) (a0 : Int) (r : Int) (w : World) (h : reedpiperef04_cosine.f k a0 = some r) :
    Calls Try.prog 64 #[.int .i64 a0] w fun e w' => e = .returned (.int .i64 r) ∧ Drawn0 w w' := by
  have H : ((reedpiperef04_arc.f a0).bind fun t114 => ((reedpiperef03_Down.f (wrap64 (t114 * t114)) 30).bind fun t115 => (reedpiperef04_cosine.l0 k t115 1073741824 1073741824 1))) = some r := h
  clear h
  replace H := Option.bind_eq_some_iff.mp H
  obtain ⟨t114, A20, H⟩ := H
  replace H : ((reedpiperef03_Down.f (wrap64 (t114 * t114)) 30).bind fun t115 => (reedpiperef04_cosine.l0 k t115 1073741824 1073741824 1)) = some r := H
  have A2 := Aside0.mk A20
  clear A20
  replace H := Option.bind_eq_some_iff.mp H
  obtain ⟨t115, A30, H⟩ := H
  replace H : (reedpiperef04_cosine.l0 k t115 1073741824 1073741824 1) = some r := H
  have A3 := Aside0.mk A30
  clear A30
  have H' := Aside0.mk H
  clear H
  go_enter Try.func64, Try.ntmps64
  go_wp2_with (first | ((with_reducible refine gate_callee (f := 98) rfl ?_); refine goesL_ (some 9) rfl rfl Try.func98 (by kernel_rfl) rfl #[.int .i64 a0] rfl (by (try simp only [List.map_toArray, List.map_cons, List.map_nil]); first | done | rfl | (simp only [List.length_drop, List.length_take]; rfl)) ?_; (with_reducible refine (reedpiperef04_arc.calls a0 t114 _ A2.out).mono ?_); rintro e w' ⟨rfl, ⟨nd, rfl⟩⟩; refine ⟨_, rfl, ?_⟩) | ((with_reducible refine gate_callee (f := 63) rfl ?_); refine goesL_ (some 13) rfl rfl Try.func63 (by kernel_rfl) rfl #[.int .i64 (wrap64 (t114 * t114)), .int .i64 30] rfl (by (try simp only [List.map_toArray, List.map_cons, List.map_nil]); first | done | rfl | (simp only [List.length_drop, List.length_take]; rfl)) ?_; (with_reducible refine (reedpiperef03_Down.calls (wrap64 (t114 * t114)) 30 t115 _ A3.out).mono ?_); rintro e w' ⟨rfl, ⟨nd, rfl⟩⟩; refine ⟨_, rfl, ?_⟩))
  go_loopg [5, 6, 7] k (fun kq v5 v6 v7 w' => ∃ (x5_1 : Int) (x6_1 : Int) (x7_1 : Int), v5 = .int .i64 x5_1 ∧ v6 = .int .i64 x6_1 ∧ v7 = .int .i64 x7_1 ∧ Aside0 (reedpiperef04_cosine.l0 kq t115 x5_1 x6_1 x7_1 = some r) ∧ Aside0 (kq ≤ k) ∧ Drawn0 w w')
  case atStart => exact ⟨(1073741824), (1073741824), (1), (by first | rfl | (simp; done) | (simp [*]; done)), (by first | rfl | (simp; done) | (simp [*]; done)), (by first | rfl | (simp; done) | (simp [*]; done)), H', ⟨Nat.le_refl _⟩, by repeat (first | exact Drawn0.refl _ | apply Drawn0.step)⟩
  case round =>
    clear H'
    try clear p2
    obtain ⟨x5_1, x6_1, x7_1, rfl, rfl, rfl, HA, HK1, ⟨m1, rfl⟩⟩ := hrel
    cases gk with
    | zero => exact absurd HA.out (by simp [reedpiperef04_cosine.l0])
    | succ k1 =>
      have H := HA.out
      clear HA
      simp only [reedpiperef04_cosine.l0] at H
      by_cases c4 : x7_1 ≤ 7
      · rw [if_pos c4] at H
        have c4b0 : decide (x7_1 ≤ 7) = true := decide_eq_true c4
        clear c4
        replace H := Option.bind_eq_some_iff.mp H
        obtain ⟨t116, A50, H⟩ := H
        replace H : (if (wrap64 ((wrap64 (2 * x7_1)) * (wrap64 ((wrap64 (2 * x7_1)) - 1)))) = 0 then (none) else (if (Int.tmod x7_1 2) = 1 then (reedpiperef04_cosine.l0 k1 t115 (wrap64 (Int.tdiv t116 (wrap64 ((wrap64 (2 * x7_1)) * (wrap64 ((wrap64 (2 * x7_1)) - 1)))))) (wrap64 (x6_1 - (wrap64 (Int.tdiv t116 (wrap64 ((wrap64 (2 * x7_1)) * (wrap64 ((wrap64 (2 * x7_1)) - 1)))))))) (wrap64 (x7_1 + 1))) else (reedpiperef04_cosine.l0 k1 t115 (wrap64 (Int.tdiv t116 (wrap64 ((wrap64 (2 * x7_1)) * (wrap64 ((wrap64 (2 * x7_1)) - 1)))))) (wrap64 (x6_1 + (wrap64 (Int.tdiv t116 (wrap64 ((wrap64 (2 * x7_1)) * (wrap64 ((wrap64 (2 * x7_1)) - 1)))))))) (wrap64 (x7_1 + 1))))) = some r := H
        have A5 := Aside0.mk A50
        clear A50
        by_cases c6 : (wrap64 ((wrap64 (2 * x7_1)) * (wrap64 ((wrap64 (2 * x7_1)) - 1)))) = 0
        · rw [if_pos c6] at H
          exact absurd H (by simp)
        · rw [if_neg c6] at H
          have c6b0 : ((wrap64 ((wrap64 (2 * x7_1)) * (wrap64 ((wrap64 (2 * x7_1)) - 1)))) == 0) = false := beq_eq_false_iff_ne.mpr c6
          have c6b1 : ((wrap64 ((wrap64 (2 * x7_1)) * (wrap64 ((wrap64 (2 * x7_1)) - 1)))) != 0) = true := bne_iff_ne.mpr c6
          by_cases c7 : (Int.tmod x7_1 2) = 1
          · rw [if_pos c7] at H
            have c7b0 : ((Int.tmod x7_1 2) == 1) = true := beq_iff_eq.mpr c7
            have c7b1 : ((Int.tmod x7_1 2) != 1) = false := bne_eq_false_iff_eq.mpr c7
            clear c7
            have H' := Aside0.mk H
            clear H
            go_wp2_with (first | ((with_reducible refine gate_callee (f := 63) rfl ?_); refine goesL_ (some 22) rfl rfl Try.func63 (by kernel_rfl) rfl #[.int .i64 (wrap64 (x5_1 * t115)), .int .i64 30] rfl (by (try simp only [List.map_toArray, List.map_cons, List.map_nil]); first | done | rfl | (simp only [List.length_drop, List.length_take]; rfl)) ?_; (with_reducible refine (reedpiperef03_Down.calls (wrap64 (x5_1 * t115)) 30 t116 _ A5.out).mono ?_); rintro e w' ⟨rfl, ⟨nd, rfl⟩⟩; refine ⟨_, rfl, ?_⟩))
            go_roundg k1
            case measure => have := HK1.out; omega
            case rel => exact ⟨(wrap64 (Int.tdiv t116 (wrap64 ((wrap64 (2 * x7_1)) * (wrap64 ((wrap64 (2 * x7_1)) - 1)))))), (wrap64 (x6_1 - (wrap64 (Int.tdiv t116 (wrap64 ((wrap64 (2 * x7_1)) * (wrap64 ((wrap64 (2 * x7_1)) - 1)))))))), (wrap64 (x7_1 + 1)), (by first | rfl | (simp; done) | (simp [*]; done)), (by first | rfl | (simp; done) | (simp [*]; done)), (by first | rfl | (simp; done) | (simp [*]; done)), H', ⟨by have := HK1.out; omega⟩, by repeat (first | exact Drawn0.refl _ | apply Drawn0.step)⟩
          · rw [if_neg c7] at H
            have c7b0 : ((Int.tmod x7_1 2) == 1) = false := beq_eq_false_iff_ne.mpr c7
            have c7b1 : ((Int.tmod x7_1 2) != 1) = true := bne_iff_ne.mpr c7
            have H' := Aside0.mk H
            clear H
            go_wp2_with (first | ((with_reducible refine gate_callee (f := 63) rfl ?_); refine goesL_ (some 22) rfl rfl Try.func63 (by kernel_rfl) rfl #[.int .i64 (wrap64 (x5_1 * t115)), .int .i64 30] rfl (by (try simp only [List.map_toArray, List.map_cons, List.map_nil]); first | done | rfl | (simp only [List.length_drop, List.length_take]; rfl)) ?_; (with_reducible refine (reedpiperef03_Down.calls (wrap64 (x5_1 * t115)) 30 t116 _ A5.out).mono ?_); rintro e w' ⟨rfl, ⟨nd, rfl⟩⟩; refine ⟨_, rfl, ?_⟩))
            go_roundg k1
            case measure => have := HK1.out; omega
            case rel => exact ⟨(wrap64 (Int.tdiv t116 (wrap64 ((wrap64 (2 * x7_1)) * (wrap64 ((wrap64 (2 * x7_1)) - 1)))))), (wrap64 (x6_1 + (wrap64 (Int.tdiv t116 (wrap64 ((wrap64 (2 * x7_1)) * (wrap64 ((wrap64 (2 * x7_1)) - 1)))))))), (wrap64 (x7_1 + 1)), (by first | rfl | (simp; done) | (simp [*]; done)), (by first | rfl | (simp; done) | (simp [*]; done)), (by first | rfl | (simp; done) | (simp [*]; done)), H', ⟨by have := HK1.out; omega⟩, by repeat (first | exact Drawn0.refl _ | apply Drawn0.step)⟩
      · rw [if_neg c4] at H
        have c4b0 : decide (x7_1 ≤ 7) = false := decide_eq_false c4
        clear c4
        obtain rfl := Option.some.inj H
        go_wp2
        go_ret
        exact ⟨by first | rfl | (simp; done) | (simp [*]; done), by repeat (first | exact Drawn0.refl _ | apply Drawn0.step)⟩

end Go.Proofs.Ytpoppdaaodmicaa.Q

/- Written by a program of this session's (wip/mk.py, over the kit's print.py); Lean checks it. -/
namespace Go.Proofs.Ytpoppdaaodmicaa.Q
open Go.RowKit Go.Proofs.YtpoppdaaodmicaaW.PrintWords Go.Proofs.YtpoppdaaodmicaaW.PrintLast Go.Proofs.YtpoppdaaodmicaaW.PrintMore
attribute [local go_sem] max2_int min2_int max_two min_two max_three min_three max_four min_four   -- for this text's walks alone
set_option linter.unusedVariables false
set_option linter.unusedSimpArgs false

/-! ### reedpiperef04_sine: function 65 -/
def reedpiperef04_sine.l0 : Nat → Int → Int → Int → Int → Option (Int)
  | 0, _, _, _, _ => none
  | k + 1, x4, x5, x6, x7 => if x7 ≤ 7 then ((reedpiperef03_Down.f (wrap64 (x5 * x4)) 30).bind fun t119 => (if (wrap64 ((wrap64 (2 * x7)) * (wrap64 ((wrap64 (2 * x7)) + 1)))) = 0 then (none) else (if (Int.tmod x7 2) = 1 then (reedpiperef04_sine.l0 k x4 (wrap64 (Int.tdiv t119 (wrap64 ((wrap64 (2 * x7)) * (wrap64 ((wrap64 (2 * x7)) + 1)))))) (wrap64 (x6 - (wrap64 (Int.tdiv t119 (wrap64 ((wrap64 (2 * x7)) * (wrap64 ((wrap64 (2 * x7)) + 1)))))))) (wrap64 (x7 + 1))) else (reedpiperef04_sine.l0 k x4 (wrap64 (Int.tdiv t119 (wrap64 ((wrap64 (2 * x7)) * (wrap64 ((wrap64 (2 * x7)) + 1)))))) (wrap64 (x6 + (wrap64 (Int.tdiv t119 (wrap64 ((wrap64 (2 * x7)) * (wrap64 ((wrap64 (2 * x7)) + 1)))))))) (wrap64 (x7 + 1)))))) else (some x6)
def reedpiperef04_sine.f (k : Nat) (a0 : Int) : Option (Int) := (reedpiperef04_arc.f a0).bind fun t117 => ((reedpiperef03_Down.f (wrap64 (t117 * t117)) 30).bind fun t118 => (reedpiperef04_sine.l0 k t118 t117 t117 1))
theorem reedpiperef04_sine.mono_l : ∀ k, (∀ y0 y1 y2 y3, LeO (reedpiperef04_sine.l0 k y0 y1 y2 y3) (reedpiperef04_sine.l0 (k + 1) y0 y1 y2 y3))
  | 0 => fun _ _ _ _ r h => by simp [reedpiperef04_sine.l0] at h
  | k + 1 => by
    have ih0 := reedpiperef04_sine.mono_l k
    · intro y0 y1 y2 y3
      unfold reedpiperef04_sine.l0
      repeat' first
      | (with_reducible exact ih0 _ _ _ _)
      | (with_reducible exact LeO.refl _)
      | (with_reducible exact LeO.none _)
      | (with_reducible refine LeO.ite ?_ ?_)
      | (with_reducible refine LeO.bind ?_ (fun _ => ?_))
      | exact ih0 _ _ _ _
      | exact LeO.none _
      | refine LeO.ite ?_ ?_
      | refine LeO.bind ?_ (fun _ => ?_)
theorem reedpiperef04_sine.mono : ∀ a0 k, LeO (reedpiperef04_sine.f k a0) (reedpiperef04_sine.f (k + 1) a0) := by
  intro a0 k
  have ih0 := reedpiperef04_sine.mono_l k
  unfold reedpiperef04_sine.f
  repeat' first
      | (with_reducible exact ih0 _ _ _ _)
      | (with_reducible exact LeO.refl _)
      | (with_reducible exact LeO.none _)
      | (with_reducible refine LeO.ite ?_ ?_)
      | (with_reducible refine LeO.bind ?_ (fun _ => ?_))
      | exact ih0 _ _ _ _
      | exact LeO.none _
      | refine LeO.ite ?_ ?_
      | refine LeO.bind ?_ (fun _ => ?_)
set_option maxHeartbeats 8000000 in
set_option maxRecDepth 100000 in
theorem reedpiperef04_sine.calls (k : Nat) (a0 : Int) (r : Int) (w : World) (h : reedpiperef04_sine.f k a0 = some r) :
    Calls Try.prog 65 #[.int .i64 a0] w fun e w' => e = .returned (.int .i64 r) ∧ Drawn0 w w' := by
  have H : ((reedpiperef04_arc.f a0).bind fun t117 => ((reedpiperef03_Down.f (wrap64 (t117 * t117)) 30).bind fun t118 => (reedpiperef04_sine.l0 k t118 t117 t117 1))) = some r := h
  clear h
  replace H := Option.bind_eq_some_iff.mp H
  obtain ⟨t117, A20, H⟩ := H
  replace H : ((reedpiperef03_Down.f (wrap64 (t117 * t117)) 30).bind fun t118 => (reedpiperef04_sine.l0 k t118 t117 t117 1)) = some r := H
  have A2 := Aside0.mk A20
  clear A20
  replace H := Option.bind_eq_some_iff.mp H
  obtain ⟨t118, A30, H⟩ := H
  replace H : (reedpiperef04_sine.l0 k t118 t117 t117 1) = some r := H
  have A3 := Aside0.mk A30
  clear A30
  have H' := Aside0.mk H
  clear H
  go_enter Try.func65, Try.ntmps65
  go_wp2_with (first | ((with_reducible refine gate_callee (f := 98) rfl ?_); refine goesL_ (some 9) rfl rfl Try.func98 (by kernel_rfl) rfl #[.int .i64 a0] rfl (by (try simp only [List.map_toArray, List.map_cons, List.map_nil]); first | done | rfl | (simp only [List.length_drop, List.length_take]; rfl)) ?_; (with_reducible refine (reedpiperef04_arc.calls a0 t117 _ A2.out).mono ?_); rintro e w' ⟨rfl, ⟨nd, rfl⟩⟩; refine ⟨_, rfl, ?_⟩) | ((with_reducible refine gate_callee (f := 63) rfl ?_); refine goesL_ (some 13) rfl rfl Try.func63 (by kernel_rfl) rfl #[.int .i64 (wrap64 (t117 * t117)), .int .i64 30] rfl (by (try simp only [List.map_toArray, List.map_cons, List.map_nil]); first | done | rfl | (simp only [List.length_drop, List.length_take]; rfl)) ?_; (with_reducible refine (reedpiperef03_Down.calls (wrap64 (t117 * t117)) 30 t118 _ A3.out).mono ?_); rintro e w' ⟨rfl, ⟨nd, rfl⟩⟩; refine ⟨_, rfl, ?_⟩))
  go_loopg [5, 6, 7] k (fun kq v5 v6 v7 w' => ∃ (x5_1 : Int) (x6_1 : Int) (x7_1 : Int), v5 = .int .i64 x5_1 ∧ v6 = .int .i64 x6_1 ∧ v7 = .int .i64 x7_1 ∧ Aside0 (reedpiperef04_sine.l0 kq t118 x5_1 x6_1 x7_1 = some r) ∧ Aside0 (kq ≤ k) ∧ Drawn0 w w')
  case atStart => exact ⟨(t117), (t117), (1), (by first | rfl | (simp; done) | (simp [*]; done)), (by first | rfl | (simp; done) | (simp [*]; done)), (by first | rfl | (simp; done) | (simp [*]; done)), H', ⟨Nat.le_refl _⟩, by repeat (first | exact Drawn0.refl _ | apply Drawn0.step)⟩
  case round =>
    clear H'
    try clear p2
    obtain ⟨x5_1, x6_1, x7_1, rfl, rfl, rfl, HA, HK1, ⟨m1, rfl⟩⟩ := hrel
    cases gk with
    | zero => exact absurd HA.out (by simp [reedpiperef04_sine.l0])
    | succ k1 =>
      have H := HA.out
      clear HA
      simp only [reedpiperef04_sine.l0] at H
      by_cases c4 : x7_1 ≤ 7
      · rw [if_pos c4] at H
        have c4b0 : decide (x7_1 ≤ 7) = true := decide_eq_true c4
        clear c4
        replace H := Option.bind_eq_some_iff.mp H
        obtain ⟨t119, A50, H⟩ := H
        replace H : (if (wrap64 ((wrap64 (2 * x7_1)) * (wrap64 ((wrap64 (2 * x7_1)) + 1)))) = 0 then (none) else (if (Int.tmod x7_1 2) = 1 then (reedpiperef04_sine.l0 k1 t118 (wrap64 (Int.tdiv t119 (wrap64 ((wrap64 (2 * x7_1)) * (wrap64 ((wrap64 (2 * x7_1)) + 1)))))) (wrap64 (x6_1 - (wrap64 (Int.tdiv t119 (wrap64 ((wrap64 (2 * x7_1)) * (wrap64 ((wrap64 (2 * x7_1)) + 1)))))))) (wrap64 (x7_1 + 1))) else (reedpiperef04_sine.l0 k1 t118 (wrap64 (Int.tdiv t119 (wrap64 ((wrap64 (2 * x7_1)) * (wrap64 ((wrap64 (2 * x7_1)) + 1)))))) (wrap64 (x6_1 + (wrap64 (Int.tdiv t119 (wrap64 ((wrap64 (2 * x7_1)) * (wrap64 ((wrap64 (2 * x7_1)) + 1)))))))) (wrap64 (x7_1 + 1))))) = some r := H
        have A5 := Aside0.mk A50
        clear A50
        by_cases c6 : (wrap64 ((wrap64 (2 * x7_1)) * (wrap64 ((wrap64 (2 * x7_1)) + 1)))) = 0
        · rw [if_pos c6] at H
          exact absurd H (by simp)
        · rw [if_neg c6] at H
          have c6b0 : ((wrap64 ((wrap64 (2 * x7_1)) * (wrap64 ((wrap64 (2 * x7_1)) + 1)))) == 0) = false := beq_eq_false_iff_ne.mpr c6
          have c6b1 : ((wrap64 ((wrap64 (2 * x7_1)) * (wrap64 ((wrap64 (2 * x7_1)) + 1)))) != 0) = true := bne_iff_ne.mpr c6
          by_cases c7 : (Int.tmod x7_1 2) = 1
          · rw [if_pos c7] at H
            have c7b0 : ((Int.tmod x7_1 2) == 1) = true := beq_iff_eq.mpr c7
            have c7b1 : ((Int.tmod x7_1 2) != 1) = false := bne_eq_false_iff_eq.mpr c7
            clear c7
            have H' := Aside0.mk H
            clear H
            go_wp2_with (first | ((with_reducible refine gate_callee (f := 63) rfl ?_); refine goesL_ (some 23) rfl rfl Try.func63 (by kernel_rfl) rfl #[.int .i64 (wrap64 (x5_1 * t118)), .int .i64 30] rfl (by (try simp only [List.map_toArray, List.map_cons, List.map_nil]); first | done | rfl | (simp only [List.length_drop, List.length_take]; rfl)) ?_; (with_reducible refine (reedpiperef03_Down.calls (wrap64 (x5_1 * t118)) 30 t119 _ A5.out).mono ?_); rintro e w' ⟨rfl, ⟨nd, rfl⟩⟩; refine ⟨_, rfl, ?_⟩))
            go_roundg k1
            case measure => have := HK1.out; omega
            case rel => exact ⟨(wrap64 (Int.tdiv t119 (wrap64 ((wrap64 (2 * x7_1)) * (wrap64 ((wrap64 (2 * x7_1)) + 1)))))), (wrap64 (x6_1 - (wrap64 (Int.tdiv t119 (wrap64 ((wrap64 (2 * x7_1)) * (wrap64 ((wrap64 (2 * x7_1)) + 1)))))))), (wrap64 (x7_1 + 1)), (by first | rfl | (simp; done) | (simp [*]; done)), (by first | rfl | (simp; done) | (simp [*]; done)), (by first | rfl | (simp; done) | (simp [*]; done)), H', ⟨by have := HK1.out; omega⟩, by repeat (first | exact Drawn0.refl _ | apply Drawn0.step)⟩
          · rw [if_neg c7] at H
            have c7b0 : ((Int.tmod x7_1 2) == 1) = false := beq_eq_false_iff_ne.mpr c7
            have c7b1 : ((Int.tmod x7_1 2) != 1) = true := bne_iff_ne.mpr c7
            have H' := Aside0.mk H
            clear H
            go_wp2_with (first | ((with_reducible refine gate_callee (f := 63) rfl ?_); refine goesL_ (some 23) rfl rfl Try.func63 (by kernel_rfl) rfl #[.int .i64 (wrap64 (x5_1 * t118)), .int .i64 30] rfl (by (try simp only [List.map_toArray, List.map_cons, List.map_nil]); first | done | rfl | (simp only [List.length_drop, List.length_take]; rfl)) ?_; (with_reducible refine (reedpiperef03_Down.calls (wrap64 (x5_1 * t118)) 30 t119 _ A5.out).mono ?_); rintro e w' ⟨rfl, ⟨nd, rfl⟩⟩; refine ⟨_, rfl, ?_⟩))
            go_roundg k1
            case measure => have := HK1.out; omega
            case rel => exact ⟨(wrap64 (Int.tdiv t119 (wrap64 ((wrap64 (2 * x7_1)) * (wrap64 ((wrap64 (2 * x7_1)) + 1)))))), (wrap64 (x6_1 + (wrap64 (Int.tdiv t119 (wrap64 ((wrap64 (2 * x7_1)) * (wrap64 ((wrap64 (2 * x7_1)) + 1)))))))), (wrap64 (x7_1 + 1)), (by first | rfl | (simp; done) | (simp [*]; done)), (by first | rfl | (simp; done) | (simp [*]; done)), (by first | rfl | (simp; done) | (simp [*]; done)), H', ⟨by have := HK1.out; omega⟩, by repeat (first | exact Drawn0.refl _ | apply Drawn0.step)⟩
      · rw [if_neg c4] at H
        have c4b0 : decide (x7_1 ≤ 7) = false := decide_eq_false c4
        clear c4
        obtain rfl := Option.some.inj H
        go_wp2
        go_ret
        exact ⟨by first | rfl | (simp; done) | (simp [*]; done), by repeat (first | exact Drawn0.refl _ | apply Drawn0.step)⟩

end Go.Proofs.Ytpoppdaaodmicaa.Q

/- Written by a program of this session's (wip/mk.py, over the kit's print.py); Lean checks it. -/
namespace Go.Proofs.Ytpoppdaaodmicaa.Q
open Go.RowKit Go.Proofs.YtpoppdaaodmicaaW.PrintWords Go.Proofs.YtpoppdaaodmicaaW.PrintLast Go.Proofs.YtpoppdaaodmicaaW.PrintMore
attribute [local go_sem] max2_int min2_int max_two min_two max_three min_three max_four min_four   -- for this text's walks alone
set_option linter.unusedVariables false
set_option linter.unusedSimpArgs false

/-! ### reedpiperef04_Cos: function 32 -/
mutual
def reedpiperef04_Cos.j0 : Nat → Int → Option (Int)
  | 0, _ => none
  | k + 1, x0 => if x0 > 1024 then (reedpiperef04_Cos.j1 k (wrap64 (2048 - x0))) else (reedpiperef04_Cos.j1 k x0)
def reedpiperef04_Cos.j1 : Nat → Int → Option (Int)
  | 0, _ => none
  | k + 1, x0 => if x0 > 512 then ((reedpiperef04_Cos.f k (wrap64 (1024 - x0))).bind fun t120 => (some (wrap64 (-t120)))) else (if x0 ≤ 256 then ((reedpiperef04_cosine.f k x0).bind fun t121 => ((reedpiperef03_Down.f t121 4).bind fun t122 => (some t122))) else ((reedpiperef04_sine.f k (wrap64 (512 - x0))).bind fun t123 => ((reedpiperef03_Down.f t123 4).bind fun t124 => (some t124))))
def reedpiperef04_Cos.f : Nat → Int → Option (Int)
  | 0, _ => none
  | k + 1, a0 => if (Int.tmod a0 2048) < 0 then (reedpiperef04_Cos.j0 k (wrap64 ((Int.tmod a0 2048) + 2048))) else (reedpiperef04_Cos.j0 k (Int.tmod a0 2048))
end
set_option maxHeartbeats 8000000 in
set_option maxRecDepth 100000 in
theorem reedpiperef04_Cos.calls (k : Nat) : ∀ (a0 : Int) (r : Int) (w : World) (h : reedpiperef04_Cos.f k a0 = some r),
    Calls Try.prog 32 #[.int .i64 a0] w fun e w' => e = .returned (.int .i64 r) ∧ Drawn0 w w' := by
  induction k using Nat.strongRecOn with
  | _ k ih =>
  intro a0 r w h
  cases k with
  | zero => exact absurd h (by simp [reedpiperef04_Cos.f])
  | succ k =>
  simp only [reedpiperef04_Cos.f] at h
  have H : (if (Int.tmod a0 2048) < 0 then (reedpiperef04_Cos.j0 k (wrap64 ((Int.tmod a0 2048) + 2048))) else (reedpiperef04_Cos.j0 k (Int.tmod a0 2048))) = some r := h
  clear h
  have HC2 := Aside0.mk H
  clear H
  go_enter Try.func32, Try.ntmps32
  go_upto_if 6 with (fail)
  go_cut [0] (fun v0 wc => ∃ (kq : Nat) (x0_1 : Int), v0 = .int .i64 x0_1 ∧ Aside0 (reedpiperef04_Cos.j0 kq x0_1 = some r) ∧ Aside0 (kq ≤ k) ∧ Drawn0 w wc)
  case first =>
    have H := HC2.out
    clear HC2
    by_cases c3 : (Int.tmod a0 2048) < 0
    · rw [if_pos c3] at H
      have c3b0 : decide ((Int.tmod a0 2048) < 0) = true := decide_eq_true c3
      clear c3
      (first | rw [c3b0] | (simp only [i64_w, i32_w]; rw [c3b0]) | skip)
      have H' := Aside0.mk H
      clear H
      go_wp2
      go_meet
      case rel => exact ⟨_, (wrap64 ((Int.tmod a0 2048) + 2048)), (by first | rfl | (simp; done) | (simp [*]; done)), H', ⟨by first | omega | exact Nat.le_refl _⟩, by repeat (first | exact Drawn0.refl _ | apply Drawn0.step)⟩
    · rw [if_neg c3] at H
      have c3b0 : decide ((Int.tmod a0 2048) < 0) = false := decide_eq_false c3
      clear c3
      (first | rw [c3b0] | (simp only [i64_w, i32_w]; rw [c3b0]) | skip)
      have H' := Aside0.mk H
      clear H
      go_wp2
      go_meet
      case rel => exact ⟨_, (Int.tmod a0 2048), (by first | rfl | (simp; done) | (simp [*]; done)), H', ⟨by first | omega | exact Nat.le_refl _⟩, by repeat (first | exact Drawn0.refl _ | apply Drawn0.step)⟩
  case rest =>
    clear HC2
    try clear p2
    try clear c3
    try clear c3b0
    obtain ⟨kq, x0_1, rfl, HA, HJ1, ⟨mc1, rfl⟩⟩ := hcut
    cases kq with
    | zero => exact absurd HA.out (by simp [reedpiperef04_Cos.j0])
    | succ kj1 =>
      have H := HA.out
      clear HA
      simp only [reedpiperef04_Cos.j0] at H
      have HC4 := Aside0.mk H
      clear H
      go_upto_if 10 with (fail)
      go_cut [0] (fun v0 wc => ∃ (kq : Nat) (x0_3 : Int), v0 = .int .i64 x0_3 ∧ Aside0 (reedpiperef04_Cos.j1 kq x0_3 = some r) ∧ Aside0 (kq ≤ kj1) ∧ Drawn0 w wc)
      case first =>
        have H := HC4.out
        clear HC4
        by_cases c5 : x0_1 > 1024
        · rw [if_pos c5] at H
          have c5b0 : decide (1024 < x0_1) = true := decide_eq_true c5
          clear c5
          (first | rw [c5b0] | (simp only [i64_w, i32_w]; rw [c5b0]) | skip)
          have H' := Aside0.mk H
          clear H
          go_wp2
          go_meet
          case rel => exact ⟨_, (wrap64 (2048 - x0_1)), (by first | rfl | (simp; done) | (simp [*]; done)), H', ⟨by have := HJ1.out; first | omega | exact Nat.le_refl _⟩, by repeat (first | exact Drawn0.refl _ | apply Drawn0.step)⟩
        · rw [if_neg c5] at H
          have c5b0 : decide (1024 < x0_1) = false := decide_eq_false c5
          clear c5
          (first | rw [c5b0] | (simp only [i64_w, i32_w]; rw [c5b0]) | skip)
          have H' := Aside0.mk H
          clear H
          go_wp2
          go_meet
          case rel => exact ⟨_, (x0_1), (by first | rfl | (simp; done) | (simp [*]; done)), H', ⟨by have := HJ1.out; first | omega | exact Nat.le_refl _⟩, by repeat (first | exact Drawn0.refl _ | apply Drawn0.step)⟩
      case rest =>
        clear HC4
        try clear c1
        try clear p2
        try clear c3
        try clear c3b0
        try clear c5
        try clear c5b0
        try clear p2
        obtain ⟨kq, x0_3, rfl, HA, HJ3, ⟨mc3, rfl⟩⟩ := hcut
        cases kq with
        | zero => exact absurd HA.out (by simp [reedpiperef04_Cos.j1])
        | succ kj3 =>
          have H := HA.out
          clear HA
          simp only [reedpiperef04_Cos.j1] at H
          by_cases c6 : x0_3 > 512
          · rw [if_pos c6] at H
            have c6b0 : decide (512 < x0_3) = true := decide_eq_true c6
            clear c6
            replace H := Option.bind_eq_some_iff.mp H
            obtain ⟨t120, A70, H⟩ := H
            replace H : (some (wrap64 (-t120))) = some r := H
            have A7 := Aside0.mk A70
            clear A70
            obtain rfl := Option.some.inj H
            go_wp2_with (first | ((with_reducible refine gate_callee (f := 32) rfl ?_); refine goesL_ (some 17) rfl rfl Try.func32 (by kernel_rfl) rfl #[.int .i64 (wrap64 (1024 - x0_3))] rfl (by (try simp only [List.map_toArray, List.map_cons, List.map_nil]); first | done | rfl | (simp only [List.length_drop, List.length_take]; rfl)) ?_; (with_reducible refine (ih kj3 (by have := HJ1.out; have := HJ3.out; omega) (wrap64 (1024 - x0_3)) t120 _ A7.out).mono ?_); rintro e w' ⟨rfl, ⟨nd, rfl⟩⟩; refine ⟨_, rfl, ?_⟩))
            go_ret
            exact ⟨by first | rfl | (simp; done) | (simp [*]; done), by repeat (first | exact Drawn0.refl _ | apply Drawn0.step)⟩
          · rw [if_neg c6] at H
            have c6b0 : decide (512 < x0_3) = false := decide_eq_false c6
            clear c6
            by_cases c8 : x0_3 ≤ 256
            · rw [if_pos c8] at H
              have c8b0 : decide (x0_3 ≤ 256) = true := decide_eq_true c8
              clear c8
              replace H := Option.bind_eq_some_iff.mp H
              obtain ⟨t121, A90, H⟩ := H
              replace H : ((reedpiperef03_Down.f t121 4).bind fun t122 => (some t122)) = some r := H
              have A9 := Aside0.mk A90
              clear A90
              replace H := Option.bind_eq_some_iff.mp H
              obtain ⟨t122, A100, H⟩ := H
              replace H : (some t122) = some r := H
              have A10 := Aside0.mk A100
              clear A100
              obtain rfl := Option.some.inj H
              go_wp2_with (first | ((with_reducible refine gate_callee (f := 64) rfl ?_); refine goesL_ (some 22) rfl rfl Try.func64 (by kernel_rfl) rfl #[.int .i64 x0_3] rfl (by (try simp only [List.map_toArray, List.map_cons, List.map_nil]); first | done | rfl | (simp only [List.length_drop, List.length_take]; rfl)) ?_; (with_reducible refine (reedpiperef04_cosine.calls kj3 x0_3 t121 _ A9.out).mono ?_); rintro e w' ⟨rfl, ⟨nd, rfl⟩⟩; refine ⟨_, rfl, ?_⟩) | ((with_reducible refine gate_callee (f := 63) rfl ?_); refine goesL_ (some 23) rfl rfl Try.func63 (by kernel_rfl) rfl #[.int .i64 t121, .int .i64 4] rfl (by (try simp only [List.map_toArray, List.map_cons, List.map_nil]); first | done | rfl | (simp only [List.length_drop, List.length_take]; rfl)) ?_; (with_reducible refine (reedpiperef03_Down.calls t121 4 t122 _ A10.out).mono ?_); rintro e w' ⟨rfl, ⟨nd, rfl⟩⟩; refine ⟨_, rfl, ?_⟩))
              go_ret
              exact ⟨by first | rfl | (simp; done) | (simp [*]; done), by repeat (first | exact Drawn0.refl _ | apply Drawn0.step)⟩
            · rw [if_neg c8] at H
              have c8b0 : decide (x0_3 ≤ 256) = false := decide_eq_false c8
              clear c8
              replace H := Option.bind_eq_some_iff.mp H
              obtain ⟨t123, A110, H⟩ := H
              replace H : ((reedpiperef03_Down.f t123 4).bind fun t124 => (some t124)) = some r := H
              have A11 := Aside0.mk A110
              clear A110
              replace H := Option.bind_eq_some_iff.mp H
              obtain ⟨t124, A120, H⟩ := H
              replace H : (some t124) = some r := H
              have A12 := Aside0.mk A120
              clear A120
              obtain rfl := Option.some.inj H
              go_wp2_with (first | ((with_reducible refine gate_callee (f := 65) rfl ?_); refine goesL_ (some 26) rfl rfl Try.func65 (by kernel_rfl) rfl #[.int .i64 (wrap64 (512 - x0_3))] rfl (by (try simp only [List.map_toArray, List.map_cons, List.map_nil]); first | done | rfl | (simp only [List.length_drop, List.length_take]; rfl)) ?_; (with_reducible refine (reedpiperef04_sine.calls kj3 (wrap64 (512 - x0_3)) t123 _ A11.out).mono ?_); rintro e w' ⟨rfl, ⟨nd, rfl⟩⟩; refine ⟨_, rfl, ?_⟩) | ((with_reducible refine gate_callee (f := 63) rfl ?_); refine goesL_ (some 27) rfl rfl Try.func63 (by kernel_rfl) rfl #[.int .i64 t123, .int .i64 4] rfl (by (try simp only [List.map_toArray, List.map_cons, List.map_nil]); first | done | rfl | (simp only [List.length_drop, List.length_take]; rfl)) ?_; (with_reducible refine (reedpiperef03_Down.calls t123 4 t124 _ A12.out).mono ?_); rintro e w' ⟨rfl, ⟨nd, rfl⟩⟩; refine ⟨_, rfl, ?_⟩))
              go_ret
              exact ⟨by first | rfl | (simp; done) | (simp [*]; done), by repeat (first | exact Drawn0.refl _ | apply Drawn0.step)⟩

end Go.Proofs.Ytpoppdaaodmicaa.Q

/- Written by a program of this session's (wip/mk.py, over the kit's print.py); Lean checks it. -/
namespace Go.Proofs.Ytpoppdaaodmicaa.Q
open Go.RowKit Go.Proofs.YtpoppdaaodmicaaW.PrintWords Go.Proofs.YtpoppdaaodmicaaW.PrintLast Go.Proofs.YtpoppdaaodmicaaW.PrintMore
attribute [local go_sem] max2_int min2_int max_two min_two max_three min_three max_four min_four   -- for this text's walks alone
set_option linter.unusedVariables false
set_option linter.unusedSimpArgs false

/-! ### reedpiperef04_Sin: function 33 -/
def reedpiperef04_Sin.f (k : Nat) (a0 : Int) : Option (Int) := (reedpiperef04_Cos.f k (wrap64 ((Int.tmod a0 2048) - 512))).bind fun t125 => (some t125)
set_option maxHeartbeats 8000000 in
set_option maxRecDepth 100000 in
theorem reedpiperef04_Sin.calls (k : Nat) (a0 : Int) (r : Int) (w : World) (h : reedpiperef04_Sin.f k a0 = some r) :
    Calls Try.prog 33 #[.int .i64 a0] w fun e w' => e = .returned (.int .i64 r) ∧ Drawn0 w w' := by
  have H : ((reedpiperef04_Cos.f k (wrap64 ((Int.tmod a0 2048) - 512))).bind fun t125 => (some t125)) = some r := h
  clear h
  replace H := Option.bind_eq_some_iff.mp H
  obtain ⟨t125, A20, H⟩ := H
  replace H : (some t125) = some r := H
  have A2 := Aside0.mk A20
  clear A20
  obtain rfl := Option.some.inj H
  go_enter Try.func33, Try.ntmps33
  go_wp2_with (first | ((with_reducible refine gate_callee (f := 32) rfl ?_); refine goesL_ (some 6) rfl rfl Try.func32 (by kernel_rfl) rfl #[.int .i64 (wrap64 ((Int.tmod a0 2048) - 512))] rfl (by (try simp only [List.map_toArray, List.map_cons, List.map_nil]); first | done | rfl | (simp only [List.length_drop, List.length_take]; rfl)) ?_; (with_reducible refine (reedpiperef04_Cos.calls k (wrap64 ((Int.tmod a0 2048) - 512)) t125 _ A2.out).mono ?_); rintro e w' ⟨rfl, ⟨nd, rfl⟩⟩; refine ⟨_, rfl, ?_⟩))
  go_ret
  exact ⟨by first | rfl | (simp; done) | (simp [*]; done), by repeat (first | exact Drawn0.refl _ | apply Drawn0.step)⟩

end Go.Proofs.Ytpoppdaaodmicaa.Q
