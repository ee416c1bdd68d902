-- Several texts of this claim in one.
import Derived.Test.YtpoppdaaodmicaaQ0
import Derived.Test.YtpoppdaaodmicaaT3
import Derived.Test.YtpoppdaaodmicaaR1
import Derived.Test.YtpoppdaaodmicaaBSynthJ
-- Several functions' contracts in one text.
namespace Go.Proofs.Ytpoppdaaodmicaa.Q
open Go.RowKit Go.Proofs.YtpoppdaaodmicaaW.PrintWords Go.Proofs.YtpoppdaaodmicaaW.PrintLast Go.Proofs.YtpoppdaaodmicaaW.PrintMore
attribute [local go_sem] max2_int min2_int max_two min_two max_three min_three max_four min_four   -- for this text's walks alone
set_option linter.unusedVariables false
set_option linter.unusedSimpArgs false

def reedpiperef03_Down.f (a0 : Int) (a1 : Int) : Option (Int) := if a1 = 0 then (some a0) else (if 0 ≤ (wrap64 (a1 - 1)) then (if 0 ≤ a1 then (if (wrap64 (a0 - (shl .i64 (shr .i64 a0 a1) a1))) ≥ (shl .i64 1 (wrap64 (a1 - 1))) then (some (wrap64 ((shr .i64 a0 a1) + 1))) else (some (shr .i64 a0 a1))) else (none)) else (none))
set_option maxHeartbeats 8000000 in
set_option maxRecDepth 100000 in
theorem reedpiperef03_Down.calls (a0 : Int) (a1 : Int) (r : Int) (w : World) (h : reedpiperef03_Down.f a0 a1 = some r) :
  Calls Try.prog 63 #[.int .i64 a0, .int .i64 a1] w fun e w' => e = .returned (.int .i64 r) ∧ Drawn0 w w' := by
 have H : (if a1 = 0 then (some a0) else (if 0 ≤ (wrap64 (a1 - 1)) then (if 0 ≤ a1 then (if (wrap64 (a0 - (shl .i64 (shr .i64 a0 a1) a1))) ≥ (shl .i64 1 (wrap64 (a1 - 1))) then (some (wrap64 ((shr .i64 a0 a1) + 1))) else (some (shr .i64 a0 a1))) else (none)) else (none))) = some r := h
 clear h
 by_cases c3 : a1 = 0
 ·rw [if_pos c3] at H
  have c3b0 : (a1 == 0) = true := beq_iff_eq.mpr c3
  have c3b1 : (a1 != 0) = false := bne_eq_false_iff_eq.mpr c3
  clear c3
  obtain rfl := Option.some.inj H
  go_enter Try.func63, Try.ntmps63
  go_wp2
  go_ret
  exact ⟨by first | rfl | (simp; done) | (simp [*]; done), by repeat (first | exact Drawn0.refl _ | apply Drawn0.step)⟩
 ·rw [if_neg c3] at H
  have c3b0 : (a1 == 0) = false := beq_eq_false_iff_ne.mpr c3
  have c3b1 : (a1 != 0) = true := bne_iff_ne.mpr c3
  obtain ⟨ji4, hji4⟩ : ∃ j_ : Int, (wrap64 (a1 - 1)) = j_ := ⟨_, rfl⟩
  replace H : (if 0 ≤ (ji4) then (if 0 ≤ a1 then (if (wrap64 (a0 - (shl .i64 (shr .i64 a0 a1) a1))) ≥ (shl .i64 1 (ji4)) then (some (wrap64 ((shr .i64 a0 a1) + 1))) else (some (shr .i64 a0 a1))) else (none)) else (none)) = some r := by first | (rw [hji4] at H; exact H) | (simp only [hji4] at H ⊢; exact H)
  have hji4w : (IntKind.i64.wrap (a1 - 1)) = ji4 := (i64_w _).trans hji4
  by_cases c5 : 0 ≤ (ji4)
  ·rw [if_pos c5] at H
   have c5b0 := eq_true c5
   have c5b1 : decide (0 ≤ (ji4)) = true := decide_eq_true c5
   clear c5
   obtain ⟨ji6, hji6⟩ : ∃ j_ : Int, (shl .i64 1 (ji4)) = j_ := ⟨_, rfl⟩
   replace H : (if 0 ≤ a1 then (if (wrap64 (a0 - (shl .i64 (shr .i64 a0 a1) a1))) ≥ (ji6) then (some (wrap64 ((shr .i64 a0 a1) + 1))) else (some (shr .i64 a0 a1))) else (none)) = some r := by first | (rw [hji6] at H; exact H) | (simp only [hji6] at H ⊢; exact H)
   have hji6_ : (IntKind.i64.wrap (1 * 2 ^ min (ji4).toNat 64)) = ji6 := hji6
   have hji6z : (ji4) ≤ 64 → (IntKind.i64.wrap (1 * 2 ^ (ji4).toNat)) = ji6 := shl_small hji6
   have hji6u : (IntKind.i64.wrap (2 ^ min (ji4).toNat 64)) = ji6 := by have h_ := hji6_; rw [Int.one_mul] at h_; exact h_
   have hji6v : (ji4) ≤ 64 → (IntKind.i64.wrap (2 ^ (ji4).toNat)) = ji6 := fun hle_ => by have h_ := hji6z hle_; rw [Int.one_mul] at h_; exact h_
   have hji6y : (wrap64 (1 * 2 ^ min (ji4).toNat 64)) = ji6 := (i64_w _).symm.trans hji6_
   have hji6x : (ji4) ≤ 64 → (wrap64 (1 * 2 ^ (ji4).toNat)) = ji6 := fun h_ => (i64_w _).symm.trans (hji6z h_)
   by_cases c7 : 0 ≤ a1
   ·rw [if_pos c7] at H
    have c7b0 := eq_true c7
    have c7b1 : decide (0 ≤ a1) = true := decide_eq_true c7
    clear c7
    obtain ⟨ji8, hji8⟩ : ∃ j_ : Int, (shr .i64 a0 a1) = j_ := ⟨_, rfl⟩
    replace H : (if (wrap64 (a0 - (shl .i64 (ji8) a1))) ≥ (ji6) then (some (wrap64 ((ji8) + 1))) else (some ji8)) = some r := by first | (rw [hji8] at H; exact H) | (simp only [hji8] at H ⊢; exact H)
    have hji8_ : (a0 / 2 ^ min a1.toNat 64) = ji8 := hji8
    have hji8z : a1 ≤ 64 → (a0 / 2 ^ a1.toNat) = ji8 := shr_small hji8
    have c9b0 := eq_true (of_decide_eq_true (by first | (with_reducible assumption) | assumption) : 0 ≤ a1)
    obtain ⟨ji10, hji10⟩ : ∃ j_ : Int, (shl .i64 (ji8) a1) = j_ := ⟨_, rfl⟩
    replace H : (if (wrap64 (a0 - (ji10))) ≥ (ji6) then (some (wrap64 ((ji8) + 1))) else (some ji8)) = some r := by first | (rw [hji10] at H; exact H) | (simp only [hji10] at H ⊢; exact H)
    have hji10_ : (IntKind.i64.wrap ((ji8) * 2 ^ min a1.toNat 64)) = ji10 := hji10
    have hji10z : a1 ≤ 64 → (IntKind.i64.wrap ((ji8) * 2 ^ a1.toNat)) = ji10 := shl_small hji10
    have hji10y : (wrap64 ((ji8) * 2 ^ min a1.toNat 64)) = ji10 := (i64_w _).symm.trans hji10_
    have hji10x : a1 ≤ 64 → (wrap64 ((ji8) * 2 ^ a1.toNat)) = ji10 := fun h_ => (i64_w _).symm.trans (hji10z h_)
    by_cases c11 : (wrap64 (a0 - (ji10))) ≥ (ji6)
    ·rw [if_pos c11] at H
     have c11b0 : decide ((ji6) ≤ (wrap64 (a0 - (ji10)))) = true := decide_eq_true c11
     clear c11
     obtain rfl := Option.some.inj H
     go_enter Try.func63, Try.ntmps63
     go_wp2
     go_ret
     exact ⟨by first | rfl | (simp; done) | (simp only [← hji4, ← hji6, ← hji8, ← hji10] <;> (first | rfl | simp)) | (simp [*]; done), by repeat (first | exact Drawn0.refl _ | apply Drawn0.step)⟩
    ·rw [if_neg c11] at H
     have c11b0 : decide ((ji6) ≤ (wrap64 (a0 - (ji10)))) = false := decide_eq_false c11
     clear c11
     obtain rfl := Option.some.inj H
     go_enter Try.func63, Try.ntmps63
     go_wp2
     go_ret
     exact ⟨by first | rfl | (simp; done) | (simp only [← hji4, ← hji6, ← hji8, ← hji10] <;> (first | rfl | simp)) | (simp [*]; done), by repeat (first | exact Drawn0.refl _ | apply Drawn0.step)⟩
   ·rw [if_neg c7] at H
    exact absurd H (by simp)
  ·rw [if_neg c5] at H
   exact absurd H (by simp)

end Go.Proofs.Ytpoppdaaodmicaa.Q

namespace Go.Proofs.Ytpoppdaaodmicaa.Q
open Go.RowKit Go.Proofs.YtpoppdaaodmicaaW.PrintWords Go.Proofs.YtpoppdaaodmicaaW.PrintLast Go.Proofs.YtpoppdaaodmicaaW.PrintMore
attribute [local go_sem] max2_int min2_int max_two min_two max_three min_three max_four min_four   -- for this text's walks alone
set_option linter.unusedVariables false
set_option linter.unusedSimpArgs false

def reedpiperef04_arc.f (a0 : Int) : Option (Int) := (reedpiperef03_Down.f (wrap64 (a0 * 3454217652358)) 20).bind fun t113 => (some t113)
set_option maxHeartbeats 8000000 in
set_option maxRecDepth 100000 in
theorem reedpiperef04_arc.calls (a0 : Int) (r : Int) (w : World) (h : reedpiperef04_arc.f a0 = some r) :
  Calls Try.prog 98 #[.int .i64 a0] w fun e w' => e = .returned (.int .i64 r) ∧ Drawn0 w w' := by
 have H : ((reedpiperef03_Down.f (wrap64 (a0 * 3454217652358)) 20).bind fun t113 => (some t113)) = some r := h
 clear h
 replace H := Option.bind_eq_some_iff.mp H
 obtain ⟨t113, A20, H⟩ := H
 replace H : (some t113) = some r := H
 have A2 := Aside0.mk A20
 clear A20
 obtain rfl := Option.some.inj H
 go_enter Try.func98, Try.ntmps98
 go_wp2_with (first | ((with_reducible refine gate_callee (f := 63) rfl ?_); refine goesL_ (some 5) rfl rfl Try.func63 (by kernel_rfl) rfl #[.int .i64 (wrap64 (a0 * 3454217652358)), .int .i64 20] rfl (by (try simp only [List.map_toArray, List.map_cons, List.map_nil]); first | done | rfl | (simp only [List.length_drop, List.length_take]; rfl)) ?_; (with_reducible refine (reedpiperef03_Down.calls (wrap64 (a0 * 3454217652358)) 20 t113 _ A2.out).mono ?_); rintro e w' ⟨rfl, ⟨nd, rfl⟩⟩; refine ⟨_, rfl, ?_⟩))
 go_ret
 exact ⟨by first | rfl | (simp; done) | (simp [*]; done), by repeat (first | exact Drawn0.refl _ | apply Drawn0.step)⟩

end Go.Proofs.Ytpoppdaaodmicaa.Q

namespace Go.Proofs.Ytpoppdaaodmicaa.Q
open Go.RowKit Go.Proofs.YtpoppdaaodmicaaW.PrintWords Go.Proofs.YtpoppdaaodmicaaW.PrintLast Go.Proofs.YtpoppdaaodmicaaW.PrintMore
attribute [local go_sem] max2_int min2_int max_two min_two max_three min_three max_four min_four   -- for this text's walks alone
set_option linter.unusedVariables false
set_option linter.unusedSimpArgs false

def reedpiperef04_cosine.l0 : Nat → Int → Int → Int → Int → Option (Int)
 | 0, _, _, _, _ => none
 | k + 1, x4, x5, x6, x7 => if x7 ≤ 7 then ((reedpiperef03_Down.f (wrap64 (x5 * x4)) 30).bind fun t116 => (if (wrap64 ((wrap64 (2 * x7)) * (wrap64 ((wrap64 (2 * x7)) - 1)))) = 0 then (none) else (if (Int.tmod x7 2) = 1 then (reedpiperef04_cosine.l0 k x4 (wrap64 (Int.tdiv t116 (wrap64 ((wrap64 (2 * x7)) * (wrap64 ((wrap64 (2 * x7)) - 1)))))) (wrap64 (x6 - (wrap64 (Int.tdiv t116 (wrap64 ((wrap64 (2 * x7)) * (wrap64 ((wrap64 (2 * x7)) - 1)))))))) (wrap64 (x7 + 1))) else (reedpiperef04_cosine.l0 k x4 (wrap64 (Int.tdiv t116 (wrap64 ((wrap64 (2 * x7)) * (wrap64 ((wrap64 (2 * x7)) - 1)))))) (wrap64 (x6 + (wrap64 (Int.tdiv t116 (wrap64 ((wrap64 (2 * x7)) * (wrap64 ((wrap64 (2 * x7)) - 1)))))))) (wrap64 (x7 + 1)))))) else (some x6)
def reedpiperef04_cosine.f (k : Nat) (a0 : Int) : Option (Int) := (reedpiperef04_arc.f a0).bind fun t114 => ((reedpiperef03_Down.f (wrap64 (t114 * t114)) 30).bind fun t115 => (reedpiperef04_cosine.l0 k t115 1073741824 1073741824 1))
theorem reedpiperef04_cosine.mono_l : ∀ k, (∀ y0 y1 y2 y3, LeO (reedpiperef04_cosine.l0 k y0 y1 y2 y3) (reedpiperef04_cosine.l0 (k + 1) y0 y1 y2 y3))
 | 0 => fun _ _ _ _ r h => by simp [reedpiperef04_cosine.l0] at h
 | k + 1 => by
  have ih0 := reedpiperef04_cosine.mono_l k
  ·intro y0 y1 y2 y3
   unfold reedpiperef04_cosine.l0
   repeat' first
   | (with_reducible exact ih0 _ _ _ _)
   | (with_reducible exact LeO.refl _)
   | (with_reducible exact LeO.none _)
   | (with_reducible refine LeO.ite ?_ ?_)
   | (with_reducible refine LeO.bind ?_ (fun _ => ?_))
   | exact ih0 _ _ _ _
   | exact LeO.none _
   | refine LeO.ite ?_ ?_
   | refine LeO.bind ?_ (fun _ => ?_)
theorem reedpiperef04_cosine.mono : ∀ a0 k, LeO (reedpiperef04_cosine.f k a0) (reedpiperef04_cosine.f (k + 1) a0) := by
 intro a0 k
 have ih0 := reedpiperef04_cosine.mono_l k
 unfold reedpiperef04_cosine.f
 repeat' first
   | (with_reducible exact ih0 _ _ _ _)
   | (with_reducible exact LeO.refl _)
   | (with_reducible exact LeO.none _)
   | (with_reducible refine LeO.ite ?_ ?_)
   | (with_reducible refine LeO.bind ?_ (fun _ => ?_))
   | exact ih0 _ _ _ _
   | exact LeO.none _
   | refine LeO.ite ?_ ?_
   | refine LeO.bind ?_ (fun _ => ?_)
set_option maxHeartbeats 8000000 in
set_option maxRecDepth 100000 in
theorem reedpiperef04_cosine.calls (k : Nat) (a0 : Int) (r : Int) (w : World) (h : reedpiperef04_cosine.f k a0 = some r) :
  Calls Try.prog 64 #[.int .i64 a0] w fun e w' => e = .returned (.int .i64 r) ∧ Drawn0 w w' := by
 have H : ((reedpiperef04_arc.f a0).bind fun t114 => ((reedpiperef03_Down.f (wrap64 (t114 * t114)) 30).bind fun t115 => (reedpiperef04_cosine.l0 k t115 1073741824 1073741824 1))) = some r := h
 clear h
 replace H := Option.bind_eq_some_iff.mp H
 obtain ⟨t114, A20, H⟩ := H
 replace H : ((reedpiperef03_Down.f (wrap64 (t114 * t114)) 30).bind fun t115 => (reedpiperef04_cosine.l0 k t115 1073741824 1073741824 1)) = some r := H
 have A2 := Aside0.mk A20
 clear A20
 replace H := Option.bind_eq_some_iff.mp H
 obtain ⟨t115, A30, H⟩ := H
 replace H : (reedpiperef04_cosine.l0 k t115 1073741824 1073741824 1) = some r := H
 have A3 := Aside0.mk A30
 clear A30
 have H' := Aside0.mk H
 clear H
 go_enter Try.func64, Try.ntmps64
 go_wp2_with (first | ((with_reducible refine gate_callee (f := 98) rfl ?_); refine goesL_ (some 9) rfl rfl Try.func98 (by kernel_rfl) rfl #[.int .i64 a0] rfl (by (try simp only [List.map_toArray, List.map_cons, List.map_nil]); first | done | rfl | (simp only [List.length_drop, List.length_take]; rfl)) ?_; (with_reducible refine (reedpiperef04_arc.calls a0 t114 _ A2.out).mono ?_); rintro e w' ⟨rfl, ⟨nd, rfl⟩⟩; refine ⟨_, rfl, ?_⟩) | ((with_reducible refine gate_callee (f := 63) rfl ?_); refine goesL_ (some 13) rfl rfl Try.func63 (by kernel_rfl) rfl #[.int .i64 (wrap64 (t114 * t114)), .int .i64 30] rfl (by (try simp only [List.map_toArray, List.map_cons, List.map_nil]); first | done | rfl | (simp only [List.length_drop, List.length_take]; rfl)) ?_; (with_reducible refine (reedpiperef03_Down.calls (wrap64 (t114 * t114)) 30 t115 _ A3.out).mono ?_); rintro e w' ⟨rfl, ⟨nd, rfl⟩⟩; refine ⟨_, rfl, ?_⟩))
 go_loopg [5, 6, 7] k (fun kq v5 v6 v7 w' => ∃ (x5_1 : Int) (x6_1 : Int) (x7_1 : Int), v5 = .int .i64 x5_1 ∧ v6 = .int .i64 x6_1 ∧ v7 = .int .i64 x7_1 ∧ Aside0 (reedpiperef04_cosine.l0 kq t115 x5_1 x6_1 x7_1 = some r) ∧ Aside0 (kq ≤ k) ∧ Drawn0 w w')
 case atStart => exact ⟨(1073741824), (1073741824), (1), (by first | rfl | (simp; done) | (simp [*]; done)), (by first | rfl | (simp; done) | (simp [*]; done)), (by first | rfl | (simp; done) | (simp [*]; done)), H', ⟨Nat.le_refl _⟩, by repeat (first | exact Drawn0.refl _ | apply Drawn0.step)⟩
 case round =>
  clear H'
  try clear p2
  obtain ⟨x5_1, x6_1, x7_1, rfl, rfl, rfl, HA, HK1, ⟨m1, rfl⟩⟩ := hrel
  cases gk with
  | zero => exact absurd HA.out (by simp [reedpiperef04_cosine.l0])
  | succ k1 =>
   have H := HA.out
   clear HA
   simp only [reedpiperef04_cosine.l0] at H
   by_cases c4 : x7_1 ≤ 7
   ·rw [if_pos c4] at H
    have c4b0 : decide (x7_1 ≤ 7) = true := decide_eq_true c4
    clear c4
    replace H := Option.bind_eq_some_iff.mp H
    obtain ⟨t116, A50, H⟩ := H
    replace H : (if (wrap64 ((wrap64 (2 * x7_1)) * (wrap64 ((wrap64 (2 * x7_1)) - 1)))) = 0 then (none) else (if (Int.tmod x7_1 2) = 1 then (reedpiperef04_cosine.l0 k1 t115 (wrap64 (Int.tdiv t116 (wrap64 ((wrap64 (2 * x7_1)) * (wrap64 ((wrap64 (2 * x7_1)) - 1)))))) (wrap64 (x6_1 - (wrap64 (Int.tdiv t116 (wrap64 ((wrap64 (2 * x7_1)) * (wrap64 ((wrap64 (2 * x7_1)) - 1)))))))) (wrap64 (x7_1 + 1))) else (reedpiperef04_cosine.l0 k1 t115 (wrap64 (Int.tdiv t116 (wrap64 ((wrap64 (2 * x7_1)) * (wrap64 ((wrap64 (2 * x7_1)) - 1)))))) (wrap64 (x6_1 + (wrap64 (Int.tdiv t116 (wrap64 ((wrap64 (2 * x7_1)) * (wrap64 ((wrap64 (2 * x7_1)) - 1)))))))) (wrap64 (x7_1 + 1))))) = some r := H
    have A5 := Aside0.mk A50
    clear A50
    by_cases c6 : (wrap64 ((wrap64 (2 * x7_1)) * (wrap64 ((wrap64 (2 * x7_1)) - 1)))) = 0
    ·rw [if_pos c6] at H
     exact absurd H (by simp)
    ·rw [if_neg c6] at H
     have c6b0 : ((wrap64 ((wrap64 (2 * x7_1)) * (wrap64 ((wrap64 (2 * x7_1)) - 1)))) == 0) = false := beq_eq_false_iff_ne.mpr c6
     have c6b1 : ((wrap64 ((wrap64 (2 * x7_1)) * (wrap64 ((wrap64 (2 * x7_1)) - 1)))) != 0) = true := bne_iff_ne.mpr c6
     by_cases c7 : (Int.tmod x7_1 2) = 1
     ·rw [if_pos c7] at H
      have c7b0 : ((Int.tmod x7_1 2) == 1) = true := beq_iff_eq.mpr c7
      have c7b1 : ((Int.tmod x7_1 2) != 1) = false := bne_eq_false_iff_eq.mpr c7
      clear c7
      have H' := Aside0.mk H
      clear H
      go_wp2_with (first | ((with_reducible refine gate_callee (f := 63) rfl ?_); refine goesL_ (some 22) rfl rfl Try.func63 (by kernel_rfl) rfl #[.int .i64 (wrap64 (x5_1 * t115)), .int .i64 30] rfl (by (try simp only [List.map_toArray, List.map_cons, List.map_nil]); first | done | rfl | (simp only [List.length_drop, List.length_take]; rfl)) ?_; (with_reducible refine (reedpiperef03_Down.calls (wrap64 (x5_1 * t115)) 30 t116 _ A5.out).mono ?_); rintro e w' ⟨rfl, ⟨nd, rfl⟩⟩; refine ⟨_, rfl, ?_⟩))
      go_roundg k1
      case measure => have := HK1.out; omega
      case rel => exact ⟨(wrap64 (Int.tdiv t116 (wrap64 ((wrap64 (2 * x7_1)) * (wrap64 ((wrap64 (2 * x7_1)) - 1)))))), (wrap64 (x6_1 - (wrap64 (Int.tdiv t116 (wrap64 ((wrap64 (2 * x7_1)) * (wrap64 ((wrap64 (2 * x7_1)) - 1)))))))), (wrap64 (x7_1 + 1)), (by first | rfl | (simp; done) | (simp [*]; done)), (by first | rfl | (simp; done) | (simp [*]; done)), (by first | rfl | (simp; done) | (simp [*]; done)), H', ⟨by have := HK1.out; omega⟩, by repeat (first | exact Drawn0.refl _ | apply Drawn0.step)⟩
     ·rw [if_neg c7] at H
      have c7b0 : ((Int.tmod x7_1 2) == 1) = false := beq_eq_false_iff_ne.mpr c7
      have c7b1 : ((Int.tmod x7_1 2) != 1) = true := bne_iff_ne.mpr c7
      have H' := Aside0.mk H
      clear H
      go_wp2_with (first | ((with_reducible refine gate_callee (f := 63) rfl ?_); refine goesL_ (some 22) rfl rfl Try.func63 (by kernel_rfl) rfl #[.int .i64 (wrap64 (x5_1 * t115)), .int .i64 30] rfl (by (try simp only [List.map_toArray, List.map_cons, List.map_nil]); first | done | rfl | (simp only [List.length_drop, List.length_take]; rfl)) ?_; (with_reducible refine (reedpiperef03_Down.calls (wrap64 (x5_1 * t115)) 30 t116 _ A5.out).mono ?_); rintro e w' ⟨rfl, ⟨nd, rfl⟩⟩; refine ⟨_, rfl, ?_⟩))
      go_roundg k1
      case measure => have := HK1.out; omega
      case rel => exact ⟨(wrap64 (Int.tdiv t116 (wrap64 ((wrap64 (2 * x7_1)) * (wrap64 ((wrap64 (2 * x7_1)) - 1)))))), (wrap64 (x6_1 + (wrap64 (Int.tdiv t116 (wrap64 ((wrap64 (2 * x7_1)) * (wrap64 ((wrap64 (2 * x7_1)) - 1)))))))), (wrap64 (x7_1 + 1)), (by first | rfl | (simp; done) | (simp [*]; done)), (by first | rfl | (simp; done) | (simp [*]; done)), (by first | rfl | (simp; done) | (simp [*]; done)), H', ⟨by have := HK1.out; omega⟩, by repeat (first | exact Drawn0.refl _ | apply Drawn0.step)⟩
   ·rw [if_neg c4] at H
    have c4b0 : decide (x7_1 ≤ 7) = false := decide_eq_false c4
    clear c4
    obtain rfl := Option.some.inj H
    go_wp2
    go_ret
    exact ⟨by first | rfl | (simp; done) | (simp [*]; done), by repeat (first | exact Drawn0.refl _ | apply Drawn0.step)⟩

end Go.Proofs.Ytpoppdaaodmicaa.Q

namespace Go.Proofs.Ytpoppdaaodmicaa.Q
open Go.RowKit Go.Proofs.YtpoppdaaodmicaaW.PrintWords Go.Proofs.YtpoppdaaodmicaaW.PrintLast Go.Proofs.YtpoppdaaodmicaaW.PrintMore
attribute [local go_sem] max2_int min2_int max_two min_two max_three min_three max_four min_four   -- for this text's walks alone
set_option linter.unusedVariables false
set_option linter.unusedSimpArgs false

def reedpiperef04_sine.l0 : Nat → Int → Int → Int → Int → Option (Int)
 | 0, _, _, _, _ => none
 | k + 1, x4, x5, x6, x7 => if x7 ≤ 7 then ((reedpiperef03_Down.f (wrap64 (x5 * x4)) 30).bind fun t119 => (if (wrap64 ((wrap64 (2 * x7)) * (wrap64 ((wrap64 (2 * x7)) + 1)))) = 0 then (none) else (if (Int.tmod x7 2) = 1 then (reedpiperef04_sine.l0 k x4 (wrap64 (Int.tdiv t119 (wrap64 ((wrap64 (2 * x7)) * (wrap64 ((wrap64 (2 * x7)) + 1)))))) (wrap64 (x6 - (wrap64 (Int.tdiv t119 (wrap64 ((wrap64 (2 * x7)) * (wrap64 ((wrap64 (2 * x7)) + 1)))))))) (wrap64 (x7 + 1))) else (reedpiperef04_sine.l0 k x4 (wrap64 (Int.tdiv t119 (wrap64 ((wrap64 (2 * x7)) * (wrap64 ((wrap64 (2 * x7)) + 1)))))) (wrap64 (x6 + (wrap64 (Int.tdiv t119 (wrap64 ((wrap64 (2 * x7)) * (wrap64 ((wrap64 (2 * x7)) + 1)))))))) (wrap64 (x7 + 1)))))) else (some x6)
def reedpiperef04_sine.f (k : Nat) (a0 : Int) : Option (Int) := (reedpiperef04_arc.f a0).bind fun t117 => ((reedpiperef03_Down.f (wrap64 (t117 * t117)) 30).bind fun t118 => (reedpiperef04_sine.l0 k t118 t117 t117 1))
theorem reedpiperef04_sine.mono_l : ∀ k, (∀ y0 y1 y2 y3, LeO (reedpiperef04_sine.l0 k y0 y1 y2 y3) (reedpiperef04_sine.l0 (k + 1) y0 y1 y2 y3))
 | 0 => fun _ _ _ _ r h => by simp [reedpiperef04_sine.l0] at h
 | k + 1 => by
  have ih0 := reedpiperef04_sine.mono_l k
  ·intro y0 y1 y2 y3
   unfold reedpiperef04_sine.l0
   repeat' first
   | (with_reducible exact ih0 _ _ _ _)
   | (with_reducible exact LeO.refl _)
   | (with_reducible exact LeO.none _)
   | (with_reducible refine LeO.ite ?_ ?_)
   | (with_reducible refine LeO.bind ?_ (fun _ => ?_))
   | exact ih0 _ _ _ _
   | exact LeO.none _
   | refine LeO.ite ?_ ?_
   | refine LeO.bind ?_ (fun _ => ?_)
theorem reedpiperef04_sine.mono : ∀ a0 k, LeO (reedpiperef04_sine.f k a0) (reedpiperef04_sine.f (k + 1) a0) := by
 intro a0 k
 have ih0 := reedpiperef04_sine.mono_l k
 unfold reedpiperef04_sine.f
 repeat' first
   | (with_reducible exact ih0 _ _ _ _)
   | (with_reducible exact LeO.refl _)
   | (with_reducible exact LeO.none _)
   | (with_reducible refine LeO.ite ?_ ?_)
   | (with_reducible refine LeO.bind ?_ (fun _ => ?_))
   | exact ih0 _ _ _ _
   | exact LeO.none _
   | refine LeO.ite ?_ ?_
   | refine LeO.bind ?_ (fun _ => ?_)
set_option maxHeartbeats 8000000 in
set_option maxRecDepth 100000 in
theorem reedpiperef04_sine.calls (k : Nat) (a0 : Int) (r : Int) (w : World) (h : reedpiperef04_sine.f k a0 = some r) :
  Calls Try.prog 65 #[.int .i64 a0] w fun e w' => e = .returned (.int .i64 r) ∧ Drawn0 w w' := by
 have H : ((reedpiperef04_arc.f a0).bind fun t117 => ((reedpiperef03_Down.f (wrap64 (t117 * t117)) 30).bind fun t118 => (reedpiperef04_sine.l0 k t118 t117 t117 1))) = some r := h
 clear h
 replace H := Option.bind_eq_some_iff.mp H
 obtain ⟨t117, A20, H⟩ := H
 replace H : ((reedpiperef03_Down.f (wrap64 (t117 * t117)) 30).bind fun t118 => (reedpiperef04_sine.l0 k t118 t117 t117 1)) = some r := H
 have A2 := Aside0.mk A20
 clear A20
 replace H := Option.bind_eq_some_iff.mp H
 obtain ⟨t118, A30, H⟩ := H
 replace H : (reedpiperef04_sine.l0 k t118 t117 t117 1) = some r := H
 have A3 := Aside0.mk A30
 clear A30
 have H' := Aside0.mk H
 clear H
 go_enter Try.func65, Try.ntmps65
 go_wp2_with (first | ((with_reducible refine gate_callee (f := 98) rfl ?_); refine goesL_ (some 9) rfl rfl Try.func98 (by kernel_rfl) rfl #[.int .i64 a0] rfl (by (try simp only [List.map_toArray, List.map_cons, List.map_nil]); first | done | rfl | (simp only [List.length_drop, List.length_take]; rfl)) ?_; (with_reducible refine (reedpiperef04_arc.calls a0 t117 _ A2.out).mono ?_); rintro e w' ⟨rfl, ⟨nd, rfl⟩⟩; refine ⟨_, rfl, ?_⟩) | ((with_reducible refine gate_callee (f := 63) rfl ?_); refine goesL_ (some 13) rfl rfl Try.func63 (by kernel_rfl) rfl #[.int .i64 (wrap64 (t117 * t117)), .int .i64 30] rfl (by (try simp only [List.map_toArray, List.map_cons, List.map_nil]); first | done | rfl | (simp only [List.length_drop, List.length_take]; rfl)) ?_; (with_reducible refine (reedpiperef03_Down.calls (wrap64 (t117 * t117)) 30 t118 _ A3.out).mono ?_); rintro e w' ⟨rfl, ⟨nd, rfl⟩⟩; refine ⟨_, rfl, ?_⟩))
 go_loopg [5, 6, 7] k (fun kq v5 v6 v7 w' => ∃ (x5_1 : Int) (x6_1 : Int) (x7_1 : Int), v5 = .int .i64 x5_1 ∧ v6 = .int .i64 x6_1 ∧ v7 = .int .i64 x7_1 ∧ Aside0 (reedpiperef04_sine.l0 kq t118 x5_1 x6_1 x7_1 = some r) ∧ Aside0 (kq ≤ k) ∧ Drawn0 w w')
 case atStart => exact ⟨(t117), (t117), (1), (by first | rfl | (simp; done) | (simp [*]; done)), (by first | rfl | (simp; done) | (simp [*]; done)), (by first | rfl | (simp; done) | (simp [*]; done)), H', ⟨Nat.le_refl _⟩, by repeat (first | exact Drawn0.refl _ | apply Drawn0.step)⟩
 case round =>
  clear H'
  try clear p2
  obtain ⟨x5_1, x6_1, x7_1, rfl, rfl, rfl, HA, HK1, ⟨m1, rfl⟩⟩ := hrel
  cases gk with
  | zero => exact absurd HA.out (by simp [reedpiperef04_sine.l0])
  | succ k1 =>
   have H := HA.out
   clear HA
   simp only [reedpiperef04_sine.l0] at H
   by_cases c4 : x7_1 ≤ 7
   ·rw [if_pos c4] at H
    have c4b0 : decide (x7_1 ≤ 7) = true := decide_eq_true c4
    clear c4
    replace H := Option.bind_eq_some_iff.mp H
    obtain ⟨t119, A50, H⟩ := H
    replace H : (if (wrap64 ((wrap64 (2 * x7_1)) * (wrap64 ((wrap64 (2 * x7_1)) + 1)))) = 0 then (none) else (if (Int.tmod x7_1 2) = 1 then (reedpiperef04_sine.l0 k1 t118 (wrap64 (Int.tdiv t119 (wrap64 ((wrap64 (2 * x7_1)) * (wrap64 ((wrap64 (2 * x7_1)) + 1)))))) (wrap64 (x6_1 - (wrap64 (Int.tdiv t119 (wrap64 ((wrap64 (2 * x7_1)) * (wrap64 ((wrap64 (2 * x7_1)) + 1)))))))) (wrap64 (x7_1 + 1))) else (reedpiperef04_sine.l0 k1 t118 (wrap64 (Int.tdiv t119 (wrap64 ((wrap64 (2 * x7_1)) * (wrap64 ((wrap64 (2 * x7_1)) + 1)))))) (wrap64 (x6_1 + (wrap64 (Int.tdiv t119 (wrap64 ((wrap64 (2 * x7_1)) * (wrap64 ((wrap64 (2 * x7_1)) + 1)))))))) (wrap64 (x7_1 + 1))))) = some r := H
    have A5 := Aside0.mk A50
    clear A50
    by_cases c6 : (wrap64 ((wrap64 (2 * x7_1)) * (wrap64 ((wrap64 (2 * x7_1)) + 1)))) = 0
    ·rw [if_pos c6] at H
     exact absurd H (by simp)
    ·rw [if_neg c6] at H
     have c6b0 : ((wrap64 ((wrap64 (2 * x7_1)) * (wrap64 ((wrap64 (2 * x7_1)) + 1)))) == 0) = false := beq_eq_false_iff_ne.mpr c6
     have c6b1 : ((wrap64 ((wrap64 (2 * x7_1)) * (wrap64 ((wrap64 (2 * x7_1)) + 1)))) != 0) = true := bne_iff_ne.mpr c6
     by_cases c7 : (Int.tmod x7_1 2) = 1
     ·rw [if_pos c7] at H
      have c7b0 : ((Int.tmod x7_1 2) == 1) = true := beq_iff_eq.mpr c7
      have c7b1 : ((Int.tmod x7_1 2) != 1) = false := bne_eq_false_iff_eq.mpr c7
      clear c7
      have H' := Aside0.mk H
      clear H
      go_wp2_with (first | ((with_reducible refine gate_callee (f := 63) rfl ?_); refine goesL_ (some 23) rfl rfl Try.func63 (by kernel_rfl) rfl #[.int .i64 (wrap64 (x5_1 * t118)), .int .i64 30] rfl (by (try simp only [List.map_toArray, List.map_cons, List.map_nil]); first | done | rfl | (simp only [List.length_drop, List.length_take]; rfl)) ?_; (with_reducible refine (reedpiperef03_Down.calls (wrap64 (x5_1 * t118)) 30 t119 _ A5.out).mono ?_); rintro e w' ⟨rfl, ⟨nd, rfl⟩⟩; refine ⟨_, rfl, ?_⟩))
      go_roundg k1
      case measure => have := HK1.out; omega
      case rel => exact ⟨(wrap64 (Int.tdiv t119 (wrap64 ((wrap64 (2 * x7_1)) * (wrap64 ((wrap64 (2 * x7_1)) + 1)))))), (wrap64 (x6_1 - (wrap64 (Int.tdiv t119 (wrap64 ((wrap64 (2 * x7_1)) * (wrap64 ((wrap64 (2 * x7_1)) + 1)))))))), (wrap64 (x7_1 + 1)), (by first | rfl | (simp; done) | (simp [*]; done)), (by first | rfl | (simp; done) | (simp [*]; done)), (by first | rfl | (simp; done) | (simp [*]; done)), H', ⟨by have := HK1.out; omega⟩, by repeat (first | exact Drawn0.refl _ | apply Drawn0.step)⟩
     ·rw [if_neg c7] at H
      have c7b0 : ((Int.tmod x7_1 2) == 1) = false := beq_eq_false_iff_ne.mpr c7
      have c7b1 : ((Int.tmod x7_1 2) != 1) = true := bne_iff_ne.mpr c7
      have H' := Aside0.mk H
      clear H
      go_wp2_with (first | ((with_reducible refine gate_callee (f := 63) rfl ?_); refine goesL_ (some 23) rfl rfl Try.func63 (by kernel_rfl) rfl #[.int .i64 (wrap64 (x5_1 * t118)), .int .i64 30] rfl (by (try simp only [List.map_toArray, List.map_cons, List.map_nil]); first | done | rfl | (simp only [List.length_drop, List.length_take]; rfl)) ?_; (with_reducible refine (reedpiperef03_Down.calls (wrap64 (x5_1 * t118)) 30 t119 _ A5.out).mono ?_); rintro e w' ⟨rfl, ⟨nd, rfl⟩⟩; refine ⟨_, rfl, ?_⟩))
      go_roundg k1
      case measure => have := HK1.out; omega
      case rel => exact ⟨(wrap64 (Int.tdiv t119 (wrap64 ((wrap64 (2 * x7_1)) * (wrap64 ((wrap64 (2 * x7_1)) + 1)))))), (wrap64 (x6_1 + (wrap64 (Int.tdiv t119 (wrap64 ((wrap64 (2 * x7_1)) * (wrap64 ((wrap64 (2 * x7_1)) + 1)))))))), (wrap64 (x7_1 + 1)), (by first | rfl | (simp; done) | (simp [*]; done)), (by first | rfl | (simp; done) | (simp [*]; done)), (by first | rfl | (simp; done) | (simp [*]; done)), H', ⟨by have := HK1.out; omega⟩, by repeat (first | exact Drawn0.refl _ | apply Drawn0.step)⟩
   ·rw [if_neg c4] at H
    have c4b0 : decide (x7_1 ≤ 7) = false := decide_eq_false c4
    clear c4
    obtain rfl := Option.some.inj H
    go_wp2
    go_ret
    exact ⟨by first | rfl | (simp; done) | (simp [*]; done), by repeat (first | exact Drawn0.refl _ | apply Drawn0.step)⟩

end Go.Proofs.Ytpoppdaaodmicaa.Q

namespace Go.Proofs.Ytpoppdaaodmicaa.Q
open Go.RowKit Go.Proofs.YtpoppdaaodmicaaW.PrintWords Go.Proofs.YtpoppdaaodmicaaW.PrintLast Go.Proofs.YtpoppdaaodmicaaW.PrintMore
attribute [local go_sem] max2_int min2_int max_two min_two max_three min_three max_four min_four   -- for this text's walks alone
set_option linter.unusedVariables false
set_option linter.unusedSimpArgs false

mutual
def reedpiperef04_Cos.j0 : Nat → Int → Option (Int)
 | 0, _ => none
 | k + 1, x0 => if x0 > 1024 then (reedpiperef04_Cos.j1 k (wrap64 (2048 - x0))) else (reedpiperef04_Cos.j1 k x0)
def reedpiperef04_Cos.j1 : Nat → Int → Option (Int)
 | 0, _ => none
 | k + 1, x0 => if x0 > 512 then ((reedpiperef04_Cos.f k (wrap64 (1024 - x0))).bind fun t120 => (some (wrap64 (-t120)))) else (if x0 ≤ 256 then ((reedpiperef04_cosine.f k x0).bind fun t121 => ((reedpiperef03_Down.f t121 4).bind fun t122 => (some t122))) else ((reedpiperef04_sine.f k (wrap64 (512 - x0))).bind fun t123 => ((reedpiperef03_Down.f t123 4).bind fun t124 => (some t124))))
def reedpiperef04_Cos.f : Nat → Int → Option (Int)
 | 0, _ => none
 | k + 1, a0 => if (Int.tmod a0 2048) < 0 then (reedpiperef04_Cos.j0 k (wrap64 ((Int.tmod a0 2048) + 2048))) else (reedpiperef04_Cos.j0 k (Int.tmod a0 2048))
end
set_option maxHeartbeats 8000000 in
set_option maxRecDepth 100000 in
theorem reedpiperef04_Cos.calls (k : Nat) : ∀ (a0 : Int) (r : Int) (w : World) (h : reedpiperef04_Cos.f k a0 = some r),
  Calls Try.prog 32 #[.int .i64 a0] w fun e w' => e = .returned (.int .i64 r) ∧ Drawn0 w w' := by
 induction k using Nat.strongRecOn with
 | _ k ih =>
 intro a0 r w h
 cases k with
 | zero => exact absurd h (by simp [reedpiperef04_Cos.f])
 | succ k =>
 simp only [reedpiperef04_Cos.f] at h
 have H : (if (Int.tmod a0 2048) < 0 then (reedpiperef04_Cos.j0 k (wrap64 ((Int.tmod a0 2048) + 2048))) else (reedpiperef04_Cos.j0 k (Int.tmod a0 2048))) = some r := h
 clear h
 have HC2 := Aside0.mk H
 clear H
 go_enter Try.func32, Try.ntmps32
 go_upto_if 6 with (fail)
 go_cut [0] (fun v0 wc => ∃ (kq : Nat) (x0_1 : Int), v0 = .int .i64 x0_1 ∧ Aside0 (reedpiperef04_Cos.j0 kq x0_1 = some r) ∧ Aside0 (kq ≤ k) ∧ Drawn0 w wc)
 case first =>
  have H := HC2.out
  clear HC2
  by_cases c3 : (Int.tmod a0 2048) < 0
  ·rw [if_pos c3] at H
   have c3b0 : decide ((Int.tmod a0 2048) < 0) = true := decide_eq_true c3
   clear c3
   (first | rw [c3b0] | (simp only [i64_w, i32_w]; rw [c3b0]) | skip)
   have H' := Aside0.mk H
   clear H
   go_wp2
   go_meet
   case rel => exact ⟨_, (wrap64 ((Int.tmod a0 2048) + 2048)), (by first | rfl | (simp; done) | (simp [*]; done)), H', ⟨by first | omega | exact Nat.le_refl _⟩, by repeat (first | exact Drawn0.refl _ | apply Drawn0.step)⟩
  ·rw [if_neg c3] at H
   have c3b0 : decide ((Int.tmod a0 2048) < 0) = false := decide_eq_false c3
   clear c3
   (first | rw [c3b0] | (simp only [i64_w, i32_w]; rw [c3b0]) | skip)
   have H' := Aside0.mk H
   clear H
   go_wp2
   go_meet
   case rel => exact ⟨_, (Int.tmod a0 2048), (by first | rfl | (simp; done) | (simp [*]; done)), H', ⟨by first | omega | exact Nat.le_refl _⟩, by repeat (first | exact Drawn0.refl _ | apply Drawn0.step)⟩
 case rest =>
  clear HC2
  try clear p2
  try clear c3
  try clear c3b0
  obtain ⟨kq, x0_1, rfl, HA, HJ1, ⟨mc1, rfl⟩⟩ := hcut
  cases kq with
  | zero => exact absurd HA.out (by simp [reedpiperef04_Cos.j0])
  | succ kj1 =>
   have H := HA.out
   clear HA
   simp only [reedpiperef04_Cos.j0] at H
   have HC4 := Aside0.mk H
   clear H
   go_upto_if 10 with (fail)
   go_cut [0] (fun v0 wc => ∃ (kq : Nat) (x0_3 : Int), v0 = .int .i64 x0_3 ∧ Aside0 (reedpiperef04_Cos.j1 kq x0_3 = some r) ∧ Aside0 (kq ≤ kj1) ∧ Drawn0 w wc)
   case first =>
    have H := HC4.out
    clear HC4
    by_cases c5 : x0_1 > 1024
    ·rw [if_pos c5] at H
     have c5b0 : decide (1024 < x0_1) = true := decide_eq_true c5
     clear c5
     (first | rw [c5b0] | (simp only [i64_w, i32_w]; rw [c5b0]) | skip)
     have H' := Aside0.mk H
     clear H
     go_wp2
     go_meet
     case rel => exact ⟨_, (wrap64 (2048 - x0_1)), (by first | rfl | (simp; done) | (simp [*]; done)), H', ⟨by have := HJ1.out; first | omega | exact Nat.le_refl _⟩, by repeat (first | exact Drawn0.refl _ | apply Drawn0.step)⟩
    ·rw [if_neg c5] at H
     have c5b0 : decide (1024 < x0_1) = false := decide_eq_false c5
     clear c5
     (first | rw [c5b0] | (simp only [i64_w, i32_w]; rw [c5b0]) | skip)
     have H' := Aside0.mk H
     clear H
     go_wp2
     go_meet
     case rel => exact ⟨_, (x0_1), (by first | rfl | (simp; done) | (simp [*]; done)), H', ⟨by have := HJ1.out; first | omega | exact Nat.le_refl _⟩, by repeat (first | exact Drawn0.refl _ | apply Drawn0.step)⟩
   case rest =>
    clear HC4
    try clear c1
    try clear p2
    try clear c3
    try clear c3b0
    try clear c5
    try clear c5b0
    try clear p2
    obtain ⟨kq, x0_3, rfl, HA, HJ3, ⟨mc3, rfl⟩⟩ := hcut
    cases kq with
    | zero => exact absurd HA.out (by simp [reedpiperef04_Cos.j1])
    | succ kj3 =>
     have H := HA.out
     clear HA
     simp only [reedpiperef04_Cos.j1] at H
     by_cases c6 : x0_3 > 512
     ·rw [if_pos c6] at H
      have c6b0 : decide (512 < x0_3) = true := decide_eq_true c6
      clear c6
      replace H := Option.bind_eq_some_iff.mp H
      obtain ⟨t120, A70, H⟩ := H
      replace H : (some (wrap64 (-t120))) = some r := H
      have A7 := Aside0.mk A70
      clear A70
      obtain rfl := Option.some.inj H
      go_wp2_with (first | ((with_reducible refine gate_callee (f := 32) rfl ?_); refine goesL_ (some 17) rfl rfl Try.func32 (by kernel_rfl) rfl #[.int .i64 (wrap64 (1024 - x0_3))] rfl (by (try simp only [List.map_toArray, List.map_cons, List.map_nil]); first | done | rfl | (simp only [List.length_drop, List.length_take]; rfl)) ?_; (with_reducible refine (ih kj3 (by have := HJ1.out; have := HJ3.out; omega) (wrap64 (1024 - x0_3)) t120 _ A7.out).mono ?_); rintro e w' ⟨rfl, ⟨nd, rfl⟩⟩; refine ⟨_, rfl, ?_⟩))
      go_ret
      exact ⟨by first | rfl | (simp; done) | (simp [*]; done), by repeat (first | exact Drawn0.refl _ | apply Drawn0.step)⟩
     ·rw [if_neg c6] at H
      have c6b0 : decide (512 < x0_3) = false := decide_eq_false c6
      clear c6
      by_cases c8 : x0_3 ≤ 256
      ·rw [if_pos c8] at H
       have c8b0 : decide (x0_3 ≤ 256) = true := decide_eq_true c8
       clear c8
       replace H := Option.bind_eq_some_iff.mp H
       obtain ⟨t121, A90, H⟩ := H
       replace H : ((reedpiperef03_Down.f t121 4).bind fun t122 => (some t122)) = some r := H
       have A9 := Aside0.mk A90
       clear A90
       replace H := Option.bind_eq_some_iff.mp H
       obtain ⟨t122, A100, H⟩ := H
       replace H : (some t122) = some r := H
       have A10 := Aside0.mk A100
       clear A100
       obtain rfl := Option.some.inj H
       go_wp2_with (first | ((with_reducible refine gate_callee (f := 64) rfl ?_); refine goesL_ (some 22) rfl rfl Try.func64 (by kernel_rfl) rfl #[.int .i64 x0_3] rfl (by (try simp only [List.map_toArray, List.map_cons, List.map_nil]); first | done | rfl | (simp only [List.length_drop, List.length_take]; rfl)) ?_; (with_reducible refine (reedpiperef04_cosine.calls kj3 x0_3 t121 _ A9.out).mono ?_); rintro e w' ⟨rfl, ⟨nd, rfl⟩⟩; refine ⟨_, rfl, ?_⟩) | ((with_reducible refine gate_callee (f := 63) rfl ?_); refine goesL_ (some 23) rfl rfl Try.func63 (by kernel_rfl) rfl #[.int .i64 t121, .int .i64 4] rfl (by (try simp only [List.map_toArray, List.map_cons, List.map_nil]); first | done | rfl | (simp only [List.length_drop, List.length_take]; rfl)) ?_; (with_reducible refine (reedpiperef03_Down.calls t121 4 t122 _ A10.out).mono ?_); rintro e w' ⟨rfl, ⟨nd, rfl⟩⟩; refine ⟨_, rfl, ?_⟩))
       go_ret
       exact ⟨by first | rfl | (simp; done) | (simp [*]; done), by repeat (first | exact Drawn0.refl _ | apply Drawn0.step)⟩
      ·rw [if_neg c8] at H
       have c8b0 : decide (x0_3 ≤ 256) = false := decide_eq_false c8
       clear c8
       replace H := Option.bind_eq_some_iff.mp H
       obtain ⟨t123, A110, H⟩ := H
       replace H : ((reedpiperef03_Down.f t123 4).bind fun t124 => (some t124)) = some r := H
       have A11 := Aside0.mk A110
       clear A110
       replace H := Option.bind_eq_some_iff.mp H
       obtain ⟨t124, A120, H⟩ := H
       replace H : (some t124) = some r := H
       have A12 := Aside0.mk A120
       clear A120
       obtain rfl := Option.some.inj H
       go_wp2_with (first | ((with_reducible refine gate_callee (f := 65) rfl ?_); refine goesL_ (some 26) rfl rfl Try.func65 (by kernel_rfl) rfl #[.int .i64 (wrap64 (512 - x0_3))] rfl (by (try simp only [List.map_toArray, List.map_cons, List.map_nil]); first | done | rfl | (simp only [List.length_drop, List.length_take]; rfl)) ?_; (with_reducible refine (reedpiperef04_sine.calls kj3 (wrap64 (512 - x0_3)) t123 _ A11.out).mono ?_); rintro e w' ⟨rfl, ⟨nd, rfl⟩⟩; refine ⟨_, rfl, ?_⟩) | ((with_reducible refine gate_callee (f := 63) rfl ?_); refine goesL_ (some 27) rfl rfl Try.func63 (by kernel_rfl) rfl #[.int .i64 t123, .int .i64 4] rfl (by (try simp only [List.map_toArray, List.map_cons, List.map_nil]); first | done | rfl | (simp only [List.length_drop, List.length_take]; rfl)) ?_; (with_reducible refine (reedpiperef03_Down.calls t123 4 t124 _ A12.out).mono ?_); rintro e w' ⟨rfl, ⟨nd, rfl⟩⟩; refine ⟨_, rfl, ?_⟩))
       go_ret
       exact ⟨by first | rfl | (simp; done) | (simp [*]; done), by repeat (first | exact Drawn0.refl _ | apply Drawn0.step)⟩

end Go.Proofs.Ytpoppdaaodmicaa.Q

namespace Go.Proofs.Ytpoppdaaodmicaa.Q
open Go.RowKit Go.Proofs.YtpoppdaaodmicaaW.PrintWords Go.Proofs.YtpoppdaaodmicaaW.PrintLast Go.Proofs.YtpoppdaaodmicaaW.PrintMore
attribute [local go_sem] max2_int min2_int max_two min_two max_three min_three max_four min_four   -- for this text's walks alone
set_option linter.unusedVariables false
set_option linter.unusedSimpArgs false

def reedpiperef04_Sin.f (k : Nat) (a0 : Int) : Option (Int) := (reedpiperef04_Cos.f k (wrap64 ((Int.tmod a0 2048) - 512))).bind fun t125 => (some t125)
set_option maxHeartbeats 8000000 in
set_option maxRecDepth 100000 in
theorem reedpiperef04_Sin.calls (k : Nat) (a0 : Int) (r : Int) (w : World) (h : reedpiperef04_Sin.f k a0 = some r) :
  Calls Try.prog 33 #[.int .i64 a0] w fun e w' => e = .returned (.int .i64 r) ∧ Drawn0 w w' := by
 have H : ((reedpiperef04_Cos.f k (wrap64 ((Int.tmod a0 2048) - 512))).bind fun t125 => (some t125)) = some r := h
 clear h
 replace H := Option.bind_eq_some_iff.mp H
 obtain ⟨t125, A20, H⟩ := H
 replace H : (some t125) = some r := H
 have A2 := Aside0.mk A20
 clear A20
 obtain rfl := Option.some.inj H
 go_enter Try.func33, Try.ntmps33
 go_wp2_with (first | ((with_reducible refine gate_callee (f := 32) rfl ?_); refine goesL_ (some 6) rfl rfl Try.func32 (by kernel_rfl) rfl #[.int .i64 (wrap64 ((Int.tmod a0 2048) - 512))] rfl (by (try simp only [List.map_toArray, List.map_cons, List.map_nil]); first | done | rfl | (simp only [List.length_drop, List.length_take]; rfl)) ?_; (with_reducible refine (reedpiperef04_Cos.calls k (wrap64 ((Int.tmod a0 2048) - 512)) t125 _ A2.out).mono ?_); rintro e w' ⟨rfl, ⟨nd, rfl⟩⟩; refine ⟨_, rfl, ?_⟩))
 go_ret
 exact ⟨by first | rfl | (simp; done) | (simp [*]; done), by repeat (first | exact Drawn0.refl _ | apply Drawn0.step)⟩

end Go.Proofs.Ytpoppdaaodmicaa.Q

/- What the document's own Cos and Sin answer: the same cosines, of any number of parts that is an int. -/
namespace Go.Proofs.Ytpoppdaaodmicaa.Q
open Go.RowKit Go.Proofs.YtpoppdaaodmicaaW.PrintWords Go.Proofs.YtpoppdaaodmicaaW.PrintLast Go.Proofs.YtpoppdaaodmicaaW.PrintMore

def refq (k : Nat) (i : Int) : Option Int :=
  if i ≤ 256 then (reedpiperef04_cosine.f k i).bind fun t => (reedpiperef03_Down.f t 4).bind fun u => some u
  else (reedpiperef04_sine.f k (wrap64 (512 - i))).bind fun t => (reedpiperef03_Down.f t 4).bind fun u => some u
def refqChk : Int → List Nat → Bool
  | _, [] => true
  | i, v :: r => (match refq 9 i with | some x => decide (x = (v : Int)) | none => false) && refqChk (i + 1) r
theorem refqChk_all : refqChk 0 Tab.qtab = true := by decide +kernel
theorem refqChk_at : ∀ {l : List Nat} {i : Int}, refqChk i l = true → ∀ (j v : Nat), l[j]? = some v → refq 9 (i + j) = some (v : Int)
  | [], _, _, j, v, h => by simp at h
  | x :: l, i, h, j, v, hv => by
    simp only [refqChk, Bool.and_eq_true] at h
    cases j with
    | zero =>
      simp only [List.getElem?_cons_zero, Option.some.injEq] at hv
      subst hv
      have h1 := h.1
      rw [show i + ((0 : Nat) : Int) = i by omega]
      cases e : refq 9 i with
      | none => rw [e] at h1; simp at h1
      | some y => rw [e] at h1; simp at h1; rw [h1]
    | succ j =>
      have := refqChk_at h.2 j v (by simpa using hv)
      rw [show i + ((j + 1 : Nat) : Int) = i + 1 + (j : Int) by omega]
      exact this
theorem refq_mono (i : Int) (k : Nat) : LeO (refq k i) (refq (k + 1) i) := by
  unfold refq
  refine LeO.ite (LeO.bind (reedpiperef04_cosine.mono _ _) (fun _ => LeO.refl _)) (LeO.bind (reedpiperef04_sine.mono _ _) (fun _ => LeO.refl _))
theorem refq_is {m k : Nat} (h : m ≤ 512) (hk : 9 ≤ k) : refq k (m : Int) = some (Tab.q m) := by
  have := refqChk_at refqChk_all m _ (Tab.get_q h)
  rw [show (0 : Int) + (m : Int) = (m : Int) by omega] at this
  exact at_rounds (refq_mono _) hk this
theorem ref_j1 {m k : Nat} (h : m ≤ 512) (hk : 10 ≤ k) : reedpiperef04_Cos.j1 k (m : Int) = some (Tab.q m) := by
  obtain ⟨k, rfl⟩ : ∃ j, k = j + 1 := ⟨k - 1, by omega⟩
  have := refq_is h (show 9 ≤ k by omega)
  unfold refq at this
  simp only [reedpiperef04_Cos.j1]
  rw [if_neg (by omega)]
  exact this
theorem ref_j0 {m k : Nat} (h : m ≤ 512) (hk : 11 ≤ k) : reedpiperef04_Cos.j0 k (m : Int) = some (Tab.q m) := by
  obtain ⟨k, rfl⟩ : ∃ j, k = j + 1 := ⟨k - 1, by omega⟩
  simp only [reedpiperef04_Cos.j0]
  rw [if_neg (by omega)]
  exact ref_j1 h (by omega)
theorem ref_small {m k : Nat} (h : m ≤ 512) (hk : 12 ≤ k) : reedpiperef04_Cos.f k (m : Int) = some (Tab.q m) := by
  obtain ⟨k, rfl⟩ : ∃ j, k = j + 1 := ⟨k - 1, by omega⟩
  simp only [reedpiperef04_Cos.f]
  rw [show Int.tmod (m : Int) 2048 = (m : Int) from Int.tmod_eq_of_lt (by omega) (by omega), if_neg (by omega)]
  exact ref_j0 h (by omega)
theorem ref_j1' {m k : Nat} (h : m ≤ 1024) (hk : 13 ≤ k) : reedpiperef04_Cos.j1 k (m : Int) = some (Tab.cosN m) := by
  unfold Tab.cosN
  by_cases hm : m ≤ 512
  · rw [if_pos hm]; exact ref_j1 hm (by omega)
  · obtain ⟨k, rfl⟩ : ∃ j, k = j + 1 := ⟨k - 1, by omega⟩
    rw [if_neg hm]
    simp only [reedpiperef04_Cos.j1]
    have := Tab.q_max (i := 1024 - m) (by omega)
    have := Tab.q_nonneg (1024 - m)
    rw [if_pos (by omega), wrap_in (by omega) (by omega), show (1024 - (m : Int)) = ((1024 - m : Nat) : Int) by omega, ref_small (by omega) (by omega)]
    simp only [Option.bind_some]
    rw [wrap_in (by omega) (by omega)]
theorem ref_j0' {n : Int} {k : Nat} (h0 : 0 ≤ n) (h1 : n < 2048) (hk : 14 ≤ k) : reedpiperef04_Cos.j0 k n = some (Tab.C n) := by
  obtain ⟨k, rfl⟩ : ∃ j, k = j + 1 := ⟨k - 1, by omega⟩
  simp only [reedpiperef04_Cos.j0]
  unfold Tab.C
  by_cases h : n > 1024
  · rw [if_pos h, wrap_in (by omega) (by omega), show 2048 - n = ((2048 - (n % 2048).toNat : Nat) : Int) by omega, ref_j1' (by omega) (by omega), if_pos (by omega)]
  · have e := ref_j1' (k := k) (m := (n % 2048).toNat) (by omega) (by omega)
    rw [show (((n % 2048).toNat : Nat) : Int) = n by omega] at e
    rw [if_neg h, e, if_neg (by omega)]
theorem refcos_is (n : Int) {k : Nat} (hk : 15 ≤ k) : reedpiperef04_Cos.f k n = some (Tab.C n) := by
  obtain ⟨k, rfl⟩ : ∃ j, k = j + 1 := ⟨k - 1, by omega⟩
  simp only [reedpiperef04_Cos.f]
  have h1 := Int.tmod_lt_of_pos n (b := 2048) (by decide)
  have h2 := Int.lt_tmod_of_pos n (b := 2048) (by decide)
  have h3 : n - Int.tmod n 2048 = 2048 * Int.tdiv n 2048 := by have := Int.mul_tdiv_add_tmod n 2048; omega
  generalize Int.tmod n 2048 = r at *
  generalize Int.tdiv n 2048 = d at *
  by_cases h : r < 0
  · rw [if_pos h, wrap_in (by omega) (by omega), ref_j0' (by omega) (by omega) (by omega), Tab.C_same (n := r + 2048) (n' := n) (by omega)]
  · rw [if_neg h, ref_j0' (by omega) (by omega) (by omega), Tab.C_same (n := r) (n' := n) (by omega)]
theorem refsin_is (n : Int) {k : Nat} (hk : 15 ≤ k) : reedpiperef04_Sin.f k n = some (Tab.S n) := by
  unfold reedpiperef04_Sin.f
  have h1 := Int.tmod_lt_of_pos n (b := 2048) (by decide)
  have h2 := Int.lt_tmod_of_pos n (b := 2048) (by decide)
  have h3 : n - Int.tmod n 2048 = 2048 * Int.tdiv n 2048 := by have := Int.mul_tdiv_add_tmod n 2048; omega
  generalize Int.tmod n 2048 = r at *
  generalize Int.tdiv n 2048 = d at *
  rw [wrap_in (by omega) (by omega), refcos_is _ hk]
  show some _ = some _
  rw [Option.some.injEq]
  unfold Tab.S
  exact Tab.C_same (by omega)

end Go.Proofs.Ytpoppdaaodmicaa.Q

/- What the document's rounding answers: rnd, of numbers up to 2^62. -/
namespace Go.Proofs.Ytpoppdaaodmicaa.Q
open Go.RowKit Go.Proofs.YtpoppdaaodmicaaW.PrintWords Go.Proofs.YtpoppdaaodmicaaW.PrintLast Go.Proofs.YtpoppdaaodmicaaW.PrintMore

theorem down_is {n : Int} {b : Nat} (h0 : -4611686018427387904 ≤ n) (h1 : n ≤ 4611686018427387904) (hb : 1 ≤ b) (hb2 : b ≤ 62) : reedpiperef03_Down.f n (b : Int) = some (rnd b n) := by
  unfold reedpiperef03_Down.f
  have hp := pow_pos2 (b - 1)
  have hq := pow_pos2 b
  have hs := pow_succ2 hb
  have hl := pow_le62 (b := b - 1) (by omega)
  have hl2 := pow_le62 hb2
  have e1 : shl .i64 1 ((b : Int) - 1) = 2 ^ (b - 1) := by
    unfold shl
    rw [show min (((b : Int) - 1).toNat) IntKind.i64.bits = b - 1 from by simp [IntKind.bits]; omega, Int.one_mul, i64_w, wrap_in (by omega) (by omega)]
  have hd := div_small hq h0 h1
  have hm := Int.emod_add_mul_ediv n (2 ^ b)
  have hm0 := Int.emod_nonneg n (b := 2 ^ b) (by omega)
  have hm1 := Int.emod_lt_of_pos n hq
  have e2 : shl .i64 (n / 2 ^ b) (b : Int) = n / 2 ^ b * 2 ^ b := by
    unfold shl
    rw [show min ((b : Int).toNat) IntKind.i64.bits = b from by simp [IntKind.bits]; omega, i64_w, wrap_in]
    all_goals
      rw [Int.mul_comm]
      generalize 2 ^ b * (n / 2 ^ b) = z at *
      omega
  rw [if_neg (by omega), wrap_in (n := (b : Int) - 1) (by omega) (by omega), if_pos (by omega), if_pos (by omega), shr_nat _ (by omega), e1, e2]
  rw [wrap_in (n := n / 2 ^ b + 1) (by omega) (by omega), rnd_is hb]
  have e3 : n - n / 2 ^ b * 2 ^ b = n % 2 ^ b := by rw [Int.mul_comm]; omega
  rw [e3, wrap_in (by omega) (by omega)]
  have e4 : n / 2 ^ b = n / 2 ^ (b - 1) / 2 := by rw [hs, ← Int.ediv_ediv_of_nonneg (Int.le_of_lt hp)]
  have hm' := Int.emod_add_mul_ediv n (2 ^ (b - 1))
  have hm0' := Int.emod_nonneg n (b := 2 ^ (b - 1)) (by omega)
  have hm1' := Int.emod_lt_of_pos n hp
  have e5 : n % 2 ^ b = n % 2 ^ (b - 1) + 2 ^ (b - 1) * (n / 2 ^ (b - 1) % 2) := by
    have : 2 ^ b * (n / 2 ^ b) = 2 ^ (b - 1) * (2 * (n / 2 ^ (b - 1) / 2)) := by rw [e4, hs, Int.mul_assoc]
    have h2 : n / 2 ^ (b - 1) = 2 * (n / 2 ^ (b - 1) / 2) + n / 2 ^ (b - 1) % 2 := by omega
    have h3 : 2 ^ (b - 1) * (n / 2 ^ (b - 1)) = 2 ^ (b - 1) * (2 * (n / 2 ^ (b - 1) / 2)) + 2 ^ (b - 1) * (n / 2 ^ (b - 1) % 2) := by rw [← Int.mul_add, ← h2]
    omega
  have h01 : n / 2 ^ (b - 1) % 2 = 0 ∨ n / 2 ^ (b - 1) % 2 = 1 := by omega
  rcases h01 with h | h
  · rw [h, Int.mul_zero] at e5
    rw [if_neg (by omega), h]; simp
  · rw [h, Int.mul_one] at e5
    rw [if_pos (by omega), h]

end Go.Proofs.Ytpoppdaaodmicaa.Q

-- Written by a program of this session's (wip/mk.py, over the kit's print.py); Lean checks it.
namespace Go.Proofs.Ytpoppdaaodmicaa.Q
open Go.RowKit Go.Proofs.YtpoppdaaodmicaaW.PrintWords Go.Proofs.YtpoppdaaodmicaaW.PrintLast Go.Proofs.YtpoppdaaodmicaaW.PrintMore
attribute [local go_sem] max2_int min2_int max_two min_two max_three min_three max_four min_four   -- for this text's walks alone
set_option linter.unusedVariables false
set_option linter.unusedSimpArgs false

end Go.Proofs.Ytpoppdaaodmicaa.Q

-- Written by a program of this session's (wip/mk.py, over the kit's print.py); Lean checks it.
namespace Go.Proofs.Ytpoppdaaodmicaa.Q
open Go.RowKit Go.Proofs.YtpoppdaaodmicaaW.PrintWords Go.Proofs.YtpoppdaaodmicaaW.PrintLast Go.Proofs.YtpoppdaaodmicaaW.PrintMore
attribute [local go_sem] max2_int min2_int max_two min_two max_three min_three max_four min_four   -- for this text's walks alone
set_option linter.unusedVariables false
set_option linter.unusedSimpArgs false

def reedpiperef04_Table.l0 : Nat → List Int → Int → Option (List Int)
 | 0, _, _ => none
 | k + 1, x1, x2 => if x2 < 2048 then ((reedpiperef04_Cos.f k x2).bind fun t459 => (if x1.length < 17592186044416 then (reedpiperef04_Table.l0 k (x1 ++ [t459]) (wrap64 (x2 + 1))) else (none))) else (some x1)
def reedpiperef04_Table.f (k : Nat)  : Option (List Int) := reedpiperef04_Table.l0 k ([] : List Int) 0
set_option maxHeartbeats 8000000 in
set_option maxRecDepth 100000 in
theorem reedpiperef04_Table.calls (k : Nat)  (r : List Int) (w : World) (h : reedpiperef04_Table.f k  = some r) :
  Calls Try.prog 110 #[] w fun e w' => ∃ v0_ : Value, e = .returned (v0_) ∧ Kd.R (Kd.int .i64) 3 w' w.heap.size (fun _ => True) v0_ r ∧ Below w.heap.size w w' := by
 have HB := Aside0.mk (Below.refl w.heap.size w)
 have H : (reedpiperef04_Table.l0 k ([] : List Int) 0) = some r := h
 clear h
 have H' := Aside0.mk H
 clear H
 go_enter Try.func110, Try.ntmps110
 go_wp2
 go_loopg [1, 2] k (fun kq v1 v2 w' => ∃ (x1_1 : List Int) (x2_1 : Int), v2 = .int .i64 x2_1 ∧ Aside0 (reedpiperef04_Table.l0 kq x1_1 x2_1 = some r) ∧ Aside0 (kq ≤ k) ∧ Aside0 (Kd.R (Kd.int .i64) 3 w' w.heap.size (fun _ => True) v1 x1_1) ∧ Aside0 (Below w.heap.size w w'))
 case atStart => exact ⟨(([] : List Int)), (0), (by first | rfl | (simp; done) | (simp [*]; done)), H', ⟨Nat.le_refl _⟩, ⟨by first | exact Kd.R_nil _ _ _ _ _ | exact Kd.N_nil _ _ _ _ _ | exact Kd.V_nil _ _ _ _ _ | exact Kd.Q_nil _ _ _ _ _ | exact Kd.S_nil _ _ _ _ _⟩, ⟨by repeat (first | (with_reducible first | exact HB.out | apply below_alloc | apply pw_below_drewN | apply below_drew1) | exact HB.out)⟩⟩
 case round =>
  clear H'
  obtain ⟨x1_1, x2_1, rfl, HA, HK1, HO_1, HB⟩ := hrel
  cases gk with
  | zero => exact absurd HA.out (by simp [reedpiperef04_Table.l0])
  | succ k1 =>
   have H := HA.out
   clear HA
   simp only [reedpiperef04_Table.l0] at H
   by_cases c1 : x2_1 < 2048
   ·rw [if_pos c1] at H
    have c1b0 : decide (x2_1 < 2048) = true := decide_eq_true c1
    clear c1
    replace H := Option.bind_eq_some_iff.mp H
    obtain ⟨t459, A20, H⟩ := H
    replace H : (if x1_1.length < 17592186044416 then (reedpiperef04_Table.l0 k1 (x1_1 ++ [t459]) (wrap64 (x2_1 + 1))) else (none)) = some r := H
    have A2 := Aside0.mk A20
    clear A20
    by_cases c3 : x1_1.length < 17592186044416
    ·rw [if_pos c3] at H
     have LMc3 := Aside0.mk c3
     clear c3
     obtain ⟨y460, hy460⟩ : ∃ y_ : List Int, y_ = (x1_1 ++ [t459]) := ⟨_, rfl⟩
     replace H : (reedpiperef04_Table.l0 k1 y460 (wrap64 (x2_1 + 1))) = some r := by first | (rw [hy460]; with_reducible exact H) | (have H2_ := (Option.bind_some _ _).symm.trans H; rw [hy460]; with_reducible exact H2_) | (have H2_ := (Option.bind_some _ _).symm.trans H; with_reducible exact H2_) | with_reducible exact H | (rw [hy460]; exact H) | exact H
     have Ny460 := Aside0.mk hy460
     clear hy460
     have H' := Aside0.mk H
     clear H
     go_wp2_with (first | ((with_reducible refine gate_callee (f := 32) rfl ?_); refine goesL_ (some 9) rfl rfl Try.func32 (by kernel_rfl) rfl #[.int .i64 x2_1] rfl (by (try simp only [List.map_toArray, List.map_cons, List.map_nil]); first | done | rfl | (simp only [List.length_drop, List.length_take]; rfl)) ?_; (with_reducible refine (reedpiperef04_Cos.calls k1 x2_1 t459 _ A2.out).mono ?_); rintro e w' ⟨rfl, ⟨nd, rfl⟩⟩; refine ⟨_, rfl, ?_⟩) | ((with_reducible refine gate_builtin (b := .append) (xs := #[.tmp 7, .tmp 10]) rfl ?_); at_builtin; refine Kd.R_append (Kd.int .i64) (w0 := w) w.heap.size rfl (.tmp 7) (.tmp 10) 29 3 (.int .i64 0) 8 rfl Try.underlying29 info3 rfl (by decide) (by omega) u1 x1_1 t459 [.int .i64 t459] (fun _ => True) (fun _ => False) rfl rfl ?aP (fun _ hk => hk.elim) ?aF ?aO ?aB ?aS ?aL ?_; (case aP => exact rfl); (case aB => exact (by repeat (first | (with_reducible first | exact HB.out | apply below_alloc | apply pw_below_drewN | apply below_drew1) | exact HB.out))); (case aF => exact (fun _ _ => trivial)); (case aO => exact (by (with_reducible repeat (first | apply Kd.R_alloc | apply Kd.R_drewN | apply Kd.R_drew)); exact HO_1.out)); (case aS => exact (below_size (by repeat (first | (with_reducible first | exact HB.out | apply below_alloc | apply pw_below_drewN | apply below_drew1) | exact HB.out)))); (case aL => have := LMc3.out; omega); intro v461 w4 ho hb hg hat; rw [← Ny460.out] at ho; have n0_ := Aside0.mk (hb); have n1_ := Aside0.mk (ho); clear HB; clear HO_1; have HB := n0_; have HO462 := n1_; clear n0_ n1_; clear ho hb hg hat))
     go_roundg k1
     case measure => have := HK1.out; omega
     case rel => exact ⟨(y460), (wrap64 (x2_1 + 1)), (by first | rfl | (simp; done) | (simp [*]; done)), H', ⟨by have := HK1.out; omega⟩, ⟨by (with_reducible repeat (first | apply Kd.R_alloc | apply Kd.R_drewN | apply Kd.R_drew)); exact HO462.out⟩, ⟨by repeat (first | (with_reducible first | exact HB.out | apply below_alloc | apply pw_below_drewN | apply below_drew1) | exact HB.out)⟩⟩
    ·rw [if_neg c3] at H
     exact absurd H (by simp)
   ·rw [if_neg c1] at H
    have c1b0 : decide (x2_1 < 2048) = false := decide_eq_false c1
    clear c1
    obtain rfl := Option.some.inj H
    go_wp2
    go_ret
    exact ⟨_, by first | rfl | (simp [errW_none, errW_some] <;> rfl) | (simp [*, errW_none, errW_some] <;> rfl), by (with_reducible repeat (first | apply Kd.R_alloc | apply Kd.R_drewN | apply Kd.R_drew)); exact HO_1.out, by repeat (first | (with_reducible first | exact HB.out | apply below_alloc | apply pw_below_drewN | apply below_drew1) | exact HB.out)⟩

end Go.Proofs.Ytpoppdaaodmicaa.Q

-- Written by a program of this session's (wip/mk.py, over the kit's print.py); Lean checks it.
namespace Go.Proofs.Ytpoppdaaodmicaa.Q
open Go.RowKit Go.Proofs.YtpoppdaaodmicaaW.PrintWords Go.Proofs.YtpoppdaaodmicaaW.PrintLast Go.Proofs.YtpoppdaaodmicaaW.PrintMore
attribute [local go_sem] max2_int min2_int max_two min_two max_three min_three max_four min_four   -- for this text's walks alone
set_option linter.unusedVariables false
set_option linter.unusedSimpArgs false

def reedpiperef11_arc.f (a0 : Int) (a1 : Int) (a2 : Int) : Option (Int) := if a2 = 32 then (some (Int.tmod (wrap64 ((wrap64 ((wrap64 ((wrap64 ((wrap64 (2 * a0)) + 1)) + a2)) * (wrap64 ((wrap64 (2 * a1)) + 1)))) * 8)) 2048)) else (some (Int.tmod (wrap64 ((wrap64 ((wrap64 ((wrap64 ((wrap64 (2 * a0)) + 1)) + a2)) * (wrap64 ((wrap64 (2 * a1)) + 1)))) * 1)) 2048))
set_option maxHeartbeats 8000000 in
set_option maxRecDepth 100000 in
theorem reedpiperef11_arc.calls (a0 : Int) (a1 : Int) (a2 : Int) (r : Int) (w : World) (h : reedpiperef11_arc.f a0 a1 a2 = some r) :
  Calls Try.prog 111 #[.int .i64 a0, .int .i64 a1, .int .i64 a2] w fun e w' => e = .returned (.int .i64 r) ∧ Drawn0 w w' := by
 have H : (if a2 = 32 then (some (Int.tmod (wrap64 ((wrap64 ((wrap64 ((wrap64 ((wrap64 (2 * a0)) + 1)) + a2)) * (wrap64 ((wrap64 (2 * a1)) + 1)))) * 8)) 2048)) else (some (Int.tmod (wrap64 ((wrap64 ((wrap64 ((wrap64 ((wrap64 (2 * a0)) + 1)) + a2)) * (wrap64 ((wrap64 (2 * a1)) + 1)))) * 1)) 2048))) = some r := h
 clear h
 by_cases c4 : a2 = 32
 ·rw [if_pos c4] at H
  have c4b0 : (a2 == 32) = true := beq_iff_eq.mpr c4
  have c4b1 : (a2 != 32) = false := bne_eq_false_iff_eq.mpr c4
  clear c4
  obtain rfl := Option.some.inj H
  go_enter Try.func111, Try.ntmps111
  go_wp2
  go_ret
  exact ⟨by first | rfl | (simp; done) | (simp [*]; done), by repeat (first | exact Drawn0.refl _ | apply Drawn0.step)⟩
 ·rw [if_neg c4] at H
  have c4b0 : (a2 == 32) = false := beq_eq_false_iff_ne.mpr c4
  have c4b1 : (a2 != 32) = true := bne_iff_ne.mpr c4
  obtain rfl := Option.some.inj H
  go_enter Try.func111, Try.ntmps111
  go_wp2
  go_ret
  exact ⟨by first | rfl | (simp; done) | (simp [*]; done), by repeat (first | exact Drawn0.refl _ | apply Drawn0.step)⟩

end Go.Proofs.Ytpoppdaaodmicaa.Q

-- Written by a program of this session's (wip/mk.py, over the kit's print.py); Lean checks it.
namespace Go.Proofs.Ytpoppdaaodmicaa.Q
open Go.RowKit Go.Proofs.YtpoppdaaodmicaaW.PrintWords Go.Proofs.YtpoppdaaodmicaaW.PrintLast Go.Proofs.YtpoppdaaodmicaaW.PrintMore
attribute [local go_sem] max2_int min2_int max_two min_two max_three min_three max_four min_four   -- for this text's walks alone
set_option linter.unusedVariables false
set_option linter.unusedSimpArgs false

end Go.Proofs.Ytpoppdaaodmicaa.Q

-- Written by a program of this session's (wip/mk.py, over the kit's print.py); Lean checks it.
namespace Go.Proofs.Ytpoppdaaodmicaa.Q
open Go.RowKit Go.Proofs.YtpoppdaaodmicaaW.PrintWords Go.Proofs.YtpoppdaaodmicaaW.PrintLast Go.Proofs.YtpoppdaaodmicaaW.PrintMore
attribute [local go_sem] max2_int min2_int max_two min_two max_three min_three max_four min_four   -- for this text's walks alone
set_option linter.unusedVariables false
set_option linter.unusedSimpArgs false

end Go.Proofs.Ytpoppdaaodmicaa.Q

-- Written by a program of this session's (wip/mk.py, over the kit's print.py); Lean checks it.
namespace Go.Proofs.Ytpoppdaaodmicaa.Q
open Go.RowKit Go.Proofs.YtpoppdaaodmicaaW.PrintWords Go.Proofs.YtpoppdaaodmicaaW.PrintLast Go.Proofs.YtpoppdaaodmicaaW.PrintMore
attribute [local go_sem] max2_int min2_int max_two min_two max_three min_three max_four min_four   -- for this text's walks alone
set_option linter.unusedVariables false
set_option linter.unusedSimpArgs false

mutual
def reedpiperef11_Back.j0 : Nat → List Int → Int → Int → Option (List Int)
 | 0, _, _, _ => none
 | k + 1, x0, x3, x4 => (reedpiperef04_Table.f k).bind fun t477 => (reedpiperef11_Back.l0 k x0 x3 x4 t477 ([] : List Int) 0)
def reedpiperef11_Back.l0 : Nat → List Int → Int → Int → List Int → List Int → Int → Option (List Int)
 | 0, _, _, _, _, _, _ => none
 | k + 1, x0, x3, x4, x5, x6, x7 => if x7 < (wrap64 (2 * x3)) then (reedpiperef11_Back.l1 k x0 x3 x4 x5 x6 x7 0 0) else (some x6)
def reedpiperef11_Back.l1 : Nat → List Int → Int → Int → List Int → List Int → Int → Int → Int → Option (List Int)
 | 0, _, _, _, _, _, _, _, _ => none
 | k + 1, x0, x3, x4, x5, x6, x7, x8, x9 => if x9 < x3 then (if 0 ≤ x9 then (if x9 < (x0.length : Int) then ((reedpiperef11_arc.f x7 x9 x3).bind fun t481 => (if 0 ≤ t481 then (if t481 < (x5.length : Int) then (reedpiperef11_Back.l1 k x0 x3 x4 x5 x6 x7 (wrap64 (x8 + (wrap64 ((rd x0 x9) * (rd x5 t481))))) (wrap64 (x9 + 1))) else (none)) else (none))) else (none)) else (none)) else ((reedpiperef03_Down.f x8 x4).bind fun t483 => (if x6.length < 17592186044416 then (reedpiperef11_Back.l0 k x0 x3 x4 x5 (x6 ++ [t483]) (wrap64 (x7 + 1))) else (none)))
end
def reedpiperef11_Back.f (k : Nat) (l0 : List Int) : Option (List Int) := if (l0.length : Int) = 32 then (reedpiperef11_Back.j0 k l0 (l0.length : Int) 23) else (reedpiperef11_Back.j0 k l0 (l0.length : Int) 26)
set_option maxHeartbeats 8000000 in
set_option maxRecDepth 100000 in
theorem reedpiperef11_Back.calls (k : Nat) (A0 : Option Addr) (c0 : Nat) (l0 : List Int) (r : List Int) (w : World) (hr0 : Kd.C (Kd.int .i64) w A0 l0.length l0) (hc0 : l0.length ≤ c0) (h : reedpiperef11_Back.f k l0 = some r) :
  Calls Try.prog 84 #[.slice A0 l0.length c0] w fun e w' => ∃ v0_ : Value, e = .returned (v0_) ∧ Kd.R (Kd.int .i64) 3 w' w.heap.size (fun _ => True) v0_ r ∧ Below w.heap.size w w' := by
 have HR0 := Aside0.mk hr0
 have HC0 := Aside0.mk hc0
 clear hr0 hc0
 have HB := Aside0.mk (Below.refl w.heap.size w)
 have H : (if (l0.length : Int) = 32 then (reedpiperef11_Back.j0 k l0 (l0.length : Int) 23) else (reedpiperef11_Back.j0 k l0 (l0.length : Int) 26)) = some r := h
 clear h
 have HC2 := Aside0.mk H
 clear H
 go_enter Try.func84, Try.ntmps84
 go_upto_if 13 with (fail)
 repeat (go_quiet (fail); go_upto_if 13 with (fail))
 go_cut [4] (fun v4 wc => ∃ (kq : Nat) (x4_1 : Int), v4 = .int .i64 x4_1 ∧ Aside0 (reedpiperef11_Back.j0 kq l0 (l0.length : Int) x4_1 = some r) ∧ Aside0 (kq ≤ k) ∧ Aside0 (Below w.heap.size w wc))
 case first =>
  have H := HC2.out
  clear HC2
  by_cases c3 : (l0.length : Int) = 32
  ·rw [if_pos c3] at H
   have c3b0 : ((l0.length : Int) == 32) = true := beq_iff_eq.mpr c3
   have c3b1 : ((l0.length : Int) != 32) = false := bne_eq_false_iff_eq.mpr c3
   clear c3
   (first | rw [c3b0] | (simp only [i64_w, i32_w]; rw [c3b0]) | skip)
   have H' := Aside0.mk H
   clear H
   go_wp2
   repeat (go_quiet (fail); try go_wp2)
   go_meet
   case rel => exact ⟨_, (23), (by first | rfl | (simp; done) | (simp only [i64_w]; done) | (simp [*]; done)), H', ⟨by first | omega | exact Nat.le_refl _⟩, ⟨by repeat (first | (with_reducible first | exact HB.out | apply below_alloc | apply pw_below_drewN | apply below_drew1) | exact HB.out)⟩⟩
  ·rw [if_neg c3] at H
   have c3b0 : ((l0.length : Int) == 32) = false := beq_eq_false_iff_ne.mpr c3
   have c3b1 : ((l0.length : Int) != 32) = true := bne_iff_ne.mpr c3
   (first | rw [c3b0] | (simp only [i64_w, i32_w]; rw [c3b0]) | skip)
   have H' := Aside0.mk H
   clear H
   go_wp2
   repeat (go_quiet (fail); try go_wp2)
   go_meet
   case rel => exact ⟨_, (26), (by first | rfl | (simp; done) | (simp only [i64_w]; done) | (simp [*]; done)), H', ⟨by first | omega | exact Nat.le_refl _⟩, ⟨by repeat (first | (with_reducible first | exact HB.out | apply below_alloc | apply pw_below_drewN | apply below_drew1) | exact HB.out)⟩⟩
 case rest =>
  clear HC2
  try clear p2
  try clear c3
  try clear c3b0
  try clear c3b1
  obtain ⟨kq, x4_1, rfl, HA, HJ1, HB⟩ := hcut
  cases kq with
  | zero => exact absurd HA.out (by simp [reedpiperef11_Back.j0])
  | succ kj1 =>
   have H := HA.out
   clear HA
   simp only [reedpiperef11_Back.j0] at H
   replace H := Option.bind_eq_some_iff.mp H
   obtain ⟨t477, A40, H⟩ := H
   replace H : (reedpiperef11_Back.l0 kj1 l0 (l0.length : Int) x4_1 t477 ([] : List Int) 0) = some r := H
   have A4 := Aside0.mk A40
   clear A40
   have H' := Aside0.mk H
   clear H
   go_wp2_with (first | (go_at_call 110; (with_reducible refine (reedpiperef04_Table.calls kj1  t477 _ A4.out).mono ?_); rintro e w5 ⟨v478, rfl, ho0, hb⟩; have n0_ := Aside0.mk (Kd.R_lower ho0 (below_size (by repeat (first | (with_reducible first | exact HB.out | apply below_alloc | apply pw_below_drewN | apply below_drew1) | exact HB.out)))); have n1_ := Aside0.mk (below_step (by repeat (first | (with_reducible first | exact HB.out | apply below_alloc | apply pw_below_drewN | apply below_drew1) | exact HB.out)) hb); clear HB; have HO479 := n0_; have HB := n1_; clear n0_ n1_; (try clear hb); (try clear hb2); (try clear hk); (try clear hi); (try clear ho0)))
   repeat (go_quiet (first | (go_at_call 110; (with_reducible refine (reedpiperef04_Table.calls kj1  t477 _ A4.out).mono ?_); rintro e w5 ⟨v478, rfl, ho0, hb⟩; have n0_ := Aside0.mk (Kd.R_lower ho0 (below_size (by repeat (first | (with_reducible first | exact HB.out | apply below_alloc | apply pw_below_drewN | apply below_drew1) | exact HB.out)))); have n1_ := Aside0.mk (below_step (by repeat (first | (with_reducible first | exact HB.out | apply below_alloc | apply pw_below_drewN | apply below_drew1) | exact HB.out)) hb); clear HB; have HO479 := n0_; have HB := n1_; clear n0_ n1_; (try clear hb); (try clear hb2); (try clear hk); (try clear hi); (try clear ho0))); try go_wp2_with (first | (go_at_call 110; (with_reducible refine (reedpiperef04_Table.calls kj1  t477 _ A4.out).mono ?_); rintro e w5 ⟨v478, rfl, ho0, hb⟩; have n0_ := Aside0.mk (Kd.R_lower ho0 (below_size (by repeat (first | (with_reducible first | exact HB.out | apply below_alloc | apply pw_below_drewN | apply below_drew1) | exact HB.out)))); have n1_ := Aside0.mk (below_step (by repeat (first | (with_reducible first | exact HB.out | apply below_alloc | apply pw_below_drewN | apply below_drew1) | exact HB.out)) hb); clear HB; have HO479 := n0_; have HB := n1_; clear n0_ n1_; (try clear hb); (try clear hb2); (try clear hk); (try clear hi); (try clear ho0))))
   go_loopg [6, 7] kj1 (fun kq v6 v7 w' => ∃ (x6_2 : List Int) (x7_2 : Int), v7 = .int .i64 x7_2 ∧ Aside0 (reedpiperef11_Back.l0 kq l0 (l0.length : Int) x4_1 t477 x6_2 x7_2 = some r) ∧ Aside0 (kq ≤ kj1) ∧ Aside0 (Kd.R (Kd.int .i64) 3 w' w.heap.size (fun k_ => some k_ ≠ (v6 : Value).ownBlock) v478 t477) ∧ Aside0 (Kd.R (Kd.int .i64) 3 w' w.heap.size (fun k_ => some k_ ≠ (v478 : Value).ownBlock) v6 x6_2) ∧ Aside0 (Below w.heap.size w w'))
   case atStart => exact ⟨(([] : List Int)), (0), (by first | rfl | (simp; done) | (simp only [i64_w]; done) | (simp [*]; done)), H', ⟨Nat.le_refl _⟩, ⟨by (with_reducible repeat (first | apply Kd.R_alloc | apply Kd.R_drewN | apply Kd.R_drew)); exact Kd.R_mono HO479.out (fun _ hk => (by simp [Value.ownBlock]))⟩, ⟨by first | exact Kd.R_nil _ _ _ _ _ | exact Kd.N_nil _ _ _ _ _ | exact Kd.V_nil _ _ _ _ _ | exact Kd.Q_nil _ _ _ _ _ | exact Kd.S_nil _ _ _ _ _⟩, ⟨by repeat (first | (with_reducible first | exact HB.out | apply below_alloc | apply pw_below_drewN | apply below_drew1) | exact HB.out)⟩⟩
   case round =>
    clear H'
    try clear p2
    try clear c3
    try clear c3b0
    try clear c3b1
    try clear p2
    obtain ⟨x6_2, x7_2, rfl, HA, HK2, HO_5, HO_6, HB⟩ := hrel
    cases gk with
    | zero => exact absurd HA.out (by simp [reedpiperef11_Back.l0])
    | succ k2 =>
     have H := HA.out
     clear HA
     simp only [reedpiperef11_Back.l0] at H
     by_cases c6 : x7_2 < (wrap64 (2 * (l0.length : Int)))
     ·rw [if_pos c6] at H
      have c6b0 : decide (x7_2 < (wrap64 (2 * (l0.length : Int)))) = true := decide_eq_true c6
      clear c6
      have H' := Aside0.mk H
      clear H
      go_wp2
      repeat (go_quiet (fail); try go_wp2)
      go_loopg [8, 9] k2 (fun kq v8 v9 w' => ∃ (x8_3 : Int) (x9_3 : Int), v8 = .int .i64 x8_3 ∧ v9 = .int .i64 x9_3 ∧ Aside0 (reedpiperef11_Back.l1 kq l0 (l0.length : Int) x4_1 t477 x6_2 x7_2 x8_3 x9_3 = some r) ∧ Aside0 (kq ≤ k2) ∧ Aside0 (Kd.R (Kd.int .i64) 3 w' w.heap.size (fun k_ => some k_ ≠ (u6 : Value).ownBlock) v478 t477) ∧ Aside0 (Kd.R (Kd.int .i64) 3 w' w.heap.size (fun k_ => some k_ ≠ (v478 : Value).ownBlock) u6 x6_2) ∧ Aside0 (Below w.heap.size w w'))
      case atStart => exact ⟨(0), (0), (by first | rfl | (simp; done) | (simp only [i64_w]; done) | (simp [*]; done)), (by first | rfl | (simp; done) | (simp only [i64_w]; done) | (simp [*]; done)), H', ⟨Nat.le_refl _⟩, ⟨by (with_reducible repeat (first | apply Kd.R_alloc | apply Kd.R_drewN | apply Kd.R_drew)); exact HO_5.out⟩, ⟨by (with_reducible repeat (first | apply Kd.R_alloc | apply Kd.R_drewN | apply Kd.R_drew)); exact HO_6.out⟩, ⟨by repeat (first | (with_reducible first | exact HB.out | apply below_alloc | apply pw_below_drewN | apply below_drew1) | exact HB.out)⟩⟩
      case round =>
       clear H'
       try clear p2
       try clear c3
       try clear c3b0
       try clear c3b1
       try clear c6
       try clear c6b0
       try clear p6
       try clear p2
       obtain ⟨x8_3, x9_3, rfl, rfl, HA, HK3, HO_5, HO_6, HB⟩ := hrel
       cases gk with
       | zero => exact absurd HA.out (by simp [reedpiperef11_Back.l1])
       | succ k3 =>
        have H := HA.out
        clear HA
        simp only [reedpiperef11_Back.l1] at H
        by_cases c7 : x9_3 < (l0.length : Int)
        ·rw [if_pos c7] at H
         have c7b0 : decide (x9_3 < (l0.length : Int)) = true := decide_eq_true c7
         clear c7
         by_cases c8 : 0 ≤ x9_3
         ·rw [if_pos c8] at H
          have c8b0 : decide (0 ≤ x9_3) = true := decide_eq_true c8
          clear c8
          by_cases c9 : x9_3 < (l0.length : Int)
          ·rw [if_pos c9] at H
           have c9b0 : decide (x9_3 < (l0.length : Int)) = true := decide_eq_true c9
           clear c9
           replace H := Option.bind_eq_some_iff.mp H
           obtain ⟨t481, A100, H⟩ := H
           replace H : (if 0 ≤ t481 then (if t481 < (t477.length : Int) then (reedpiperef11_Back.l1 k3 l0 (l0.length : Int) x4_1 t477 x6_2 x7_2 (wrap64 (x8_3 + (wrap64 ((rd l0 x9_3) * (rd t477 t481))))) (wrap64 (x9_3 + 1))) else (none)) else (none)) = some r := H
           have A10 := Aside0.mk A100
           clear A100
           by_cases c11 : 0 ≤ t481
           ·rw [if_pos c11] at H
            have c11b0 : decide (0 ≤ t481) = true := decide_eq_true c11
            clear c11
            by_cases c12 : t481 < (t477.length : Int)
            ·rw [if_pos c12] at H
             have c12b0 : decide (t481 < (t477.length : Int)) = true := decide_eq_true c12
             clear c12
             have H' := Aside0.mk H
             clear H
             have p480 : 0 ≤ (x9_3 : Int) := of_decide_eq_true (by first | (with_reducible assumption) | assumption)
             have q480 : x9_3 < (l0.length : Int) := of_decide_eq_true (by first | (with_reducible assumption) | assumption)
             obtain ⟨ad480, e480, hx480_0⟩ := Kd.at_int HR0.out x9_3 p480 q480
             cases e480
             replace hx480_0 := (HB.out.cell (World.block_lt_of_cell? w _ hx480_0)).trans hx480_0
             replace p480 := eq_true p480
             replace q480 := eq_true q480
             go_wp2_with (first | (go_at_call 111; (with_reducible refine (reedpiperef11_arc.calls x7_2 x9_3 (l0.length : Int) t481 _ A10.out).mono ?_); rintro e w' ⟨rfl, ⟨nd, rfl⟩⟩; (try first | exact ⟨rfl, _, World.drewN_drewN _ _ _⟩ | exact ⟨rfl, _, Eq.trans (World.drewN_drewN _ _ _) (congrArg (World.drewN _) (Nat.add_assoc _ _ _))⟩); obtain ⟨Ao13, co13, eo13⟩ := Kd.R_slice HO_5.out; subst eo13; have p482 : 0 ≤ (t481 : Int) := of_decide_eq_true (by first | (with_reducible assumption) | assumption); have q482 : t481 < (t477.length : Int) := of_decide_eq_true (by first | (with_reducible assumption) | assumption); obtain ⟨ad482, e482, hx482_0⟩ := Kd.at_int (Kd.R_reads' HO_5.out).2.2 t481 p482 q482; cases e482; replace p482 := eq_true p482; replace q482 := eq_true q482))
             repeat (go_quiet (first | (go_at_call 111; (with_reducible refine (reedpiperef11_arc.calls x7_2 x9_3 (l0.length : Int) t481 _ A10.out).mono ?_); rintro e w' ⟨rfl, ⟨nd, rfl⟩⟩; (try first | exact ⟨rfl, _, World.drewN_drewN _ _ _⟩ | exact ⟨rfl, _, Eq.trans (World.drewN_drewN _ _ _) (congrArg (World.drewN _) (Nat.add_assoc _ _ _))⟩); obtain ⟨Ao13, co13, eo13⟩ := Kd.R_slice HO_5.out; subst eo13; have p482 : 0 ≤ (t481 : Int) := of_decide_eq_true (by first | (with_reducible assumption) | assumption); have q482 : t481 < (t477.length : Int) := of_decide_eq_true (by first | (with_reducible assumption) | assumption); obtain ⟨ad482, e482, hx482_0⟩ := Kd.at_int (Kd.R_reads' HO_5.out).2.2 t481 p482 q482; cases e482; replace p482 := eq_true p482; replace q482 := eq_true q482)); try go_wp2_with (first | (go_at_call 111; (with_reducible refine (reedpiperef11_arc.calls x7_2 x9_3 (l0.length : Int) t481 _ A10.out).mono ?_); rintro e w' ⟨rfl, ⟨nd, rfl⟩⟩; (try first | exact ⟨rfl, _, World.drewN_drewN _ _ _⟩ | exact ⟨rfl, _, Eq.trans (World.drewN_drewN _ _ _) (congrArg (World.drewN _) (Nat.add_assoc _ _ _))⟩); obtain ⟨Ao13, co13, eo13⟩ := Kd.R_slice HO_5.out; subst eo13; have p482 : 0 ≤ (t481 : Int) := of_decide_eq_true (by first | (with_reducible assumption) | assumption); have q482 : t481 < (t477.length : Int) := of_decide_eq_true (by first | (with_reducible assumption) | assumption); obtain ⟨ad482, e482, hx482_0⟩ := Kd.at_int (Kd.R_reads' HO_5.out).2.2 t481 p482 q482; cases e482; replace p482 := eq_true p482; replace q482 := eq_true q482)))
             go_roundg k3
             case measure => have := HJ1.out; have := HK2.out; have := HK3.out; omega
             case rel => exact ⟨(wrap64 (x8_3 + (wrap64 ((rd l0 x9_3) * (rd t477 t481))))), (wrap64 (x9_3 + 1)), (by first | rfl | (simp; done) | (simp only [i64_w]; done) | (simp [*]; done)), (by first | rfl | (simp; done) | (simp only [i64_w]; done) | (simp [*]; done)), H', ⟨by have := HJ1.out; have := HK2.out; have := HK3.out; omega⟩, ⟨by (with_reducible repeat (first | apply Kd.R_alloc | apply Kd.R_drewN | apply Kd.R_drew)); exact HO_5.out⟩, ⟨by (with_reducible repeat (first | apply Kd.R_alloc | apply Kd.R_drewN | apply Kd.R_drew)); exact HO_6.out⟩, ⟨by repeat (first | (with_reducible first | exact HB.out | apply below_alloc | apply pw_below_drewN | apply below_drew1) | exact HB.out)⟩⟩
            ·rw [if_neg c12] at H
             exact absurd H (by simp)
           ·rw [if_neg c11] at H
            exact absurd H (by simp)
          ·rw [if_neg c9] at H
           exact absurd H (by simp)
         ·rw [if_neg c8] at H
          exact absurd H (by simp)
        ·rw [if_neg c7] at H
         have c7b0 : decide (x9_3 < (l0.length : Int)) = false := decide_eq_false c7
         clear c7
         replace H := Option.bind_eq_some_iff.mp H
         obtain ⟨t483, A140, H⟩ := H
         replace H : (if x6_2.length < 17592186044416 then (reedpiperef11_Back.l0 k3 l0 (l0.length : Int) x4_1 t477 (x6_2 ++ [t483]) (wrap64 (x7_2 + 1))) else (none)) = some r := H
         have A14 := Aside0.mk A140
         clear A140
         by_cases c15 : x6_2.length < 17592186044416
         ·rw [if_pos c15] at H
          have LMc15 := Aside0.mk c15
          clear c15
          obtain ⟨y484, hy484⟩ : ∃ y_ : List Int, y_ = (x6_2 ++ [t483]) := ⟨_, rfl⟩
          replace H : (reedpiperef11_Back.l0 k3 l0 (l0.length : Int) x4_1 t477 y484 (wrap64 (x7_2 + 1))) = some r := by first | (rw [hy484]; with_reducible exact H) | (have H2_ := (Option.bind_some _ _).symm.trans H; rw [hy484]; with_reducible exact H2_) | (have H2_ := (Option.bind_some _ _).symm.trans H; with_reducible exact H2_) | with_reducible exact H | (rw [hy484]; exact H) | exact H
          have Ny484 := Aside0.mk hy484
          clear hy484
          have H' := Aside0.mk H
          clear H
          go_wp2_with (first | (go_at_call 63; (with_reducible refine (reedpiperef03_Down.calls x8_3 x4_1 t483 _ A14.out).mono ?_); rintro e w' ⟨rfl, ⟨nd, rfl⟩⟩; (try first | exact ⟨rfl, _, World.drewN_drewN _ _ _⟩ | exact ⟨rfl, _, Eq.trans (World.drewN_drewN _ _ _) (congrArg (World.drewN _) (Nat.add_assoc _ _ _))⟩)) | ((with_reducible refine gate_builtin (b := .append) (xs := #[.tmp 40, .tmp 44]) rfl ?_); at_builtin; refine Kd.R_append (Kd.int .i64) (w0 := w) w.heap.size rfl (.tmp 40) (.tmp 44) 29 3 (.int .i64 0) 8 rfl Try.underlying29 info3 rfl (by decide) (by omega) u6 x6_2 t483 [.int .i64 t483] (fun k_ => some k_ ≠ (v478 : Value).ownBlock) (fun _ => False) rfl rfl ?aP (fun _ hk => hk.elim) ?aF ?aO ?aB ?aS ?aL ?_; (case aP => exact rfl); (case aB => exact (by repeat (first | (with_reducible first | exact HB.out | apply below_alloc | apply pw_below_drewN | apply below_drew1) | exact HB.out))); (case aF => exact (fun k_ hk => Kd.fresh' (Kd.R_lt (by (with_reducible repeat (first | apply Kd.R_alloc | apply Kd.R_drewN | apply Kd.R_drew)); exact HO_5.out)) k_ hk)); (case aO => exact (by (with_reducible repeat (first | apply Kd.R_alloc | apply Kd.R_drewN | apply Kd.R_drew)); exact HO_6.out)); (case aS => exact (below_size (by repeat (first | (with_reducible first | exact HB.out | apply below_alloc | apply pw_below_drewN | apply below_drew1) | exact HB.out)))); (case aL => have := LMc15.out; omega); intro v485 w16 ho hb hg hat; rw [← Ny484.out] at ho; have n0_ := Aside0.mk (Kd.R_after (ok := (fun _ => True)) (by (with_reducible repeat (first | apply Kd.R_alloc | apply Kd.R_drewN | apply Kd.R_drew)); exact Kd.R_mono HO_5.out (fun _ hk => ⟨trivial, hk⟩)) hg hat); have n1_ := Aside0.mk (hb); have n2_ := Aside0.mk (ho); clear HO_5; clear HB; clear HO_6; have HO_5 := n0_; have HB := n1_; have HO486 := n2_; clear n0_ n1_ n2_; clear ho hb hg hat))
          repeat (go_quiet (first | (go_at_call 63; (with_reducible refine (reedpiperef03_Down.calls x8_3 x4_1 t483 _ A14.out).mono ?_); rintro e w' ⟨rfl, ⟨nd, rfl⟩⟩; (try first | exact ⟨rfl, _, World.drewN_drewN _ _ _⟩ | exact ⟨rfl, _, Eq.trans (World.drewN_drewN _ _ _) (congrArg (World.drewN _) (Nat.add_assoc _ _ _))⟩)) | ((with_reducible refine gate_builtin (b := .append) (xs := #[.tmp 40, .tmp 44]) rfl ?_); at_builtin; refine Kd.R_append (Kd.int .i64) (w0 := w) w.heap.size rfl (.tmp 40) (.tmp 44) 29 3 (.int .i64 0) 8 rfl Try.underlying29 info3 rfl (by decide) (by omega) u6 x6_2 t483 [.int .i64 t483] (fun k_ => some k_ ≠ (v478 : Value).ownBlock) (fun _ => False) rfl rfl ?aP (fun _ hk => hk.elim) ?aF ?aO ?aB ?aS ?aL ?_; (case aP => exact rfl); (case aB => exact (by repeat (first | (with_reducible first | exact HB.out | apply below_alloc | apply pw_below_drewN | apply below_drew1) | exact HB.out))); (case aF => exact (fun k_ hk => Kd.fresh' (Kd.R_lt (by (with_reducible repeat (first | apply Kd.R_alloc | apply Kd.R_drewN | apply Kd.R_drew)); exact HO_5.out)) k_ hk)); (case aO => exact (by (with_reducible repeat (first | apply Kd.R_alloc | apply Kd.R_drewN | apply Kd.R_drew)); exact HO_6.out)); (case aS => exact (below_size (by repeat (first | (with_reducible first | exact HB.out | apply below_alloc | apply pw_below_drewN | apply below_drew1) | exact HB.out)))); (case aL => have := LMc15.out; omega); intro v485 w16 ho hb hg hat; rw [← Ny484.out] at ho; have n0_ := Aside0.mk (Kd.R_after (ok := (fun _ => True)) (by (with_reducible repeat (first | apply Kd.R_alloc | apply Kd.R_drewN | apply Kd.R_drew)); exact Kd.R_mono HO_5.out (fun _ hk => ⟨trivial, hk⟩)) hg hat); have n1_ := Aside0.mk (hb); have n2_ := Aside0.mk (ho); clear HO_5; clear HB; clear HO_6; have HO_5 := n0_; have HB := n1_; have HO486 := n2_; clear n0_ n1_ n2_; clear ho hb hg hat)); try go_wp2_with (first | (go_at_call 63; (with_reducible refine (reedpiperef03_Down.calls x8_3 x4_1 t483 _ A14.out).mono ?_); rintro e w' ⟨rfl, ⟨nd, rfl⟩⟩; (try first | exact ⟨rfl, _, World.drewN_drewN _ _ _⟩ | exact ⟨rfl, _, Eq.trans (World.drewN_drewN _ _ _) (congrArg (World.drewN _) (Nat.add_assoc _ _ _))⟩)) | ((with_reducible refine gate_builtin (b := .append) (xs := #[.tmp 40, .tmp 44]) rfl ?_); at_builtin; refine Kd.R_append (Kd.int .i64) (w0 := w) w.heap.size rfl (.tmp 40) (.tmp 44) 29 3 (.int .i64 0) 8 rfl Try.underlying29 info3 rfl (by decide) (by omega) u6 x6_2 t483 [.int .i64 t483] (fun k_ => some k_ ≠ (v478 : Value).ownBlock) (fun _ => False) rfl rfl ?aP (fun _ hk => hk.elim) ?aF ?aO ?aB ?aS ?aL ?_; (case aP => exact rfl); (case aB => exact (by repeat (first | (with_reducible first | exact HB.out | apply below_alloc | apply pw_below_drewN | apply below_drew1) | exact HB.out))); (case aF => exact (fun k_ hk => Kd.fresh' (Kd.R_lt (by (with_reducible repeat (first | apply Kd.R_alloc | apply Kd.R_drewN | apply Kd.R_drew)); exact HO_5.out)) k_ hk)); (case aO => exact (by (with_reducible repeat (first | apply Kd.R_alloc | apply Kd.R_drewN | apply Kd.R_drew)); exact HO_6.out)); (case aS => exact (below_size (by repeat (first | (with_reducible first | exact HB.out | apply below_alloc | apply pw_below_drewN | apply below_drew1) | exact HB.out)))); (case aL => have := LMc15.out; omega); intro v485 w16 ho hb hg hat; rw [← Ny484.out] at ho; have n0_ := Aside0.mk (Kd.R_after (ok := (fun _ => True)) (by (with_reducible repeat (first | apply Kd.R_alloc | apply Kd.R_drewN | apply Kd.R_drew)); exact Kd.R_mono HO_5.out (fun _ hk => ⟨trivial, hk⟩)) hg hat); have n1_ := Aside0.mk (hb); have n2_ := Aside0.mk (ho); clear HO_5; clear HB; clear HO_6; have HO_5 := n0_; have HB := n1_; have HO486 := n2_; clear n0_ n1_ n2_; clear ho hb hg hat)))
          go_roundg k3
          case measure => have := HJ1.out; have := HK2.out; have := HK3.out; omega
          case rel => exact ⟨(y484), (wrap64 (x7_2 + 1)), (by first | rfl | (simp; done) | (simp only [i64_w]; done) | (simp [*]; done)), H', ⟨by have := HJ1.out; have := HK2.out; have := HK3.out; omega⟩, ⟨by (with_reducible repeat (first | apply Kd.R_alloc | apply Kd.R_drewN | apply Kd.R_drew)); exact Kd.R_mono HO_5.out (fun _ hk => hk.2)⟩, ⟨by (with_reducible repeat (first | apply Kd.R_alloc | apply Kd.R_drewN | apply Kd.R_drew)); exact HO486.out⟩, ⟨by repeat (first | (with_reducible first | exact HB.out | apply below_alloc | apply pw_below_drewN | apply below_drew1) | exact HB.out)⟩⟩
         ·rw [if_neg c15] at H
          exact absurd H (by simp)
     ·rw [if_neg c6] at H
      have c6b0 : decide (x7_2 < (wrap64 (2 * (l0.length : Int)))) = false := decide_eq_false c6
      clear c6
      obtain rfl := Option.some.inj H
      go_wp2
      repeat (go_quiet (fail); try go_wp2)
      go_ret
      exact ⟨_, by first | rfl | (simp [errW_none, errW_some] <;> rfl) | (simp [*, errW_none, errW_some] <;> rfl), by (with_reducible repeat (first | apply Kd.R_alloc | apply Kd.R_drewN | apply Kd.R_drew)); exact Kd.R_mono HO_6.out (fun _ hk => trivial), by repeat (first | (with_reducible first | exact HB.out | apply below_alloc | apply pw_below_drewN | apply below_drew1) | exact HB.out)⟩

end Go.Proofs.Ytpoppdaaodmicaa.Q

-- Written by a program of this session's (wip/mk.py, over the kit's print.py); Lean checks it.
namespace Go.Proofs.Ytpoppdaaodmicaa.Q
open Go.RowKit Go.Proofs.YtpoppdaaodmicaaW.PrintWords Go.Proofs.YtpoppdaaodmicaaW.PrintLast Go.Proofs.YtpoppdaaodmicaaW.PrintMore
attribute [local go_sem] max2_int min2_int max_two min_two max_three min_three max_four min_four   -- for this text's walks alone
set_option linter.unusedVariables false
set_option linter.unusedSimpArgs false

end Go.Proofs.Ytpoppdaaodmicaa.Q

-- Written by a program of this session's (wip/mk.py, over the kit's print.py); Lean checks it.
namespace Go.Proofs.Ytpoppdaaodmicaa.Q
open Go.RowKit Go.Proofs.YtpoppdaaodmicaaW.PrintWords Go.Proofs.YtpoppdaaodmicaaW.PrintLast Go.Proofs.YtpoppdaaodmicaaW.PrintMore
attribute [local go_sem] max2_int min2_int max_two min_two max_three min_three max_four min_four   -- for this text's walks alone
set_option linter.unusedVariables false
set_option linter.unusedSimpArgs false

def reedpiperef11_Same.l0 : Nat → List Int → List Int → Int → Option (Bool)
 | 0, _, _, _ => none
 | k + 1, x0, x1, x5 => if x5 < (x0.length : Int) then (if 0 ≤ x5 then (if x5 < (x1.length : Int) then (if (rd x0 x5) = (rd x1 x5) then (reedpiperef11_Same.l0 k x0 x1 (wrap64 (x5 + 1))) else (some false)) else (none)) else (none)) else (some true)
def reedpiperef11_Same.f (k : Nat) (l0 : List Int) (l1 : List Int) : Option (Bool) := if (l0.length : Int) = (l1.length : Int) then (reedpiperef11_Same.l0 k l0 l1 0) else (some false)
set_option maxHeartbeats 8000000 in
set_option maxRecDepth 100000 in
theorem reedpiperef11_Same.calls (k : Nat) (A0 : Option Addr) (c0 : Nat) (l0 : List Int) (A1 : Option Addr) (c1 : Nat) (l1 : List Int) (r : Bool) (w : World) (hr0 : Kd.C (Kd.int .i64) w A0 l0.length l0) (hc0 : l0.length ≤ c0) (hr1 : Kd.C (Kd.int .i64) w A1 l1.length l1) (hc1 : l1.length ≤ c1) (h : reedpiperef11_Same.f k l0 l1 = some r) :
  Calls Try.prog 50 #[.slice A0 l0.length c0, .slice A1 l1.length c1] w fun e w' => e = .returned (.bool r) ∧ Drawn0 w w' := by
 have HR0 := Aside0.mk hr0
 have HC0 := Aside0.mk hc0
 clear hr0 hc0
 have HR1 := Aside0.mk hr1
 have HC1 := Aside0.mk hc1
 clear hr1 hc1
 have H : (if (l0.length : Int) = (l1.length : Int) then (reedpiperef11_Same.l0 k l0 l1 0) else (some false)) = some r := h
 clear h
 by_cases c3 : (l0.length : Int) = (l1.length : Int)
 ·rw [if_pos c3] at H
  have c3b0 : ((l0.length : Int) == (l1.length : Int)) = true := beq_iff_eq.mpr c3
  have c3b1 : ((l0.length : Int) != (l1.length : Int)) = false := bne_eq_false_iff_eq.mpr c3
  have c3b2 : (l0.length == l1.length) = true := by first | simpa using c3 | (simp at c3 ⊢; omega)
  clear c3
  have H' := Aside0.mk H
  clear H
  go_enter Try.func50, Try.ntmps50
  go_wp2
  repeat (go_quiet (fail); try go_wp2)
  go_loopg [5] k (fun kq v5 w' => ∃ (x5_1 : Int), v5 = .int .i64 x5_1 ∧ Aside0 (reedpiperef11_Same.l0 kq l0 l1 x5_1 = some r) ∧ Aside0 (kq ≤ k) ∧ Drawn0 w w')
  case atStart => exact ⟨(0), (by first | rfl | (simp; done) | (simp [*]; done)), H', ⟨Nat.le_refl _⟩, by repeat (first | exact Drawn0.refl _ | apply Drawn0.step)⟩
  case round =>
   clear H'
   try clear c1
   try clear p2
   try clear c3
   try clear c3b0
   try clear c3b1
   try clear c3b2
   obtain ⟨x5_1, rfl, HA, HK1, ⟨m1, rfl⟩⟩ := hrel
   cases gk with
   | zero => exact absurd HA.out (by simp [reedpiperef11_Same.l0])
   | succ k1 =>
    have H := HA.out
    clear HA
    simp only [reedpiperef11_Same.l0] at H
    by_cases c4 : x5_1 < (l0.length : Int)
    ·rw [if_pos c4] at H
     have c4b0 : decide (x5_1 < (l0.length : Int)) = true := decide_eq_true c4
     clear c4
     by_cases c5 : 0 ≤ x5_1
     ·rw [if_pos c5] at H
      have c5b0 : decide (0 ≤ x5_1) = true := decide_eq_true c5
      clear c5
      by_cases c6 : x5_1 < (l1.length : Int)
      ·rw [if_pos c6] at H
       have c6b0 : decide (x5_1 < (l1.length : Int)) = true := decide_eq_true c6
       clear c6
       by_cases c7 : (rd l0 x5_1) = (rd l1 x5_1)
       ·rw [if_pos c7] at H
        have c7b0 : ((rd l0 x5_1) == (rd l1 x5_1)) = true := beq_iff_eq.mpr c7
        have c7b1 : ((rd l0 x5_1) != (rd l1 x5_1)) = false := bne_eq_false_iff_eq.mpr c7
        clear c7
        have H' := Aside0.mk H
        clear H
        have p491 : 0 ≤ (x5_1 : Int) := of_decide_eq_true (by first | (with_reducible assumption) | assumption)
        have q491 : x5_1 < (l0.length : Int) := of_decide_eq_true (by first | (with_reducible assumption) | assumption)
        obtain ⟨ad491, e491, hx491_0⟩ := Kd.at_int HR0.out x5_1 p491 q491
        cases e491
        replace p491 := eq_true p491
        replace q491 := eq_true q491
        have p492 : 0 ≤ (x5_1 : Int) := of_decide_eq_true (by first | (with_reducible assumption) | assumption)
        have q492 : x5_1 < (l1.length : Int) := of_decide_eq_true (by first | (with_reducible assumption) | assumption)
        obtain ⟨ad492, e492, hx492_0⟩ := Kd.at_int HR1.out x5_1 p492 q492
        cases e492
        replace p492 := eq_true p492
        replace q492 := eq_true q492
        go_wp2
        repeat (go_quiet (fail); try go_wp2)
        go_roundg k1
        case measure => have := HK1.out; omega
        case rel => exact ⟨(wrap64 (x5_1 + 1)), (by first | rfl | (simp; done) | (simp [*]; done)), H', ⟨by have := HK1.out; omega⟩, by repeat (first | exact Drawn0.refl _ | apply Drawn0.step)⟩
       ·rw [if_neg c7] at H
        have c7b0 : ((rd l0 x5_1) == (rd l1 x5_1)) = false := beq_eq_false_iff_ne.mpr c7
        have c7b1 : ((rd l0 x5_1) != (rd l1 x5_1)) = true := bne_iff_ne.mpr c7
        obtain rfl := Option.some.inj H
        have p491 : 0 ≤ (x5_1 : Int) := of_decide_eq_true (by first | (with_reducible assumption) | assumption)
        have q491 : x5_1 < (l0.length : Int) := of_decide_eq_true (by first | (with_reducible assumption) | assumption)
        obtain ⟨ad491, e491, hx491_0⟩ := Kd.at_int HR0.out x5_1 p491 q491
        cases e491
        replace p491 := eq_true p491
        replace q491 := eq_true q491
        have p492 : 0 ≤ (x5_1 : Int) := of_decide_eq_true (by first | (with_reducible assumption) | assumption)
        have q492 : x5_1 < (l1.length : Int) := of_decide_eq_true (by first | (with_reducible assumption) | assumption)
        obtain ⟨ad492, e492, hx492_0⟩ := Kd.at_int HR1.out x5_1 p492 q492
        cases e492
        replace p492 := eq_true p492
        replace q492 := eq_true q492
        go_wp2
        repeat (go_quiet (fail); try go_wp2)
        go_ret
        exact ⟨by first | rfl | (simp; done) | (simp [*]; done), by repeat (first | exact Drawn0.refl _ | apply Drawn0.step)⟩
      ·rw [if_neg c6] at H
       exact absurd H (by simp)
     ·rw [if_neg c5] at H
      exact absurd H (by simp)
    ·rw [if_neg c4] at H
     have c4b0 : decide (x5_1 < (l0.length : Int)) = false := decide_eq_false c4
     clear c4
     obtain rfl := Option.some.inj H
     go_wp2
     repeat (go_quiet (fail); try go_wp2)
     go_ret
     exact ⟨by first | rfl | (simp; done) | (simp [*]; done), by repeat (first | exact Drawn0.refl _ | apply Drawn0.step)⟩
 ·rw [if_neg c3] at H
  have c3b0 : ((l0.length : Int) == (l1.length : Int)) = false := beq_eq_false_iff_ne.mpr c3
  have c3b1 : ((l0.length : Int) != (l1.length : Int)) = true := bne_iff_ne.mpr c3
  have c3b2 : (l0.length == l1.length) = false := by first | simpa using c3 | (simp at c3 ⊢; omega)
  obtain rfl := Option.some.inj H
  go_enter Try.func50, Try.ntmps50
  go_wp2
  repeat (go_quiet (fail); try go_wp2)
  go_ret
  exact ⟨by first | rfl | (simp; done) | (simp [*]; done), by repeat (first | exact Drawn0.refl _ | apply Drawn0.step)⟩

end Go.Proofs.Ytpoppdaaodmicaa.Q

/- The document's own transform, and back: the same lists as the program's. -/
namespace Go.Proofs.Ytpoppdaaodmicaa.Q
open Go.RowKit Go.Proofs.YtpoppdaaodmicaaW.PrintWords Go.Proofs.YtpoppdaaodmicaaW.PrintLast Go.Proofs.YtpoppdaaodmicaaW.PrintMore

theorem sized_ms {m b : Nat} {s : Int} (hs : Sized m s b) : (m = 256 ∧ s = 1) ∨ (m = 32 ∧ s = 8) := by
  rcases hs with ⟨h1, h2, _⟩ | ⟨h1, h2, _⟩
  · exact .inl ⟨h1, h2⟩
  · exact .inr ⟨h1, h2⟩
theorem same11_from {l : List Int} (hl : l.length ≤ 2000) (d : Nat) : ∀ (k i : Nat), i + d = l.length → d + 1 ≤ k → reedpiperef11_Same.l0 k l l (i : Int) = some true := by
  induction d with
  | zero =>
    intro k i hi hk
    obtain ⟨k, rfl⟩ : ∃ j, k = j + 1 := ⟨k - 1, by omega⟩
    rw [reedpiperef11_Same.l0.eq_2, if_neg (by omega)]
  | succ d ih =>
    intro k i hi hk
    obtain ⟨k, rfl⟩ : ∃ j, k = j + 1 := ⟨k - 1, by omega⟩
    rw [reedpiperef11_Same.l0.eq_2, if_pos (by omega), if_pos (by omega), if_pos (by omega), if_pos rfl, wrap_in (by omega) (by omega)]
    exact ih k (i + 1) (by omega) (by omega)
theorem same11 {l : List Int} (hl : l.length ≤ 2000) {k : Nat} (hk : l.length + 1 ≤ k) : reedpiperef11_Same.f k l l = some true := by
  unfold reedpiperef11_Same.f
  rw [if_pos rfl]
  exact same11_from hl l.length k 0 (by omega) hk
theorem rd_mem {l : List Int} {j : Nat} (h : j < l.length) : rd l (j : Int) ∈ l := by
  unfold rd
  rw [show ((j : Int)).toNat = j by omega, List.getD_eq_getElem?_getD, List.getElem?_eq_getElem h]
  exact List.getElem_mem h
def tableL : List Int := (List.range 2048).map (fun n : Nat => Tab.C (n : Int))
theorem tableL_length : tableL.length = 2048 := by unfold tableL; rw [List.length_map, List.length_range]
theorem rd_table {t : Int} (h0 : 0 ≤ t) (h1 : t < 2048) : rd tableL t = Tab.C t := by
  obtain ⟨n, rfl⟩ : ∃ n : Nat, t = n := ⟨t.toNat, by omega⟩
  exact rd_map_range (f := fun n : Nat => Tab.C (n : Int)) (by omega)
theorem table_l0 (d : Nat) : ∀ (k i : Nat), i + d = 2048 → d + 20 ≤ k → reedpiperef04_Table.l0 k ((List.range i).map (fun n : Nat => Tab.C (n : Int))) (i : Int) = some tableL := by
  induction d with
  | zero =>
    intro k i hi hk
    obtain ⟨k, rfl⟩ : ∃ j, k = j + 1 := ⟨k - 1, by omega⟩
    obtain rfl : i = 2048 := by omega
    rw [reedpiperef04_Table.l0.eq_2, if_neg (by omega)]
    rfl
  | succ d ih =>
    intro k i hi hk
    obtain ⟨k, rfl⟩ : ∃ j, k = j + 1 := ⟨k - 1, by omega⟩
    have e := ih k (i + 1) (by omega) (by omega)
    rw [show (((i + 1 : Nat)) : Int) = (i : Int) + 1 by omega, List.range_succ, List.map_append] at e
    rw [reedpiperef04_Table.l0.eq_2, if_pos (by omega), refcos_is _ (by omega), Option.bind_some, if_pos (by rw [List.length_map, List.length_range]; omega), wrap_in (by omega) (by omega)]
    exact e
theorem table_is {k : Nat} (hk : 2100 ≤ k) : reedpiperef04_Table.f k = some tableL := by
  unfold reedpiperef04_Table.f
  exact table_l0 2048 k 0 (by omega) (by omega)
theorem arc_bound {m n k : Nat} {s : Int} (hs : (m = 256 ∧ s = 1) ∨ (m = 32 ∧ s = 8)) (hn : n < 2 * m) (hk : k < m) : 0 ≤ (2 * (n : Int) + 1 + (m : Int)) * (2 * (k : Int) + 1) ∧ (2 * (n : Int) + 1 + (m : Int)) * (2 * (k : Int) + 1) ≤ 1280 * 512 := by
  refine ⟨Int.mul_nonneg (by omega) (by omega), Int.mul_le_mul ?_ ?_ (by omega) (by omega)⟩ <;> rcases hs with ⟨rfl, _⟩ | ⟨rfl, _⟩ <;> omega
theorem arc_is {m n k : Nat} {s : Int} (hs : (m = 256 ∧ s = 1) ∨ (m = 32 ∧ s = 8)) (hn : n < 2 * m) (hk : k < m) : reedpiperef11_arc.f (n : Int) (k : Int) (m : Int) = some (arcAt m s n k % 2048) := by
  have hb := arc_bound hs hn hk
  have hm : m ≤ 256 := by rcases hs with ⟨rfl, _⟩ | ⟨rfl, _⟩ <;> omega
  have ea : arcAt m s n k = (2 * (n : Int) + 1 + (m : Int)) * (2 * (k : Int) + 1) * s := by unfold arcAt; rw [Int.mul_assoc]
  have e1 : wrap64 (2 * (n : Int)) = 2 * (n : Int) := wrap_in (by omega) (by omega)
  have e2 : wrap64 (2 * (n : Int) + 1) = 2 * (n : Int) + 1 := wrap_in (by omega) (by omega)
  have e3 : wrap64 (2 * (n : Int) + 1 + (m : Int)) = 2 * (n : Int) + 1 + (m : Int) := wrap_in (by omega) (by omega)
  have e4 : wrap64 (2 * (k : Int)) = 2 * (k : Int) := wrap_in (by omega) (by omega)
  have e5 : wrap64 (2 * (k : Int) + 1) = 2 * (k : Int) + 1 := wrap_in (by omega) (by omega)
  unfold reedpiperef11_arc.f
  rw [e1, e2, e3, e4, e5, ea]
  clear e1 e2 e3 e4 e5 ea
  generalize (2 * (n : Int) + 1 + (m : Int)) * (2 * (k : Int) + 1) = p at *
  have e6 : wrap64 p = p := wrap_in (by omega) (by omega)
  rw [e6]
  rcases hs with ⟨rfl, rfl⟩ | ⟨rfl, rfl⟩
  · rw [if_neg (by decide), wrap_in (n := p * 1) (by omega) (by omega), Int.tmod_eq_emod_of_nonneg (by omega)]
  · rw [if_pos (by decide), wrap_in (n := p * 8) (by omega) (by omega), Int.tmod_eq_emod_of_nonneg (by omega)]
theorem sm_le {z : List Int} {X : Int} (hz : AllIn X z) (g : Nat → Int) {i : Nat} (hi : i ≤ z.length) : -((i : Int) * (X * 67108864)) ≤ sm i (fun i => rd z (i : Int) * Tab.C (g i)) ∧ sm i (fun i => rd z (i : Int) * Tab.C (g i)) ≤ (i : Int) * (X * 67108864) :=
  sm_bound fun j hj => mul_C (hz _ (rd_mem (by omega))) _
theorem refback_l1 {m b : Nat} {s : Int} (hs : Sized m s b) {x : List Int} (hl : x.length = m) (hx : AllIn 268435455 x) {n : Nat} (hn : n < 2 * m) {acc : List Int} (hacc : acc.length ≤ 1000) (d : Nat) : ∀ (k i : Nat), i + d = m →
    reedpiperef11_Back.l1 (k + d + 1) x (m : Int) (b : Int) tableL acc (n : Int) (sm i (fun i => rd x (i : Int) * Tab.C (arcAt m s n i))) (i : Int) = reedpiperef11_Back.l0 k x (m : Int) (b : Int) tableL (acc ++ [backAt m s b x n]) ((n : Int) + 1) := by
  have hm : m ≤ 256 ∧ 1 ≤ b ∧ b ≤ 62 := by rcases hs with ⟨rfl, _, rfl⟩ | ⟨rfl, _, rfl⟩ <;> omega
  have hs' : (m = 256 ∧ s = 1) ∨ (m = 32 ∧ s = 8) := sized_ms hs
  induction d with
  | zero =>
    intro k i hi
    have c0 : ¬ (i : Int) < (m : Int) := by omega
    have c2 : wrap64 ((n : Int) + 1) = (n : Int) + 1 := wrap_in (by omega) (by omega)
    obtain rfl : i = m := by omega
    have hb := sm_le hx (fun k => arcAt i s n k) (i := i) (by omega)
    have hd := down_is (n := sm i (fun k => rd x (k : Int) * Tab.C (arcAt i s n k))) (b := b) (by omega) (by omega) hm.2.1 hm.2.2
    rw [backAt_sum hl, show k + 0 + 1 = k + 1 by omega, reedpiperef11_Back.l1.eq_2, if_neg c0, hd, Option.bind_some, if_pos (by omega), c2]
  | succ d ih =>
    intro k i hi
    have e := ih k (i + 1) (by omega)
    have c0 : (i : Int) < (m : Int) := by omega
    have c3 : (0 : Int) ≤ (i : Int) := by omega
    have c4 : (i : Int) < (x.length : Int) := by omega
    have c2 : wrap64 ((i : Int) + 1) = (i : Int) + 1 := wrap_in (by omega) (by omega)
    have ha := arc_is hs' (n := n) (k := i) hn (by omega)
    have hb := sm_le hx (fun k => arcAt m s n k) (i := i) (by omega)
    have hv := mul_C (hx _ (rd_mem (l := x) (j := i) (by omega))) (arcAt m s n i)
    have hT : rd tableL (arcAt m s n i % 2048) = Tab.C (arcAt m s n i) := by
      rw [rd_table (by omega) (by omega)]
      exact Tab.C_same (by omega)
    rw [show (((i + 1 : Nat)) : Int) = (i : Int) + 1 by omega, sm] at e
    rw [show k + (d + 1) + 1 = (k + d + 1) + 1 by omega, reedpiperef11_Back.l1.eq_2, if_pos c0, if_pos c3, if_pos c4, ha, Option.bind_some, if_pos (by omega), if_pos (by rw [tableL_length]; omega), hT, c2]
    clear ha hT c0 c2 c3 c4 ih
    generalize sm i (fun i => rd x (i : Int) * Tab.C (arcAt m s n i)) = u at *
    generalize rd x (i : Int) * Tab.C (arcAt m s n i) = v at *
    have w1 : wrap64 v = v := wrap_in (by omega) (by omega)
    have w2 : wrap64 (u + v) = u + v := wrap_in (by omega) (by omega)
    rw [w1, w2]
    exact e
theorem refback_l0 {m b : Nat} {s : Int} (hs : Sized m s b) {x : List Int} (hl : x.length = m) (hx : AllIn 268435455 x) (d : Nat) : ∀ (k n : Nat), n + d = 2 * m → d * (m + 2) + 1 ≤ k →
    reedpiperef11_Back.l0 k x (m : Int) (b : Int) tableL ((List.range n).map (backAt m s b x)) (n : Int) = some ((List.range (2 * m)).map (backAt m s b x)) := by
  have hm : m ≤ 256 := by rcases hs with ⟨rfl, _⟩ | ⟨rfl, _⟩ <;> omega
  have c1 : wrap64 (2 * (m : Int)) = 2 * (m : Int) := wrap_in (by omega) (by omega)
  induction d with
  | zero =>
    intro k n hn hk
    obtain ⟨k, rfl⟩ : ∃ j, k = j + 1 := ⟨k - 1, by omega⟩
    obtain rfl : n = 2 * m := by omega
    rw [reedpiperef11_Back.l0.eq_2, c1, if_neg (by omega)]
  | succ d ih =>
    intro k n hn hk
    rw [Nat.add_mul, Nat.one_mul] at hk
    obtain ⟨k, rfl⟩ : ∃ j, k = j + m + 1 + 1 := ⟨k - m - 2, by omega⟩
    have e := ih k (n + 1) (by omega) (by omega)
    have h1 := refback_l1 hs hl hx (n := n) (by omega) (acc := (List.range n).map (backAt m s b x)) (by rw [List.length_map, List.length_range]; omega) m k 0 (by omega)
    rw [show (((n + 1 : Nat)) : Int) = (n : Int) + 1 by omega, List.range_succ, List.map_append] at e
    rw [reedpiperef11_Back.l0.eq_2, c1, if_pos (by omega)]
    exact h1.trans e
theorem refback_is {m b : Nat} {s : Int} (hs : Sized m s b) {x : List Int} (hl : x.length = m) (hx : AllIn 268435455 x) {k : Nat} (hk : 200000 ≤ k) : reedpiperef11_Back.f k x = some ((List.range (2 * m)).map (backAt m s b x)) := by
  have hm : m ≤ 256 := by rcases hs with ⟨rfl, _⟩ | ⟨rfl, _⟩ <;> omega
  have hk2 : 2 * m * (m + 2) ≤ 512 * 258 := Nat.mul_le_mul (by omega) (by omega)
  have h0 := refback_l0 hs hl hx (2 * m) (k - 1) 0 (by omega) (by omega)
  obtain ⟨k, rfl⟩ : ∃ j, k = j + 1 := ⟨k - 1, by omega⟩
  rw [show k + 1 - 1 = k by omega] at h0
  unfold reedpiperef11_Back.f
  rw [hl]
  rcases hs with ⟨rfl, rfl, rfl⟩ | ⟨rfl, rfl, rfl⟩
  · rw [if_neg (by decide), reedpiperef11_Back.j0.eq_2, table_is (by omega), Option.bind_some]
    exact h0
  · rw [if_pos (by decide), reedpiperef11_Back.j0.eq_2, table_is (by omega), Option.bind_some]
    exact h0
end Go.Proofs.Ytpoppdaaodmicaa.Q

-- Several functions' contracts in one text.
namespace Go.Proofs.Ytpoppdaaodmicaa.Q
open Go.RowKit Go.Proofs.YtpoppdaaodmicaaW.PrintWords Go.Proofs.YtpoppdaaodmicaaW.PrintLast Go.Proofs.YtpoppdaaodmicaaW.PrintMore
attribute [local go_sem] max2_int min2_int max_two min_two max_three min_three max_four min_four   -- for this text's walks alone
set_option linter.unusedVariables false
set_option linter.unusedSimpArgs false

def reedpiperef05_weight.l0 : Nat → Int → Int → Int → Int → Option (Int)
 | 0, _, _, _, _ => none
 | k + 1, x7, x8, x9, x10 => if x10 ≤ 63 then (if (wrap64 ((wrap64 (65536 * x10)) * x10)) = 0 then (none) else (reedpiperef05_weight.l0 k x7 (wrap64 (Int.tdiv (wrap64 (x8 * x7)) (wrap64 ((wrap64 (65536 * x10)) * x10)))) (wrap64 (x9 + (wrap64 (Int.tdiv (wrap64 (x8 * x7)) (wrap64 ((wrap64 (65536 * x10)) * x10)))))) (wrap64 (x10 + 1)))) else (some x9)
def reedpiperef05_weight.f (k : Nat) (a0 : Int) (a1 : Int) (a2 : Int) : Option (Int) := if (wrap64 ((wrap64 (a1 * a1)) * 65536)) = 0 then (none) else (reedpiperef05_weight.l0 k (wrap64 (Int.tdiv (wrap64 ((wrap64 ((wrap64 ((wrap64 (42389456769 * a2)) * a2)) * a0)) * (wrap64 (a1 - a0)))) (wrap64 ((wrap64 (a1 * a1)) * 65536)))) 16384 16384 1)
theorem reedpiperef05_weight.mono_l : ∀ k, (∀ y0 y1 y2 y3, LeO (reedpiperef05_weight.l0 k y0 y1 y2 y3) (reedpiperef05_weight.l0 (k + 1) y0 y1 y2 y3))
 | 0 => fun _ _ _ _ r h => by simp [reedpiperef05_weight.l0] at h
 | k + 1 => by
  have ih0 := reedpiperef05_weight.mono_l k
  ·intro y0 y1 y2 y3
   unfold reedpiperef05_weight.l0
   repeat' first
   | (with_reducible exact ih0 _ _ _ _)
   | (with_reducible exact LeO.refl _)
   | (with_reducible exact LeO.none _)
   | (with_reducible refine LeO.ite ?_ ?_)
   | (with_reducible refine LeO.bind ?_ (fun _ => ?_))
   | exact ih0 _ _ _ _
   | exact LeO.none _
   | refine LeO.ite ?_ ?_
   | refine LeO.bind ?_ (fun _ => ?_)
theorem reedpiperef05_weight.mono : ∀ a0 a1 a2 k, LeO (reedpiperef05_weight.f k a0 a1 a2) (reedpiperef05_weight.f (k + 1) a0 a1 a2) := by
 intro a0 a1 a2 k
 have ih0 := reedpiperef05_weight.mono_l k
 unfold reedpiperef05_weight.f
 repeat' first
   | (with_reducible exact ih0 _ _ _ _)
   | (with_reducible exact LeO.refl _)
   | (with_reducible exact LeO.none _)
   | (with_reducible refine LeO.ite ?_ ?_)
   | (with_reducible refine LeO.bind ?_ (fun _ => ?_))
   | exact ih0 _ _ _ _
   | exact LeO.none _
   | refine LeO.ite ?_ ?_
   | refine LeO.bind ?_ (fun _ => ?_)
set_option maxHeartbeats 8000000 in
set_option maxRecDepth 100000 in
theorem reedpiperef05_weight.calls (k : Nat) (a0 : Int) (a1 : Int) (a2 : Int) (r : Int) (w : World) (h : reedpiperef05_weight.f k a0 a1 a2 = some r) :
  Calls Try.prog 123 #[.int .i64 a0, .int .i64 a1, .int .i64 a2] w fun e w' => e = .returned (.int .i64 r) ∧ Drawn0 w w' := by
 have H : (if (wrap64 ((wrap64 (a1 * a1)) * 65536)) = 0 then (none) else (reedpiperef05_weight.l0 k (wrap64 (Int.tdiv (wrap64 ((wrap64 ((wrap64 ((wrap64 (42389456769 * a2)) * a2)) * a0)) * (wrap64 (a1 - a0)))) (wrap64 ((wrap64 (a1 * a1)) * 65536)))) 16384 16384 1)) = some r := h
 clear h
 by_cases c4 : (wrap64 ((wrap64 (a1 * a1)) * 65536)) = 0
 ·rw [if_pos c4] at H
  exact absurd H (by simp)
 ·rw [if_neg c4] at H
  have c4b0 : ((wrap64 ((wrap64 (a1 * a1)) * 65536)) == 0) = false := beq_eq_false_iff_ne.mpr c4
  have c4b1 : ((wrap64 ((wrap64 (a1 * a1)) * 65536)) != 0) = true := bne_iff_ne.mpr c4
  have H' := Aside0.mk H
  clear H
  go_enter Try.func123, Try.ntmps123
  go_wp2
  go_loopg [8, 9, 10] k (fun kq v8 v9 v10 w' => ∃ (x8_1 : Int) (x9_1 : Int) (x10_1 : Int), v8 = .int .i64 x8_1 ∧ v9 = .int .i64 x9_1 ∧ v10 = .int .i64 x10_1 ∧ Aside0 (reedpiperef05_weight.l0 kq (wrap64 (Int.tdiv (wrap64 ((wrap64 ((wrap64 ((wrap64 (42389456769 * a2)) * a2)) * a0)) * (wrap64 (a1 - a0)))) (wrap64 ((wrap64 (a1 * a1)) * 65536)))) x8_1 x9_1 x10_1 = some r) ∧ Aside0 (kq ≤ k) ∧ Drawn0 w w')
  case atStart => exact ⟨(16384), (16384), (1), (by first | rfl | (simp; done) | (simp [*]; done)), (by first | rfl | (simp; done) | (simp [*]; done)), (by first | rfl | (simp; done) | (simp [*]; done)), H', ⟨Nat.le_refl _⟩, by repeat (first | exact Drawn0.refl _ | apply Drawn0.step)⟩
  case round =>
   clear H'
   try clear c1
   try clear p2
   try clear c4
   try clear c4b0
   try clear c4b1
   obtain ⟨x8_1, x9_1, x10_1, rfl, rfl, rfl, HA, HK1, ⟨m1, rfl⟩⟩ := hrel
   cases gk with
   | zero => exact absurd HA.out (by simp [reedpiperef05_weight.l0])
   | succ k1 =>
    have H := HA.out
    clear HA
    simp only [reedpiperef05_weight.l0] at H
    by_cases c5 : x10_1 ≤ 63
    ·rw [if_pos c5] at H
     have c5b0 : decide (x10_1 ≤ 63) = true := decide_eq_true c5
     clear c5
     by_cases c6 : (wrap64 ((wrap64 (65536 * x10_1)) * x10_1)) = 0
     ·rw [if_pos c6] at H
      exact absurd H (by simp)
     ·rw [if_neg c6] at H
      have c6b0 : ((wrap64 ((wrap64 (65536 * x10_1)) * x10_1)) == 0) = false := beq_eq_false_iff_ne.mpr c6
      have c6b1 : ((wrap64 ((wrap64 (65536 * x10_1)) * x10_1)) != 0) = true := bne_iff_ne.mpr c6
      have H' := Aside0.mk H
      clear H
      go_wp2
      go_roundg k1
      case measure => have := HK1.out; omega
      case rel => exact ⟨(wrap64 (Int.tdiv (wrap64 (x8_1 * (wrap64 (Int.tdiv (wrap64 ((wrap64 ((wrap64 ((wrap64 (42389456769 * a2)) * a2)) * a0)) * (wrap64 (a1 - a0)))) (wrap64 ((wrap64 (a1 * a1)) * 65536)))))) (wrap64 ((wrap64 (65536 * x10_1)) * x10_1)))), (wrap64 (x9_1 + (wrap64 (Int.tdiv (wrap64 (x8_1 * (wrap64 (Int.tdiv (wrap64 ((wrap64 ((wrap64 ((wrap64 (42389456769 * a2)) * a2)) * a0)) * (wrap64 (a1 - a0)))) (wrap64 ((wrap64 (a1 * a1)) * 65536)))))) (wrap64 ((wrap64 (65536 * x10_1)) * x10_1)))))), (wrap64 (x10_1 + 1)), (by first | rfl | (simp; done) | (simp [*]; done)), (by first | rfl | (simp; done) | (simp [*]; done)), (by first | rfl | (simp; done) | (simp [*]; done)), H', ⟨by have := HK1.out; omega⟩, by repeat (first | exact Drawn0.refl _ | apply Drawn0.step)⟩
    ·rw [if_neg c5] at H
     have c5b0 : decide (x10_1 ≤ 63) = false := decide_eq_false c5
     clear c5
     obtain rfl := Option.some.inj H
     go_wp2
     go_ret
     exact ⟨by first | rfl | (simp; done) | (simp [*]; done), by repeat (first | exact Drawn0.refl _ | apply Drawn0.step)⟩

end Go.Proofs.Ytpoppdaaodmicaa.Q

namespace Go.Proofs.Ytpoppdaaodmicaa.Q
open Go.RowKit Go.Proofs.YtpoppdaaodmicaaW.PrintWords Go.Proofs.YtpoppdaaodmicaaW.PrintLast Go.Proofs.YtpoppdaaodmicaaW.PrintMore
attribute [local go_sem] max2_int min2_int max_two min_two max_three min_three max_four min_four   -- for this text's walks alone
set_option linter.unusedVariables false
set_option linter.unusedSimpArgs false

def reedpiperef03_Root.l0 : Nat → Int → Int → Int → Option (Int)
 | 0, _, _, _ => none
 | k + 1, x0, x3, x4 => if x4 > 0 then (if (wrap64 (x3 + x4)) = 0 then (none) else (if (wrap64 (x3 + x4)) ≤ (wrap64 (Int.tdiv x0 (wrap64 (x3 + x4)))) then (reedpiperef03_Root.l0 k x0 (wrap64 (x3 + x4)) (wrap64 (Int.tdiv x4 2))) else (reedpiperef03_Root.l0 k x0 x3 (wrap64 (Int.tdiv x4 2))))) else (some x3)
def reedpiperef03_Root.f (k : Nat) (a0 : Int) : Option (Int) := reedpiperef03_Root.l0 k a0 0 2147483648
theorem reedpiperef03_Root.mono_l : ∀ k, (∀ y0 y1 y2, LeO (reedpiperef03_Root.l0 k y0 y1 y2) (reedpiperef03_Root.l0 (k + 1) y0 y1 y2))
 | 0 => fun _ _ _ r h => by simp [reedpiperef03_Root.l0] at h
 | k + 1 => by
  have ih0 := reedpiperef03_Root.mono_l k
  ·intro y0 y1 y2
   unfold reedpiperef03_Root.l0
   repeat' first
   | (with_reducible exact ih0 _ _ _)
   | (with_reducible exact LeO.refl _)
   | (with_reducible exact LeO.none _)
   | (with_reducible refine LeO.ite ?_ ?_)
   | (with_reducible refine LeO.bind ?_ (fun _ => ?_))
   | exact ih0 _ _ _
   | exact LeO.none _
   | refine LeO.ite ?_ ?_
   | refine LeO.bind ?_ (fun _ => ?_)
theorem reedpiperef03_Root.mono : ∀ a0 k, LeO (reedpiperef03_Root.f k a0) (reedpiperef03_Root.f (k + 1) a0) := by
 intro a0 k
 have ih0 := reedpiperef03_Root.mono_l k
 unfold reedpiperef03_Root.f
 repeat' first
   | (with_reducible exact ih0 _ _ _)
   | (with_reducible exact LeO.refl _)
   | (with_reducible exact LeO.none _)
   | (with_reducible refine LeO.ite ?_ ?_)
   | (with_reducible refine LeO.bind ?_ (fun _ => ?_))
   | exact ih0 _ _ _
   | exact LeO.none _
   | refine LeO.ite ?_ ?_
   | refine LeO.bind ?_ (fun _ => ?_)
set_option maxHeartbeats 8000000 in
set_option maxRecDepth 100000 in
theorem reedpiperef03_Root.calls (k : Nat) (a0 : Int) (r : Int) (w : World) (h : reedpiperef03_Root.f k a0 = some r) :
  Calls Try.prog 124 #[.int .i64 a0] w fun e w' => e = .returned (.int .i64 r) ∧ Drawn0 w w' := by
 have H : (reedpiperef03_Root.l0 k a0 0 2147483648) = some r := h
 clear h
 have H' := Aside0.mk H
 clear H
 go_enter Try.func124, Try.ntmps124
 go_wp2
 go_loopg [3, 4] k (fun kq v3 v4 w' => ∃ (x3_1 : Int) (x4_1 : Int), v3 = .int .i64 x3_1 ∧ v4 = .int .i64 x4_1 ∧ Aside0 (reedpiperef03_Root.l0 kq a0 x3_1 x4_1 = some r) ∧ Aside0 (kq ≤ k) ∧ Drawn0 w w')
 case atStart => exact ⟨(0), (2147483648), (by first | rfl | (simp; done) | (simp [*]; done)), (by first | rfl | (simp; done) | (simp [*]; done)), H', ⟨Nat.le_refl _⟩, by repeat (first | exact Drawn0.refl _ | apply Drawn0.step)⟩
 case round =>
  clear H'
  try clear c1
  obtain ⟨x3_1, x4_1, rfl, rfl, HA, HK1, ⟨m1, rfl⟩⟩ := hrel
  cases gk with
  | zero => exact absurd HA.out (by simp [reedpiperef03_Root.l0])
  | succ k1 =>
   have H := HA.out
   clear HA
   simp only [reedpiperef03_Root.l0] at H
   by_cases c2 : x4_1 > 0
   ·rw [if_pos c2] at H
    have c2b0 : decide (0 < x4_1) = true := decide_eq_true c2
    clear c2
    by_cases c3 : (wrap64 (x3_1 + x4_1)) = 0
    ·rw [if_pos c3] at H
     exact absurd H (by simp)
    ·rw [if_neg c3] at H
     have c3b0 : ((wrap64 (x3_1 + x4_1)) == 0) = false := beq_eq_false_iff_ne.mpr c3
     have c3b1 : ((wrap64 (x3_1 + x4_1)) != 0) = true := bne_iff_ne.mpr c3
     by_cases c4 : (wrap64 (x3_1 + x4_1)) ≤ (wrap64 (Int.tdiv a0 (wrap64 (x3_1 + x4_1))))
     ·rw [if_pos c4] at H
      have c4b0 : decide ((wrap64 (x3_1 + x4_1)) ≤ (wrap64 (Int.tdiv a0 (wrap64 (x3_1 + x4_1))))) = true := decide_eq_true c4
      clear c4
      have H' := Aside0.mk H
      clear H
      go_wp2
      go_roundg k1
      case measure => have := HK1.out; omega
      case rel => exact ⟨(wrap64 (x3_1 + x4_1)), (wrap64 (Int.tdiv x4_1 2)), (by first | rfl | (simp; done) | (simp [*]; done)), (by first | rfl | (simp; done) | (simp [*]; done)), H', ⟨by have := HK1.out; omega⟩, by repeat (first | exact Drawn0.refl _ | apply Drawn0.step)⟩
     ·rw [if_neg c4] at H
      have c4b0 : decide ((wrap64 (x3_1 + x4_1)) ≤ (wrap64 (Int.tdiv a0 (wrap64 (x3_1 + x4_1))))) = false := decide_eq_false c4
      clear c4
      have H' := Aside0.mk H
      clear H
      go_wp2
      go_roundg k1
      case measure => have := HK1.out; omega
      case rel => exact ⟨(x3_1), (wrap64 (Int.tdiv x4_1 2)), (by first | rfl | (simp; done) | (simp [*]; done)), (by first | rfl | (simp; done) | (simp [*]; done)), H', ⟨by have := HK1.out; omega⟩, by repeat (first | exact Drawn0.refl _ | apply Drawn0.step)⟩
   ·rw [if_neg c2] at H
    have c2b0 : decide (0 < x4_1) = false := decide_eq_false c2
    clear c2
    obtain rfl := Option.some.inj H
    go_wp2
    go_ret
    exact ⟨by first | rfl | (simp; done) | (simp [*]; done), by repeat (first | exact Drawn0.refl _ | apply Drawn0.step)⟩

end Go.Proofs.Ytpoppdaaodmicaa.Q

namespace Go.Proofs.Ytpoppdaaodmicaa.Q
open Go.RowKit Go.Proofs.YtpoppdaaodmicaaW.PrintWords Go.Proofs.YtpoppdaaodmicaaW.PrintLast Go.Proofs.YtpoppdaaodmicaaW.PrintMore
attribute [local go_sem] max2_int min2_int max_two min_two max_three min_three max_four min_four   -- for this text's walks alone
set_option linter.unusedVariables false
set_option linter.unusedSimpArgs false

def reedpiperef05_part.l0 : Nat → Int → Int → Int → Int → Option (Int)
 | 0, _, _, _, _ => none
 | k + 1, x0, x1, x5, x6 => if x6 < 44 then (if (wrap64 (2 * x0)) ≥ x1 then (reedpiperef05_part.l0 k (wrap64 ((wrap64 (2 * x0)) - x1)) x1 (wrap64 ((wrap64 (2 * x5)) + 1)) (wrap64 (x6 + 1))) else (reedpiperef05_part.l0 k (wrap64 (2 * x0)) x1 (wrap64 (2 * x5)) (wrap64 (x6 + 1)))) else (some x5)
def reedpiperef05_part.f (k : Nat) (a0 : Int) (a1 : Int) : Option (Int) := reedpiperef05_part.l0 k a0 a1 0 0
theorem reedpiperef05_part.mono_l : ∀ k, (∀ y0 y1 y2 y3, LeO (reedpiperef05_part.l0 k y0 y1 y2 y3) (reedpiperef05_part.l0 (k + 1) y0 y1 y2 y3))
 | 0 => fun _ _ _ _ r h => by simp [reedpiperef05_part.l0] at h
 | k + 1 => by
  have ih0 := reedpiperef05_part.mono_l k
  ·intro y0 y1 y2 y3
   unfold reedpiperef05_part.l0
   repeat' first
   | (with_reducible exact ih0 _ _ _ _)
   | (with_reducible exact LeO.refl _)
   | (with_reducible exact LeO.none _)
   | (with_reducible refine LeO.ite ?_ ?_)
   | (with_reducible refine LeO.bind ?_ (fun _ => ?_))
   | exact ih0 _ _ _ _
   | exact LeO.none _
   | refine LeO.ite ?_ ?_
   | refine LeO.bind ?_ (fun _ => ?_)
theorem reedpiperef05_part.mono : ∀ a0 a1 k, LeO (reedpiperef05_part.f k a0 a1) (reedpiperef05_part.f (k + 1) a0 a1) := by
 intro a0 a1 k
 have ih0 := reedpiperef05_part.mono_l k
 unfold reedpiperef05_part.f
 repeat' first
   | (with_reducible exact ih0 _ _ _ _)
   | (with_reducible exact LeO.refl _)
   | (with_reducible exact LeO.none _)
   | (with_reducible refine LeO.ite ?_ ?_)
   | (with_reducible refine LeO.bind ?_ (fun _ => ?_))
   | exact ih0 _ _ _ _
   | exact LeO.none _
   | refine LeO.ite ?_ ?_
   | refine LeO.bind ?_ (fun _ => ?_)
set_option maxHeartbeats 8000000 in
set_option maxRecDepth 100000 in
theorem reedpiperef05_part.calls (k : Nat) (a0 : Int) (a1 : Int) (r : Int) (w : World) (h : reedpiperef05_part.f k a0 a1 = some r) :
  Calls Try.prog 125 #[.int .i64 a0, .int .i64 a1] w fun e w' => e = .returned (.int .i64 r) ∧ Drawn0 w w' := by
 have H : (reedpiperef05_part.l0 k a0 a1 0 0) = some r := h
 clear h
 have H' := Aside0.mk H
 clear H
 go_enter Try.func125, Try.ntmps125
 go_wp2
 go_loopg [0, 5, 6] k (fun kq v0 v5 v6 w' => ∃ (x0_1 : Int) (x5_1 : Int) (x6_1 : Int), v0 = .int .i64 x0_1 ∧ v5 = .int .i64 x5_1 ∧ v6 = .int .i64 x6_1 ∧ Aside0 (reedpiperef05_part.l0 kq x0_1 a1 x5_1 x6_1 = some r) ∧ Aside0 (kq ≤ k) ∧ Drawn0 w w')
 case atStart => exact ⟨(a0), (0), (0), (by first | rfl | (simp; done) | (simp [*]; done)), (by first | rfl | (simp; done) | (simp [*]; done)), (by first | rfl | (simp; done) | (simp [*]; done)), H', ⟨Nat.le_refl _⟩, by repeat (first | exact Drawn0.refl _ | apply Drawn0.step)⟩
 case round =>
  clear H'
  try clear c1
  try clear p2
  obtain ⟨x0_1, x5_1, x6_1, rfl, rfl, rfl, HA, HK1, ⟨m1, rfl⟩⟩ := hrel
  cases gk with
  | zero => exact absurd HA.out (by simp [reedpiperef05_part.l0])
  | succ k1 =>
   have H := HA.out
   clear HA
   simp only [reedpiperef05_part.l0] at H
   by_cases c3 : x6_1 < 44
   ·rw [if_pos c3] at H
    have c3b0 : decide (x6_1 < 44) = true := decide_eq_true c3
    clear c3
    by_cases c4 : (wrap64 (2 * x0_1)) ≥ a1
    ·rw [if_pos c4] at H
     have c4b0 : decide (a1 ≤ (wrap64 (2 * x0_1))) = true := decide_eq_true c4
     clear c4
     have H' := Aside0.mk H
     clear H
     go_wp2
     go_roundg k1
     case measure => have := HK1.out; omega
     case rel => exact ⟨(wrap64 ((wrap64 (2 * x0_1)) - a1)), (wrap64 ((wrap64 (2 * x5_1)) + 1)), (wrap64 (x6_1 + 1)), (by first | rfl | (simp; done) | (simp [*]; done)), (by first | rfl | (simp; done) | (simp [*]; done)), (by first | rfl | (simp; done) | (simp [*]; done)), H', ⟨by have := HK1.out; omega⟩, by repeat (first | exact Drawn0.refl _ | apply Drawn0.step)⟩
    ·rw [if_neg c4] at H
     have c4b0 : decide (a1 ≤ (wrap64 (2 * x0_1))) = false := decide_eq_false c4
     clear c4
     have H' := Aside0.mk H
     clear H
     go_wp2
     go_roundg k1
     case measure => have := HK1.out; omega
     case rel => exact ⟨(wrap64 (2 * x0_1)), (wrap64 (2 * x5_1)), (wrap64 (x6_1 + 1)), (by first | rfl | (simp; done) | (simp [*]; done)), (by first | rfl | (simp; done) | (simp [*]; done)), (by first | rfl | (simp; done) | (simp [*]; done)), H', ⟨by have := HK1.out; omega⟩, by repeat (first | exact Drawn0.refl _ | apply Drawn0.step)⟩
   ·rw [if_neg c3] at H
    have c3b0 : decide (x6_1 < 44) = false := decide_eq_false c3
    clear c3
    obtain rfl := Option.some.inj H
    go_wp2
    go_ret
    exact ⟨by first | rfl | (simp; done) | (simp [*]; done), by repeat (first | exact Drawn0.refl _ | apply Drawn0.step)⟩

end Go.Proofs.Ytpoppdaaodmicaa.Q

namespace Go.Proofs.Ytpoppdaaodmicaa.Q
open Go.RowKit Go.Proofs.YtpoppdaaodmicaaW.PrintWords Go.Proofs.YtpoppdaaodmicaaW.PrintLast Go.Proofs.YtpoppdaaodmicaaW.PrintMore
attribute [local go_sem] max2_int min2_int max_two min_two max_three min_three max_four min_four   -- for this text's walks alone
set_option linter.unusedVariables false
set_option linter.unusedSimpArgs false

mutual
def reedpiperef05_Kbd.l0 : Nat → Int → Int → Int → Int → Option (List Int)
 | 0, _, _, _, _ => none
 | k + 1, x0, x1, x5, x6 => if x6 ≤ x0 then ((reedpiperef05_weight.f k x6 x0 x1).bind fun t358 => (reedpiperef05_Kbd.l0 k x0 x1 (wrap64 (x5 + t358)) (wrap64 (x6 + 1)))) else (reedpiperef05_Kbd.l1 k x0 x1 x5 ([] : List Int) 0 0)
def reedpiperef05_Kbd.l1 : Nat → Int → Int → Int → List Int → Int → Int → Option (List Int)
 | 0, _, _, _, _, _, _ => none
 | k + 1, x0, x1, x5, x7, x8, x9 => if x9 < x0 then ((reedpiperef05_weight.f k x9 x0 x1).bind fun t359 => ((reedpiperef05_part.f k (wrap64 (x8 + t359)) x5).bind fun t360 => ((reedpiperef03_Root.f k t360).bind fun t361 => (if x7.length < 17592186044416 then (reedpiperef05_Kbd.l1 k x0 x1 x5 (x7 ++ [t361]) (wrap64 (x8 + t359)) (wrap64 (x9 + 1))) else (none))))) else (some x7)
end
def reedpiperef05_Kbd.f (k : Nat) (a0 : Int) (a1 : Int) : Option (List Int) := reedpiperef05_Kbd.l0 k a0 a1 0 0
set_option maxHeartbeats 8000000 in
set_option maxRecDepth 100000 in
theorem reedpiperef05_Kbd.calls (k : Nat) (a0 : Int) (a1 : Int) (r : List Int) (w : World) (h : reedpiperef05_Kbd.f k a0 a1 = some r) :
  Calls Try.prog 109 #[.int .i64 a0, .int .i64 a1] w fun e w' => ∃ v0_ : Value, e = .returned (v0_) ∧ Kd.R (Kd.int .i64) 3 w' w.heap.size (fun _ => True) v0_ r ∧ Below w.heap.size w w' := by
 have HB := Aside0.mk (Below.refl w.heap.size w)
 have H : (reedpiperef05_Kbd.l0 k a0 a1 0 0) = some r := h
 clear h
 have H' := Aside0.mk H
 clear H
 go_enter Try.func109, Try.ntmps109
 go_wp2
 go_loopg [5, 6] k (fun kq v5 v6 w' => ∃ (x5_1 : Int) (x6_1 : Int), v5 = .int .i64 x5_1 ∧ v6 = .int .i64 x6_1 ∧ Aside0 (reedpiperef05_Kbd.l0 kq a0 a1 x5_1 x6_1 = some r) ∧ Aside0 (kq ≤ k) ∧ Aside0 (Below w.heap.size w w'))
 case atStart => exact ⟨(0), (0), (by first | rfl | (simp; done) | (simp [*]; done)), (by first | rfl | (simp; done) | (simp [*]; done)), H', ⟨Nat.le_refl _⟩, ⟨by repeat (first | (with_reducible first | exact HB.out | apply below_alloc | apply pw_below_drewN | apply below_drew1) | exact HB.out)⟩⟩
 case round =>
  clear H'
  try clear c1
  try clear p2
  obtain ⟨x5_1, x6_1, rfl, rfl, HA, HK1, HB⟩ := hrel
  cases gk with
  | zero => exact absurd HA.out (by simp [reedpiperef05_Kbd.l0])
  | succ k1 =>
   have H := HA.out
   clear HA
   simp only [reedpiperef05_Kbd.l0] at H
   by_cases c3 : x6_1 ≤ a0
   ·rw [if_pos c3] at H
    have c3b0 : decide (x6_1 ≤ a0) = true := decide_eq_true c3
    clear c3
    replace H := Option.bind_eq_some_iff.mp H
    obtain ⟨t358, A40, H⟩ := H
    replace H : (reedpiperef05_Kbd.l0 k1 a0 a1 (wrap64 (x5_1 + t358)) (wrap64 (x6_1 + 1))) = some r := H
    have A4 := Aside0.mk A40
    clear A40
    have H' := Aside0.mk H
    clear H
    go_wp2_with (first | ((with_reducible refine gate_callee (f := 123) rfl ?_); refine goesL_ (some 19) rfl rfl Try.func123 (by kernel_rfl) rfl #[.int .i64 x6_1, .int .i64 a0, .int .i64 a1] rfl (by (try simp only [List.map_toArray, List.map_cons, List.map_nil]); first | done | rfl | (simp only [List.length_drop, List.length_take]; rfl)) ?_; (with_reducible refine (reedpiperef05_weight.calls k1 x6_1 a0 a1 t358 _ A4.out).mono ?_); rintro e w' ⟨rfl, ⟨nd, rfl⟩⟩; refine ⟨_, rfl, ?_⟩))
    go_roundg k1
    case measure => have := HK1.out; omega
    case rel => exact ⟨(wrap64 (x5_1 + t358)), (wrap64 (x6_1 + 1)), (by first | rfl | (simp; done) | (simp [*]; done)), (by first | rfl | (simp; done) | (simp [*]; done)), H', ⟨by have := HK1.out; omega⟩, ⟨by repeat (first | (with_reducible first | exact HB.out | apply below_alloc | apply pw_below_drewN | apply below_drew1) | exact HB.out)⟩⟩
   ·rw [if_neg c3] at H
    have c3b0 : decide (x6_1 ≤ a0) = false := decide_eq_false c3
    clear c3
    have H' := Aside0.mk H
    clear H
    go_wp2
    go_loopg [7, 8, 9] k1 (fun kq v7 v8 v9 w' => ∃ (x7_2 : List Int) (x8_2 : Int) (x9_2 : Int), v8 = .int .i64 x8_2 ∧ v9 = .int .i64 x9_2 ∧ Aside0 (reedpiperef05_Kbd.l1 kq a0 a1 x5_1 x7_2 x8_2 x9_2 = some r) ∧ Aside0 (kq ≤ k1) ∧ Aside0 (Kd.R (Kd.int .i64) 3 w' w.heap.size (fun _ => True) v7 x7_2) ∧ Aside0 (Below w.heap.size w w'))
    case atStart => exact ⟨(([] : List Int)), (0), (0), (by first | rfl | (simp; done) | (simp [*]; done)), (by first | rfl | (simp; done) | (simp [*]; done)), H', ⟨Nat.le_refl _⟩, ⟨by first | exact Kd.R_nil _ _ _ _ _ | exact Kd.N_nil _ _ _ _ _ | exact Kd.V_nil _ _ _ _ _ | exact Kd.Q_nil _ _ _ _ _ | exact Kd.S_nil _ _ _ _ _⟩, ⟨by repeat (first | (with_reducible first | exact HB.out | apply below_alloc | apply pw_below_drewN | apply below_drew1) | exact HB.out)⟩⟩
    case round =>
     clear H'
     try clear c1
     try clear p2
     try clear c3
     try clear c3b0
     try clear p2
     obtain ⟨x7_2, x8_2, x9_2, rfl, rfl, HA, HK2, HO_7, HB⟩ := hrel
     cases gk with
     | zero => exact absurd HA.out (by simp [reedpiperef05_Kbd.l1])
     | succ k2 =>
      have H := HA.out
      clear HA
      simp only [reedpiperef05_Kbd.l1] at H
      by_cases c5 : x9_2 < a0
      ·rw [if_pos c5] at H
       have c5b0 : decide (x9_2 < a0) = true := decide_eq_true c5
       clear c5
       replace H := Option.bind_eq_some_iff.mp H
       obtain ⟨t359, A60, H⟩ := H
       replace H : ((reedpiperef05_part.f k2 (wrap64 (x8_2 + t359)) x5_1).bind fun t360 => ((reedpiperef03_Root.f k2 t360).bind fun t361 => (if x7_2.length < 17592186044416 then (reedpiperef05_Kbd.l1 k2 a0 a1 x5_1 (x7_2 ++ [t361]) (wrap64 (x8_2 + t359)) (wrap64 (x9_2 + 1))) else (none)))) = some r := H
       have A6 := Aside0.mk A60
       clear A60
       replace H := Option.bind_eq_some_iff.mp H
       obtain ⟨t360, A70, H⟩ := H
       replace H : ((reedpiperef03_Root.f k2 t360).bind fun t361 => (if x7_2.length < 17592186044416 then (reedpiperef05_Kbd.l1 k2 a0 a1 x5_1 (x7_2 ++ [t361]) (wrap64 (x8_2 + t359)) (wrap64 (x9_2 + 1))) else (none))) = some r := H
       have A7 := Aside0.mk A70
       clear A70
       replace H := Option.bind_eq_some_iff.mp H
       obtain ⟨t361, A80, H⟩ := H
       replace H : (if x7_2.length < 17592186044416 then (reedpiperef05_Kbd.l1 k2 a0 a1 x5_1 (x7_2 ++ [t361]) (wrap64 (x8_2 + t359)) (wrap64 (x9_2 + 1))) else (none)) = some r := H
       have A8 := Aside0.mk A80
       clear A80
       by_cases c9 : x7_2.length < 17592186044416
       ·rw [if_pos c9] at H
        have LMc9 := Aside0.mk c9
        clear c9
        obtain ⟨y362, hy362⟩ : ∃ y_ : List Int, y_ = (x7_2 ++ [t361]) := ⟨_, rfl⟩
        replace H : (reedpiperef05_Kbd.l1 k2 a0 a1 x5_1 y362 (wrap64 (x8_2 + t359)) (wrap64 (x9_2 + 1))) = some r := by first | (rw [hy362]; with_reducible exact H) | (have H2_ := (Option.bind_some _ _).symm.trans H; rw [hy362]; with_reducible exact H2_) | (have H2_ := (Option.bind_some _ _).symm.trans H; with_reducible exact H2_) | with_reducible exact H | (rw [hy362]; exact H) | exact H
        have Ny362 := Aside0.mk hy362
        clear hy362
        have H' := Aside0.mk H
        clear H
        go_wp2_with (first | ((with_reducible refine gate_callee (f := 123) rfl ?_); refine goesL_ (some 30) rfl rfl Try.func123 (by kernel_rfl) rfl #[.int .i64 x9_2, .int .i64 a0, .int .i64 a1] rfl (by (try simp only [List.map_toArray, List.map_cons, List.map_nil]); first | done | rfl | (simp only [List.length_drop, List.length_take]; rfl)) ?_; (with_reducible refine (reedpiperef05_weight.calls k2 x9_2 a0 a1 t359 _ A6.out).mono ?_); rintro e w' ⟨rfl, ⟨nd, rfl⟩⟩; refine ⟨_, rfl, ?_⟩) | ((with_reducible refine gate_callee (f := 125) rfl ?_); refine goesL_ (some 35) rfl rfl Try.func125 (by kernel_rfl) rfl #[.int .i64 (wrap64 (x8_2 + t359)), .int .i64 x5_1] rfl (by (try simp only [List.map_toArray, List.map_cons, List.map_nil]); first | done | rfl | (simp only [List.length_drop, List.length_take]; rfl)) ?_; (with_reducible refine (reedpiperef05_part.calls k2 (wrap64 (x8_2 + t359)) x5_1 t360 _ A7.out).mono ?_); rintro e w' ⟨rfl, ⟨nd, rfl⟩⟩; refine ⟨_, rfl, ?_⟩) | ((with_reducible refine gate_callee (f := 124) rfl ?_); refine goesL_ (some 36) rfl rfl Try.func124 (by kernel_rfl) rfl #[.int .i64 t360] rfl (by (try simp only [List.map_toArray, List.map_cons, List.map_nil]); first | done | rfl | (simp only [List.length_drop, List.length_take]; rfl)) ?_; (with_reducible refine (reedpiperef03_Root.calls k2 t360 t361 _ A8.out).mono ?_); rintro e w' ⟨rfl, ⟨nd, rfl⟩⟩; refine ⟨_, rfl, ?_⟩) | ((with_reducible refine gate_builtin (b := .append) (xs := #[.tmp 32, .tmp 37]) rfl ?_); at_builtin; refine Kd.R_append (Kd.int .i64) (w0 := w) w.heap.size rfl (.tmp 32) (.tmp 37) 29 3 (.int .i64 0) 8 rfl Try.underlying29 info3 rfl (by decide) (by omega) u7 x7_2 t361 [.int .i64 t361] (fun _ => True) (fun _ => False) rfl rfl ?aP (fun _ hk => hk.elim) ?aF ?aO ?aB ?aS ?aL ?_; (case aP => exact rfl); (case aB => exact (by repeat (first | (with_reducible first | exact HB.out | apply below_alloc | apply pw_below_drewN | apply below_drew1) | exact HB.out))); (case aF => exact (fun _ _ => trivial)); (case aO => exact (by (with_reducible repeat (first | apply Kd.R_alloc | apply Kd.R_drewN | apply Kd.R_drew)); exact HO_7.out)); (case aS => exact (below_size (by repeat (first | (with_reducible first | exact HB.out | apply below_alloc | apply pw_below_drewN | apply below_drew1) | exact HB.out)))); (case aL => have := LMc9.out; omega); intro v363 w10 ho hb hg hat; rw [← Ny362.out] at ho; have n0_ := Aside0.mk (hb); have n1_ := Aside0.mk (ho); clear HB; clear HO_7; have HB := n0_; have HO364 := n1_; clear n0_ n1_; clear ho hb hg hat))
        go_roundg k2
        case measure => have := HK1.out; have := HK2.out; omega
        case rel => exact ⟨(y362), (wrap64 (x8_2 + t359)), (wrap64 (x9_2 + 1)), (by first | rfl | (simp; done) | (simp [*]; done)), (by first | rfl | (simp; done) | (simp [*]; done)), H', ⟨by have := HK1.out; have := HK2.out; omega⟩, ⟨by (with_reducible repeat (first | apply Kd.R_alloc | apply Kd.R_drewN | apply Kd.R_drew)); exact HO364.out⟩, ⟨by repeat (first | (with_reducible first | exact HB.out | apply below_alloc | apply pw_below_drewN | apply below_drew1) | exact HB.out)⟩⟩
       ·rw [if_neg c9] at H
        exact absurd H (by simp)
      ·rw [if_neg c5] at H
       have c5b0 : decide (x9_2 < a0) = false := decide_eq_false c5
       clear c5
       obtain rfl := Option.some.inj H
       go_wp2
       go_ret
       exact ⟨_, by first | rfl | (simp [errW_none, errW_some] <;> rfl) | (simp [*, errW_none, errW_some] <;> rfl), by (with_reducible repeat (first | apply Kd.R_alloc | apply Kd.R_drewN | apply Kd.R_drew)); exact HO_7.out, by repeat (first | (with_reducible first | exact HB.out | apply below_alloc | apply pw_below_drewN | apply below_drew1) | exact HB.out)⟩

end Go.Proofs.Ytpoppdaaodmicaa.Q

namespace Go.Proofs.Ytpoppdaaodmicaa.Q
open Go.RowKit Go.Proofs.YtpoppdaaodmicaaW.PrintWords Go.Proofs.YtpoppdaaodmicaaW.PrintLast Go.Proofs.YtpoppdaaodmicaaW.PrintMore
attribute [local go_sem] max2_int min2_int max_two min_two max_three min_three max_four min_four   -- for this text's walks alone
set_option linter.unusedVariables false
set_option linter.unusedSimpArgs false

mutual
def reedpiperef05_Values.j0 : Nat → Int → Int → Int → Int → Option (List Int)
 | 0, _, _, _, _ => none
 | k + 1, x0, x5, x6, x7 => if x0 = 1 then ((reedpiperef05_Kbd.f k x5 x7).bind fun t365 => (some t365)) else (reedpiperef05_Values.l0 k x5 x6 ([] : List Int) 0)
def reedpiperef05_Values.l0 : Nat → Int → Int → List Int → Int → Option (List Int)
 | 0, _, _, _, _ => none
 | k + 1, x5, x6, x8, x9 => if x9 < x5 then ((reedpiperef04_Sin.f k (wrap64 ((wrap64 ((wrap64 (2 * x9)) + 1)) * x6))).bind fun t368 => ((reedpiperef03_Down.f t368 4).bind fun t369 => (if x8.length < 17592186044416 then (reedpiperef05_Values.l0 k x5 x6 (x8 ++ [t369]) (wrap64 (x9 + 1))) else (none)))) else (some x8)
end
def reedpiperef05_Values.f (k : Nat) (a0 : Int) (a1 : Bool) : Option (List Int) := if a1 = true then (reedpiperef05_Values.j0 k a0 32 8 6) else (reedpiperef05_Values.j0 k a0 256 1 4)
set_option maxHeartbeats 8000000 in
set_option maxRecDepth 100000 in
theorem reedpiperef05_Values.calls (k : Nat) (a0 : Int) (a1 : Bool) (r : List Int) (w : World) (h : reedpiperef05_Values.f k a0 a1 = some r) :
  Calls Try.prog 80 #[.int .u8 a0, .bool a1] w fun e w' => ∃ v0_ : Value, e = .returned (v0_) ∧ Kd.R (Kd.int .i64) 3 w' w.heap.size (fun _ => True) v0_ r ∧ Below w.heap.size w w' := by
 have HB := Aside0.mk (Below.refl w.heap.size w)
 have H : (if a1 = true then (reedpiperef05_Values.j0 k a0 32 8 6) else (reedpiperef05_Values.j0 k a0 256 1 4)) = some r := h
 clear h
 have HC3 := Aside0.mk H
 clear H
 go_enter Try.func80, Try.ntmps80
 go_upto_if 10 with (fail)
 go_cut [5, 6, 7] (fun v5 v6 v7 wc => ∃ (kq : Nat) (x5_2 : Int) (x6_2 : Int) (x7_2 : Int), v5 = .int .i64 x5_2 ∧ v6 = .int .i64 x6_2 ∧ v7 = .int .i64 x7_2 ∧ Aside0 (reedpiperef05_Values.j0 kq a0 x5_2 x6_2 x7_2 = some r) ∧ Aside0 (kq ≤ k) ∧ Aside0 (Below w.heap.size w wc))
 case first =>
  have H := HC3.out
  clear HC3
  by_cases c4 : a1 = true
  ·subst c4
   have H1 : (reedpiperef05_Values.j0 k a0 32 8 6) = some r := by rw [if_pos rfl] at H; exact H
   clear H
   have H := H1
   clear H1
   have H' := Aside0.mk H
   clear H
   go_wp2
   go_meet
   case rel => exact ⟨_, (32), (8), (6), (by first | rfl | (simp; done) | (simp [*]; done)), (by first | rfl | (simp; done) | (simp [*]; done)), (by first | rfl | (simp; done) | (simp [*]; done)), H', ⟨by first | omega | exact Nat.le_refl _⟩, ⟨by repeat (first | (with_reducible first | exact HB.out | apply below_alloc | apply pw_below_drewN | apply below_drew1) | exact HB.out)⟩⟩
  ·replace c4 := Bool.eq_false_iff.mpr c4
   subst c4
   have H1 : (reedpiperef05_Values.j0 k a0 256 1 4) = some r := by rw [if_neg (show ¬ (false = true) by decide)] at H; exact H
   clear H
   have H := H1
   clear H1
   have H' := Aside0.mk H
   clear H
   go_wp2
   go_meet
   case rel => exact ⟨_, (256), (1), (4), (by first | rfl | (simp; done) | (simp [*]; done)), (by first | rfl | (simp; done) | (simp [*]; done)), (by first | rfl | (simp; done) | (simp [*]; done)), H', ⟨by first | omega | exact Nat.le_refl _⟩, ⟨by repeat (first | (with_reducible first | exact HB.out | apply below_alloc | apply pw_below_drewN | apply below_drew1) | exact HB.out)⟩⟩
 case rest =>
  clear HC3
  try clear p2
  try clear c4
  obtain ⟨kq, x5_2, x6_2, x7_2, rfl, rfl, rfl, HA, HJ2, HB⟩ := hcut
  cases kq with
  | zero => exact absurd HA.out (by simp [reedpiperef05_Values.j0])
  | succ kj2 =>
   have H := HA.out
   clear HA
   simp only [reedpiperef05_Values.j0] at H
   by_cases c5 : a0 = 1
   ·rw [if_pos c5] at H
    have c5b0 : (a0 == 1) = true := beq_iff_eq.mpr c5
    have c5b1 : (a0 != 1) = false := bne_eq_false_iff_eq.mpr c5
    clear c5
    replace H := Option.bind_eq_some_iff.mp H
    obtain ⟨t365, A60, H⟩ := H
    replace H : (some t365) = some r := H
    have A6 := Aside0.mk A60
    clear A60
    obtain rfl := Option.some.inj H
    go_wp2_with (first | ((with_reducible refine gate_callee (f := 109) rfl ?_); refine goesL_ (some 15) rfl rfl Try.func109 (by kernel_rfl) rfl #[.int .i64 x5_2, .int .i64 x7_2] rfl (by (try simp only [List.map_toArray, List.map_cons, List.map_nil]); first | done | rfl | (simp only [List.length_drop, List.length_take]; rfl)) ?_; (with_reducible refine (reedpiperef05_Kbd.calls kj2 x5_2 x7_2 t365 _ A6.out).mono ?_); rintro e w7 ⟨v366, rfl, ho0, hb⟩; refine ⟨_, rfl, ?_⟩; have n0_ := Aside0.mk (Kd.R_lower ho0 (below_size (by repeat (first | (with_reducible first | exact HB.out | apply below_alloc | apply pw_below_drewN | apply below_drew1) | exact HB.out)))); have n1_ := Aside0.mk (below_step (by repeat (first | (with_reducible first | exact HB.out | apply below_alloc | apply pw_below_drewN | apply below_drew1) | exact HB.out)) hb); clear HB; have HO367 := n0_; have HB := n1_; clear n0_ n1_; (try clear hb); (try clear hb2); (try clear hk); (try clear hi); (try clear ho0)))
    go_ret
    exact ⟨_, by first | rfl | (simp [errW_none, errW_some] <;> rfl) | (simp [*, errW_none, errW_some] <;> rfl), by (with_reducible repeat (first | apply Kd.R_alloc | apply Kd.R_drewN | apply Kd.R_drew)); exact HO367.out, by repeat (first | (with_reducible first | exact HB.out | apply below_alloc | apply pw_below_drewN | apply below_drew1) | exact HB.out)⟩
   ·rw [if_neg c5] at H
    have c5b0 : (a0 == 1) = false := beq_eq_false_iff_ne.mpr c5
    have c5b1 : (a0 != 1) = true := bne_iff_ne.mpr c5
    have H' := Aside0.mk H
    clear H
    go_wp2
    go_loopg [8, 9] kj2 (fun kq v8 v9 w' => ∃ (x8_2 : List Int) (x9_2 : Int), v9 = .int .i64 x9_2 ∧ Aside0 (reedpiperef05_Values.l0 kq x5_2 x6_2 x8_2 x9_2 = some r) ∧ Aside0 (kq ≤ kj2) ∧ Aside0 (Kd.R (Kd.int .i64) 3 w' w.heap.size (fun _ => True) v8 x8_2) ∧ Aside0 (Below w.heap.size w w'))
    case atStart => exact ⟨(([] : List Int)), (0), (by first | rfl | (simp; done) | (simp [*]; done)), H', ⟨Nat.le_refl _⟩, ⟨by first | exact Kd.R_nil _ _ _ _ _ | exact Kd.N_nil _ _ _ _ _ | exact Kd.V_nil _ _ _ _ _ | exact Kd.Q_nil _ _ _ _ _ | exact Kd.S_nil _ _ _ _ _⟩, ⟨by repeat (first | (with_reducible first | exact HB.out | apply below_alloc | apply pw_below_drewN | apply below_drew1) | exact HB.out)⟩⟩
    case round =>
     clear H'
     try clear c1
     try clear p2
     try clear c4
     try clear c5
     try clear c5b0
     try clear c5b1
     try clear p2
     obtain ⟨x8_2, x9_2, rfl, HA, HK2, HO_8, HB⟩ := hrel
     cases gk with
     | zero => exact absurd HA.out (by simp [reedpiperef05_Values.l0])
     | succ k2 =>
      have H := HA.out
      clear HA
      simp only [reedpiperef05_Values.l0] at H
      by_cases c8 : x9_2 < x5_2
      ·rw [if_pos c8] at H
       have c8b0 : decide (x9_2 < x5_2) = true := decide_eq_true c8
       clear c8
       replace H := Option.bind_eq_some_iff.mp H
       obtain ⟨t368, A90, H⟩ := H
       replace H : ((reedpiperef03_Down.f t368 4).bind fun t369 => (if x8_2.length < 17592186044416 then (reedpiperef05_Values.l0 k2 x5_2 x6_2 (x8_2 ++ [t369]) (wrap64 (x9_2 + 1))) else (none))) = some r := H
       have A9 := Aside0.mk A90
       clear A90
       replace H := Option.bind_eq_some_iff.mp H
       obtain ⟨t369, A100, H⟩ := H
       replace H : (if x8_2.length < 17592186044416 then (reedpiperef05_Values.l0 k2 x5_2 x6_2 (x8_2 ++ [t369]) (wrap64 (x9_2 + 1))) else (none)) = some r := H
       have A10 := Aside0.mk A100
       clear A100
       by_cases c11 : x8_2.length < 17592186044416
       ·rw [if_pos c11] at H
        have LMc11 := Aside0.mk c11
        clear c11
        obtain ⟨y370, hy370⟩ : ∃ y_ : List Int, y_ = (x8_2 ++ [t369]) := ⟨_, rfl⟩
        replace H : (reedpiperef05_Values.l0 k2 x5_2 x6_2 y370 (wrap64 (x9_2 + 1))) = some r := by first | (rw [hy370]; with_reducible exact H) | (have H2_ := (Option.bind_some _ _).symm.trans H; rw [hy370]; with_reducible exact H2_) | (have H2_ := (Option.bind_some _ _).symm.trans H; with_reducible exact H2_) | with_reducible exact H | (rw [hy370]; exact H) | exact H
        have Ny370 := Aside0.mk hy370
        clear hy370
        have H' := Aside0.mk H
        clear H
        go_wp2_with (first | ((with_reducible refine gate_callee (f := 33) rfl ?_); refine goesL_ (some 27) rfl rfl Try.func33 (by kernel_rfl) rfl #[.int .i64 (wrap64 ((wrap64 ((wrap64 (2 * x9_2)) + 1)) * x6_2))] rfl (by (try simp only [List.map_toArray, List.map_cons, List.map_nil]); first | done | rfl | (simp only [List.length_drop, List.length_take]; rfl)) ?_; (with_reducible refine (reedpiperef04_Sin.calls k2 (wrap64 ((wrap64 ((wrap64 (2 * x9_2)) + 1)) * x6_2)) t368 _ A9.out).mono ?_); rintro e w' ⟨rfl, ⟨nd, rfl⟩⟩; refine ⟨_, rfl, ?_⟩) | ((with_reducible refine gate_callee (f := 63) rfl ?_); refine goesL_ (some 28) rfl rfl Try.func63 (by kernel_rfl) rfl #[.int .i64 t368, .int .i64 4] rfl (by (try simp only [List.map_toArray, List.map_cons, List.map_nil]); first | done | rfl | (simp only [List.length_drop, List.length_take]; rfl)) ?_; (with_reducible refine (reedpiperef03_Down.calls t368 4 t369 _ A10.out).mono ?_); rintro e w' ⟨rfl, ⟨nd, rfl⟩⟩; refine ⟨_, rfl, ?_⟩) | ((with_reducible refine gate_builtin (b := .append) (xs := #[.tmp 21, .tmp 29]) rfl ?_); at_builtin; refine Kd.R_append (Kd.int .i64) (w0 := w) w.heap.size rfl (.tmp 21) (.tmp 29) 29 3 (.int .i64 0) 8 rfl Try.underlying29 info3 rfl (by decide) (by omega) u8 x8_2 t369 [.int .i64 t369] (fun _ => True) (fun _ => False) rfl rfl ?aP (fun _ hk => hk.elim) ?aF ?aO ?aB ?aS ?aL ?_; (case aP => exact rfl); (case aB => exact (by repeat (first | (with_reducible first | exact HB.out | apply below_alloc | apply pw_below_drewN | apply below_drew1) | exact HB.out))); (case aF => exact (fun _ _ => trivial)); (case aO => exact (by (with_reducible repeat (first | apply Kd.R_alloc | apply Kd.R_drewN | apply Kd.R_drew)); exact HO_8.out)); (case aS => exact (below_size (by repeat (first | (with_reducible first | exact HB.out | apply below_alloc | apply pw_below_drewN | apply below_drew1) | exact HB.out)))); (case aL => have := LMc11.out; omega); intro v371 w12 ho hb hg hat; rw [← Ny370.out] at ho; have n0_ := Aside0.mk (hb); have n1_ := Aside0.mk (ho); clear HB; clear HO_8; have HB := n0_; have HO372 := n1_; clear n0_ n1_; clear ho hb hg hat))
        go_roundg k2
        case measure => have := HJ2.out; have := HK2.out; omega
        case rel => exact ⟨(y370), (wrap64 (x9_2 + 1)), (by first | rfl | (simp; done) | (simp [*]; done)), H', ⟨by have := HJ2.out; have := HK2.out; omega⟩, ⟨by (with_reducible repeat (first | apply Kd.R_alloc | apply Kd.R_drewN | apply Kd.R_drew)); exact HO372.out⟩, ⟨by repeat (first | (with_reducible first | exact HB.out | apply below_alloc | apply pw_below_drewN | apply below_drew1) | exact HB.out)⟩⟩
       ·rw [if_neg c11] at H
        exact absurd H (by simp)
      ·rw [if_neg c8] at H
       have c8b0 : decide (x9_2 < x5_2) = false := decide_eq_false c8
       clear c8
       obtain rfl := Option.some.inj H
       go_wp2
       go_ret
       exact ⟨_, by first | rfl | (simp [errW_none, errW_some] <;> rfl) | (simp [*, errW_none, errW_some] <;> rfl), by (with_reducible repeat (first | apply Kd.R_alloc | apply Kd.R_drewN | apply Kd.R_drew)); exact HO_8.out, by repeat (first | (with_reducible first | exact HB.out | apply below_alloc | apply pw_below_drewN | apply below_drew1) | exact HB.out)⟩

end Go.Proofs.Ytpoppdaaodmicaa.Q

namespace Go.Proofs.Ytpoppdaaodmicaa.Q
open Go.RowKit Go.Proofs.YtpoppdaaodmicaaW.PrintWords Go.Proofs.YtpoppdaaodmicaaW.PrintLast Go.Proofs.YtpoppdaaodmicaaW.PrintMore
attribute [local go_sem] max2_int min2_int max_two min_two max_three min_three max_four min_four   -- for this text's walks alone
set_option linter.unusedVariables false
set_option linter.unusedSimpArgs false

end Go.Proofs.Ytpoppdaaodmicaa.Q
