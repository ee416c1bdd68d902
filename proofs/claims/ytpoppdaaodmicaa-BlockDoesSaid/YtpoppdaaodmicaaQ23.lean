-- Written by a program of this session's (wip/mk.py, over the kit's print.py); Lean checks it.
import Derived.Test.YtpoppdaaodmicaaQ0
import Derived.Test.YtpoppdaaodmicaaBRange
import Derived.Test.YtpoppdaaodmicaaQ50
import Derived.Test.YtpoppdaaodmicaaBBlock
import Derived.Test.YtpoppdaaodmicaaBSynth
import Derived.Test.YtpoppdaaodmicaaQ55
import Derived.Test.YtpoppdaaodmicaaQ56
import Derived.Test.YtpoppdaaodmicaaQ57
namespace Go.Proofs.Ytpoppdaaodmicaa.Q
open Go.RowKit Go.Proofs.YtpoppdaaodmicaaW.PrintWords Go.Proofs.YtpoppdaaodmicaaW.PrintLast Go.Proofs.YtpoppdaaodmicaaW.PrintMore
attribute [local go_sem] max2_int min2_int max_two min_two max_three min_three max_four min_four   -- for this text's walks alone
set_option linter.unusedVariables false
set_option linter.unusedSimpArgs false

/-! ### reedpipelaw12_BlockDoes: function 23 -/
mutual
def reedpipelaw12_BlockDoes.j0 : Nat → Int → Int → Int → List Int → List Int → Bool → Option (Bool)
  | 0, _, _, _, _, _, _ => none
  | k + 1, x0, x1, x2, x3, x4, x35 => if x35 = true then (some true) else (if ([] : List Int).length + x3.length < 17592186044416 then ((some (([] : List Int) ++ x3 : List Int)).bind fun y851 => (if ([] : List Int).length + x4.length < 17592186044416 then ((some (([] : List Int) ++ x4 : List Int)).bind fun y854 => ((block_Window.f k x0 x1 x2).bind fun bt857 => ((reedpiperef12_Window.f k x0 x1 x2).bind fun bt861 => ((block_Analyse.f x0 x1 x2 y851).bind fun bt865 => ((reedpiperef12_Analyse.f k x0 x1 x2 x3).bind fun bt869 => ((block_Synth.f x0 x1 x2 y854).bind fun bt873 => ((reedpiperef12_Synth.f k x0 x1 x2 x4).bind fun bt877 => ((reedpiperef11_Same.f k bt857.1 bt861.1).bind fun t881 => (if t881 = true then (if bt857.2 = bt861.2 then ((reedpiperef11_Same.f k bt865.1 bt869.1).bind fun t882 => (if t882 = true then (if bt865.2 = bt869.2 then ((reedpiperef11_Same.f k bt873.1 bt877.1).bind fun t883 => (if t883 = true then (reedpipelaw12_BlockDoes.j1 k x3 x4 y851 y854 bt857.1 bt865.1 bt873.1 (bt873.2 != bt877.2)) else (reedpipelaw12_BlockDoes.j1 k x3 x4 y851 y854 bt857.1 bt865.1 bt873.1 true))) else (reedpipelaw12_BlockDoes.j1 k x3 x4 y851 y854 bt857.1 bt865.1 bt873.1 true)) else (reedpipelaw12_BlockDoes.j1 k x3 x4 y851 y854 bt857.1 bt865.1 bt873.1 true))) else (reedpipelaw12_BlockDoes.j1 k x3 x4 y851 y854 bt857.1 bt865.1 bt873.1 true)) else (reedpipelaw12_BlockDoes.j1 k x3 x4 y851 y854 bt857.1 bt865.1 bt873.1 true)))))))))) else (none))) else (none))
def reedpipelaw12_BlockDoes.j1 : Nat → List Int → List Int → List Int → List Int → List Int → List Int → List Int → Bool → Option (Bool)
  | 0, _, _, _, _, _, _, _, _ => none
  | k + 1, x3, x4, x11, x12, x13, x17, x21, x116 => if x116 = true then (some false) else (reedpipelaw12_BlockDoes.l0 k x3 x4 x11 x12 x13 x17 x21 0)
def reedpipelaw12_BlockDoes.l0 : Nat → List Int → List Int → List Int → List Int → List Int → List Int → List Int → Int → Option (Bool)
  | 0, _, _, _, _, _, _, _, _ => none
  | k + 1, x3, x4, x11, x12, x13, x17, x21, x25 => if x25 < (x13.length : Int) then (if 0 ≤ x25 then (reedpipelaw12_BlockDoes.l0 k x3 x4 x11 x12 (x13.set (x25 : Int).toNat 0) x17 x21 (wrap64 (x25 + 1))) else (none)) else (reedpipelaw12_BlockDoes.l1 k x3 x4 x11 x12 x17 x21 0)
def reedpipelaw12_BlockDoes.l1 : Nat → List Int → List Int → List Int → List Int → List Int → List Int → Int → Option (Bool)
  | 0, _, _, _, _, _, _, _ => none
  | k + 1, x3, x4, x11, x12, x17, x21, x26 => if x26 < (x17.length : Int) then (if 0 ≤ x26 then (reedpipelaw12_BlockDoes.l1 k x3 x4 x11 x12 (x17.set (x26 : Int).toNat (wrap64 ((rd x17 x26) + 1))) x21 (wrap64 (x26 + 1))) else (none)) else (reedpipelaw12_BlockDoes.l2 k x3 x4 x11 x12 x21 0)
def reedpipelaw12_BlockDoes.l2 : Nat → List Int → List Int → List Int → List Int → List Int → Int → Option (Bool)
  | 0, _, _, _, _, _, _ => none
  | k + 1, x3, x4, x11, x12, x21, x27 => if x27 < (x21.length : Int) then (if 0 ≤ x27 then (reedpipelaw12_BlockDoes.l2 k x3 x4 x11 x12 (x21.set (x27 : Int).toNat (wrap64 ((rd x21 x27) + 1))) (wrap64 (x27 + 1))) else (none)) else ((reedpiperef11_Same.f k x11 x3).bind fun t889 => (if t889 = true then ((reedpiperef11_Same.f k x12 x4).bind fun t890 => (some t890)) else (some false)))
end
def reedpipelaw12_BlockDoes.f (k : Nat) (a0 : Int) (a1 : Int) (a2 : Int) (l3 : List Int) (l4 : List Int) : Option (Bool) := if (l3.length : Int) > 1000 then (reedpipelaw12_BlockDoes.j0 k a0 a1 a2 l3 l4 true) else (reedpipelaw12_BlockDoes.j0 k a0 a1 a2 l3 l4 (decide ((l4.length : Int) > 1000)))
set_option maxHeartbeats 8000000 in
set_option maxRecDepth 100000 in
theorem reedpipelaw12_BlockDoes.calls (k : Nat) (a0 : Int) (a1 : Int) (a2 : Int) (A3 : Option Addr) (c3 : Nat) (l3 : List Int) (A4 : Option Addr) (c4 : Nat) (l4 : List Int) (r : Bool) (w : World) (hr3 : Kd.C (Kd.int .i64) w A3 l3.length l3) (hc3 : l3.length ≤ c3) (hr4 : Kd.C (Kd.int .i64) w A4 l4.length l4) (hc4 : l4.length ≤ c4) (h : reedpipelaw12_BlockDoes.f k a0 a1 a2 l3 l4 = some r) :
    Calls Try.prog 23 #[.int .u8 a0, .int .u8 a1, .int .u8 a2, .slice A3 l3.length c3, .slice A4 l4.length c4] w fun e w' => e = .returned (.bool r) ∧ Below w.heap.size w w' := by
  have HR3 := Aside0.mk hr3
  have HC3 := Aside0.mk hc3
  clear hr3 hc3
  have HR4 := Aside0.mk hr4
  have HC4 := Aside0.mk hc4
  clear hr4 hc4
  have HB := Aside0.mk (Below.refl w.heap.size w)
  have H : (if (l3.length : Int) > 1000 then (reedpipelaw12_BlockDoes.j0 k a0 a1 a2 l3 l4 true) else (reedpipelaw12_BlockDoes.j0 k a0 a1 a2 l3 l4 (decide ((l4.length : Int) > 1000)))) = some r := h
  clear h
  have HC6 := Aside0.mk H
  clear H
  go_enter Try.func23, Try.ntmps23
  go_upto_region 1 with (fail)
  go_cut [35] (fun v35 wc => ∃ (kq : Nat) (x35_5 : Bool), v35 = .bool x35_5 ∧ Aside0 (reedpipelaw12_BlockDoes.j0 kq a0 a1 a2 l3 l4 x35_5 = some r) ∧ Aside0 (kq ≤ k) ∧ Aside0 (Below w.heap.size w wc))
  case first =>
    have H := HC6.out
    clear HC6
    by_cases c7 : (l3.length : Int) > 1000
    · rw [if_pos c7] at H
      have c7b0 : decide (1000 < (l3.length : Int)) = true := decide_eq_true c7
      have c7b1 : decide (1000 < l3.length) = true := decide_eq_true (by omega)
      clear c7
      (first | rw [c7b0] | (simp only [i64_w, i32_w]; rw [c7b0]) | skip)
      have H' := Aside0.mk H
      clear H
      go_wp2
      go_meet
      case rel => exact ⟨_, (true), (by first | rfl | (simp; done) | (simp [*]; done)), H', ⟨by first | omega | exact Nat.le_refl _⟩, ⟨by repeat (first | (with_reducible first | exact HB.out | apply below_alloc | apply pw_below_drewN | apply below_drew1) | exact HB.out)⟩⟩
    · rw [if_neg c7] at H
      have c7b0 : decide (1000 < (l3.length : Int)) = false := decide_eq_false c7
      have c7b1 : decide (1000 < l3.length) = false := decide_eq_false (by omega)
      clear c7
      (first | rw [c7b0] | (simp only [i64_w, i32_w]; rw [c7b0]) | skip)
      have H' := Aside0.mk H
      clear H
      go_wp2
      go_meet
      case rel => exact ⟨_, (decide ((l4.length : Int) > 1000)), (by first | rfl | (simp; done) | (simp [*]; done)), H', ⟨by first | omega | exact Nat.le_refl _⟩, ⟨by repeat (first | (with_reducible first | exact HB.out | apply below_alloc | apply pw_below_drewN | apply below_drew1) | exact HB.out)⟩⟩
  case rest =>
    clear HC6
    try clear c2
    try clear p2
    try clear c3
    try clear c4
    try clear c7
    try clear c7b0
    try clear c7b1
    obtain ⟨kq, x35_5, rfl, HA, HJ5, HB⟩ := hcut
    cases kq with
    | zero => exact absurd HA.out (by simp [reedpipelaw12_BlockDoes.j0])
    | succ kj5 =>
      have H := HA.out
      clear HA
      simp only [reedpipelaw12_BlockDoes.j0] at H
      by_cases c8 : x35_5 = true
      · subst c8
        have H1 : (some true) = some r := by rw [if_pos rfl] at H; exact H
        clear H
        have H := H1
        clear H1
        obtain rfl := Option.some.inj H
        go_wp2
        go_ret
        exact ⟨by first | rfl | (simp [errW_none, errW_some] <;> rfl) | (simp [*, errW_none, errW_some] <;> rfl), by repeat (first | (with_reducible first | exact HB.out | apply below_alloc | apply pw_below_drewN | apply below_drew1) | exact HB.out)⟩
      · replace c8 := Bool.eq_false_iff.mpr c8
        subst c8
        have H1 : (if ([] : List Int).length + l3.length < 17592186044416 then ((some (([] : List Int) ++ l3 : List Int)).bind fun y851 => (if ([] : List Int).length + l4.length < 17592186044416 then ((some (([] : List Int) ++ l4 : List Int)).bind fun y854 => ((block_Window.f kj5 a0 a1 a2).bind fun bt857 => ((reedpiperef12_Window.f kj5 a0 a1 a2).bind fun bt861 => ((block_Analyse.f a0 a1 a2 y851).bind fun bt865 => ((reedpiperef12_Analyse.f kj5 a0 a1 a2 l3).bind fun bt869 => ((block_Synth.f a0 a1 a2 y854).bind fun bt873 => ((reedpiperef12_Synth.f kj5 a0 a1 a2 l4).bind fun bt877 => ((reedpiperef11_Same.f kj5 bt857.1 bt861.1).bind fun t881 => (if t881 = true then (if bt857.2 = bt861.2 then ((reedpiperef11_Same.f kj5 bt865.1 bt869.1).bind fun t882 => (if t882 = true then (if bt865.2 = bt869.2 then ((reedpiperef11_Same.f kj5 bt873.1 bt877.1).bind fun t883 => (if t883 = true then (reedpipelaw12_BlockDoes.j1 kj5 l3 l4 y851 y854 bt857.1 bt865.1 bt873.1 (bt873.2 != bt877.2)) else (reedpipelaw12_BlockDoes.j1 kj5 l3 l4 y851 y854 bt857.1 bt865.1 bt873.1 true))) else (reedpipelaw12_BlockDoes.j1 kj5 l3 l4 y851 y854 bt857.1 bt865.1 bt873.1 true)) else (reedpipelaw12_BlockDoes.j1 kj5 l3 l4 y851 y854 bt857.1 bt865.1 bt873.1 true))) else (reedpipelaw12_BlockDoes.j1 kj5 l3 l4 y851 y854 bt857.1 bt865.1 bt873.1 true)) else (reedpipelaw12_BlockDoes.j1 kj5 l3 l4 y851 y854 bt857.1 bt865.1 bt873.1 true)))))))))) else (none))) else (none)) = some r := by rw [if_neg (show ¬ (false = true) by decide)] at H; exact H
        clear H
        have H := H1
        clear H1
        by_cases c9 : ([] : List Int).length + l3.length < 17592186044416
        · rw [if_pos c9] at H
          have LMc9 := Aside0.mk c9
          clear c9
          obtain ⟨y851, hy851⟩ : ∃ y_ : List Int, y_ = (([] : List Int) ++ l3) := ⟨_, rfl⟩
          replace H : (if ([] : List Int).length + l4.length < 17592186044416 then ((some (([] : List Int) ++ l4 : List Int)).bind fun y854 => ((block_Window.f kj5 a0 a1 a2).bind fun bt857 => ((reedpiperef12_Window.f kj5 a0 a1 a2).bind fun bt861 => ((block_Analyse.f a0 a1 a2 y851).bind fun bt865 => ((reedpiperef12_Analyse.f kj5 a0 a1 a2 l3).bind fun bt869 => ((block_Synth.f a0 a1 a2 y854).bind fun bt873 => ((reedpiperef12_Synth.f kj5 a0 a1 a2 l4).bind fun bt877 => ((reedpiperef11_Same.f kj5 bt857.1 bt861.1).bind fun t881 => (if t881 = true then (if bt857.2 = bt861.2 then ((reedpiperef11_Same.f kj5 bt865.1 bt869.1).bind fun t882 => (if t882 = true then (if bt865.2 = bt869.2 then ((reedpiperef11_Same.f kj5 bt873.1 bt877.1).bind fun t883 => (if t883 = true then (reedpipelaw12_BlockDoes.j1 kj5 l3 l4 y851 y854 bt857.1 bt865.1 bt873.1 (bt873.2 != bt877.2)) else (reedpipelaw12_BlockDoes.j1 kj5 l3 l4 y851 y854 bt857.1 bt865.1 bt873.1 true))) else (reedpipelaw12_BlockDoes.j1 kj5 l3 l4 y851 y854 bt857.1 bt865.1 bt873.1 true)) else (reedpipelaw12_BlockDoes.j1 kj5 l3 l4 y851 y854 bt857.1 bt865.1 bt873.1 true))) else (reedpipelaw12_BlockDoes.j1 kj5 l3 l4 y851 y854 bt857.1 bt865.1 bt873.1 true)) else (reedpipelaw12_BlockDoes.j1 kj5 l3 l4 y851 y854 bt857.1 bt865.1 bt873.1 true)))))))))) else (none)) = some r := by first | (rw [hy851]; with_reducible exact H) | (have H2_ := (Option.bind_some _ _).symm.trans H; rw [hy851]; with_reducible exact H2_) | (have H2_ := (Option.bind_some _ _).symm.trans H; with_reducible exact H2_) | with_reducible exact H | (rw [hy851]; exact H) | exact H
          have Ny851 := Aside0.mk hy851
          clear hy851
          by_cases c10 : ([] : List Int).length + l4.length < 17592186044416
          · rw [if_pos c10] at H
            have LMc10 := Aside0.mk c10
            clear c10
            obtain ⟨y854, hy854⟩ : ∃ y_ : List Int, y_ = (([] : List Int) ++ l4) := ⟨_, rfl⟩
            replace H : ((block_Window.f kj5 a0 a1 a2).bind fun bt857 => ((reedpiperef12_Window.f kj5 a0 a1 a2).bind fun bt861 => ((block_Analyse.f a0 a1 a2 y851).bind fun bt865 => ((reedpiperef12_Analyse.f kj5 a0 a1 a2 l3).bind fun bt869 => ((block_Synth.f a0 a1 a2 y854).bind fun bt873 => ((reedpiperef12_Synth.f kj5 a0 a1 a2 l4).bind fun bt877 => ((reedpiperef11_Same.f kj5 bt857.1 bt861.1).bind fun t881 => (if t881 = true then (if bt857.2 = bt861.2 then ((reedpiperef11_Same.f kj5 bt865.1 bt869.1).bind fun t882 => (if t882 = true then (if bt865.2 = bt869.2 then ((reedpiperef11_Same.f kj5 bt873.1 bt877.1).bind fun t883 => (if t883 = true then (reedpipelaw12_BlockDoes.j1 kj5 l3 l4 y851 y854 bt857.1 bt865.1 bt873.1 (bt873.2 != bt877.2)) else (reedpipelaw12_BlockDoes.j1 kj5 l3 l4 y851 y854 bt857.1 bt865.1 bt873.1 true))) else (reedpipelaw12_BlockDoes.j1 kj5 l3 l4 y851 y854 bt857.1 bt865.1 bt873.1 true)) else (reedpipelaw12_BlockDoes.j1 kj5 l3 l4 y851 y854 bt857.1 bt865.1 bt873.1 true))) else (reedpipelaw12_BlockDoes.j1 kj5 l3 l4 y851 y854 bt857.1 bt865.1 bt873.1 true)) else (reedpipelaw12_BlockDoes.j1 kj5 l3 l4 y851 y854 bt857.1 bt865.1 bt873.1 true))))))))) = some r := by first | (rw [hy854]; with_reducible exact H) | (have H2_ := (Option.bind_some _ _).symm.trans H; rw [hy854]; with_reducible exact H2_) | (have H2_ := (Option.bind_some _ _).symm.trans H; with_reducible exact H2_) | with_reducible exact H | (rw [hy854]; exact H) | exact H
            have Ny854 := Aside0.mk hy854
            clear hy854
            replace H := Option.bind_eq_some_iff.mp H
            obtain ⟨⟨t857, t858⟩, A110, H⟩ := H
            replace H : ((reedpiperef12_Window.f kj5 a0 a1 a2).bind fun bt861 => ((block_Analyse.f a0 a1 a2 y851).bind fun bt865 => ((reedpiperef12_Analyse.f kj5 a0 a1 a2 l3).bind fun bt869 => ((block_Synth.f a0 a1 a2 y854).bind fun bt873 => ((reedpiperef12_Synth.f kj5 a0 a1 a2 l4).bind fun bt877 => ((reedpiperef11_Same.f kj5 t857 bt861.1).bind fun t881 => (if t881 = true then (if t858 = bt861.2 then ((reedpiperef11_Same.f kj5 bt865.1 bt869.1).bind fun t882 => (if t882 = true then (if bt865.2 = bt869.2 then ((reedpiperef11_Same.f kj5 bt873.1 bt877.1).bind fun t883 => (if t883 = true then (reedpipelaw12_BlockDoes.j1 kj5 l3 l4 y851 y854 t857 bt865.1 bt873.1 (bt873.2 != bt877.2)) else (reedpipelaw12_BlockDoes.j1 kj5 l3 l4 y851 y854 t857 bt865.1 bt873.1 true))) else (reedpipelaw12_BlockDoes.j1 kj5 l3 l4 y851 y854 t857 bt865.1 bt873.1 true)) else (reedpipelaw12_BlockDoes.j1 kj5 l3 l4 y851 y854 t857 bt865.1 bt873.1 true))) else (reedpipelaw12_BlockDoes.j1 kj5 l3 l4 y851 y854 t857 bt865.1 bt873.1 true)) else (reedpipelaw12_BlockDoes.j1 kj5 l3 l4 y851 y854 t857 bt865.1 bt873.1 true)))))))) = some r := H
            have A11 := Aside0.mk A110
            clear A110
            replace H := Option.bind_eq_some_iff.mp H
            obtain ⟨⟨t861, t862⟩, A120, H⟩ := H
            replace H : ((block_Analyse.f a0 a1 a2 y851).bind fun bt865 => ((reedpiperef12_Analyse.f kj5 a0 a1 a2 l3).bind fun bt869 => ((block_Synth.f a0 a1 a2 y854).bind fun bt873 => ((reedpiperef12_Synth.f kj5 a0 a1 a2 l4).bind fun bt877 => ((reedpiperef11_Same.f kj5 t857 t861).bind fun t881 => (if t881 = true then (if t858 = t862 then ((reedpiperef11_Same.f kj5 bt865.1 bt869.1).bind fun t882 => (if t882 = true then (if bt865.2 = bt869.2 then ((reedpiperef11_Same.f kj5 bt873.1 bt877.1).bind fun t883 => (if t883 = true then (reedpipelaw12_BlockDoes.j1 kj5 l3 l4 y851 y854 t857 bt865.1 bt873.1 (bt873.2 != bt877.2)) else (reedpipelaw12_BlockDoes.j1 kj5 l3 l4 y851 y854 t857 bt865.1 bt873.1 true))) else (reedpipelaw12_BlockDoes.j1 kj5 l3 l4 y851 y854 t857 bt865.1 bt873.1 true)) else (reedpipelaw12_BlockDoes.j1 kj5 l3 l4 y851 y854 t857 bt865.1 bt873.1 true))) else (reedpipelaw12_BlockDoes.j1 kj5 l3 l4 y851 y854 t857 bt865.1 bt873.1 true)) else (reedpipelaw12_BlockDoes.j1 kj5 l3 l4 y851 y854 t857 bt865.1 bt873.1 true))))))) = some r := H
            have A12 := Aside0.mk A120
            clear A120
            replace H := Option.bind_eq_some_iff.mp H
            obtain ⟨⟨t865, t866⟩, A130, H⟩ := H
            replace H : ((reedpiperef12_Analyse.f kj5 a0 a1 a2 l3).bind fun bt869 => ((block_Synth.f a0 a1 a2 y854).bind fun bt873 => ((reedpiperef12_Synth.f kj5 a0 a1 a2 l4).bind fun bt877 => ((reedpiperef11_Same.f kj5 t857 t861).bind fun t881 => (if t881 = true then (if t858 = t862 then ((reedpiperef11_Same.f kj5 t865 bt869.1).bind fun t882 => (if t882 = true then (if t866 = bt869.2 then ((reedpiperef11_Same.f kj5 bt873.1 bt877.1).bind fun t883 => (if t883 = true then (reedpipelaw12_BlockDoes.j1 kj5 l3 l4 y851 y854 t857 t865 bt873.1 (bt873.2 != bt877.2)) else (reedpipelaw12_BlockDoes.j1 kj5 l3 l4 y851 y854 t857 t865 bt873.1 true))) else (reedpipelaw12_BlockDoes.j1 kj5 l3 l4 y851 y854 t857 t865 bt873.1 true)) else (reedpipelaw12_BlockDoes.j1 kj5 l3 l4 y851 y854 t857 t865 bt873.1 true))) else (reedpipelaw12_BlockDoes.j1 kj5 l3 l4 y851 y854 t857 t865 bt873.1 true)) else (reedpipelaw12_BlockDoes.j1 kj5 l3 l4 y851 y854 t857 t865 bt873.1 true)))))) = some r := H
            have A13 := Aside0.mk A130
            clear A130
            replace H := Option.bind_eq_some_iff.mp H
            obtain ⟨⟨t869, t870⟩, A140, H⟩ := H
            replace H : ((block_Synth.f a0 a1 a2 y854).bind fun bt873 => ((reedpiperef12_Synth.f kj5 a0 a1 a2 l4).bind fun bt877 => ((reedpiperef11_Same.f kj5 t857 t861).bind fun t881 => (if t881 = true then (if t858 = t862 then ((reedpiperef11_Same.f kj5 t865 t869).bind fun t882 => (if t882 = true then (if t866 = t870 then ((reedpiperef11_Same.f kj5 bt873.1 bt877.1).bind fun t883 => (if t883 = true then (reedpipelaw12_BlockDoes.j1 kj5 l3 l4 y851 y854 t857 t865 bt873.1 (bt873.2 != bt877.2)) else (reedpipelaw12_BlockDoes.j1 kj5 l3 l4 y851 y854 t857 t865 bt873.1 true))) else (reedpipelaw12_BlockDoes.j1 kj5 l3 l4 y851 y854 t857 t865 bt873.1 true)) else (reedpipelaw12_BlockDoes.j1 kj5 l3 l4 y851 y854 t857 t865 bt873.1 true))) else (reedpipelaw12_BlockDoes.j1 kj5 l3 l4 y851 y854 t857 t865 bt873.1 true)) else (reedpipelaw12_BlockDoes.j1 kj5 l3 l4 y851 y854 t857 t865 bt873.1 true))))) = some r := H
            have A14 := Aside0.mk A140
            clear A140
            replace H := Option.bind_eq_some_iff.mp H
            obtain ⟨⟨t873, t874⟩, A150, H⟩ := H
            replace H : ((reedpiperef12_Synth.f kj5 a0 a1 a2 l4).bind fun bt877 => ((reedpiperef11_Same.f kj5 t857 t861).bind fun t881 => (if t881 = true then (if t858 = t862 then ((reedpiperef11_Same.f kj5 t865 t869).bind fun t882 => (if t882 = true then (if t866 = t870 then ((reedpiperef11_Same.f kj5 t873 bt877.1).bind fun t883 => (if t883 = true then (reedpipelaw12_BlockDoes.j1 kj5 l3 l4 y851 y854 t857 t865 t873 (t874 != bt877.2)) else (reedpipelaw12_BlockDoes.j1 kj5 l3 l4 y851 y854 t857 t865 t873 true))) else (reedpipelaw12_BlockDoes.j1 kj5 l3 l4 y851 y854 t857 t865 t873 true)) else (reedpipelaw12_BlockDoes.j1 kj5 l3 l4 y851 y854 t857 t865 t873 true))) else (reedpipelaw12_BlockDoes.j1 kj5 l3 l4 y851 y854 t857 t865 t873 true)) else (reedpipelaw12_BlockDoes.j1 kj5 l3 l4 y851 y854 t857 t865 t873 true)))) = some r := H
            have A15 := Aside0.mk A150
            clear A150
            replace H := Option.bind_eq_some_iff.mp H
            obtain ⟨⟨t877, t878⟩, A160, H⟩ := H
            replace H : ((reedpiperef11_Same.f kj5 t857 t861).bind fun t881 => (if t881 = true then (if t858 = t862 then ((reedpiperef11_Same.f kj5 t865 t869).bind fun t882 => (if t882 = true then (if t866 = t870 then ((reedpiperef11_Same.f kj5 t873 t877).bind fun t883 => (if t883 = true then (reedpipelaw12_BlockDoes.j1 kj5 l3 l4 y851 y854 t857 t865 t873 (t874 != t878)) else (reedpipelaw12_BlockDoes.j1 kj5 l3 l4 y851 y854 t857 t865 t873 true))) else (reedpipelaw12_BlockDoes.j1 kj5 l3 l4 y851 y854 t857 t865 t873 true)) else (reedpipelaw12_BlockDoes.j1 kj5 l3 l4 y851 y854 t857 t865 t873 true))) else (reedpipelaw12_BlockDoes.j1 kj5 l3 l4 y851 y854 t857 t865 t873 true)) else (reedpipelaw12_BlockDoes.j1 kj5 l3 l4 y851 y854 t857 t865 t873 true))) = some r := H
            have A16 := Aside0.mk A160
            clear A160
            have HC17 := Aside0.mk H
            clear H
            go_upto_region 11 with (first | ((with_reducible refine gate_builtin (b := .append) (xs := #[.const (.slice none 0 0), .tmp 36]) rfl ?_); (try (refine gate_guard (by rfl) ?_; dsimp only)); at_builtin; refine Kd.R_append_rows (Kd.int .i64) (w0 := w) w.heap.size rfl (.const (.slice none 0 0)) (.tmp 36) 29 3 (.int .i64 0) 8 rfl Try.underlying29 info3 rfl (by decide) (by omega) (.slice none 0 0) ([] : List Int) l3 _ _ _ (fun _ => True) (fun _ => False) rfl rfl ?aO ?aR (fun _ _ h => h) (fun _ h => h.elim) ?aF ?aB ?aS ?aL ?_; (case aR => repeat (first | exact (Kd.C_below HR3.out HB.out) | (with_reducible refine Kd.C_alloc ?_ _) | (with_reducible refine Kd.C_drewN ?_ _) | (with_reducible refine Kd.C_drew ?_))); (case aB => exact (by repeat (first | (with_reducible first | exact HB.out | apply below_alloc | apply pw_below_drewN | apply below_drew1) | exact HB.out))); (case aF => exact (fun _ _ => trivial)); (case aO => exact ((Kd.R_nil _ _ _ _ (fun _ => True)))); (case aS => exact (below_size (by repeat (first | (with_reducible first | exact HB.out | apply below_alloc | apply pw_below_drewN | apply below_drew1) | exact HB.out)))); (case aL => have := LMc9.out; omega); intro v852 w18 ho hb hg hat; rw [← Ny851.out] at ho; have n0_ := Aside0.mk (hb); have n1_ := Aside0.mk (ho); clear HB; have HB := n0_; have HO853 := n1_; clear n0_ n1_; clear ho hb hg hat) | ((with_reducible refine gate_builtin (b := .append) (xs := #[.const (.slice none 0 0), .tmp 38]) rfl ?_); (try (refine gate_guard (by rfl) ?_; dsimp only)); at_builtin; refine Kd.R_append_rows (Kd.int .i64) (w0 := w) w.heap.size rfl (.const (.slice none 0 0)) (.tmp 38) 29 3 (.int .i64 0) 8 rfl Try.underlying29 info3 rfl (by decide) (by omega) (.slice none 0 0) ([] : List Int) l4 _ _ _ (fun k_ => some k_ ≠ (v852 : Value).ownBlock) (fun _ => False) rfl rfl ?aO ?aR (fun _ _ h => h) (fun _ h => h.elim) ?aF ?aB ?aS ?aL ?_; (case aR => repeat (first | exact (Kd.C_below HR4.out HB.out) | (with_reducible refine Kd.C_alloc ?_ _) | (with_reducible refine Kd.C_drewN ?_ _) | (with_reducible refine Kd.C_drew ?_))); (case aB => exact (by repeat (first | (with_reducible first | exact HB.out | apply below_alloc | apply pw_below_drewN | apply below_drew1) | exact HB.out))); (case aF => exact (fun k_ hk => Kd.fresh' (Kd.R_lt (by (with_reducible repeat (first | apply Kd.R_alloc | apply Kd.R_drewN | apply Kd.R_drew)); exact HO853.out)) k_ hk)); (case aO => exact ((Kd.R_nil _ _ _ _ (fun k_ => some k_ ≠ (v852 : Value).ownBlock)))); (case aS => exact (below_size (by repeat (first | (with_reducible first | exact HB.out | apply below_alloc | apply pw_below_drewN | apply below_drew1) | exact HB.out)))); (case aL => have := LMc10.out; omega); intro v855 w19 ho hb hg hat; rw [← Ny854.out] at ho; have n0_ := Aside0.mk (Kd.R_after (Kd.R_apart_nil (by (with_reducible repeat (first | apply Kd.R_alloc | apply Kd.R_drewN | apply Kd.R_drew)); exact HO853.out)) hg hat); have n1_ := Aside0.mk (hb); have n2_ := Aside0.mk (ho); clear HO853; clear HB; have HO853 := n0_; have HB := n1_; have HO856 := n2_; clear n0_ n1_ n2_; clear ho hb hg hat) | ((with_reducible refine gate_callee (f := 52) rfl ?_); refine goesL_ (some 44) rfl rfl Try.func52 (by kernel_rfl) rfl #[.int .u8 a0, .int .u8 a1, .int .u8 a2] rfl (by (try simp only [List.map_toArray, List.map_cons, List.map_nil]); first | done | rfl | (simp only [List.length_drop, List.length_take]; rfl)) ?_; (with_reducible refine (block_Window.calls kj5 a0 a1 a2 t857 t858 _ A11.out).mono ?_); rintro e w20 ⟨v859, rfl, ho0, hb⟩; refine ⟨_, rfl, ?_⟩; have n0_ := Aside0.mk (Kd.R_elder' (by (with_reducible repeat (first | apply Kd.R_alloc | apply Kd.R_drewN | apply Kd.R_drew)); exact HO853.out) (Kd.R_base ho0) hb); have n1_ := Aside0.mk (Kd.R_elder' (by (with_reducible repeat (first | apply Kd.R_alloc | apply Kd.R_drewN | apply Kd.R_drew)); exact HO856.out) (Kd.R_base ho0) hb); have n2_ := Aside0.mk (Kd.R_lower (Kd.R_new' (Kd.R_new' ho0 (Kd.R_lt (by (with_reducible repeat (first | apply Kd.R_alloc | apply Kd.R_drewN | apply Kd.R_drew)); exact HO853.out))) (Kd.R_lt (by (with_reducible repeat (first | apply Kd.R_alloc | apply Kd.R_drewN | apply Kd.R_drew)); exact HO856.out))) (below_size (by repeat (first | (with_reducible first | exact HB.out | apply below_alloc | apply pw_below_drewN | apply below_drew1) | exact HB.out)))); have n3_ := Aside0.mk (below_step (by repeat (first | (with_reducible first | exact HB.out | apply below_alloc | apply pw_below_drewN | apply below_drew1) | exact HB.out)) hb); clear HO853; clear HO856; clear HB; have HO853 := n0_; have HO856 := n1_; have HO860 := n2_; have HB := n3_; clear n0_ n1_ n2_ n3_; (try clear hb); (try clear hb2); (try clear hk); (try clear hi); (try clear ho0)) | ((with_reducible refine gate_callee (f := 55) rfl ?_); refine goesL_ (some 51) rfl rfl Try.func55 (by kernel_rfl) rfl #[.int .u8 a0, .int .u8 a1, .int .u8 a2] rfl (by (try simp only [List.map_toArray, List.map_cons, List.map_nil]); first | done | rfl | (simp only [List.length_drop, List.length_take]; rfl)) ?_; (with_reducible refine (reedpiperef12_Window.calls kj5 a0 a1 a2 t861 t862 _ A12.out).mono ?_); rintro e w21 ⟨v863, rfl, ho0, hb⟩; refine ⟨_, rfl, ?_⟩; have n0_ := Aside0.mk (Kd.R_elder' (by (with_reducible repeat (first | apply Kd.R_alloc | apply Kd.R_drewN | apply Kd.R_drew)); exact HO853.out) (Kd.R_base ho0) hb); have n1_ := Aside0.mk (Kd.R_elder' (by (with_reducible repeat (first | apply Kd.R_alloc | apply Kd.R_drewN | apply Kd.R_drew)); exact HO856.out) (Kd.R_base ho0) hb); have n2_ := Aside0.mk (Kd.R_elder' (by (with_reducible repeat (first | apply Kd.R_alloc | apply Kd.R_drewN | apply Kd.R_drew)); exact HO860.out) (Kd.R_base ho0) hb); have n3_ := Aside0.mk (Kd.R_lower (Kd.R_new' (Kd.R_new' (Kd.R_new' ho0 (Kd.R_lt (by (with_reducible repeat (first | apply Kd.R_alloc | apply Kd.R_drewN | apply Kd.R_drew)); exact HO853.out))) (Kd.R_lt (by (with_reducible repeat (first | apply Kd.R_alloc | apply Kd.R_drewN | apply Kd.R_drew)); exact HO856.out))) (Kd.R_lt (by (with_reducible repeat (first | apply Kd.R_alloc | apply Kd.R_drewN | apply Kd.R_drew)); exact HO860.out))) (below_size (by repeat (first | (with_reducible first | exact HB.out | apply below_alloc | apply pw_below_drewN | apply below_drew1) | exact HB.out)))); have n4_ := Aside0.mk (below_step (by repeat (first | (with_reducible first | exact HB.out | apply below_alloc | apply pw_below_drewN | apply below_drew1) | exact HB.out)) hb); clear HO853; clear HO856; clear HO860; clear HB; have HO853 := n0_; have HO856 := n1_; have HO860 := n2_; have HO864 := n3_; have HB := n4_; clear n0_ n1_ n2_ n3_ n4_; (try clear hb); (try clear hb2); (try clear hk); (try clear hi); (try clear ho0); obtain ⟨Ao22, co22, eo22⟩ := Kd.R_slice HO853.out; subst eo22) | ((with_reducible refine gate_callee (f := 42) rfl ?_); refine goesL_ (some 59) rfl rfl Try.func42 (by kernel_rfl) rfl #[.int .u8 a0, .int .u8 a1, .int .u8 a2, .slice Ao22 y851.length co22] rfl (by (try simp only [List.map_toArray, List.map_cons, List.map_nil]); first | done | rfl | (simp only [List.length_drop, List.length_take]; rfl)) ?_; (with_reducible refine (block_Analyse.calls a0 a1 a2 _ _ y851 t865 t866 _ ?side1 ?side2 A13.out).mono ?_); (case side1 => repeat (first | exact (Kd.R_reads' HO853.out).2.2 | (with_reducible refine Kd.C_alloc ?_ _) | (with_reducible refine Kd.C_drewN ?_ _) | (with_reducible refine Kd.C_drew ?_))); (case side2 => exact (Kd.R_reads' HO853.out).2.1); rintro e w23 ⟨v867, rfl, ho0, hb⟩; refine ⟨_, rfl, ?_⟩; have n0_ := Aside0.mk (Kd.R_elder' (by (with_reducible repeat (first | apply Kd.R_alloc | apply Kd.R_drewN | apply Kd.R_drew)); exact HO853.out) (Kd.R_base ho0) hb); have n1_ := Aside0.mk (Kd.R_elder' (by (with_reducible repeat (first | apply Kd.R_alloc | apply Kd.R_drewN | apply Kd.R_drew)); exact HO856.out) (Kd.R_base ho0) hb); have n2_ := Aside0.mk (Kd.R_elder' (by (with_reducible repeat (first | apply Kd.R_alloc | apply Kd.R_drewN | apply Kd.R_drew)); exact HO860.out) (Kd.R_base ho0) hb); have n3_ := Aside0.mk (Kd.R_elder' (by (with_reducible repeat (first | apply Kd.R_alloc | apply Kd.R_drewN | apply Kd.R_drew)); exact HO864.out) (Kd.R_base ho0) hb); have n4_ := Aside0.mk (Kd.R_lower (Kd.R_new' (Kd.R_new' (Kd.R_new' (Kd.R_new' ho0 (Kd.R_lt (by (with_reducible repeat (first | apply Kd.R_alloc | apply Kd.R_drewN | apply Kd.R_drew)); exact HO853.out))) (Kd.R_lt (by (with_reducible repeat (first | apply Kd.R_alloc | apply Kd.R_drewN | apply Kd.R_drew)); exact HO856.out))) (Kd.R_lt (by (with_reducible repeat (first | apply Kd.R_alloc | apply Kd.R_drewN | apply Kd.R_drew)); exact HO860.out))) (Kd.R_lt (by (with_reducible repeat (first | apply Kd.R_alloc | apply Kd.R_drewN | apply Kd.R_drew)); exact HO864.out))) (below_size (by repeat (first | (with_reducible first | exact HB.out | apply below_alloc | apply pw_below_drewN | apply below_drew1) | exact HB.out)))); have n5_ := Aside0.mk (below_step (by repeat (first | (with_reducible first | exact HB.out | apply below_alloc | apply pw_below_drewN | apply below_drew1) | exact HB.out)) hb); clear HO853; clear HO856; clear HO860; clear HO864; clear HB; have HO853 := n0_; have HO856 := n1_; have HO860 := n2_; have HO864 := n3_; have HO868 := n4_; have HB := n5_; clear n0_ n1_ n2_ n3_ n4_ n5_; (try clear hb); (try clear hb2); (try clear hk); (try clear hi); (try clear ho0)) | ((with_reducible refine gate_callee (f := 56) rfl ?_); refine goesL_ (some 67) rfl rfl Try.func56 (by kernel_rfl) rfl #[.int .u8 a0, .int .u8 a1, .int .u8 a2, .slice A3 l3.length c3] rfl (by (try simp only [List.map_toArray, List.map_cons, List.map_nil]); first | done | rfl | (simp only [List.length_drop, List.length_take]; rfl)) ?_; (with_reducible refine (reedpiperef12_Analyse.calls kj5 a0 a1 a2 _ _ l3 t869 t870 _ ?side1 ?side2 A14.out).mono ?_); (case side1 => repeat (first | exact (Kd.C_below HR3.out HB.out) | (with_reducible refine Kd.C_alloc ?_ _) | (with_reducible refine Kd.C_drewN ?_ _) | (with_reducible refine Kd.C_drew ?_))); (case side2 => exact HC3.out); rintro e w24 ⟨v871, rfl, ho0, hb⟩; refine ⟨_, rfl, ?_⟩; have n0_ := Aside0.mk (Kd.R_elder' (by (with_reducible repeat (first | apply Kd.R_alloc | apply Kd.R_drewN | apply Kd.R_drew)); exact HO853.out) (Kd.R_base ho0) hb); have n1_ := Aside0.mk (Kd.R_elder' (by (with_reducible repeat (first | apply Kd.R_alloc | apply Kd.R_drewN | apply Kd.R_drew)); exact HO856.out) (Kd.R_base ho0) hb); have n2_ := Aside0.mk (Kd.R_elder' (by (with_reducible repeat (first | apply Kd.R_alloc | apply Kd.R_drewN | apply Kd.R_drew)); exact HO860.out) (Kd.R_base ho0) hb); have n3_ := Aside0.mk (Kd.R_elder' (by (with_reducible repeat (first | apply Kd.R_alloc | apply Kd.R_drewN | apply Kd.R_drew)); exact HO864.out) (Kd.R_base ho0) hb); have n4_ := Aside0.mk (Kd.R_elder' (by (with_reducible repeat (first | apply Kd.R_alloc | apply Kd.R_drewN | apply Kd.R_drew)); exact HO868.out) (Kd.R_base ho0) hb); have n5_ := Aside0.mk (Kd.R_lower (Kd.R_new' (Kd.R_new' (Kd.R_new' (Kd.R_new' (Kd.R_new' ho0 (Kd.R_lt (by (with_reducible repeat (first | apply Kd.R_alloc | apply Kd.R_drewN | apply Kd.R_drew)); exact HO853.out))) (Kd.R_lt (by (with_reducible repeat (first | apply Kd.R_alloc | apply Kd.R_drewN | apply Kd.R_drew)); exact HO856.out))) (Kd.R_lt (by (with_reducible repeat (first | apply Kd.R_alloc | apply Kd.R_drewN | apply Kd.R_drew)); exact HO860.out))) (Kd.R_lt (by (with_reducible repeat (first | apply Kd.R_alloc | apply Kd.R_drewN | apply Kd.R_drew)); exact HO864.out))) (Kd.R_lt (by (with_reducible repeat (first | apply Kd.R_alloc | apply Kd.R_drewN | apply Kd.R_drew)); exact HO868.out))) (below_size (by repeat (first | (with_reducible first | exact HB.out | apply below_alloc | apply pw_below_drewN | apply below_drew1) | exact HB.out)))); have n6_ := Aside0.mk (below_step (by repeat (first | (with_reducible first | exact HB.out | apply below_alloc | apply pw_below_drewN | apply below_drew1) | exact HB.out)) hb); clear HO853; clear HO856; clear HO860; clear HO864; clear HO868; clear HB; have HO853 := n0_; have HO856 := n1_; have HO860 := n2_; have HO864 := n3_; have HO868 := n4_; have HO872 := n5_; have HB := n6_; clear n0_ n1_ n2_ n3_ n4_ n5_ n6_; (try clear hb); (try clear hb2); (try clear hk); (try clear hi); (try clear ho0); obtain ⟨Ao25, co25, eo25⟩ := Kd.R_slice HO856.out; subst eo25) | ((with_reducible refine gate_callee (f := 53) rfl ?_); refine goesL_ (some 75) rfl rfl Try.func53 (by kernel_rfl) rfl #[.int .u8 a0, .int .u8 a1, .int .u8 a2, .slice Ao25 y854.length co25] rfl (by (try simp only [List.map_toArray, List.map_cons, List.map_nil]); first | done | rfl | (simp only [List.length_drop, List.length_take]; rfl)) ?_; (with_reducible refine (block_Synth.calls a0 a1 a2 _ _ y854 t873 t874 _ ?side1 ?side2 A15.out).mono ?_); (case side1 => repeat (first | exact (Kd.R_reads' HO856.out).2.2 | (with_reducible refine Kd.C_alloc ?_ _) | (with_reducible refine Kd.C_drewN ?_ _) | (with_reducible refine Kd.C_drew ?_))); (case side2 => exact (Kd.R_reads' HO856.out).2.1); rintro e w26 ⟨v875, rfl, ho0, hb⟩; refine ⟨_, rfl, ?_⟩; have n0_ := Aside0.mk (Kd.R_elder' (by (with_reducible repeat (first | apply Kd.R_alloc | apply Kd.R_drewN | apply Kd.R_drew)); exact HO853.out) (Kd.R_base ho0) hb); have n1_ := Aside0.mk (Kd.R_elder' (by (with_reducible repeat (first | apply Kd.R_alloc | apply Kd.R_drewN | apply Kd.R_drew)); exact HO856.out) (Kd.R_base ho0) hb); have n2_ := Aside0.mk (Kd.R_elder' (by (with_reducible repeat (first | apply Kd.R_alloc | apply Kd.R_drewN | apply Kd.R_drew)); exact HO860.out) (Kd.R_base ho0) hb); have n3_ := Aside0.mk (Kd.R_elder' (by (with_reducible repeat (first | apply Kd.R_alloc | apply Kd.R_drewN | apply Kd.R_drew)); exact HO864.out) (Kd.R_base ho0) hb); have n4_ := Aside0.mk (Kd.R_elder' (by (with_reducible repeat (first | apply Kd.R_alloc | apply Kd.R_drewN | apply Kd.R_drew)); exact HO868.out) (Kd.R_base ho0) hb); have n5_ := Aside0.mk (Kd.R_elder' (by (with_reducible repeat (first | apply Kd.R_alloc | apply Kd.R_drewN | apply Kd.R_drew)); exact HO872.out) (Kd.R_base ho0) hb); have n6_ := Aside0.mk (Kd.R_lower (Kd.R_new' (Kd.R_new' (Kd.R_new' (Kd.R_new' (Kd.R_new' (Kd.R_new' ho0 (Kd.R_lt (by (with_reducible repeat (first | apply Kd.R_alloc | apply Kd.R_drewN | apply Kd.R_drew)); exact HO853.out))) (Kd.R_lt (by (with_reducible repeat (first | apply Kd.R_alloc | apply Kd.R_drewN | apply Kd.R_drew)); exact HO856.out))) (Kd.R_lt (by (with_reducible repeat (first | apply Kd.R_alloc | apply Kd.R_drewN | apply Kd.R_drew)); exact HO860.out))) (Kd.R_lt (by (with_reducible repeat (first | apply Kd.R_alloc | apply Kd.R_drewN | apply Kd.R_drew)); exact HO864.out))) (Kd.R_lt (by (with_reducible repeat (first | apply Kd.R_alloc | apply Kd.R_drewN | apply Kd.R_drew)); exact HO868.out))) (Kd.R_lt (by (with_reducible repeat (first | apply Kd.R_alloc | apply Kd.R_drewN | apply Kd.R_drew)); exact HO872.out))) (below_size (by repeat (first | (with_reducible first | exact HB.out | apply below_alloc | apply pw_below_drewN | apply below_drew1) | exact HB.out)))); have n7_ := Aside0.mk (below_step (by repeat (first | (with_reducible first | exact HB.out | apply below_alloc | apply pw_below_drewN | apply below_drew1) | exact HB.out)) hb); clear HO853; clear HO856; clear HO860; clear HO864; clear HO868; clear HO872; clear HB; have HO853 := n0_; have HO856 := n1_; have HO860 := n2_; have HO864 := n3_; have HO868 := n4_; have HO872 := n5_; have HO876 := n6_; have HB := n7_; clear n0_ n1_ n2_ n3_ n4_ n5_ n6_ n7_; (try clear hb); (try clear hb2); (try clear hk); (try clear hi); (try clear ho0)) | ((with_reducible refine gate_callee (f := 57) rfl ?_); refine goesL_ (some 83) rfl rfl Try.func57 (by kernel_rfl) rfl #[.int .u8 a0, .int .u8 a1, .int .u8 a2, .slice A4 l4.length c4] rfl (by (try simp only [List.map_toArray, List.map_cons, List.map_nil]); first | done | rfl | (simp only [List.length_drop, List.length_take]; rfl)) ?_; (with_reducible refine (reedpiperef12_Synth.calls kj5 a0 a1 a2 _ _ l4 t877 t878 _ ?side1 ?side2 A16.out).mono ?_); (case side1 => repeat (first | exact (Kd.C_below HR4.out HB.out) | (with_reducible refine Kd.C_alloc ?_ _) | (with_reducible refine Kd.C_drewN ?_ _) | (with_reducible refine Kd.C_drew ?_))); (case side2 => exact HC4.out); rintro e w27 ⟨v879, rfl, ho0, hb⟩; refine ⟨_, rfl, ?_⟩; have n0_ := Aside0.mk (Kd.R_elder' (by (with_reducible repeat (first | apply Kd.R_alloc | apply Kd.R_drewN | apply Kd.R_drew)); exact HO853.out) (Kd.R_base ho0) hb); have n1_ := Aside0.mk (Kd.R_elder' (by (with_reducible repeat (first | apply Kd.R_alloc | apply Kd.R_drewN | apply Kd.R_drew)); exact HO856.out) (Kd.R_base ho0) hb); have n2_ := Aside0.mk (Kd.R_elder' (by (with_reducible repeat (first | apply Kd.R_alloc | apply Kd.R_drewN | apply Kd.R_drew)); exact HO860.out) (Kd.R_base ho0) hb); have n3_ := Aside0.mk (Kd.R_elder' (by (with_reducible repeat (first | apply Kd.R_alloc | apply Kd.R_drewN | apply Kd.R_drew)); exact HO864.out) (Kd.R_base ho0) hb); have n4_ := Aside0.mk (Kd.R_elder' (by (with_reducible repeat (first | apply Kd.R_alloc | apply Kd.R_drewN | apply Kd.R_drew)); exact HO868.out) (Kd.R_base ho0) hb); have n5_ := Aside0.mk (Kd.R_elder' (by (with_reducible repeat (first | apply Kd.R_alloc | apply Kd.R_drewN | apply Kd.R_drew)); exact HO872.out) (Kd.R_base ho0) hb); have n6_ := Aside0.mk (Kd.R_elder' (by (with_reducible repeat (first | apply Kd.R_alloc | apply Kd.R_drewN | apply Kd.R_drew)); exact HO876.out) (Kd.R_base ho0) hb); have n7_ := Aside0.mk (Kd.R_lower (Kd.R_new' (Kd.R_new' (Kd.R_new' (Kd.R_new' (Kd.R_new' (Kd.R_new' (Kd.R_new' ho0 (Kd.R_lt (by (with_reducible repeat (first | apply Kd.R_alloc | apply Kd.R_drewN | apply Kd.R_drew)); exact HO853.out))) (Kd.R_lt (by (with_reducible repeat (first | apply Kd.R_alloc | apply Kd.R_drewN | apply Kd.R_drew)); exact HO856.out))) (Kd.R_lt (by (with_reducible repeat (first | apply Kd.R_alloc | apply Kd.R_drewN | apply Kd.R_drew)); exact HO860.out))) (Kd.R_lt (by (with_reducible repeat (first | apply Kd.R_alloc | apply Kd.R_drewN | apply Kd.R_drew)); exact HO864.out))) (Kd.R_lt (by (with_reducible repeat (first | apply Kd.R_alloc | apply Kd.R_drewN | apply Kd.R_drew)); exact HO868.out))) (Kd.R_lt (by (with_reducible repeat (first | apply Kd.R_alloc | apply Kd.R_drewN | apply Kd.R_drew)); exact HO872.out))) (Kd.R_lt (by (with_reducible repeat (first | apply Kd.R_alloc | apply Kd.R_drewN | apply Kd.R_drew)); exact HO876.out))) (below_size (by repeat (first | (with_reducible first | exact HB.out | apply below_alloc | apply pw_below_drewN | apply below_drew1) | exact HB.out)))); have n8_ := Aside0.mk (below_step (by repeat (first | (with_reducible first | exact HB.out | apply below_alloc | apply pw_below_drewN | apply below_drew1) | exact HB.out)) hb); clear HO853; clear HO856; clear HO860; clear HO864; clear HO868; clear HO872; clear HO876; clear HB; have HO853 := n0_; have HO856 := n1_; have HO860 := n2_; have HO864 := n3_; have HO868 := n4_; have HO872 := n5_; have HO876 := n6_; have HO880 := n7_; have HB := n8_; clear n0_ n1_ n2_ n3_ n4_ n5_ n6_ n7_ n8_; (try clear hb); (try clear hb2); (try clear hk); (try clear hi); (try clear ho0)))
            (try simp only [Act.put, List.setIfInBounds_toArray, List.set_cons_zero, List.set_cons_succ])
            go_cut [116] (fun v116 wc => ∃ (kq : Nat) (x116_16 : Bool), v116 = .bool x116_16 ∧ Aside0 (reedpipelaw12_BlockDoes.j1 kq l3 l4 y851 y854 t857 t865 t873 x116_16 = some r) ∧ Aside0 (kq ≤ kj5) ∧ Aside0 (Kd.R (Kd.int .i64) 3 wc w.heap.size (fun k_ => some k_ ≠ ((.slice Ao25 y854.length co25) : Value).ownBlock ∧ some k_ ≠ (v859 : Value).ownBlock ∧ some k_ ≠ (v867 : Value).ownBlock ∧ some k_ ≠ (v875 : Value).ownBlock) (.slice Ao22 y851.length co22) y851) ∧ Aside0 (Kd.R (Kd.int .i64) 3 wc w.heap.size (fun k_ => some k_ ≠ ((.slice Ao22 y851.length co22) : Value).ownBlock ∧ some k_ ≠ (v859 : Value).ownBlock ∧ some k_ ≠ (v867 : Value).ownBlock ∧ some k_ ≠ (v875 : Value).ownBlock) (.slice Ao25 y854.length co25) y854) ∧ Aside0 (Kd.R (Kd.int .i64) 3 wc w.heap.size (fun k_ => some k_ ≠ ((.slice Ao22 y851.length co22) : Value).ownBlock ∧ some k_ ≠ ((.slice Ao25 y854.length co25) : Value).ownBlock ∧ some k_ ≠ (v867 : Value).ownBlock ∧ some k_ ≠ (v875 : Value).ownBlock) v859 t857) ∧ Aside0 (Kd.R (Kd.int .i64) 3 wc w.heap.size (fun k_ => some k_ ≠ ((.slice Ao22 y851.length co22) : Value).ownBlock ∧ some k_ ≠ ((.slice Ao25 y854.length co25) : Value).ownBlock ∧ some k_ ≠ (v859 : Value).ownBlock ∧ some k_ ≠ (v875 : Value).ownBlock) v867 t865) ∧ Aside0 (Kd.R (Kd.int .i64) 3 wc w.heap.size (fun k_ => some k_ ≠ ((.slice Ao22 y851.length co22) : Value).ownBlock ∧ some k_ ≠ ((.slice Ao25 y854.length co25) : Value).ownBlock ∧ some k_ ≠ (v859 : Value).ownBlock ∧ some k_ ≠ (v867 : Value).ownBlock) v875 t873) ∧ Aside0 (Below w.heap.size w wc))
            case first =>
              have H := HC17.out
              clear HC17
              replace H := Option.bind_eq_some_iff.mp H
              obtain ⟨t881, A280, H⟩ := H
              replace H : (if t881 = true then (if t858 = t862 then ((reedpiperef11_Same.f kj5 t865 t869).bind fun t882 => (if t882 = true then (if t866 = t870 then ((reedpiperef11_Same.f kj5 t873 t877).bind fun t883 => (if t883 = true then (reedpipelaw12_BlockDoes.j1 kj5 l3 l4 y851 y854 t857 t865 t873 (t874 != t878)) else (reedpipelaw12_BlockDoes.j1 kj5 l3 l4 y851 y854 t857 t865 t873 true))) else (reedpipelaw12_BlockDoes.j1 kj5 l3 l4 y851 y854 t857 t865 t873 true)) else (reedpipelaw12_BlockDoes.j1 kj5 l3 l4 y851 y854 t857 t865 t873 true))) else (reedpipelaw12_BlockDoes.j1 kj5 l3 l4 y851 y854 t857 t865 t873 true)) else (reedpipelaw12_BlockDoes.j1 kj5 l3 l4 y851 y854 t857 t865 t873 true)) = some r := H
              have A28 := Aside0.mk A280
              clear A280
              by_cases c29 : t881 = true
              · subst c29
                have H1 : (if t858 = t862 then ((reedpiperef11_Same.f kj5 t865 t869).bind fun t882 => (if t882 = true then (if t866 = t870 then ((reedpiperef11_Same.f kj5 t873 t877).bind fun t883 => (if t883 = true then (reedpipelaw12_BlockDoes.j1 kj5 l3 l4 y851 y854 t857 t865 t873 (t874 != t878)) else (reedpipelaw12_BlockDoes.j1 kj5 l3 l4 y851 y854 t857 t865 t873 true))) else (reedpipelaw12_BlockDoes.j1 kj5 l3 l4 y851 y854 t857 t865 t873 true)) else (reedpipelaw12_BlockDoes.j1 kj5 l3 l4 y851 y854 t857 t865 t873 true))) else (reedpipelaw12_BlockDoes.j1 kj5 l3 l4 y851 y854 t857 t865 t873 true)) = some r := by rw [if_pos rfl] at H; exact H
                clear H
                have H := H1
                clear H1
                by_cases c30 : t858 = t862
                · rw [if_pos c30] at H
                  have c30b0 : (t858 == t862) = true := beq_iff_eq.mpr c30
                  have c30b1 : (t858 != t862) = false := bne_eq_false_iff_eq.mpr c30
                  clear c30
                  (first | rw [c30b0] | (simp only [i64_w, i32_w]; rw [c30b0]) | skip)
                  replace H := Option.bind_eq_some_iff.mp H
                  obtain ⟨t882, A310, H⟩ := H
                  replace H : (if t882 = true then (if t866 = t870 then ((reedpiperef11_Same.f kj5 t873 t877).bind fun t883 => (if t883 = true then (reedpipelaw12_BlockDoes.j1 kj5 l3 l4 y851 y854 t857 t865 t873 (t874 != t878)) else (reedpipelaw12_BlockDoes.j1 kj5 l3 l4 y851 y854 t857 t865 t873 true))) else (reedpipelaw12_BlockDoes.j1 kj5 l3 l4 y851 y854 t857 t865 t873 true)) else (reedpipelaw12_BlockDoes.j1 kj5 l3 l4 y851 y854 t857 t865 t873 true)) = some r := H
                  have A31 := Aside0.mk A310
                  clear A310
                  by_cases c32 : t882 = true
                  · subst c32
                    have H1 : (if t866 = t870 then ((reedpiperef11_Same.f kj5 t873 t877).bind fun t883 => (if t883 = true then (reedpipelaw12_BlockDoes.j1 kj5 l3 l4 y851 y854 t857 t865 t873 (t874 != t878)) else (reedpipelaw12_BlockDoes.j1 kj5 l3 l4 y851 y854 t857 t865 t873 true))) else (reedpipelaw12_BlockDoes.j1 kj5 l3 l4 y851 y854 t857 t865 t873 true)) = some r := by rw [if_pos rfl] at H; exact H
                    clear H
                    have H := H1
                    clear H1
                    by_cases c33 : t866 = t870
                    · rw [if_pos c33] at H
                      have c33b0 : (t866 == t870) = true := beq_iff_eq.mpr c33
                      have c33b1 : (t866 != t870) = false := bne_eq_false_iff_eq.mpr c33
                      clear c33
                      replace H := Option.bind_eq_some_iff.mp H
                      obtain ⟨t883, A340, H⟩ := H
                      replace H : (if t883 = true then (reedpipelaw12_BlockDoes.j1 kj5 l3 l4 y851 y854 t857 t865 t873 (t874 != t878)) else (reedpipelaw12_BlockDoes.j1 kj5 l3 l4 y851 y854 t857 t865 t873 true)) = some r := H
                      have A34 := Aside0.mk A340
                      clear A340
                      by_cases c35 : t883 = true
                      · subst c35
                        have H1 : (reedpipelaw12_BlockDoes.j1 kj5 l3 l4 y851 y854 t857 t865 t873 (t874 != t878)) = some r := by rw [if_pos rfl] at H; exact H
                        clear H
                        have H := H1
                        clear H1
                        have H' := Aside0.mk H
                        clear H
                        obtain ⟨Ao36, co36, eo36⟩ := Kd.R_slice HO860.out
                        subst eo36
                        obtain ⟨Ao37, co37, eo37⟩ := Kd.R_slice HO864.out
                        subst eo37
                        go_wp2_with (first | ((with_reducible refine gate_callee (f := 50) rfl ?_); refine goesL_ (some 88) rfl rfl Try.func50 (by kernel_rfl) rfl #[.slice Ao36 t857.length co36, .slice Ao37 t861.length co37] rfl (by (try simp only [List.map_toArray, List.map_cons, List.map_nil]); first | done | rfl | (simp only [List.length_drop, List.length_take]; rfl)) ?_; (with_reducible refine (reedpiperef11_Same.calls kj5 _ _ t857 _ _ t861 true _ ?side1 ?side2 ?side3 ?side4 A28.out).mono ?_); (case side1 => repeat (first | exact (Kd.R_reads' HO860.out).2.2 | (with_reducible refine Kd.C_alloc ?_ _) | (with_reducible refine Kd.C_drewN ?_ _) | (with_reducible refine Kd.C_drew ?_))); (case side2 => exact (Kd.R_reads' HO860.out).2.1); (case side3 => repeat (first | exact (Kd.R_reads' HO864.out).2.2 | (with_reducible refine Kd.C_alloc ?_ _) | (with_reducible refine Kd.C_drewN ?_ _) | (with_reducible refine Kd.C_drew ?_))); (case side4 => exact (Kd.R_reads' HO864.out).2.1); rintro e w' ⟨rfl, ⟨nd, rfl⟩⟩; refine ⟨_, rfl, ?_⟩; obtain ⟨Ao38, co38, eo38⟩ := Kd.R_slice HO868.out; subst eo38; obtain ⟨Ao39, co39, eo39⟩ := Kd.R_slice HO872.out; subst eo39) | (go_at_call 50; (with_reducible refine (reedpiperef11_Same.calls kj5 _ _ t865 _ _ t869 true _ ?side1 ?side2 ?side3 ?side4 A31.out).mono ?_); (case side1 => repeat (first | exact (Kd.R_reads' HO868.out).2.2 | (with_reducible refine Kd.C_alloc ?_ _) | (with_reducible refine Kd.C_drewN ?_ _) | (with_reducible refine Kd.C_drew ?_))); (case side2 => exact (Kd.R_reads' HO868.out).2.1); (case side3 => repeat (first | exact (Kd.R_reads' HO872.out).2.2 | (with_reducible refine Kd.C_alloc ?_ _) | (with_reducible refine Kd.C_drewN ?_ _) | (with_reducible refine Kd.C_drew ?_))); (case side4 => exact (Kd.R_reads' HO872.out).2.1); rintro e w' ⟨rfl, ⟨nd, rfl⟩⟩; obtain ⟨Ao40, co40, eo40⟩ := Kd.R_slice HO876.out; subst eo40; obtain ⟨Ao41, co41, eo41⟩ := Kd.R_slice HO880.out; subst eo41) | (go_at_call 50; (with_reducible refine (reedpiperef11_Same.calls kj5 _ _ t873 _ _ t877 true _ ?side1 ?side2 ?side3 ?side4 A34.out).mono ?_); (case side1 => repeat (first | exact (Kd.R_reads' HO876.out).2.2 | (with_reducible refine Kd.C_alloc ?_ _) | (with_reducible refine Kd.C_drewN ?_ _) | (with_reducible refine Kd.C_drew ?_))); (case side2 => exact (Kd.R_reads' HO876.out).2.1); (case side3 => repeat (first | exact (Kd.R_reads' HO880.out).2.2 | (with_reducible refine Kd.C_alloc ?_ _) | (with_reducible refine Kd.C_drewN ?_ _) | (with_reducible refine Kd.C_drew ?_))); (case side4 => exact (Kd.R_reads' HO880.out).2.1); rintro e w' ⟨rfl, ⟨nd, rfl⟩⟩))
                        go_meet
                        case rel => exact ⟨_, ((t874 != t878)), (by first | rfl | (simp; done) | (simp [*]; done)), H', ⟨by have := HJ5.out; first | omega | exact Nat.le_refl _⟩, ⟨by (with_reducible repeat (first | apply Kd.R_alloc | apply Kd.R_drewN | apply Kd.R_drew)); exact Kd.R_mono HO853.out (fun _ hk => ⟨hk.1.1.1.1.1.1.2, ⟨hk.1.1.1.1.1.2, ⟨hk.1.1.1.2, hk.1.2⟩⟩⟩)⟩, ⟨by (with_reducible repeat (first | apply Kd.R_alloc | apply Kd.R_drewN | apply Kd.R_drew)); exact Kd.R_mono HO856.out (fun _ hk => ⟨hk.1.1.1.1.1.1, ⟨hk.1.1.1.1.1.2, ⟨hk.1.1.1.2, hk.1.2⟩⟩⟩)⟩, ⟨by (with_reducible repeat (first | apply Kd.R_alloc | apply Kd.R_drewN | apply Kd.R_drew)); exact Kd.R_mono HO860.out (fun _ hk => ⟨hk.1.1.1.1.1.1.2, ⟨hk.1.1.1.1.1.2, ⟨hk.1.1.1.2, hk.1.2⟩⟩⟩)⟩, ⟨by (with_reducible repeat (first | apply Kd.R_alloc | apply Kd.R_drewN | apply Kd.R_drew)); exact Kd.R_mono HO868.out (fun _ hk => ⟨hk.1.1.1.1.1.1.2, ⟨hk.1.1.1.1.1.2, ⟨hk.1.1.1.1.2, hk.1.2⟩⟩⟩)⟩, ⟨by (with_reducible repeat (first | apply Kd.R_alloc | apply Kd.R_drewN | apply Kd.R_drew)); exact Kd.R_mono HO876.out (fun _ hk => ⟨hk.1.1.1.1.1.1.2, ⟨hk.1.1.1.1.1.2, ⟨hk.1.1.1.1.2, hk.1.1.2⟩⟩⟩)⟩, ⟨by repeat (first | (with_reducible first | exact HB.out | apply below_alloc | apply pw_below_drewN | apply below_drew1) | exact HB.out)⟩⟩
                      · replace c35 := Bool.eq_false_iff.mpr c35
                        subst c35
                        have H1 : (reedpipelaw12_BlockDoes.j1 kj5 l3 l4 y851 y854 t857 t865 t873 true) = some r := by rw [if_neg (show ¬ (false = true) by decide)] at H; exact H
                        clear H
                        have H := H1
                        clear H1
                        have H' := Aside0.mk H
                        clear H
                        obtain ⟨Ao42, co42, eo42⟩ := Kd.R_slice HO860.out
                        subst eo42
                        obtain ⟨Ao43, co43, eo43⟩ := Kd.R_slice HO864.out
                        subst eo43
                        go_wp2_with (first | ((with_reducible refine gate_callee (f := 50) rfl ?_); refine goesL_ (some 88) rfl rfl Try.func50 (by kernel_rfl) rfl #[.slice Ao42 t857.length co42, .slice Ao43 t861.length co43] rfl (by (try simp only [List.map_toArray, List.map_cons, List.map_nil]); first | done | rfl | (simp only [List.length_drop, List.length_take]; rfl)) ?_; (with_reducible refine (reedpiperef11_Same.calls kj5 _ _ t857 _ _ t861 true _ ?side1 ?side2 ?side3 ?side4 A28.out).mono ?_); (case side1 => repeat (first | exact (Kd.R_reads' HO860.out).2.2 | (with_reducible refine Kd.C_alloc ?_ _) | (with_reducible refine Kd.C_drewN ?_ _) | (with_reducible refine Kd.C_drew ?_))); (case side2 => exact (Kd.R_reads' HO860.out).2.1); (case side3 => repeat (first | exact (Kd.R_reads' HO864.out).2.2 | (with_reducible refine Kd.C_alloc ?_ _) | (with_reducible refine Kd.C_drewN ?_ _) | (with_reducible refine Kd.C_drew ?_))); (case side4 => exact (Kd.R_reads' HO864.out).2.1); rintro e w' ⟨rfl, ⟨nd, rfl⟩⟩; refine ⟨_, rfl, ?_⟩; obtain ⟨Ao44, co44, eo44⟩ := Kd.R_slice HO868.out; subst eo44; obtain ⟨Ao45, co45, eo45⟩ := Kd.R_slice HO872.out; subst eo45) | (go_at_call 50; (with_reducible refine (reedpiperef11_Same.calls kj5 _ _ t865 _ _ t869 true _ ?side1 ?side2 ?side3 ?side4 A31.out).mono ?_); (case side1 => repeat (first | exact (Kd.R_reads' HO868.out).2.2 | (with_reducible refine Kd.C_alloc ?_ _) | (with_reducible refine Kd.C_drewN ?_ _) | (with_reducible refine Kd.C_drew ?_))); (case side2 => exact (Kd.R_reads' HO868.out).2.1); (case side3 => repeat (first | exact (Kd.R_reads' HO872.out).2.2 | (with_reducible refine Kd.C_alloc ?_ _) | (with_reducible refine Kd.C_drewN ?_ _) | (with_reducible refine Kd.C_drew ?_))); (case side4 => exact (Kd.R_reads' HO872.out).2.1); rintro e w' ⟨rfl, ⟨nd, rfl⟩⟩; obtain ⟨Ao46, co46, eo46⟩ := Kd.R_slice HO876.out; subst eo46; obtain ⟨Ao47, co47, eo47⟩ := Kd.R_slice HO880.out; subst eo47) | (go_at_call 50; (with_reducible refine (reedpiperef11_Same.calls kj5 _ _ t873 _ _ t877 false _ ?side1 ?side2 ?side3 ?side4 A34.out).mono ?_); (case side1 => repeat (first | exact (Kd.R_reads' HO876.out).2.2 | (with_reducible refine Kd.C_alloc ?_ _) | (with_reducible refine Kd.C_drewN ?_ _) | (with_reducible refine Kd.C_drew ?_))); (case side2 => exact (Kd.R_reads' HO876.out).2.1); (case side3 => repeat (first | exact (Kd.R_reads' HO880.out).2.2 | (with_reducible refine Kd.C_alloc ?_ _) | (with_reducible refine Kd.C_drewN ?_ _) | (with_reducible refine Kd.C_drew ?_))); (case side4 => exact (Kd.R_reads' HO880.out).2.1); rintro e w' ⟨rfl, ⟨nd, rfl⟩⟩))
                        go_meet
                        case rel => exact ⟨_, (true), (by first | rfl | (simp; done) | (simp [*]; done)), H', ⟨by have := HJ5.out; first | omega | exact Nat.le_refl _⟩, ⟨by (with_reducible repeat (first | apply Kd.R_alloc | apply Kd.R_drewN | apply Kd.R_drew)); exact Kd.R_mono HO853.out (fun _ hk => ⟨hk.1.1.1.1.1.1.2, ⟨hk.1.1.1.1.1.2, ⟨hk.1.1.1.2, hk.1.2⟩⟩⟩)⟩, ⟨by (with_reducible repeat (first | apply Kd.R_alloc | apply Kd.R_drewN | apply Kd.R_drew)); exact Kd.R_mono HO856.out (fun _ hk => ⟨hk.1.1.1.1.1.1, ⟨hk.1.1.1.1.1.2, ⟨hk.1.1.1.2, hk.1.2⟩⟩⟩)⟩, ⟨by (with_reducible repeat (first | apply Kd.R_alloc | apply Kd.R_drewN | apply Kd.R_drew)); exact Kd.R_mono HO860.out (fun _ hk => ⟨hk.1.1.1.1.1.1.2, ⟨hk.1.1.1.1.1.2, ⟨hk.1.1.1.2, hk.1.2⟩⟩⟩)⟩, ⟨by (with_reducible repeat (first | apply Kd.R_alloc | apply Kd.R_drewN | apply Kd.R_drew)); exact Kd.R_mono HO868.out (fun _ hk => ⟨hk.1.1.1.1.1.1.2, ⟨hk.1.1.1.1.1.2, ⟨hk.1.1.1.1.2, hk.1.2⟩⟩⟩)⟩, ⟨by (with_reducible repeat (first | apply Kd.R_alloc | apply Kd.R_drewN | apply Kd.R_drew)); exact Kd.R_mono HO876.out (fun _ hk => ⟨hk.1.1.1.1.1.1.2, ⟨hk.1.1.1.1.1.2, ⟨hk.1.1.1.1.2, hk.1.1.2⟩⟩⟩)⟩, ⟨by repeat (first | (with_reducible first | exact HB.out | apply below_alloc | apply pw_below_drewN | apply below_drew1) | exact HB.out)⟩⟩
                    · rw [if_neg c33] at H
                      have c33b0 : (t866 == t870) = false := beq_eq_false_iff_ne.mpr c33
                      have c33b1 : (t866 != t870) = true := bne_iff_ne.mpr c33
                      have H' := Aside0.mk H
                      clear H
                      obtain ⟨Ao48, co48, eo48⟩ := Kd.R_slice HO860.out
                      subst eo48
                      obtain ⟨Ao49, co49, eo49⟩ := Kd.R_slice HO864.out
                      subst eo49
                      go_wp2_with (first | ((with_reducible refine gate_callee (f := 50) rfl ?_); refine goesL_ (some 88) rfl rfl Try.func50 (by kernel_rfl) rfl #[.slice Ao48 t857.length co48, .slice Ao49 t861.length co49] rfl (by (try simp only [List.map_toArray, List.map_cons, List.map_nil]); first | done | rfl | (simp only [List.length_drop, List.length_take]; rfl)) ?_; (with_reducible refine (reedpiperef11_Same.calls kj5 _ _ t857 _ _ t861 true _ ?side1 ?side2 ?side3 ?side4 A28.out).mono ?_); (case side1 => repeat (first | exact (Kd.R_reads' HO860.out).2.2 | (with_reducible refine Kd.C_alloc ?_ _) | (with_reducible refine Kd.C_drewN ?_ _) | (with_reducible refine Kd.C_drew ?_))); (case side2 => exact (Kd.R_reads' HO860.out).2.1); (case side3 => repeat (first | exact (Kd.R_reads' HO864.out).2.2 | (with_reducible refine Kd.C_alloc ?_ _) | (with_reducible refine Kd.C_drewN ?_ _) | (with_reducible refine Kd.C_drew ?_))); (case side4 => exact (Kd.R_reads' HO864.out).2.1); rintro e w' ⟨rfl, ⟨nd, rfl⟩⟩; refine ⟨_, rfl, ?_⟩; obtain ⟨Ao50, co50, eo50⟩ := Kd.R_slice HO868.out; subst eo50; obtain ⟨Ao51, co51, eo51⟩ := Kd.R_slice HO872.out; subst eo51) | (go_at_call 50; (with_reducible refine (reedpiperef11_Same.calls kj5 _ _ t865 _ _ t869 true _ ?side1 ?side2 ?side3 ?side4 A31.out).mono ?_); (case side1 => repeat (first | exact (Kd.R_reads' HO868.out).2.2 | (with_reducible refine Kd.C_alloc ?_ _) | (with_reducible refine Kd.C_drewN ?_ _) | (with_reducible refine Kd.C_drew ?_))); (case side2 => exact (Kd.R_reads' HO868.out).2.1); (case side3 => repeat (first | exact (Kd.R_reads' HO872.out).2.2 | (with_reducible refine Kd.C_alloc ?_ _) | (with_reducible refine Kd.C_drewN ?_ _) | (with_reducible refine Kd.C_drew ?_))); (case side4 => exact (Kd.R_reads' HO872.out).2.1); rintro e w' ⟨rfl, ⟨nd, rfl⟩⟩))
                      go_meet
                      case rel => exact ⟨_, (true), (by first | rfl | (simp; done) | (simp [*]; done)), H', ⟨by have := HJ5.out; first | omega | exact Nat.le_refl _⟩, ⟨by (with_reducible repeat (first | apply Kd.R_alloc | apply Kd.R_drewN | apply Kd.R_drew)); exact Kd.R_mono HO853.out (fun _ hk => ⟨hk.1.1.1.1.1.1.2, ⟨hk.1.1.1.1.1.2, ⟨hk.1.1.1.2, hk.1.2⟩⟩⟩)⟩, ⟨by (with_reducible repeat (first | apply Kd.R_alloc | apply Kd.R_drewN | apply Kd.R_drew)); exact Kd.R_mono HO856.out (fun _ hk => ⟨hk.1.1.1.1.1.1, ⟨hk.1.1.1.1.1.2, ⟨hk.1.1.1.2, hk.1.2⟩⟩⟩)⟩, ⟨by (with_reducible repeat (first | apply Kd.R_alloc | apply Kd.R_drewN | apply Kd.R_drew)); exact Kd.R_mono HO860.out (fun _ hk => ⟨hk.1.1.1.1.1.1.2, ⟨hk.1.1.1.1.1.2, ⟨hk.1.1.1.2, hk.1.2⟩⟩⟩)⟩, ⟨by (with_reducible repeat (first | apply Kd.R_alloc | apply Kd.R_drewN | apply Kd.R_drew)); exact Kd.R_mono HO868.out (fun _ hk => ⟨hk.1.1.1.1.1.1.2, ⟨hk.1.1.1.1.1.2, ⟨hk.1.1.1.1.2, hk.1.2⟩⟩⟩)⟩, ⟨by (with_reducible repeat (first | apply Kd.R_alloc | apply Kd.R_drewN | apply Kd.R_drew)); exact Kd.R_mono HO876.out (fun _ hk => ⟨hk.1.1.1.1.1.1.2, ⟨hk.1.1.1.1.1.2, ⟨hk.1.1.1.1.2, hk.1.1.2⟩⟩⟩)⟩, ⟨by repeat (first | (with_reducible first | exact HB.out | apply below_alloc | apply pw_below_drewN | apply below_drew1) | exact HB.out)⟩⟩
                  · replace c32 := Bool.eq_false_iff.mpr c32
                    subst c32
                    have H1 : (reedpipelaw12_BlockDoes.j1 kj5 l3 l4 y851 y854 t857 t865 t873 true) = some r := by rw [if_neg (show ¬ (false = true) by decide)] at H; exact H
                    clear H
                    have H := H1
                    clear H1
                    have H' := Aside0.mk H
                    clear H
                    obtain ⟨Ao52, co52, eo52⟩ := Kd.R_slice HO860.out
                    subst eo52
                    obtain ⟨Ao53, co53, eo53⟩ := Kd.R_slice HO864.out
                    subst eo53
                    go_wp2_with (first | ((with_reducible refine gate_callee (f := 50) rfl ?_); refine goesL_ (some 88) rfl rfl Try.func50 (by kernel_rfl) rfl #[.slice Ao52 t857.length co52, .slice Ao53 t861.length co53] rfl (by (try simp only [List.map_toArray, List.map_cons, List.map_nil]); first | done | rfl | (simp only [List.length_drop, List.length_take]; rfl)) ?_; (with_reducible refine (reedpiperef11_Same.calls kj5 _ _ t857 _ _ t861 true _ ?side1 ?side2 ?side3 ?side4 A28.out).mono ?_); (case side1 => repeat (first | exact (Kd.R_reads' HO860.out).2.2 | (with_reducible refine Kd.C_alloc ?_ _) | (with_reducible refine Kd.C_drewN ?_ _) | (with_reducible refine Kd.C_drew ?_))); (case side2 => exact (Kd.R_reads' HO860.out).2.1); (case side3 => repeat (first | exact (Kd.R_reads' HO864.out).2.2 | (with_reducible refine Kd.C_alloc ?_ _) | (with_reducible refine Kd.C_drewN ?_ _) | (with_reducible refine Kd.C_drew ?_))); (case side4 => exact (Kd.R_reads' HO864.out).2.1); rintro e w' ⟨rfl, ⟨nd, rfl⟩⟩; refine ⟨_, rfl, ?_⟩; obtain ⟨Ao54, co54, eo54⟩ := Kd.R_slice HO868.out; subst eo54; obtain ⟨Ao55, co55, eo55⟩ := Kd.R_slice HO872.out; subst eo55) | (go_at_call 50; (with_reducible refine (reedpiperef11_Same.calls kj5 _ _ t865 _ _ t869 false _ ?side1 ?side2 ?side3 ?side4 A31.out).mono ?_); (case side1 => repeat (first | exact (Kd.R_reads' HO868.out).2.2 | (with_reducible refine Kd.C_alloc ?_ _) | (with_reducible refine Kd.C_drewN ?_ _) | (with_reducible refine Kd.C_drew ?_))); (case side2 => exact (Kd.R_reads' HO868.out).2.1); (case side3 => repeat (first | exact (Kd.R_reads' HO872.out).2.2 | (with_reducible refine Kd.C_alloc ?_ _) | (with_reducible refine Kd.C_drewN ?_ _) | (with_reducible refine Kd.C_drew ?_))); (case side4 => exact (Kd.R_reads' HO872.out).2.1); rintro e w' ⟨rfl, ⟨nd, rfl⟩⟩))
                    go_meet
                    case rel => exact ⟨_, (true), (by first | rfl | (simp; done) | (simp [*]; done)), H', ⟨by have := HJ5.out; first | omega | exact Nat.le_refl _⟩, ⟨by (with_reducible repeat (first | apply Kd.R_alloc | apply Kd.R_drewN | apply Kd.R_drew)); exact Kd.R_mono HO853.out (fun _ hk => ⟨hk.1.1.1.1.1.1.2, ⟨hk.1.1.1.1.1.2, ⟨hk.1.1.1.2, hk.1.2⟩⟩⟩)⟩, ⟨by (with_reducible repeat (first | apply Kd.R_alloc | apply Kd.R_drewN | apply Kd.R_drew)); exact Kd.R_mono HO856.out (fun _ hk => ⟨hk.1.1.1.1.1.1, ⟨hk.1.1.1.1.1.2, ⟨hk.1.1.1.2, hk.1.2⟩⟩⟩)⟩, ⟨by (with_reducible repeat (first | apply Kd.R_alloc | apply Kd.R_drewN | apply Kd.R_drew)); exact Kd.R_mono HO860.out (fun _ hk => ⟨hk.1.1.1.1.1.1.2, ⟨hk.1.1.1.1.1.2, ⟨hk.1.1.1.2, hk.1.2⟩⟩⟩)⟩, ⟨by (with_reducible repeat (first | apply Kd.R_alloc | apply Kd.R_drewN | apply Kd.R_drew)); exact Kd.R_mono HO868.out (fun _ hk => ⟨hk.1.1.1.1.1.1.2, ⟨hk.1.1.1.1.1.2, ⟨hk.1.1.1.1.2, hk.1.2⟩⟩⟩)⟩, ⟨by (with_reducible repeat (first | apply Kd.R_alloc | apply Kd.R_drewN | apply Kd.R_drew)); exact Kd.R_mono HO876.out (fun _ hk => ⟨hk.1.1.1.1.1.1.2, ⟨hk.1.1.1.1.1.2, ⟨hk.1.1.1.1.2, hk.1.1.2⟩⟩⟩)⟩, ⟨by repeat (first | (with_reducible first | exact HB.out | apply below_alloc | apply pw_below_drewN | apply below_drew1) | exact HB.out)⟩⟩
                · rw [if_neg c30] at H
                  have c30b0 : (t858 == t862) = false := beq_eq_false_iff_ne.mpr c30
                  have c30b1 : (t858 != t862) = true := bne_iff_ne.mpr c30
                  (first | rw [c30b0] | (simp only [i64_w, i32_w]; rw [c30b0]) | skip)
                  have H' := Aside0.mk H
                  clear H
                  obtain ⟨Ao56, co56, eo56⟩ := Kd.R_slice HO860.out
                  subst eo56
                  obtain ⟨Ao57, co57, eo57⟩ := Kd.R_slice HO864.out
                  subst eo57
                  go_wp2_with (first | ((with_reducible refine gate_callee (f := 50) rfl ?_); refine goesL_ (some 88) rfl rfl Try.func50 (by kernel_rfl) rfl #[.slice Ao56 t857.length co56, .slice Ao57 t861.length co57] rfl (by (try simp only [List.map_toArray, List.map_cons, List.map_nil]); first | done | rfl | (simp only [List.length_drop, List.length_take]; rfl)) ?_; (with_reducible refine (reedpiperef11_Same.calls kj5 _ _ t857 _ _ t861 true _ ?side1 ?side2 ?side3 ?side4 A28.out).mono ?_); (case side1 => repeat (first | exact (Kd.R_reads' HO860.out).2.2 | (with_reducible refine Kd.C_alloc ?_ _) | (with_reducible refine Kd.C_drewN ?_ _) | (with_reducible refine Kd.C_drew ?_))); (case side2 => exact (Kd.R_reads' HO860.out).2.1); (case side3 => repeat (first | exact (Kd.R_reads' HO864.out).2.2 | (with_reducible refine Kd.C_alloc ?_ _) | (with_reducible refine Kd.C_drewN ?_ _) | (with_reducible refine Kd.C_drew ?_))); (case side4 => exact (Kd.R_reads' HO864.out).2.1); rintro e w' ⟨rfl, ⟨nd, rfl⟩⟩; refine ⟨_, rfl, ?_⟩))
                  go_meet
                  case rel => exact ⟨_, (true), (by first | rfl | (simp; done) | (simp [*]; done)), H', ⟨by have := HJ5.out; first | omega | exact Nat.le_refl _⟩, ⟨by (with_reducible repeat (first | apply Kd.R_alloc | apply Kd.R_drewN | apply Kd.R_drew)); exact Kd.R_mono HO853.out (fun _ hk => ⟨hk.1.1.1.1.1.1.2, ⟨hk.1.1.1.1.1.2, ⟨hk.1.1.1.2, hk.1.2⟩⟩⟩)⟩, ⟨by (with_reducible repeat (first | apply Kd.R_alloc | apply Kd.R_drewN | apply Kd.R_drew)); exact Kd.R_mono HO856.out (fun _ hk => ⟨hk.1.1.1.1.1.1, ⟨hk.1.1.1.1.1.2, ⟨hk.1.1.1.2, hk.1.2⟩⟩⟩)⟩, ⟨by (with_reducible repeat (first | apply Kd.R_alloc | apply Kd.R_drewN | apply Kd.R_drew)); exact Kd.R_mono HO860.out (fun _ hk => ⟨hk.1.1.1.1.1.1.2, ⟨hk.1.1.1.1.1.2, ⟨hk.1.1.1.2, hk.1.2⟩⟩⟩)⟩, ⟨by (with_reducible repeat (first | apply Kd.R_alloc | apply Kd.R_drewN | apply Kd.R_drew)); exact Kd.R_mono HO868.out (fun _ hk => ⟨hk.1.1.1.1.1.1.2, ⟨hk.1.1.1.1.1.2, ⟨hk.1.1.1.1.2, hk.1.2⟩⟩⟩)⟩, ⟨by (with_reducible repeat (first | apply Kd.R_alloc | apply Kd.R_drewN | apply Kd.R_drew)); exact Kd.R_mono HO876.out (fun _ hk => ⟨hk.1.1.1.1.1.1.2, ⟨hk.1.1.1.1.1.2, ⟨hk.1.1.1.1.2, hk.1.1.2⟩⟩⟩)⟩, ⟨by repeat (first | (with_reducible first | exact HB.out | apply below_alloc | apply pw_below_drewN | apply below_drew1) | exact HB.out)⟩⟩
              · replace c29 := Bool.eq_false_iff.mpr c29
                subst c29
                have H1 : (reedpipelaw12_BlockDoes.j1 kj5 l3 l4 y851 y854 t857 t865 t873 true) = some r := by rw [if_neg (show ¬ (false = true) by decide)] at H; exact H
                clear H
                have H := H1
                clear H1
                have H' := Aside0.mk H
                clear H
                obtain ⟨Ao58, co58, eo58⟩ := Kd.R_slice HO860.out
                subst eo58
                obtain ⟨Ao59, co59, eo59⟩ := Kd.R_slice HO864.out
                subst eo59
                go_wp2_with (first | ((with_reducible refine gate_callee (f := 50) rfl ?_); refine goesL_ (some 88) rfl rfl Try.func50 (by kernel_rfl) rfl #[.slice Ao58 t857.length co58, .slice Ao59 t861.length co59] rfl (by (try simp only [List.map_toArray, List.map_cons, List.map_nil]); first | done | rfl | (simp only [List.length_drop, List.length_take]; rfl)) ?_; (with_reducible refine (reedpiperef11_Same.calls kj5 _ _ t857 _ _ t861 false _ ?side1 ?side2 ?side3 ?side4 A28.out).mono ?_); (case side1 => repeat (first | exact (Kd.R_reads' HO860.out).2.2 | (with_reducible refine Kd.C_alloc ?_ _) | (with_reducible refine Kd.C_drewN ?_ _) | (with_reducible refine Kd.C_drew ?_))); (case side2 => exact (Kd.R_reads' HO860.out).2.1); (case side3 => repeat (first | exact (Kd.R_reads' HO864.out).2.2 | (with_reducible refine Kd.C_alloc ?_ _) | (with_reducible refine Kd.C_drewN ?_ _) | (with_reducible refine Kd.C_drew ?_))); (case side4 => exact (Kd.R_reads' HO864.out).2.1); rintro e w' ⟨rfl, ⟨nd, rfl⟩⟩; refine ⟨_, rfl, ?_⟩))
                go_meet
                case rel => exact ⟨_, (true), (by first | rfl | (simp; done) | (simp [*]; done)), H', ⟨by have := HJ5.out; first | omega | exact Nat.le_refl _⟩, ⟨by (with_reducible repeat (first | apply Kd.R_alloc | apply Kd.R_drewN | apply Kd.R_drew)); exact Kd.R_mono HO853.out (fun _ hk => ⟨hk.1.1.1.1.1.1.2, ⟨hk.1.1.1.1.1.2, ⟨hk.1.1.1.2, hk.1.2⟩⟩⟩)⟩, ⟨by (with_reducible repeat (first | apply Kd.R_alloc | apply Kd.R_drewN | apply Kd.R_drew)); exact Kd.R_mono HO856.out (fun _ hk => ⟨hk.1.1.1.1.1.1, ⟨hk.1.1.1.1.1.2, ⟨hk.1.1.1.2, hk.1.2⟩⟩⟩)⟩, ⟨by (with_reducible repeat (first | apply Kd.R_alloc | apply Kd.R_drewN | apply Kd.R_drew)); exact Kd.R_mono HO860.out (fun _ hk => ⟨hk.1.1.1.1.1.1.2, ⟨hk.1.1.1.1.1.2, ⟨hk.1.1.1.2, hk.1.2⟩⟩⟩)⟩, ⟨by (with_reducible repeat (first | apply Kd.R_alloc | apply Kd.R_drewN | apply Kd.R_drew)); exact Kd.R_mono HO868.out (fun _ hk => ⟨hk.1.1.1.1.1.1.2, ⟨hk.1.1.1.1.1.2, ⟨hk.1.1.1.1.2, hk.1.2⟩⟩⟩)⟩, ⟨by (with_reducible repeat (first | apply Kd.R_alloc | apply Kd.R_drewN | apply Kd.R_drew)); exact Kd.R_mono HO876.out (fun _ hk => ⟨hk.1.1.1.1.1.1.2, ⟨hk.1.1.1.1.1.2, ⟨hk.1.1.1.1.2, hk.1.1.2⟩⟩⟩)⟩, ⟨by repeat (first | (with_reducible first | exact HB.out | apply below_alloc | apply pw_below_drewN | apply below_drew1) | exact HB.out)⟩⟩
            case rest =>
              clear HC17
              try clear c1
              try clear c2
              try clear p2
              try clear c3
              try clear c4
              try clear c5
              try clear c7
              try clear c7b0
              try clear c7b1
              try clear c8
              try clear c9
              try clear c10
              try clear c23
              try clear c29
              try clear c30
              try clear c30b0
              try clear c30b1
              try clear c32
              try clear c33
              try clear c33b0
              try clear c33b1
              try clear c35
              try clear c42
              try clear c50
              try clear c52
              try clear c53
              try clear c55
              try clear c56
              try clear c57
              try clear p2
              obtain ⟨kq, x116_16, rfl, HA, HJ16, HO_11, HO_12, HO_13, HO_17, HO_21, HB⟩ := hcut
              cases kq with
              | zero => exact absurd HA.out (by simp [reedpipelaw12_BlockDoes.j1])
              | succ kj16 =>
                have H := HA.out
                clear HA
                simp only [reedpipelaw12_BlockDoes.j1] at H
                by_cases c60 : x116_16 = true
                · subst c60
                  have H1 : (some false) = some r := by rw [if_pos rfl] at H; exact H
                  clear H
                  have H := H1
                  clear H1
                  obtain rfl := Option.some.inj H
                  go_wp2
                  go_ret
                  exact ⟨by first | rfl | (simp [errW_none, errW_some] <;> rfl) | (simp [*, errW_none, errW_some] <;> rfl), by repeat (first | (with_reducible first | exact HB.out | apply below_alloc | apply pw_below_drewN | apply below_drew1) | exact HB.out)⟩
                · replace c60 := Bool.eq_false_iff.mpr c60
                  subst c60
                  have H1 : (reedpipelaw12_BlockDoes.l0 kj16 l3 l4 y851 y854 t857 t865 t873 0) = some r := by rw [if_neg (show ¬ (false = true) by decide)] at H; exact H
                  clear H
                  have H := H1
                  clear H1
                  have H' := Aside0.mk H
                  clear H
                  go_wp2
                  go_loopg [25] kj16 (fun kq v25 w' => ∃ (x13_3 : List Int) (x25_3 : Int), v25 = .int .i64 x25_3 ∧ Aside0 (reedpipelaw12_BlockDoes.l0 kq l3 l4 y851 y854 x13_3 t865 t873 x25_3 = some r) ∧ Aside0 (kq ≤ kj16) ∧ Aside0 (Kd.R (Kd.int .i64) 3 w' w.heap.size (fun k_ => some k_ ≠ ((.slice Ao25 y854.length co25) : Value).ownBlock ∧ some k_ ≠ (v859 : Value).ownBlock ∧ some k_ ≠ (v867 : Value).ownBlock ∧ some k_ ≠ (v875 : Value).ownBlock) (.slice Ao22 y851.length co22) y851) ∧ Aside0 (Kd.R (Kd.int .i64) 3 w' w.heap.size (fun k_ => some k_ ≠ ((.slice Ao22 y851.length co22) : Value).ownBlock ∧ some k_ ≠ (v859 : Value).ownBlock ∧ some k_ ≠ (v867 : Value).ownBlock ∧ some k_ ≠ (v875 : Value).ownBlock) (.slice Ao25 y854.length co25) y854) ∧ Aside0 (Kd.R (Kd.int .i64) 3 w' w.heap.size (fun k_ => some k_ ≠ ((.slice Ao22 y851.length co22) : Value).ownBlock ∧ some k_ ≠ ((.slice Ao25 y854.length co25) : Value).ownBlock ∧ some k_ ≠ (v867 : Value).ownBlock ∧ some k_ ≠ (v875 : Value).ownBlock) v859 x13_3) ∧ Aside0 (Kd.R (Kd.int .i64) 3 w' w.heap.size (fun k_ => some k_ ≠ ((.slice Ao22 y851.length co22) : Value).ownBlock ∧ some k_ ≠ ((.slice Ao25 y854.length co25) : Value).ownBlock ∧ some k_ ≠ (v859 : Value).ownBlock ∧ some k_ ≠ (v875 : Value).ownBlock) v867 t865) ∧ Aside0 (Kd.R (Kd.int .i64) 3 w' w.heap.size (fun k_ => some k_ ≠ ((.slice Ao22 y851.length co22) : Value).ownBlock ∧ some k_ ≠ ((.slice Ao25 y854.length co25) : Value).ownBlock ∧ some k_ ≠ (v859 : Value).ownBlock ∧ some k_ ≠ (v867 : Value).ownBlock) v875 t873) ∧ Aside0 (Below w.heap.size w w'))
                  case atStart => exact ⟨(t857), (0), (by first | rfl | (simp; done) | (simp [*]; done)), H', ⟨Nat.le_refl _⟩, ⟨by (with_reducible repeat (first | apply Kd.R_alloc | apply Kd.R_drewN | apply Kd.R_drew)); exact HO_11.out⟩, ⟨by (with_reducible repeat (first | apply Kd.R_alloc | apply Kd.R_drewN | apply Kd.R_drew)); exact HO_12.out⟩, ⟨by (with_reducible repeat (first | apply Kd.R_alloc | apply Kd.R_drewN | apply Kd.R_drew)); exact HO_13.out⟩, ⟨by (with_reducible repeat (first | apply Kd.R_alloc | apply Kd.R_drewN | apply Kd.R_drew)); exact HO_17.out⟩, ⟨by (with_reducible repeat (first | apply Kd.R_alloc | apply Kd.R_drewN | apply Kd.R_drew)); exact HO_21.out⟩, ⟨by repeat (first | (with_reducible first | exact HB.out | apply below_alloc | apply pw_below_drewN | apply below_drew1) | exact HB.out)⟩⟩
                  case round =>
                    clear H'
                    try clear c1
                    try clear c2
                    try clear p2
                    try clear c3
                    try clear c4
                    try clear c5
                    try clear c6
                    try clear c7
                    try clear c7b0
                    try clear c7b1
                    try clear c8
                    try clear c9
                    try clear c10
                    try clear c23
                    try clear c29
                    try clear c30
                    try clear c30b0
                    try clear c30b1
                    try clear c32
                    try clear c33
                    try clear c33b0
                    try clear c33b1
                    try clear c35
                    try clear c42
                    try clear c50
                    try clear c52
                    try clear c53
                    try clear c55
                    try clear c56
                    try clear c57
                    try clear c60
                    try clear p2
                    obtain ⟨x13_3, x25_3, rfl, HA, HK3, HO_11, HO_12, HO_13, HO_17, HO_21, HB⟩ := hrel
                    cases gk with
                    | zero => exact absurd HA.out (by simp [reedpipelaw12_BlockDoes.l0])
                    | succ k3 =>
                      have H := HA.out
                      clear HA
                      simp only [reedpipelaw12_BlockDoes.l0] at H
                      by_cases c61 : x25_3 < (x13_3.length : Int)
                      · rw [if_pos c61] at H
                        have c61b0 : decide (x25_3 < (x13_3.length : Int)) = true := decide_eq_true c61
                        clear c61
                        by_cases c62 : 0 ≤ x25_3
                        · rw [if_pos c62] at H
                          have c62b0 : decide (0 ≤ x25_3) = true := decide_eq_true c62
                          clear c62
                          obtain ⟨y884, hy884⟩ : ∃ y_ : List Int, y_ = (x13_3.set (x25_3 : Int).toNat 0) := ⟨_, rfl⟩
                          replace H : (reedpipelaw12_BlockDoes.l0 k3 l3 l4 y851 y854 y884 t865 t873 (wrap64 (x25_3 + 1))) = some r := by first | (rw [hy884]; with_reducible exact H) | (have H2_ := (Option.bind_some _ _).symm.trans H; rw [hy884]; with_reducible exact H2_) | (have H2_ := (Option.bind_some _ _).symm.trans H; with_reducible exact H2_) | with_reducible exact H | (rw [hy884]; exact H) | exact H
                          have Ny884 := Aside0.mk hy884
                          clear hy884
                          have H' := Aside0.mk H
                          clear H
                          obtain ⟨Ao64, co64, eo64⟩ := Kd.R_slice HO_13.out
                          subst eo64
                          have p63 : 0 ≤ (x25_3 : Int) := of_decide_eq_true (by first | (with_reducible assumption) | assumption)
                          have q63 : (x25_3 : Int) < ((x13_3.length : Int) : Int) := of_decide_eq_true (by first | (with_reducible assumption) | assumption)
                          obtain ⟨go63, co63, eo63, gb63, gl63, cl63, HG63⟩ := Kd.R_form HO_13.out (by omega)
                          (first | cases eo63 | (injection eo63 with ea_ en_ ec_; (first | subst ea_ | (injection ea_ with ea_; subst ea_)); subst ec_; clear en_))
                          have GB63 := Aside0.mk gb63
                          have GG63 := Aside0.mk HG63
                          clear gb63 gl63 HG63
                          obtain ⟨hx63_0, hf63_0⟩ := Kd.R_celln 0 HO_13.out (x25_3 : Int) p63 q63
                          replace p63 := eq_true p63
                          replace q63 := eq_true q63
                          have HP65 := Kd.R_putg HO_13.out (x25_3 : Int) 0
                          go_wp2_with (first | ((with_reducible refine gate_store (t := 3) (p := 125) rfl ?_); refine store_event (t := 3) (p := 125) (v := ?vo_w66) (w1 := (wr.setCell ⟨go63, (x25_3 : Int).toNat, none⟩ (.int .i64 0))) ?hg ?ho ?hn ?hr ?_; (case ho => rfl); (case hg => rfl); (case hn => rfl); (case hr => first | (go_simp; done) | (go_simp; rfl)); intro w66 hw; have hg : wr.grownBy w66 (some go63) := (by rw [hw]; exact HP65.2); have hp_ : Kd.R (Kd.int .i64) 3 w66 w.heap.size (fun k_ => some k_ ≠ (.slice Ao22 y851.length co22 : Value).ownBlock ∧ some k_ ≠ (.slice Ao25 y854.length co25 : Value).ownBlock ∧ some k_ ≠ (v867 : Value).ownBlock ∧ some k_ ≠ (v875 : Value).ownBlock) (.slice (some ⟨go63, 0, none⟩) x13_3.length co64) y884 := (by rw [hw, Ny884.out]; exact HP65.1); clear HP65; have n0_ := Aside0.mk (Kd.R_after (v := (.slice (some ⟨go63, 0, none⟩) x13_3.length co64)) (v1 := (.slice (some ⟨go63, 0, none⟩) x13_3.length co64)) (ok := (fun k_ => some k_ ≠ (.slice Ao25 y854.length co25 : Value).ownBlock ∧ some k_ ≠ (v867 : Value).ownBlock ∧ some k_ ≠ (v875 : Value).ownBlock)) (by (with_reducible repeat (first | apply Kd.R_alloc | apply Kd.R_drewN | apply Kd.R_drew)); exact Kd.R_mono HO_11.out (fun _ hk => ⟨⟨hk.1, ⟨hk.2.2.1, hk.2.2.2⟩⟩, hk.2.1⟩)) hg (.inl rfl)); have n1_ := Aside0.mk (Kd.R_after (v := (.slice (some ⟨go63, 0, none⟩) x13_3.length co64)) (v1 := (.slice (some ⟨go63, 0, none⟩) x13_3.length co64)) (ok := (fun k_ => some k_ ≠ (.slice Ao22 y851.length co22 : Value).ownBlock ∧ some k_ ≠ (v867 : Value).ownBlock ∧ some k_ ≠ (v875 : Value).ownBlock)) (by (with_reducible repeat (first | apply Kd.R_alloc | apply Kd.R_drewN | apply Kd.R_drew)); exact Kd.R_mono HO_12.out (fun _ hk => ⟨⟨hk.1, ⟨hk.2.2.1, hk.2.2.2⟩⟩, hk.2.1⟩)) hg (.inl rfl)); have n2_ := Aside0.mk (hp_); have n3_ := Aside0.mk (Kd.R_after (v := (.slice (some ⟨go63, 0, none⟩) x13_3.length co64)) (v1 := (.slice (some ⟨go63, 0, none⟩) x13_3.length co64)) (ok := (fun k_ => some k_ ≠ (.slice Ao22 y851.length co22 : Value).ownBlock ∧ some k_ ≠ (.slice Ao25 y854.length co25 : Value).ownBlock ∧ some k_ ≠ (v875 : Value).ownBlock)) (by (with_reducible repeat (first | apply Kd.R_alloc | apply Kd.R_drewN | apply Kd.R_drew)); exact Kd.R_mono HO_17.out (fun _ hk => ⟨⟨hk.1, ⟨hk.2.1, hk.2.2.2⟩⟩, hk.2.2.1⟩)) hg (.inl rfl)); have n4_ := Aside0.mk (Kd.R_after (v := (.slice (some ⟨go63, 0, none⟩) x13_3.length co64)) (v1 := (.slice (some ⟨go63, 0, none⟩) x13_3.length co64)) (ok := (fun k_ => some k_ ≠ (.slice Ao22 y851.length co22 : Value).ownBlock ∧ some k_ ≠ (.slice Ao25 y854.length co25 : Value).ownBlock ∧ some k_ ≠ (v867 : Value).ownBlock)) (by (with_reducible repeat (first | apply Kd.R_alloc | apply Kd.R_drewN | apply Kd.R_drew)); exact Kd.R_mono HO_21.out (fun _ hk => ⟨⟨hk.1, ⟨hk.2.1, hk.2.2.2⟩⟩, hk.2.2.1⟩)) hg (.inl rfl)); have n5_ := Aside0.mk ((by rw [hw]; exact below_set (HB.out) GB63.out : Below w.heap.size w w66)); clear HO_11; clear HO_12; clear HO_13; clear HO_17; clear HO_21; clear HB; have HO_11 := n0_; have HO_12 := n1_; have HO_13 := n2_; have HO_17 := n3_; have HO_21 := n4_; have HB := n5_; clear n0_ n1_ n2_ n3_ n4_ n5_; clear hg hw hp_))
                          go_roundg k3
                          case measure => have := HJ5.out; have := HJ16.out; have := HK3.out; omega
                          case rel => exact ⟨(y884), (wrap64 (x25_3 + 1)), (by first | rfl | (simp; done) | (simp [*]; done)), H', ⟨by have := HJ5.out; have := HJ16.out; have := HK3.out; omega⟩, ⟨by (with_reducible repeat (first | apply Kd.R_alloc | apply Kd.R_drewN | apply Kd.R_drew)); exact Kd.R_mono HO_11.out (fun _ hk => ⟨hk.1.1, ⟨hk.2, ⟨hk.1.2.1, hk.1.2.2⟩⟩⟩)⟩, ⟨by (with_reducible repeat (first | apply Kd.R_alloc | apply Kd.R_drewN | apply Kd.R_drew)); exact Kd.R_mono HO_12.out (fun _ hk => ⟨hk.1.1, ⟨hk.2, ⟨hk.1.2.1, hk.1.2.2⟩⟩⟩)⟩, ⟨by (with_reducible repeat (first | apply Kd.R_alloc | apply Kd.R_drewN | apply Kd.R_drew)); exact HO_13.out⟩, ⟨by (with_reducible repeat (first | apply Kd.R_alloc | apply Kd.R_drewN | apply Kd.R_drew)); exact Kd.R_mono HO_17.out (fun _ hk => ⟨hk.1.1, ⟨hk.1.2.1, ⟨hk.2, hk.1.2.2⟩⟩⟩)⟩, ⟨by (with_reducible repeat (first | apply Kd.R_alloc | apply Kd.R_drewN | apply Kd.R_drew)); exact Kd.R_mono HO_21.out (fun _ hk => ⟨hk.1.1, ⟨hk.1.2.1, ⟨hk.2, hk.1.2.2⟩⟩⟩)⟩, ⟨by repeat (first | (with_reducible first | exact HB.out | apply below_alloc | apply pw_below_drewN | apply below_drew1) | exact HB.out)⟩⟩
                        · rw [if_neg c62] at H
                          exact absurd H (by simp)
                      · rw [if_neg c61] at H
                        have c61b0 : decide (x25_3 < (x13_3.length : Int)) = false := decide_eq_false c61
                        clear c61
                        have H' := Aside0.mk H
                        clear H
                        obtain ⟨Ao67, co67, eo67⟩ := Kd.R_slice HO_13.out
                        subst eo67
                        go_wp2
                        go_loopg [26] k3 (fun kq v26 w' => ∃ (x17_4 : List Int) (x26_4 : Int), v26 = .int .i64 x26_4 ∧ Aside0 (reedpipelaw12_BlockDoes.l1 kq l3 l4 y851 y854 x17_4 t873 x26_4 = some r) ∧ Aside0 (kq ≤ k3) ∧ Aside0 (Kd.R (Kd.int .i64) 3 w' w.heap.size (fun k_ => some k_ ≠ ((.slice Ao25 y854.length co25) : Value).ownBlock ∧ some k_ ≠ (v867 : Value).ownBlock ∧ some k_ ≠ (v875 : Value).ownBlock) (.slice Ao22 y851.length co22) y851) ∧ Aside0 (Kd.R (Kd.int .i64) 3 w' w.heap.size (fun k_ => some k_ ≠ ((.slice Ao22 y851.length co22) : Value).ownBlock ∧ some k_ ≠ (v867 : Value).ownBlock ∧ some k_ ≠ (v875 : Value).ownBlock) (.slice Ao25 y854.length co25) y854) ∧ Aside0 (Kd.R (Kd.int .i64) 3 w' w.heap.size (fun k_ => some k_ ≠ ((.slice Ao22 y851.length co22) : Value).ownBlock ∧ some k_ ≠ ((.slice Ao25 y854.length co25) : Value).ownBlock ∧ some k_ ≠ (v875 : Value).ownBlock) v867 x17_4) ∧ Aside0 (Kd.R (Kd.int .i64) 3 w' w.heap.size (fun k_ => some k_ ≠ ((.slice Ao22 y851.length co22) : Value).ownBlock ∧ some k_ ≠ ((.slice Ao25 y854.length co25) : Value).ownBlock ∧ some k_ ≠ (v867 : Value).ownBlock) v875 t873) ∧ Aside0 (Below w.heap.size w w'))
                        case atStart => exact ⟨(t865), (0), (by first | rfl | (simp; done) | (simp [*]; done)), H', ⟨Nat.le_refl _⟩, ⟨by (with_reducible repeat (first | apply Kd.R_alloc | apply Kd.R_drewN | apply Kd.R_drew)); exact Kd.R_mono HO_11.out (fun _ hk => ⟨hk.1, ⟨hk.2.2.1, hk.2.2.2⟩⟩)⟩, ⟨by (with_reducible repeat (first | apply Kd.R_alloc | apply Kd.R_drewN | apply Kd.R_drew)); exact Kd.R_mono HO_12.out (fun _ hk => ⟨hk.1, ⟨hk.2.2.1, hk.2.2.2⟩⟩)⟩, ⟨by (with_reducible repeat (first | apply Kd.R_alloc | apply Kd.R_drewN | apply Kd.R_drew)); exact Kd.R_mono HO_17.out (fun _ hk => ⟨hk.1, ⟨hk.2.1, hk.2.2.2⟩⟩)⟩, ⟨by (with_reducible repeat (first | apply Kd.R_alloc | apply Kd.R_drewN | apply Kd.R_drew)); exact Kd.R_mono HO_21.out (fun _ hk => ⟨hk.1, ⟨hk.2.1, hk.2.2.2⟩⟩)⟩, ⟨by repeat (first | (with_reducible first | exact HB.out | apply below_alloc | apply pw_below_drewN | apply below_drew1) | exact HB.out)⟩⟩
                        case round =>
                          clear H'
                          try clear c1
                          try clear c2
                          try clear p2
                          try clear c3
                          try clear c4
                          try clear c5
                          try clear c6
                          try clear p6
                          try clear q6
                          try clear hx6
                          try clear hf6
                          try clear c7
                          try clear c7b0
                          try clear c7b1
                          try clear c8
                          try clear c9
                          try clear c10
                          try clear c23
                          try clear c29
                          try clear c30
                          try clear c30b0
                          try clear c30b1
                          try clear c32
                          try clear c33
                          try clear c33b0
                          try clear c33b1
                          try clear c35
                          try clear c42
                          try clear c50
                          try clear c52
                          try clear c53
                          try clear c55
                          try clear c56
                          try clear c57
                          try clear c60
                          try clear c61
                          try clear c61b0
                          try clear c62
                          try clear c62b0
                          try clear p63
                          try clear q63
                          try clear hx63
                          try clear hf63
                          try clear p64
                          try clear hx63_0
                          try clear p2
                          try clear p63
                          try clear q63
                          obtain ⟨x17_4, x26_4, rfl, HA, HK4, HO_11, HO_12, HO_17, HO_21, HB⟩ := hrel
                          cases gk with
                          | zero => exact absurd HA.out (by simp [reedpipelaw12_BlockDoes.l1])
                          | succ k4 =>
                            have H := HA.out
                            clear HA
                            simp only [reedpipelaw12_BlockDoes.l1] at H
                            by_cases c68 : x26_4 < (x17_4.length : Int)
                            · rw [if_pos c68] at H
                              have c68b0 : decide (x26_4 < (x17_4.length : Int)) = true := decide_eq_true c68
                              clear c68
                              by_cases c69 : 0 ≤ x26_4
                              · rw [if_pos c69] at H
                                have c69b0 : decide (0 ≤ x26_4) = true := decide_eq_true c69
                                clear c69
                                obtain ⟨y886, hy886⟩ : ∃ y_ : List Int, y_ = (x17_4.set (x26_4 : Int).toNat (wrap64 ((rd x17_4 x26_4) + 1))) := ⟨_, rfl⟩
                                replace H : (reedpipelaw12_BlockDoes.l1 k4 l3 l4 y851 y854 y886 t873 (wrap64 (x26_4 + 1))) = some r := by first | (rw [hy886]; with_reducible exact H) | (have H2_ := (Option.bind_some _ _).symm.trans H; rw [hy886]; with_reducible exact H2_) | (have H2_ := (Option.bind_some _ _).symm.trans H; with_reducible exact H2_) | with_reducible exact H | (rw [hy886]; exact H) | exact H
                                have Ny886 := Aside0.mk hy886
                                clear hy886
                                have H' := Aside0.mk H
                                clear H
                                obtain ⟨Ao71, co71, eo71⟩ := Kd.R_slice HO_17.out
                                subst eo71
                                have p885 : 0 ≤ (x26_4 : Int) := of_decide_eq_true (by first | (with_reducible assumption) | assumption)
                                have q885 : x26_4 < (x17_4.length : Int) := of_decide_eq_true (by first | (with_reducible assumption) | assumption)
                                obtain ⟨ad885, e885, hx885_0⟩ := Kd.at_int (Kd.R_reads' HO_17.out).2.2 x26_4 p885 q885
                                cases e885
                                replace p885 := eq_true p885
                                replace q885 := eq_true q885
                                have p70 : 0 ≤ (x26_4 : Int) := of_decide_eq_true (by first | (with_reducible assumption) | assumption)
                                have q70 : (x26_4 : Int) < ((x17_4.length : Int) : Int) := of_decide_eq_true (by first | (with_reducible assumption) | assumption)
                                obtain ⟨go70, co70, eo70, gb70, gl70, cl70, HG70⟩ := Kd.R_form HO_17.out (by omega)
                                (first | cases eo70 | (injection eo70 with ea_ en_ ec_; (first | subst ea_ | (injection ea_ with ea_; subst ea_)); subst ec_; clear en_))
                                have GB70 := Aside0.mk gb70
                                have GG70 := Aside0.mk HG70
                                clear gb70 gl70 HG70
                                (first | simp only [add_plain] at hx885_0 | skip)
                                obtain ⟨hx70_0, hf70_0⟩ := Kd.R_celln 0 HO_17.out (x26_4 : Int) p70 q70
                                replace p70 := eq_true p70
                                replace q70 := eq_true q70
                                have HP72 := Kd.R_putg HO_17.out (x26_4 : Int) (wrap64 ((rd x17_4 x26_4) + 1))
                                go_wp2_with (first | ((with_reducible refine gate_store (t := 3) (p := 139) rfl ?_); refine store_event (t := 3) (p := 139) (v := ?vo_w73) (w1 := (wr.setCell ⟨go70, (x26_4 : Int).toNat, none⟩ (.int .i64 (wrap64 ((rd x17_4 x26_4) + 1))))) ?hg ?ho ?hn ?hr ?_; (case ho => rfl); (case hg => rfl); (case hn => rfl); (case hr => first | (go_simp; done) | (go_simp; rfl)); intro w73 hw; have hg : wr.grownBy w73 (some go70) := (by rw [hw]; exact HP72.2); have hp_ : Kd.R (Kd.int .i64) 3 w73 w.heap.size (fun k_ => some k_ ≠ (.slice Ao22 y851.length co22 : Value).ownBlock ∧ some k_ ≠ (.slice Ao25 y854.length co25 : Value).ownBlock ∧ some k_ ≠ (v875 : Value).ownBlock) (.slice (some ⟨go70, 0, none⟩) x17_4.length co71) y886 := (by rw [hw, Ny886.out]; exact HP72.1); clear HP72; have n0_ := Aside0.mk (Kd.R_after (v := (.slice (some ⟨go70, 0, none⟩) x17_4.length co71)) (v1 := (.slice (some ⟨go70, 0, none⟩) x17_4.length co71)) (ok := (fun k_ => some k_ ≠ (.slice Ao25 y854.length co25 : Value).ownBlock ∧ some k_ ≠ (v875 : Value).ownBlock)) (by (with_reducible repeat (first | apply Kd.R_alloc | apply Kd.R_drewN | apply Kd.R_drew)); exact Kd.R_mono HO_11.out (fun _ hk => ⟨⟨hk.1, hk.2.2⟩, hk.2.1⟩)) hg (.inl rfl)); have n1_ := Aside0.mk (Kd.R_after (v := (.slice (some ⟨go70, 0, none⟩) x17_4.length co71)) (v1 := (.slice (some ⟨go70, 0, none⟩) x17_4.length co71)) (ok := (fun k_ => some k_ ≠ (.slice Ao22 y851.length co22 : Value).ownBlock ∧ some k_ ≠ (v875 : Value).ownBlock)) (by (with_reducible repeat (first | apply Kd.R_alloc | apply Kd.R_drewN | apply Kd.R_drew)); exact Kd.R_mono HO_12.out (fun _ hk => ⟨⟨hk.1, hk.2.2⟩, hk.2.1⟩)) hg (.inl rfl)); have n2_ := Aside0.mk (hp_); have n3_ := Aside0.mk (Kd.R_after (v := (.slice (some ⟨go70, 0, none⟩) x17_4.length co71)) (v1 := (.slice (some ⟨go70, 0, none⟩) x17_4.length co71)) (ok := (fun k_ => some k_ ≠ (.slice Ao22 y851.length co22 : Value).ownBlock ∧ some k_ ≠ (.slice Ao25 y854.length co25 : Value).ownBlock)) (by (with_reducible repeat (first | apply Kd.R_alloc | apply Kd.R_drewN | apply Kd.R_drew)); exact Kd.R_mono HO_21.out (fun _ hk => ⟨⟨hk.1, hk.2.1⟩, hk.2.2⟩)) hg (.inl rfl)); have n4_ := Aside0.mk ((by rw [hw]; exact below_set (HB.out) GB70.out : Below w.heap.size w w73)); clear HO_11; clear HO_12; clear HO_17; clear HO_21; clear HB; have HO_11 := n0_; have HO_12 := n1_; have HO_17 := n2_; have HO_21 := n3_; have HB := n4_; clear n0_ n1_ n2_ n3_ n4_; clear hg hw hp_))
                                go_roundg k4
                                case measure => have := HJ5.out; have := HJ16.out; have := HK3.out; have := HK4.out; omega
                                case rel => exact ⟨(y886), (wrap64 (x26_4 + 1)), (by first | rfl | (simp; done) | (simp [*]; done)), H', ⟨by have := HJ5.out; have := HJ16.out; have := HK3.out; have := HK4.out; omega⟩, ⟨by (with_reducible repeat (first | apply Kd.R_alloc | apply Kd.R_drewN | apply Kd.R_drew)); exact Kd.R_mono HO_11.out (fun _ hk => ⟨hk.1.1, ⟨hk.2, hk.1.2⟩⟩)⟩, ⟨by (with_reducible repeat (first | apply Kd.R_alloc | apply Kd.R_drewN | apply Kd.R_drew)); exact Kd.R_mono HO_12.out (fun _ hk => ⟨hk.1.1, ⟨hk.2, hk.1.2⟩⟩)⟩, ⟨by (with_reducible repeat (first | apply Kd.R_alloc | apply Kd.R_drewN | apply Kd.R_drew)); exact HO_17.out⟩, ⟨by (with_reducible repeat (first | apply Kd.R_alloc | apply Kd.R_drewN | apply Kd.R_drew)); exact Kd.R_mono HO_21.out (fun _ hk => ⟨hk.1.1, ⟨hk.1.2, hk.2⟩⟩)⟩, ⟨by repeat (first | (with_reducible first | exact HB.out | apply below_alloc | apply pw_below_drewN | apply below_drew1) | exact HB.out)⟩⟩
                              · rw [if_neg c69] at H
                                exact absurd H (by simp)
                            · rw [if_neg c68] at H
                              have c68b0 : decide (x26_4 < (x17_4.length : Int)) = false := decide_eq_false c68
                              clear c68
                              have H' := Aside0.mk H
                              clear H
                              obtain ⟨Ao74, co74, eo74⟩ := Kd.R_slice HO_17.out
                              subst eo74
                              go_wp2
                              go_loopg [27] k4 (fun kq v27 w' => ∃ (x21_5 : List Int) (x27_5 : Int), v27 = .int .i64 x27_5 ∧ Aside0 (reedpipelaw12_BlockDoes.l2 kq l3 l4 y851 y854 x21_5 x27_5 = some r) ∧ Aside0 (kq ≤ k4) ∧ Aside0 (Kd.R (Kd.int .i64) 3 w' w.heap.size (fun k_ => some k_ ≠ ((.slice Ao25 y854.length co25) : Value).ownBlock ∧ some k_ ≠ (v875 : Value).ownBlock) (.slice Ao22 y851.length co22) y851) ∧ Aside0 (Kd.R (Kd.int .i64) 3 w' w.heap.size (fun k_ => some k_ ≠ ((.slice Ao22 y851.length co22) : Value).ownBlock ∧ some k_ ≠ (v875 : Value).ownBlock) (.slice Ao25 y854.length co25) y854) ∧ Aside0 (Kd.R (Kd.int .i64) 3 w' w.heap.size (fun k_ => some k_ ≠ ((.slice Ao22 y851.length co22) : Value).ownBlock ∧ some k_ ≠ ((.slice Ao25 y854.length co25) : Value).ownBlock) v875 x21_5) ∧ Aside0 (Below w.heap.size w w'))
                              case atStart => exact ⟨(t873), (0), (by first | rfl | (simp; done) | (simp [*]; done)), H', ⟨Nat.le_refl _⟩, ⟨by (with_reducible repeat (first | apply Kd.R_alloc | apply Kd.R_drewN | apply Kd.R_drew)); exact Kd.R_mono HO_11.out (fun _ hk => ⟨hk.1, hk.2.2⟩)⟩, ⟨by (with_reducible repeat (first | apply Kd.R_alloc | apply Kd.R_drewN | apply Kd.R_drew)); exact Kd.R_mono HO_12.out (fun _ hk => ⟨hk.1, hk.2.2⟩)⟩, ⟨by (with_reducible repeat (first | apply Kd.R_alloc | apply Kd.R_drewN | apply Kd.R_drew)); exact Kd.R_mono HO_21.out (fun _ hk => ⟨hk.1, hk.2.1⟩)⟩, ⟨by repeat (first | (with_reducible first | exact HB.out | apply below_alloc | apply pw_below_drewN | apply below_drew1) | exact HB.out)⟩⟩
                              case round =>
                                clear H'
                                try clear c1
                                try clear c2
                                try clear p2
                                try clear c3
                                try clear c4
                                try clear c5
                                try clear c6
                                try clear p6
                                try clear q6
                                try clear hx6
                                try clear hf6
                                try clear c7
                                try clear c7b0
                                try clear c7b1
                                try clear p7
                                try clear q7
                                try clear hx7
                                try clear hf7
                                try clear c8
                                try clear p8
                                try clear q8
                                try clear hx8
                                try clear c9
                                try clear c10
                                try clear c23
                                try clear c29
                                try clear c30
                                try clear c30b0
                                try clear c30b1
                                try clear c32
                                try clear c33
                                try clear c33b0
                                try clear c33b1
                                try clear c35
                                try clear c42
                                try clear c50
                                try clear c52
                                try clear c53
                                try clear c55
                                try clear c56
                                try clear c57
                                try clear c60
                                try clear c61
                                try clear c61b0
                                try clear c62
                                try clear c62b0
                                try clear p63
                                try clear q63
                                try clear hx63
                                try clear hf63
                                try clear p64
                                try clear c68
                                try clear c68b0
                                try clear c69
                                try clear c69b0
                                try clear p70
                                try clear q70
                                try clear hx70
                                try clear hf70
                                try clear hx63_0
                                try clear hx70_0
                                try clear hx885_0
                                try clear p2
                                try clear p6
                                try clear p63
                                try clear p64
                                try clear p70
                                try clear p885
                                try clear q6
                                try clear q63
                                try clear q70
                                try clear q885
                                obtain ⟨x21_5, x27_5, rfl, HA, HK5, HO_11, HO_12, HO_21, HB⟩ := hrel
                                cases gk with
                                | zero => exact absurd HA.out (by simp [reedpipelaw12_BlockDoes.l2])
                                | succ k5 =>
                                  have H := HA.out
                                  clear HA
                                  simp only [reedpipelaw12_BlockDoes.l2] at H
                                  by_cases c75 : x27_5 < (x21_5.length : Int)
                                  · rw [if_pos c75] at H
                                    have c75b0 : decide (x27_5 < (x21_5.length : Int)) = true := decide_eq_true c75
                                    clear c75
                                    by_cases c76 : 0 ≤ x27_5
                                    · rw [if_pos c76] at H
                                      have c76b0 : decide (0 ≤ x27_5) = true := decide_eq_true c76
                                      clear c76
                                      obtain ⟨y888, hy888⟩ : ∃ y_ : List Int, y_ = (x21_5.set (x27_5 : Int).toNat (wrap64 ((rd x21_5 x27_5) + 1))) := ⟨_, rfl⟩
                                      replace H : (reedpipelaw12_BlockDoes.l2 k5 l3 l4 y851 y854 y888 (wrap64 (x27_5 + 1))) = some r := by first | (rw [hy888]; with_reducible exact H) | (have H2_ := (Option.bind_some _ _).symm.trans H; rw [hy888]; with_reducible exact H2_) | (have H2_ := (Option.bind_some _ _).symm.trans H; with_reducible exact H2_) | with_reducible exact H | (rw [hy888]; exact H) | exact H
                                      have Ny888 := Aside0.mk hy888
                                      clear hy888
                                      have H' := Aside0.mk H
                                      clear H
                                      obtain ⟨Ao78, co78, eo78⟩ := Kd.R_slice HO_21.out
                                      subst eo78
                                      have p887 : 0 ≤ (x27_5 : Int) := of_decide_eq_true (by first | (with_reducible assumption) | assumption)
                                      have q887 : x27_5 < (x21_5.length : Int) := of_decide_eq_true (by first | (with_reducible assumption) | assumption)
                                      obtain ⟨ad887, e887, hx887_0⟩ := Kd.at_int (Kd.R_reads' HO_21.out).2.2 x27_5 p887 q887
                                      cases e887
                                      replace p887 := eq_true p887
                                      replace q887 := eq_true q887
                                      have p77 : 0 ≤ (x27_5 : Int) := of_decide_eq_true (by first | (with_reducible assumption) | assumption)
                                      have q77 : (x27_5 : Int) < ((x21_5.length : Int) : Int) := of_decide_eq_true (by first | (with_reducible assumption) | assumption)
                                      obtain ⟨go77, co77, eo77, gb77, gl77, cl77, HG77⟩ := Kd.R_form HO_21.out (by omega)
                                      (first | cases eo77 | (injection eo77 with ea_ en_ ec_; (first | subst ea_ | (injection ea_ with ea_; subst ea_)); subst ec_; clear en_))
                                      have GB77 := Aside0.mk gb77
                                      have GG77 := Aside0.mk HG77
                                      clear gb77 gl77 HG77
                                      (first | simp only [add_plain] at hx887_0 | skip)
                                      obtain ⟨hx77_0, hf77_0⟩ := Kd.R_celln 0 HO_21.out (x27_5 : Int) p77 q77
                                      replace p77 := eq_true p77
                                      replace q77 := eq_true q77
                                      have HP79 := Kd.R_putg HO_21.out (x27_5 : Int) (wrap64 ((rd x21_5 x27_5) + 1))
                                      go_wp2_with (first | ((with_reducible refine gate_store (t := 3) (p := 153) rfl ?_); refine store_event (t := 3) (p := 153) (v := ?vo_w80) (w1 := (wr.setCell ⟨go77, (x27_5 : Int).toNat, none⟩ (.int .i64 (wrap64 ((rd x21_5 x27_5) + 1))))) ?hg ?ho ?hn ?hr ?_; (case ho => rfl); (case hg => rfl); (case hn => rfl); (case hr => first | (go_simp; done) | (go_simp; rfl)); intro w80 hw; have hg : wr.grownBy w80 (some go77) := (by rw [hw]; exact HP79.2); have hp_ : Kd.R (Kd.int .i64) 3 w80 w.heap.size (fun k_ => some k_ ≠ (.slice Ao22 y851.length co22 : Value).ownBlock ∧ some k_ ≠ (.slice Ao25 y854.length co25 : Value).ownBlock) (.slice (some ⟨go77, 0, none⟩) x21_5.length co78) y888 := (by rw [hw, Ny888.out]; exact HP79.1); clear HP79; have n0_ := Aside0.mk (Kd.R_after (v := (.slice (some ⟨go77, 0, none⟩) x21_5.length co78)) (v1 := (.slice (some ⟨go77, 0, none⟩) x21_5.length co78)) (ok := (fun k_ => some k_ ≠ (.slice Ao25 y854.length co25 : Value).ownBlock)) (by (with_reducible repeat (first | apply Kd.R_alloc | apply Kd.R_drewN | apply Kd.R_drew)); exact HO_11.out) hg (.inl rfl)); have n1_ := Aside0.mk (Kd.R_after (v := (.slice (some ⟨go77, 0, none⟩) x21_5.length co78)) (v1 := (.slice (some ⟨go77, 0, none⟩) x21_5.length co78)) (ok := (fun k_ => some k_ ≠ (.slice Ao22 y851.length co22 : Value).ownBlock)) (by (with_reducible repeat (first | apply Kd.R_alloc | apply Kd.R_drewN | apply Kd.R_drew)); exact HO_12.out) hg (.inl rfl)); have n2_ := Aside0.mk (hp_); have n3_ := Aside0.mk ((by rw [hw]; exact below_set (HB.out) GB77.out : Below w.heap.size w w80)); clear HO_11; clear HO_12; clear HO_21; clear HB; have HO_11 := n0_; have HO_12 := n1_; have HO_21 := n2_; have HB := n3_; clear n0_ n1_ n2_ n3_; clear hg hw hp_))
                                      go_roundg k5
                                      case measure => have := HJ5.out; have := HJ16.out; have := HK3.out; have := HK4.out; have := HK5.out; omega
                                      case rel => exact ⟨(y888), (wrap64 (x27_5 + 1)), (by first | rfl | (simp; done) | (simp [*]; done)), H', ⟨by have := HJ5.out; have := HJ16.out; have := HK3.out; have := HK4.out; have := HK5.out; omega⟩, ⟨by (with_reducible repeat (first | apply Kd.R_alloc | apply Kd.R_drewN | apply Kd.R_drew)); exact HO_11.out⟩, ⟨by (with_reducible repeat (first | apply Kd.R_alloc | apply Kd.R_drewN | apply Kd.R_drew)); exact HO_12.out⟩, ⟨by (with_reducible repeat (first | apply Kd.R_alloc | apply Kd.R_drewN | apply Kd.R_drew)); exact HO_21.out⟩, ⟨by repeat (first | (with_reducible first | exact HB.out | apply below_alloc | apply pw_below_drewN | apply below_drew1) | exact HB.out)⟩⟩
                                    · rw [if_neg c76] at H
                                      exact absurd H (by simp)
                                  · rw [if_neg c75] at H
                                    have c75b0 : decide (x27_5 < (x21_5.length : Int)) = false := decide_eq_false c75
                                    clear c75
                                    replace H := Option.bind_eq_some_iff.mp H
                                    obtain ⟨t889, A810, H⟩ := H
                                    replace H : (if t889 = true then ((reedpiperef11_Same.f k5 y854 l4).bind fun t890 => (some t890)) else (some false)) = some r := H
                                    have A81 := Aside0.mk A810
                                    clear A810
                                    by_cases c82 : t889 = true
                                    · subst c82
                                      have H1 : ((reedpiperef11_Same.f k5 y854 l4).bind fun t890 => (some t890)) = some r := by rw [if_pos rfl] at H; exact H
                                      clear H
                                      have H := H1
                                      clear H1
                                      replace H := Option.bind_eq_some_iff.mp H
                                      obtain ⟨t890, A830, H⟩ := H
                                      replace H : (some t890) = some r := H
                                      have A83 := Aside0.mk A830
                                      clear A830
                                      obtain rfl := Option.some.inj H
                                      obtain ⟨Ao84, co84, eo84⟩ := Kd.R_slice HO_21.out
                                      subst eo84
                                      go_wp2_with (first | ((with_reducible refine gate_callee (f := 50) rfl ?_); refine goesL_ (some 156) rfl rfl Try.func50 (by kernel_rfl) rfl #[.slice Ao22 y851.length co22, .slice A3 l3.length c3] rfl (by (try simp only [List.map_toArray, List.map_cons, List.map_nil]); first | done | rfl | (simp only [List.length_drop, List.length_take]; rfl)) ?_; (with_reducible refine (reedpiperef11_Same.calls k5 _ _ y851 _ _ l3 true _ ?side1 ?side2 ?side3 ?side4 A81.out).mono ?_); (case side1 => repeat (first | exact (Kd.R_reads' HO_11.out).2.2 | (with_reducible refine Kd.C_alloc ?_ _) | (with_reducible refine Kd.C_drewN ?_ _) | (with_reducible refine Kd.C_drew ?_))); (case side2 => exact (Kd.R_reads' HO_11.out).2.1); (case side3 => repeat (first | exact (Kd.C_below HR3.out HB.out) | (with_reducible refine Kd.C_alloc ?_ _) | (with_reducible refine Kd.C_drewN ?_ _) | (with_reducible refine Kd.C_drew ?_))); (case side4 => exact HC3.out); rintro e w' ⟨rfl, ⟨nd, rfl⟩⟩; refine ⟨_, rfl, ?_⟩) | (go_at_call 50; (with_reducible refine (reedpiperef11_Same.calls k5 _ _ y854 _ _ l4 t890 _ ?side1 ?side2 ?side3 ?side4 A83.out).mono ?_); (case side1 => repeat (first | exact (Kd.R_reads' HO_12.out).2.2 | (with_reducible refine Kd.C_alloc ?_ _) | (with_reducible refine Kd.C_drewN ?_ _) | (with_reducible refine Kd.C_drew ?_))); (case side2 => exact (Kd.R_reads' HO_12.out).2.1); (case side3 => repeat (first | exact (Kd.C_below HR4.out (by repeat (first | (with_reducible first | exact HB.out | apply below_alloc | apply pw_below_drewN | apply below_drew1) | exact HB.out))) | (with_reducible refine Kd.C_alloc ?_ _) | (with_reducible refine Kd.C_drewN ?_ _) | (with_reducible refine Kd.C_drew ?_))); (case side4 => exact HC4.out); rintro e w' ⟨rfl, ⟨nd, rfl⟩⟩))
                                      go_ret
                                      exact ⟨by first | rfl | (simp [errW_none, errW_some] <;> rfl) | (simp [*, errW_none, errW_some] <;> rfl), by repeat (first | (with_reducible first | exact HB.out | apply below_alloc | apply pw_below_drewN | apply below_drew1) | exact HB.out)⟩
                                    · replace c82 := Bool.eq_false_iff.mpr c82
                                      subst c82
                                      have H1 : (some false) = some r := by rw [if_neg (show ¬ (false = true) by decide)] at H; exact H
                                      clear H
                                      have H := H1
                                      clear H1
                                      obtain rfl := Option.some.inj H
                                      obtain ⟨Ao85, co85, eo85⟩ := Kd.R_slice HO_21.out
                                      subst eo85
                                      go_wp2_with (first | ((with_reducible refine gate_callee (f := 50) rfl ?_); refine goesL_ (some 156) rfl rfl Try.func50 (by kernel_rfl) rfl #[.slice Ao22 y851.length co22, .slice A3 l3.length c3] rfl (by (try simp only [List.map_toArray, List.map_cons, List.map_nil]); first | done | rfl | (simp only [List.length_drop, List.length_take]; rfl)) ?_; (with_reducible refine (reedpiperef11_Same.calls k5 _ _ y851 _ _ l3 false _ ?side1 ?side2 ?side3 ?side4 A81.out).mono ?_); (case side1 => repeat (first | exact (Kd.R_reads' HO_11.out).2.2 | (with_reducible refine Kd.C_alloc ?_ _) | (with_reducible refine Kd.C_drewN ?_ _) | (with_reducible refine Kd.C_drew ?_))); (case side2 => exact (Kd.R_reads' HO_11.out).2.1); (case side3 => repeat (first | exact (Kd.C_below HR3.out HB.out) | (with_reducible refine Kd.C_alloc ?_ _) | (with_reducible refine Kd.C_drewN ?_ _) | (with_reducible refine Kd.C_drew ?_))); (case side4 => exact HC3.out); rintro e w' ⟨rfl, ⟨nd, rfl⟩⟩; refine ⟨_, rfl, ?_⟩))
                                      go_ret
                                      exact ⟨by first | rfl | (simp [errW_none, errW_some] <;> rfl) | (simp [*, errW_none, errW_some] <;> rfl), by repeat (first | (with_reducible first | exact HB.out | apply below_alloc | apply pw_below_drewN | apply below_drew1) | exact HB.out)⟩
          · rw [if_neg c10] at H
            exact absurd H (by simp)
        · rw [if_neg c9] at H
          exact absurd H (by simp)

/-- THE ONE PURE STATEMENT of reedpipelaw12_BlockDoes: yours. -/
def reedpipelaw12_BlockDoes.Pure : Prop := ∀ (a0 : Int) (a1 : Int) (a2 : Int) (l3 : List Int) (l4 : List Int), (Lit.int .u8 a0).wf = true → (Lit.int .u8 a1).wf = true → (Lit.int .u8 a2).wf = true → l3.length ≤ maxLen → l3.length * 8 ≤ 140737488351232 → (∀ x ∈ l3, (Lit.int .i64 x).wf = true) → l4.length ≤ maxLen → l4.length * 8 ≤ 140737488351232 → (∀ x ∈ l4, (Lit.int .i64 x).wf = true) → ∃ k, reedpipelaw12_BlockDoes.f k a0 a1 a2 l3 l4 = some true
theorem reedpipelaw12_BlockDoes.walk (P : reedpipelaw12_BlockDoes.Pure) (a0 : Int) (a1 : Int) (a2 : Int) (a3 : Option Addr) (len3 cap3 : Nat) (z3 : List Int) (a4 : Option Addr) (len4 cap4 : Nat) (z4 : List Int) (w : World) (w0 : (Lit.int .u8 a0).wf = true) (w1 : (Lit.int .u8 a1).wf = true) (w2 : (Lit.int .u8 a2).wf = true) (w3 : (a3 = none ∧ len3 = 0 ∧ cap3 = 0 ∧ z3 = []) ∨ ∃ x, a3 = some x ∧ len3 ≤ cap3 ∧ cap3 ≤ maxLen ∧ z3.length = cap3 ∧ (∀ i, i < z3.length → w.cell? (x.add i) = some (.int .i64 (z3.getD i 0))) ∧ ∀ n ∈ z3, (Lit.int .i64 n).wf = true) (y3 : len3 * 8 ≤ 140737488351232) (w4 : (a4 = none ∧ len4 = 0 ∧ cap4 = 0 ∧ z4 = []) ∨ ∃ x, a4 = some x ∧ len4 ≤ cap4 ∧ cap4 ≤ maxLen ∧ z4.length = cap4 ∧ (∀ i, i < z4.length → w.cell? (x.add i) = some (.int .i64 (z4.getD i 0))) ∧ ∀ n ∈ z4, (Lit.int .i64 n).wf = true) (y4 : len4 * 8 ≤ 140737488351232) :
    Calls Try.prog 23 #[.int .u8 a0, .int .u8 a1, .int .u8 a2, .slice a3 len3 cap3, .slice a4 len4 cap4] w fun e w' => e = .returned (.bool true) ∧ Below w.heap.size w w' := by
  obtain ⟨l3, rfl, hr3, hm3, hw3, hc3⟩ := ReadsInt.ofRowC w3
  obtain ⟨l4, rfl, hr4, hm4, hw4, hc4⟩ := ReadsInt.ofRowC w4
  obtain ⟨k, h⟩ := P a0 a1 a2 l3 l4 w0 w1 w2 hm3 y3 hw3 hm4 y4 hw4
  refine (reedpipelaw12_BlockDoes.calls k a0 a1 a2 _ _ l3 _ _ l4 true w (Kd.C_of_reads (d := (0 : Int)) (h1 := fun _ => rfl) hr3) hc3 (Kd.C_of_reads (d := (0 : Int)) (h1 := fun _ => rfl) hr4) hc4 h).mono ?_
  rintro e w' ⟨rfl, hd⟩
  exact ⟨rfl, hd⟩

end Go.Proofs.Ytpoppdaaodmicaa.Q
