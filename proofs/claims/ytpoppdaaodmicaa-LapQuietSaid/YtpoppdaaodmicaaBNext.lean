-- Several functions' contracts in one text.
import Derived.Test.YtpoppdaaodmicaaBSynth
import Derived.Sort.QuietIn
import Derived.Stop.RegionWithIn
import Derived.Test.YtpoppdaaodmicaaBMdct
import Derived.Test.YtpoppdaaodmicaaQ68
/- slices.Clone (69), lap.both (66) and its closure (99): the contracts by hand. -/
namespace Go.Proofs.Ytpoppdaaodmicaa.Q
open Go.RowKit Go.Shelf Go.Proofs.YtpoppdaaodmicaaW.PrintWords Go.Proofs.YtpoppdaaodmicaaW.PrintLast Go.Proofs.YtpoppdaaodmicaaW.PrintMore
attribute [local go_sem] Oper.semAt_some
set_option linter.unusedVariables false
set_option linter.unusedSimpArgs false

/-- append onto an empty slice: new memory. -/
theorem append_fresh (w : World) {ad1 : Addr} {A2 : Option Addr} {ys : List Int} {c : Nat} (h2 : Kd.C (Kd.int .i64) w A2 ys.length ys) (p2 : 0 < ys.length) (hl : ys.length ≤ 1000) :
    ∃ v' w', (Builtin.append_ #[29, 29] 29 #[.slice (some ad1) 0 0, .slice A2 ys.length c]).run Try.prog w = .ok v' w' ∧ Kd.R (Kd.int .i64) 3 w' w.heap.size (fun _ => True) v' ys ∧ Below w.heap.size w w' := by
  obtain ⟨i0, hi, hz0, hz1, hz2⟩ := info_parts info3
  obtain ⟨ad2, rfl, hc⟩ := h2.2.2 p2
  have g2 : ∀ j u, (encs (Value.int .i64) ys)[j]? = some u → w.cell? (ad2.add j) = some u := by
    intro j u hj
    simp only [encs, List.getElem?_map, Option.map_eq_some_iff] at hj
    obtain ⟨x, hx, rfl⟩ := hj
    obtain ⟨c, _, hk, hcell⟩ := hc j x hx
    have hk' : c = [Value.int .i64 x] := hk
    have := hcell 0 (.int .i64 x) (by rw [hk']; rfl)
    have hs : (Kd.int .i64).sz = 1 := rfl
    rw [hs, Nat.mul_one, Nat.add_zero] at this
    exact this
  obtain ⟨v', w', hrun, hown, hg⟩ := run_append_arg_grows (P := Try.prog) w 29 29 3 i0 (.int .i64 0) 1 8 Try.underlying29 hi hz0 hz1 hz2 rfl (by decide) ad1 0 0 [] (by simp) (by simp) ad2 ys.length c (encs (Value.int .i64) ys) (by simp [encs]) g2 (by omega) (by simp [maxLen]; omega) (by omega)
  refine ⟨v', w', hrun, ?_, ?_⟩
  · refine Kd.R_of_own (enc := Value.int .i64) ?_ (fun _ _ => trivial)
    rw [Nat.zero_add, List.nil_append] at hown
    exact hown
  · exact (Below.refl _ _).grown hg (Nat.le_refl _) (fun k e => by cases e)

set_option maxRecDepth 100000 in
set_option maxHeartbeats 2000000 in
theorem slices_Clone_int_int.calls (A0 : Option Addr) (c0 : Nat) (l0 : List Int) (w : World) (hr0 : Kd.C (Kd.int .i64) w A0 l0.length l0) (hc0 : l0.length ≤ c0) (hl : 0 < l0.length ∧ l0.length ≤ 1000) :
    Calls Try.prog 69 #[.slice A0 l0.length c0] w fun e w' => ∃ v0_ : Value, e = .returned (v0_) ∧ Kd.R (Kd.int .i64) 3 w' w.heap.size (fun _ => True) v0_ l0 ∧ Below w.heap.size w w' := by
  obtain ⟨ad, rfl, _⟩ := hr0.2.2 hl.1
  have hb0 : Below w.heap.size w (w.alloc (.cells #[] 3)) := (Below.refl _ w).alloc (Nat.le_refl _) _
  obtain ⟨v', w', hrun, hR, hb⟩ := append_fresh (w.alloc (.cells #[] 3)) (ad1 := ⟨w.heap.size, 0, none⟩) (c := c0) (Kd.C_below hr0 hb0) hl.1 hl.2
  have hcmp : ∀ W : World, (binOp BinOp.eql 29 (.slice (some ad) l0.length c0) (.slice none 0 0)).run Try.prog W = .ok (.bool false) W := fun _ => rfl
  have HRUN := Lib.hid hrun
  have HR := Lib.hid hR
  have HB := Lib.hid (hb0.trans (hb.mono hb0.size))
  clear hr0 hl hb0 hrun hR hb
  refine (callsIn_wide (n := 12)).1 ?_
  refine callsIn_of_wp Try.func69 rfl trivial ?_ rfl
  simp only [Try.ntmps69, List.size_toArray, List.length_cons, List.length_nil, Nat.reduceAdd, Nat.reduceSub, Array.replicate_succ, Array.replicate_zero, List.push_toArray, List.append_toArray, List.nil_append, List.cons_append]
  gi_wp2_with (gi_at_builtin; refine wpListIn_append_run rfl _ _ _ rfl _ _ _ rfl rfl HRUN.out ?_)
  refine bodyPost_ret (results_tmp rfl _ _ _) rfl ?_
  exact ⟨v', rfl, Kd.R_lower HR.out (by simp), HB.out⟩

/-- What a round is handed: one number. -/
def Gd1 (val : Nat → Int) (i : Nat) (vs : Array Value) (W : World) : Prop := vs = #[.int .i64 (val i)]
theorem addr_block (a : Addr) (n : Nat) : (a.add n).block = a.block := by unfold Addr.add; split <;> rfl
/-- What lies apart from what changes may be read as before. -/
theorem C_stays {T : Nat → Prop} {B : Nat} {w W : World} {A : Option Addr} {n : Nat} {xs : List Int} (h : Kd.C (Kd.int .i64) w A n xs) (hS : Stays T B w W) (hA : ∀ ad, A = some ad → ad.block < B ∧ ¬ T ad.block) : Kd.C (Kd.int .i64) W A n xs := by
  refine ⟨h.1, h.2.1, fun hn => ?_⟩
  obtain ⟨ad, ha, hc⟩ := h.2.2 hn
  refine ⟨ad, ha, fun j p hj => ?_⟩
  obtain ⟨c, h1, h2, h3⟩ := hc j p hj
  have hx := hA ad ha
  exact ⟨c, h1, h2, fun i u hi => (hS.cell (p := ad.add (j * (Kd.int .i64).sz + i)) (by rw [addr_block]; exact hx.1) (by rw [addr_block]; exact hx.2)).trans (h3 i u hi)⟩
set_option maxHeartbeats 1000000 in
theorem both.calls (A1 A2 : Option Addr) (n1 c1 n2 c2 : Nat) (w : World) :
    Calls Try.prog 66 #[.slice A1 n1 c1, .slice A2 n2 c2] w fun e w' => e = .returned (.func (.func 99) #[] #[.pointer (some ⟨w.heap.size, 0, none⟩), .pointer (some ⟨w.heap.size + 1, 0, none⟩)]) ∧
      w' = (w.alloc (.cells #[.slice A1 n1 c1] 29)).alloc (.cells #[.slice A2 n2 c2] 29) := by
  go_enter Try.func66, Try.ntmps66
  go_wp2_with fail
  go_ret
  exact ⟨rfl, rfl⟩

set_option maxRecDepth 100000 in
set_option maxHeartbeats 4000000 in
theorem both_go (n : Nat) (hn : 3 ≤ n) (B1 B2 : Nat) (a1 a2 : Addr) (c1 c2 : Nat) (X Y : List Int) (hle : X.length ≤ Y.length) (hX : X.length ≤ 1000) (T : Nat → Prop) (w : World) (h1 : B1 < w.heap.size ∧ B2 < w.heap.size) (hT : ¬ T B1 ∧ ¬ T B2)
    (d1 : w.cell? ⟨B1, 0, none⟩ = some (.slice (some a1) X.length c1)) (d2 : w.cell? ⟨B2, 0, none⟩ = some (.slice (some a2) Y.length c2))
    (hXC : Kd.C (Kd.int .i64) w (some a1) X.length X) (hYC : Kd.C (Kd.int .i64) w (some a2) Y.length Y) (hA : (a1.block < w.heap.size ∧ ¬ T a1.block) ∧ (a2.block < w.heap.size ∧ ¬ T a2.block)) :
    SeqGo Fence.wide n Try.prog 99 #[.pointer (some ⟨B1, 0, none⟩), .pointer (some ⟨B2, 0, none⟩)] T w.heap.size X.length (Gd1 (fun i => wrap64 (rd X (i : Int) + rd Y (i : Int)))) w := by
  intro l J W hW hJ hY h0
  have HD := Lib.hid (fun W' (h : Stays T w.heap.size w W') => (⟨(h.cell (p := ⟨B1, 0, none⟩) h1.1 hT.1).trans d1, (h.cell (p := ⟨B2, 0, none⟩) h1.2 hT.2).trans d2,
    C_stays hXC h (fun ad e => by cases e; exact hA.1), C_stays hYC h (fun ad e => by cases e; exact hA.2)⟩ : _ ∧ _ ∧ _ ∧ _))
  have HY := Lib.hid hY
  have HJ := Lib.hid hJ
  have H0 := Lib.hid h0
  have HW := Lib.hid hW
  have HLE := Lib.hid (⟨hle, hX⟩ : _ ∧ _)
  clear hY hJ h0 hW h1 hT d1 d2 hXC hYC hA hle hX
  refine callsIn_of_wp Try.func99 rfl trivial ?_ rfl
  simp only [Try.ntmps99, List.size_toArray, List.length_cons, List.length_nil, Nat.reduceAdd, Nat.reduceSub, Array.replicate_succ, Array.replicate_zero, List.push_toArray, List.append_toArray, List.nil_append, List.cons_append]
  gi_wp2_with fail
  gi_loopw [4] (fun v4 wr => ∃ (i : Nat), i ≤ X.length ∧ v4 = .int .i64 (i : Int) ∧ Hid (Stays T w.heap.size w wr) ∧ Hid (J i wr)) (fun v4 wr => (X.length - intOf v4).toNat)
  case atStart => exact ⟨0, Nat.zero_le _, rfl, HW, H0⟩
  case round =>
    obtain ⟨i, hi, rfl, HSi, HJi⟩ := hrel
    obtain ⟨e1, e2, e3, e4⟩ := HD.out _ HSi.out
    by_cases hlt : i < X.length
    · have hltY : i < Y.length := Nat.lt_of_lt_of_le hlt HLE.out.1
      obtain ⟨adx, hax, hcx⟩ := Kd.at_int e3 (i : Int) (Int.natCast_nonneg _) (Int.ofNat_lt.mpr hlt)
      obtain ⟨ady, hay, hcy⟩ := Kd.at_int e4 (i : Int) (Int.natCast_nonneg _) (Int.ofNat_lt.mpr hltY)
      cases hax
      cases hay
      rw [Int.toNat_natCast] at hcx hcy
      obtain ⟨fn, tmps, assign, body, hy, hR⟩ := HY.out i #[.int .i64 (wrap64 (rd X (i : Int) + rd Y (i : Int)))] wr.drew hlt (HJ.out _ _ _ HJi.out (pw_below_drewN (Below.refl _ _) 1)) rfl
      have hww : wrap64 (rd X (i : Int) + rd Y (i : Int)) = IntKind.i64.wrap (rd X (i : Int) + rd Y (i : Int)) := (IntWalk.i64_left _).symm
      rw [hww] at hy
      have HR := Lib.hid hR
      have hw1 : wrap64 ((i : Int) + 1) = (i : Int) + 1 := by have := HLE.out.2; unfold wrap64; omega
      have q1 : decide ((i : Int) < (X.length : Int)) = true := decide_eq_true (by omega)
      have q2 : decide ((i : Int) < (Y.length : Int)) = true := decide_eq_true (by omega)
      clear e3 e4 hR
      gi_wp2_with fail
      gi_region_with (refine ⟨fun _ => by omega, HR.out.mono ?_⟩; rintro e W2 ⟨rfl, hJ2, hk2⟩)
      all_goals
        have HS2 := Lib.hid (HSi.out.trans ((Stays.below (T := T) (pw_below_drewN (Below.refl wr.heap.size wr) 1) HSi.out.1).trans hk2))
        have HJ2 := Lib.hid hJ2
        have hb := HLE.out.2
        clear hJ2 hk2 hy HR hww q1 q2 e1 e2 hcx hcy
        gi_wp2_with fail
        go_roundw
        case rel => exact ⟨i + 1, hlt, by rw [Int.natCast_add]; rfl, HS2, HJ2⟩
        case measure => simp [intOf]; omega
    · obtain rfl : i = X.length := Nat.le_antisymm hi (Nat.le_of_not_lt hlt)
      have q1 : decide ((X.length : Int) < (X.length : Int)) = false := decide_eq_false (by omega)
      gi_wp2_with fail
      refine wpIn_region_quiet_lit rfl (by kernel_rfl) (by kernel_rfl) ?_
      repeat (gi_big_quiet_step (fail))
      refine wpQuietIn_step (fun _ _ _ _ => trivial) (fun K hK => ?_)
      go_simp
      refine hK _ ?_
      clear hK K
      repeat (gi_big_quiet_step (fail))
      refine wpQuietIn_nil ?_
      rintro _ ⟨nq, rfl⟩
      gi_wp2_with fail
      go_end0
      exact ⟨⟨_, rfl⟩, HJ.out _ _ _ HJi.out (pw_below_drewN (Below.refl _ _) nq)⟩

end Go.Proofs.Ytpoppdaaodmicaa.Q

/- lap.Check (43): the contract by hand. -/
namespace Go.Proofs.Ytpoppdaaodmicaa.Q
open Go.RowKit Go.Proofs.YtpoppdaaodmicaaW.PrintWords Go.Proofs.YtpoppdaaodmicaaW.PrintLast Go.Proofs.YtpoppdaaodmicaaW.PrintMore
set_option linter.unusedVariables false
set_option linter.unusedSimpArgs false

def lap_Check.f (l0_0 : List Int) (a0_1 : Int) (a0_2 : Int) : Option (Int) := if l0_0.length = 256 then (if l0_0.any farB = true then some 8 else if a0_1 > 3 then some 8 else if a0_2 > 1 then some 8 else some 0) else some 8

set_option maxRecDepth 100000 in
set_option maxHeartbeats 2000000 in
theorem check_many (A : Option Addr) (c : Nat) (l : List Int) (a1 a2 : Int) (w : World) (h : ((l.length : Int) != 256) = true) :
    Calls Try.prog 43 #[.agg #[.slice A l.length c, .int .u8 a1, .int .u8 a2]] w fun e w' => e = .returned (.int .i64 8) ∧ Below w.heap.size w w' := by
  have HB := Lib.hid ((Below.refl w.heap.size w).alloc (Nat.le_refl _) (.cells #[.slice A l.length c, .int .u8 a1, .int .u8 a2] 31))
  go_enter Try.func43, Try.ntmps43
  go_wp2_with fail
  go_ret
  exact ⟨rfl, HB.out⟩
set_option maxRecDepth 100000 in
set_option maxHeartbeats 2000000 in
theorem check_far (A : Option Addr) (c : Nat) (l : List Int) (a1 a2 : Int) (w : World) (h : ((l.length : Int) != 256) = false) (hl : l.length ≤ 9223372036854775807) (hr : Kd.C (Kd.int .i64) w A l.length l) (ho : l.any farB = true) :
    Calls Try.prog 43 #[.agg #[.slice A l.length c, .int .u8 a1, .int .u8 a2]] w fun e w' => e = .returned (.int .i64 8) ∧ Below w.heap.size w w' := by
  have hb := (Below.refl w.heap.size w).alloc (Nat.le_refl _) (.cells #[.slice A l.length c, .int .u8 a1, .int .u8 a2] 31)
  have hc := contains78.calls farB A c l (w.alloc (.cells #[.slice A l.length c, .int .u8 a1, .int .u8 a2] 31)) hl (Kd.C_below hr hb) (fun x => far1.calls x _)
  rw [ho] at hc
  clear ho
  have HC := Lib.hid hc
  have HB := Lib.hid hb
  clear hc hb hr hl
  go_enter Try.func43, Try.ntmps43
  go_wp2_with fail
  refine HC.out.mono ?_
  rintro e w' ⟨rfl, rfl⟩
  go_wp2_with fail
  go_ret
  exact ⟨rfl, HB.out⟩
set_option maxRecDepth 100000 in
set_option maxHeartbeats 2000000 in
theorem check_seq (A : Option Addr) (c : Nat) (l : List Int) (a1 a2 : Int) (w : World) (h : ((l.length : Int) != 256) = false) (hl : l.length ≤ 9223372036854775807) (hr : Kd.C (Kd.int .i64) w A l.length l) (ho : l.any farB = false) (h1 : decide (3 < a1) = true) :
    Calls Try.prog 43 #[.agg #[.slice A l.length c, .int .u8 a1, .int .u8 a2]] w fun e w' => e = .returned (.int .i64 8) ∧ Below w.heap.size w w' := by
  have hb := (Below.refl w.heap.size w).alloc (Nat.le_refl _) (.cells #[.slice A l.length c, .int .u8 a1, .int .u8 a2] 31)
  have hc := contains78.calls farB A c l (w.alloc (.cells #[.slice A l.length c, .int .u8 a1, .int .u8 a2] 31)) hl (Kd.C_below hr hb) (fun x => far1.calls x _)
  rw [ho] at hc
  clear ho
  have HC := Lib.hid hc
  have HB := Lib.hid hb
  clear hc hb hr hl
  go_enter Try.func43, Try.ntmps43
  go_wp2_with fail
  refine HC.out.mono ?_
  rintro e w' ⟨rfl, rfl⟩
  go_wp2_with fail
  go_ret
  exact ⟨rfl, HB.out⟩
set_option maxRecDepth 100000 in
set_option maxHeartbeats 2000000 in
theorem check_shape (A : Option Addr) (c : Nat) (l : List Int) (a1 a2 : Int) (w : World) (h : ((l.length : Int) != 256) = false) (hl : l.length ≤ 9223372036854775807) (hr : Kd.C (Kd.int .i64) w A l.length l) (ho : l.any farB = false) (h1 : decide (3 < a1) = false) (h2 : decide (1 < a2) = true) :
    Calls Try.prog 43 #[.agg #[.slice A l.length c, .int .u8 a1, .int .u8 a2]] w fun e w' => e = .returned (.int .i64 8) ∧ Below w.heap.size w w' := by
  have hb := (Below.refl w.heap.size w).alloc (Nat.le_refl _) (.cells #[.slice A l.length c, .int .u8 a1, .int .u8 a2] 31)
  have hc := contains78.calls farB A c l (w.alloc (.cells #[.slice A l.length c, .int .u8 a1, .int .u8 a2] 31)) hl (Kd.C_below hr hb) (fun x => far1.calls x _)
  rw [ho] at hc
  clear ho
  have HC := Lib.hid hc
  have HB := Lib.hid hb
  clear hc hb hr hl
  go_enter Try.func43, Try.ntmps43
  go_wp2_with fail
  refine HC.out.mono ?_
  rintro e w' ⟨rfl, rfl⟩
  go_wp2_with fail
  go_ret
  exact ⟨rfl, HB.out⟩
set_option maxRecDepth 100000 in
set_option maxHeartbeats 2000000 in
theorem check_ok (A : Option Addr) (c : Nat) (l : List Int) (a1 a2 : Int) (w : World) (h : ((l.length : Int) != 256) = false) (hl : l.length ≤ 9223372036854775807) (hr : Kd.C (Kd.int .i64) w A l.length l) (ho : l.any farB = false) (h1 : decide (3 < a1) = false) (h2 : decide (1 < a2) = false) :
    Calls Try.prog 43 #[.agg #[.slice A l.length c, .int .u8 a1, .int .u8 a2]] w fun e w' => e = .returned (.int .i64 0) ∧ Below w.heap.size w w' := by
  have hb := (Below.refl w.heap.size w).alloc (Nat.le_refl _) (.cells #[.slice A l.length c, .int .u8 a1, .int .u8 a2] 31)
  have hc := contains78.calls farB A c l (w.alloc (.cells #[.slice A l.length c, .int .u8 a1, .int .u8 a2] 31)) hl (Kd.C_below hr hb) (fun x => far1.calls x _)
  rw [ho] at hc
  clear ho
  have HC := Lib.hid hc
  have HB := Lib.hid hb
  clear hc hb hr hl
  go_enter Try.func43, Try.ntmps43
  go_wp2_with fail
  refine HC.out.mono ?_
  rintro e w' ⟨rfl, rfl⟩
  go_wp2_with fail
  go_ret
  exact ⟨rfl, HB.out⟩
theorem lap_Check.calls (A0_0 : Option Addr) (c0_0 : Nat) (l0_0 : List Int) (a0_1 : Int) (a0_2 : Int) (r : Int) (w : World) (hr0_0 : Kd.C (Kd.int .i64) w A0_0 l0_0.length l0_0) (hc0_0 : l0_0.length ≤ c0_0) (h : lap_Check.f l0_0 a0_1 a0_2 = some r) :
    Calls Try.prog 43 #[.agg #[.slice A0_0 l0_0.length c0_0, .int .u8 a0_1, .int .u8 a0_2]] w fun e w' => e = .returned (.int .i64 r) ∧ Below w.heap.size w w' := by
  have hlen : l0_0.length ≤ 9223372036854775807 := Kd.C_max hr0_0
  unfold lap_Check.f at h
  by_cases hn : l0_0.length = 256
  · have hb : ((l0_0.length : Int) != 256) = false := by rw [bne_eq_false_iff_eq]; omega
    rw [if_pos hn] at h
    by_cases ho : l0_0.any farB = true
    · rw [if_pos ho] at h
      cases h
      exact check_far A0_0 c0_0 l0_0 a0_1 a0_2 w hb hlen hr0_0 ho
    · rw [if_neg ho] at h
      have ho' := Bool.eq_false_iff.mpr ho
      by_cases h1 : a0_1 > 3
      · rw [if_pos h1] at h
        cases h
        exact check_seq A0_0 c0_0 l0_0 a0_1 a0_2 w hb hlen hr0_0 ho' (decide_eq_true h1)
      · rw [if_neg h1] at h
        by_cases h2 : a0_2 > 1
        · rw [if_pos h2] at h
          cases h
          exact check_shape A0_0 c0_0 l0_0 a0_1 a0_2 w hb hlen hr0_0 ho' (decide_eq_false h1) (decide_eq_true h2)
        · rw [if_neg h2] at h
          cases h
          exact check_ok A0_0 c0_0 l0_0 a0_1 a0_2 w hb hlen hr0_0 ho' (decide_eq_false h1) (decide_eq_false h2)
  · rw [if_neg hn] at h
    cases h
    exact check_many A0_0 c0_0 l0_0 a0_1 a0_2 w (by rw [bne_iff_ne]; omega)

end Go.Proofs.Ytpoppdaaodmicaa.Q

/- lap.Next (35): the walk. -/
namespace Go.Proofs.Ytpoppdaaodmicaa.Q
open Go.RowKit Go.Shelf Go.Proofs.YtpoppdaaodmicaaW.PrintWords Go.Proofs.YtpoppdaaodmicaaW.PrintLast Go.Proofs.YtpoppdaaodmicaaW.PrintMore
attribute [local go_sem] Oper.semAt_some
set_option linter.unusedVariables false
set_option linter.unusedSimpArgs false

/-- A box of a struct of three. -/
def Boxed3 (W : World) (B : Nat) (v1 v2 v3 : Value) : Prop := W.heap[B]? = some (.cells #[v1, v2, v3] 31 (0, 0))
theorem Boxed3.cells {W : World} {B : Nat} {v1 v2 v3 : Value} (h : Boxed3 W B v1 v2 v3) : W.cell? ⟨B, 0, none⟩ = some v1 ∧ W.cell? ⟨B, 1, none⟩ = some v2 ∧ W.cell? ⟨B, 2, none⟩ = some v3 := by
  unfold Boxed3 at h
  refine ⟨?_, ?_, ?_⟩ <;> simp [World.cell?, h]
theorem Boxed3.below {W W' : World} {B : Nat} {v1 v2 v3 : Value} (h : Boxed3 W B v1 v2 v3) (hb : Below W.heap.size W W') : Boxed3 W' B v1 v2 v3 := (hb.block _ (Array.getElem?_eq_some_iff.1 h).1).trans h
theorem Boxed3.new (w : World) (v1 v2 v3 : Value) : Boxed3 (w.alloc (.cells #[v1, v2, v3] 31)) w.heap.size v1 v2 v3 := World.alloc_heap_new w _

theorem Boxed3.lt {W : World} {B : Nat} {v1 v2 v3 : Value} (h : Boxed3 W B v1 v2 v3) : B < W.heap.size := (Array.getElem?_eq_some_iff.1 h).1
theorem Boxed3.frozen {W : World} {B : Nat} {v1 v2 v3 : Value} (h : Boxed3 W B v1 v2 v3) : W.frozen? ⟨B, 0, none⟩ = false ∧ W.frozen? ⟨B, 1, none⟩ = false ∧ W.frozen? ⟨B, 2, none⟩ = false := by
  unfold Boxed3 at h
  refine ⟨?_, ?_, ?_⟩ <;> simp [World.frozen?, h]
/-- A store of a whole struct: three cells. -/
def set3 (W : World) (B : Nat) (u1 u2 u3 : Value) : World := ((W.setCell ⟨B, 0, none⟩ u1).setCell ⟨B, 1, none⟩ u2).setCell ⟨B, 2, none⟩ u3
theorem heap_set1 (W : World) (B j : Nat) (u : Value) (cs : Array Value) (t : TypeId) (h : W.heap[B]? = some (.cells cs t (0, 0))) : (W.setCell ⟨B, j, none⟩ u).heap[B]? = some (.cells (cs.setIfInBounds j u) t (0, 0)) := by
  obtain ⟨hlt, hk⟩ := Array.getElem?_eq_some_iff.1 h
  show (W.heap.modify B _)[B]? = _
  rw [Array.getElem?_eq_getElem (by rw [Array.size_modify]; exact hlt), Array.getElem_modify_self, hk]
  rfl
theorem Boxed3.set3 {W : World} {B : Nat} {v1 v2 v3 : Value} (h : Boxed3 W B v1 v2 v3) (u1 u2 u3 : Value) : Boxed3 (set3 W B u1 u2 u3) B u1 u2 u3 :=
  heap_set1 _ _ 2 u3 _ _ (heap_set1 _ _ 1 u2 _ _ (heap_set1 _ _ 0 u1 _ _ h))
theorem set3_other {W : World} {B k : Nat} (u1 u2 u3 : Value) (h : k ≠ B) : (Q.set3 W B u1 u2 u3).heap[k]? = W.heap[k]? := by
  unfold Q.set3
  exact (Below.heap_setCell _ _ _ _ (by simpa using h)).trans ((Below.heap_setCell _ _ _ _ (by simpa using h)).trans (Below.heap_setCell _ _ _ _ (by simpa using h)))
theorem below_set3 {N : Nat} {w W : World} {B : Nat} (h : Below N w W) (hB : N ≤ B) (u1 u2 u3 : Value) : Below N w (Q.set3 W B u1 u2 u3) := ((h.setCell (by simpa using hB) _).setCell (by simpa using hB) _).setCell (by simpa using hB) _

/-- lap.Next's results: a struct that lies in three cells, a slice in a cell, a number. -/
theorem results_35 (tmps : Array Value) (w : World) (B B' : Nat) (v1 v2 v3 v' t : Value) (hp : tmps.getD 8 undef = .pointer (some ⟨B, 0, none⟩)) (hp' : tmps.getD 9 undef = .pointer (some ⟨B', 0, none⟩)) (ht : tmps.getD 10 undef = t)
    (hc : w.cell? ⟨B, 0, none⟩ = some v1 ∧ w.cell? ⟨B, 1, none⟩ = some v2 ∧ w.cell? ⟨B, 2, none⟩ = some v3) (hc' : w.cell? ⟨B', 0, none⟩ = some v') :
    (results Try.f35 tmps).run Try.prog w = .ok (.tuple #[.agg #[v1, v2, v3], v', t]) w := by
  have h1 : tmps[8]?.getD undef = .pointer (some ⟨B, 0, none⟩) := by simpa using hp
  have h2 : tmps[9]?.getD undef = .pointer (some ⟨B', 0, none⟩) := by simpa using hp'
  have h3 : tmps[10]?.getD undef = t := by simpa using ht
  obtain ⟨c1, c2, c3⟩ := hc
  simp [results, Try.f35, h1, h2, h3, asAddr, go_sem, c1, c2, c3, hc', run_underlying Try.underlying29, run_underlying Try.underlying31]

set_option maxRecDepth 100000 in
set_option maxHeartbeats 2000000 in
theorem next_bad (A0 : Option Addr) (c0 : Nat) (l0 : List Int) (s0 k0 a1 a2 : Int) (A3 : Option Addr) (c3 : Nat) (l3 : List Int) (er : Int) (w : World) (hr : Kd.C (Kd.int .i64) w A0 l0.length l0) (hc : l0.length ≤ c0) (hck : lap_Check.f l0 s0 k0 = some er) (he : er ≠ 0) :
    Calls Try.prog 35 #[.agg #[.slice A0 l0.length c0, .int .u8 s0, .int .u8 k0], .int .u8 a1, .int .u8 a2, .slice A3 l3.length c3] w fun e w' => e = .returned (.tuple #[.agg #[.slice none 0 0, .int .u8 0, .int .u8 0], .slice none 0 0, .int .i64 er]) ∧ Below w.heap.size w w' := by
  have hb0 : Below w.heap.size w (((w.alloc (.cells #[.slice A0 l0.length c0, .int .u8 s0, .int .u8 k0] 31)).alloc (.cells #[.slice none 0 0, .int .u8 0, .int .u8 0] 31)).alloc (.cells #[.slice none 0 0] 29)) := (((Below.refl _ w).alloc (Nat.le_refl _) _).alloc (by simp) _).alloc (by simp; omega) _
  have HA := Lib.hid (lap_Check.calls A0 c0 l0 s0 k0 er _ (Kd.C_below hr hb0) hc hck)
  have b2 := Boxed3.new (w.alloc (.cells #[.slice A0 l0.length c0, .int .u8 s0, .int .u8 k0] 31)) (.slice none 0 0) (.int .u8 0) (.int .u8 0)
  have b3 := Boxed.new ((w.alloc (.cells #[.slice A0 l0.length c0, .int .u8 s0, .int .u8 k0] 31)).alloc (.cells #[.slice none 0 0, .int .u8 0, .int .u8 0] 31)) 29 (.slice none 0 0)
  rw [World.size_alloc] at b2
  rw [World.size_alloc, World.size_alloc] at b3
  have b2' := b2.below ((Below.refl _ _).alloc (Nat.le_refl _) (.cells #[.slice none 0 0] 29))
  have B2 := Lib.hid b2'
  have B3 := Lib.hid b3
  have HB0 := Lib.hid hb0
  have hne : (er != 0) = true := bne_iff_ne.mpr he
  clear b2 b2' b3 hb0 hr hck he
  go_enter Try.func35, Try.ntmps35
  go_wp2_with fail
  refine HA.out.mono ?_
  rintro e w1 ⟨rfl, hb1⟩
  have c2 := (B2.out.below hb1).cells
  have c3 := (Boxed_below B3.out hb1).cell
  obtain ⟨c21, c22, c23⟩ := c2
  have HB1 := Lib.hid (HB0.out.trans (hb1.mono (HB0.out.size)))
  clear hb1 B2 B3 HA
  go_wp2_with fail
  refine bodyPost_ret (results_35 _ _ (w.heap.size + 1) (w.heap.size + 1 + 1) _ _ _ _ _ rfl rfl rfl ⟨c21, c22, c23⟩ c3) rfl ?_
  exact ⟨rfl, HB1.out⟩

set_option maxRecDepth 100000 in
set_option maxHeartbeats 2000000 in
theorem next_err (A0 : Option Addr) (c0 : Nat) (l0 : List Int) (s0 k0 a1 a2 : Int) (A3 : Option Addr) (c3 : Nat) (l3 y : List Int) (er : Int) (w : World) (hr : Kd.C (Kd.int .i64) w A0 l0.length l0) (hc : l0.length ≤ c0) (hr3 : Kd.C (Kd.int .i64) w A3 l3.length l3) (hc3 : l3.length ≤ c3) (hck : lap_Check.f l0 s0 k0 = some 0) (hsy : block_Synth.f a1 k0 a2 l3 = some (y, er)) (he : er ≠ 0) :
    Calls Try.prog 35 #[.agg #[.slice A0 l0.length c0, .int .u8 s0, .int .u8 k0], .int .u8 a1, .int .u8 a2, .slice A3 l3.length c3] w fun e w' => e = .returned (.tuple #[.agg #[.slice none 0 0, .int .u8 0, .int .u8 0], .slice none 0 0, .int .i64 er]) ∧ Below w.heap.size w w' := by
  have hb0 : Below w.heap.size w (((w.alloc (.cells #[.slice A0 l0.length c0, .int .u8 s0, .int .u8 k0] 31)).alloc (.cells #[.slice none 0 0, .int .u8 0, .int .u8 0] 31)).alloc (.cells #[.slice none 0 0] 29)) := (((Below.refl _ w).alloc (Nat.le_refl _) _).alloc (by simp) _).alloc (by simp; omega) _
  have HA := Lib.hid (lap_Check.calls A0 c0 l0 s0 k0 0 _ (Kd.C_below hr hb0) hc hck)
  have b1 := (Boxed3.new w (.slice A0 l0.length c0) (.int .u8 s0) (.int .u8 k0)).below (((Below.refl _ _).alloc (Nat.le_refl _) (.cells #[.slice none 0 0, .int .u8 0, .int .u8 0] 31)).alloc (by simp) (.cells #[.slice none 0 0] 29))
  have b2 := Boxed3.new (w.alloc (.cells #[.slice A0 l0.length c0, .int .u8 s0, .int .u8 k0] 31)) (.slice none 0 0) (.int .u8 0) (.int .u8 0)
  have b3 := Boxed.new ((w.alloc (.cells #[.slice A0 l0.length c0, .int .u8 s0, .int .u8 k0] 31)).alloc (.cells #[.slice none 0 0, .int .u8 0, .int .u8 0] 31)) 29 (.slice none 0 0)
  rw [World.size_alloc] at b2
  rw [World.size_alloc, World.size_alloc] at b3
  have b2' := b2.below ((Below.refl _ _).alloc (Nat.le_refl _) (.cells #[.slice none 0 0] 29))
  have B1 := Lib.hid b1
  have B2 := Lib.hid b2'
  have B3 := Lib.hid b3
  have HB0 := Lib.hid hb0
  have HSY := Lib.hid (fun W (h : Below w.heap.size w W) => block_Synth.calls a1 k0 a2 A3 c3 l3 y er W (Kd.C_below hr3 h) hc3 hsy)
  have hne : (er != 0) = true := bne_iff_ne.mpr he
  clear b1 b2 b2' b3 hb0 hr hck he hr3 hc3 hsy
  go_enter Try.func35, Try.ntmps35
  go_wp2_with fail
  refine HA.out.mono ?_
  rintro e w1 ⟨rfl, hb1⟩
  have C1 := Lib.hid (B1.out.below hb1)
  have C2 := Lib.hid (B2.out.below hb1)
  have C3 := Lib.hid (Boxed_below B3.out hb1)
  have HB1 := Lib.hid (HB0.out.trans (hb1.mono (HB0.out.size)))
  have HS := Lib.hid (HSY.out w1 HB1.out)
  obtain ⟨d1, d2, d3⟩ := C1.out.cells
  clear hb1 B1 B2 B3 HA
  go_wp2_with fail
  refine HS.out.mono ?_
  rintro e w2 ⟨v, rfl, hv, hb2⟩
  obtain ⟨c21, c22, c23⟩ := (C2.out.below hb2).cells
  obtain ⟨f21, f22, f23⟩ := (C2.out.below hb2).frozen
  have D2 := Lib.hid (C2.out.below hb2)
  have D3 := Lib.hid (Boxed_below C3.out hb2)
  have c3' := (Boxed_below C3.out hb2).cell
  have f3 := (Boxed_below C3.out hb2).frozen
  have HB2 := Lib.hid (HB1.out.trans (hb2.mono (HB1.out.size)))
  clear hb2 hv d1 d2 d3
  go_wp2_with fail
  have e2 := D2.out.set3 (.slice none 0 0) (.int .u8 0) (.int .u8 0)
  have e3 : Boxed (set3 w2 (w.heap.size + 1) (.slice none 0 0) (.int .u8 0) (.int .u8 0)) (w.heap.size + 1 + 1) 29 (.slice none 0 0) := (set3_other _ _ _ (by omega)).trans D3.out
  have hB := below_set3 HB2.out (B := w.heap.size + 1) (by omega) (.slice none 0 0) (.int .u8 0) (.int .u8 0)
  have g2 : Boxed3 ((set3 w2 (w.heap.size + 1) (.slice none 0 0) (.int .u8 0) (.int .u8 0)).setCell ⟨w.heap.size + 1 + 1, 0, none⟩ (.slice none 0 0)) (w.heap.size + 1) (.slice none 0 0) (.int .u8 0) (.int .u8 0) := (Below.heap_setCell _ _ _ _ (by simp)).trans e2
  have g3 := e3.set (.slice none 0 0)
  refine bodyPost_ret (results_35 _ _ (w.heap.size + 1) (w.heap.size + 1 + 1) _ _ _ _ _ rfl rfl rfl g2.cells g3.cell) rfl ?_
  exact ⟨rfl, hB.setCell (by simp; omega) _⟩

theorem C_ne {W : World} {ad : Addr} {n : Nat} {xs : List Int} {B : Nat} {A' : Option Addr} {n' c' : Nat} (h : Kd.C (Kd.int .i64) W (some ad) n xs) (hn : 0 < n) (hb : Boxed W B 29 (.slice A' n' c')) : ad.block ≠ B := by
  intro e
  obtain ⟨ad', e', hcell⟩ := Kd.at_int h 0 (Int.le_refl _) (by have := h.1; omega)
  cases e'
  unfold World.cell? at hcell
  rw [addr_block, e, show W.heap[B]? = _ from hb] at hcell
  dsimp only at hcell
  split at hcell
  · cases hcell
  · have := List.getElem?_eq_some_iff.1 (by simpa using hcell : [Value.slice A' n' c'][(ad.add (Int.toNat 0)).off]? = some _)
    obtain ⟨hlt, he⟩ := this
    have h0 : (ad.add (Int.toNat 0)).off = 0 := by simp at hlt; exact hlt
    simp only [h0] at he
    cases he
theorem C_block {W : World} {ad : Addr} {n : Nat} {xs : List Int} (h : Kd.C (Kd.int .i64) W (some ad) n xs) (hn : 0 < n) : ad.block < W.heap.size := by
  obtain ⟨ad', e', hcell⟩ := Kd.at_int h 0 (Int.le_refl _) (by have := h.1; omega)
  cases e'
  have := World.block_lt_of_cell? W _ hcell
  rwa [addr_block] at this
/-- A walk's end that no panic reaches: what lies behind the region alone. -/
def normPost (K : Act → World → Prop) : Exit → Act → World → Prop
  | .normal, a, w => K a w
  | _, _, _ => False
/-- The samples told so far. -/
def pcmL (out : Nat → Int) : Nat → List Int
  | 0 => []
  | i + 1 => pcmL out i ++ [out i]
theorem pcmL_length (out : Nat → Int) : ∀ i, (pcmL out i).length = i
  | 0 => rfl
  | i + 1 => by rw [pcmL, List.length_append, pcmL_length out i]; rfl
theorem C_one (W : World) (x : Int) : Kd.C (Kd.int .i64) (W.alloc (.cells #[.int .i64 x] 3)) (some ⟨W.heap.size, 0, none⟩) [x].length [x] := by
  have h := own_made_of (enc := Value.int .i64) (d := x) W W.heap.size 3 1 (Nat.le_refl _) (by decide)
  have h2 : Kd.R (Kd.int .i64) 3 (W.alloc (.cells (madeCells #[.int .i64 x] 1) 3)) W.heap.size (fun k => k = W.heap.size) (.slice (some ⟨W.heap.size, 0, none⟩) 1 1) [x] := by
    refine Kd.R_of_own (enc := Value.int .i64) ?_ (fun k hk => by simpa [Value.ownBlock] using hk.symm)
    exact h
  have h3 := (Kd.R_reads' h2).2.2
  have e : madeCells #[Value.int .i64 x] 1 = #[.int .i64 x] := by simp [madeCells]; exact ⟨0, rfl, rfl⟩
  rw [e] at h3
  exact h3
/-- lap.Next's end: the deferred calls are none; what it answers lies apart. -/
theorem next_end {w W w5 : World} {B D g : Nat} {A5 Ap : Option Addr} {n5 c5 np cp : Nat} {v1 v2 v3 : Value} {xs ps : List Int} (a1 a2 : Int) (tmps : Array Value) (hp8 : tmps.getD 8 undef = .pointer (some ⟨B + 1, 0, none⟩)) (hp9 : tmps.getD 9 undef = .pointer (some ⟨B + 1 + 1, 0, none⟩)) (hp10 : tmps.getD 10 undef = .int .i64 0)
    (hB : B = w.heap.size) (hg : B + 1 + 1 < g) (hD : g ≤ D) (hbel : Below w.heap.size w W) (hK : W.heap[D]? = some (.deferred (some []))) (hb5 : Below W.heap.size W w5) (hB5 : Boxed3 w5 (B + 1) v1 v2 v3) (hv9 : Boxed w5 (B + 1 + 1) 29 (.slice Ap np cp))
    (h1 : Kd.R (Kd.int .i64) 3 w5 W.heap.size (fun _ => True) (.slice A5 n5 c5) xs) (h2 : Kd.R (Kd.int .i64) 3 W g (fun _ => True) (.slice Ap np cp) ps) :
    bodyPostM Fence.wide 12 Try.prog Try.f35 (fun e w' => ∃ v0_ v3_ : Value, e = .returned (.tuple #[.agg #[v0_, .int .u8 a1, .int .u8 a2], v3_, .int .i64 0]) ∧ Kd.R (Kd.int .i64) 3 w' w.heap.size (fun k_ => some k_ ≠ (v3_ : Value).ownBlock) v0_ xs ∧ Kd.R (Kd.int .i64) 3 w' w.heap.size (fun k_ => some k_ ≠ (v0_ : Value).ownBlock) v3_ ps ∧ Below w.heap.size w w')
      .ret { tmps := tmps, defers := [{ target := .collected D, args := #[] }] } ((set3 w5 (B + 1) (.slice A5 n5 c5) (.int .u8 a1) (.int .u8 a2)).setCell ⟨B + 1 + 1, 0, none⟩ (.slice Ap np cp)) := by
  subst hB
  have hDlt := (Array.getElem?_eq_some_iff.1 hK).1
  have hK5 : w5.heap[D]? = some (.deferred (some [])) := (hb5.block D hDlt).trans hK
  have hKS : ((set3 w5 (w.heap.size + 1) (.slice A5 n5 c5) (.int .u8 a1) (.int .u8 a2)).setCell ⟨w.heap.size + 1 + 1, 0, none⟩ (.slice Ap np cp)).heap[D]? = some (.deferred (some [])) :=
    (Below.heap_setCell _ _ _ _ (by simp; omega)).trans ((set3_other _ _ _ (by omega)).trans hK5)
  have g2 := hB5.set3 (.slice A5 n5 c5) (.int .u8 a1) (.int .u8 a2)
  have g3 : Boxed (set3 w5 (w.heap.size + 1) (.slice A5 n5 c5) (.int .u8 a1) (.int .u8 a2)) (w.heap.size + 1 + 1) 29 (.slice Ap np cp) := (set3_other _ _ _ (by omega)).trans hv9
  have far : ∀ {base : Nat} {ok : Nat → Prop} {v : Value} {zs : List Int}, Kd.R (Kd.int .i64) 3 w5 base ok v zs → w.heap.size + 1 + 1 < base →
      Kd.R (Kd.int .i64) 3 (((set3 w5 (w.heap.size + 1) (.slice A5 n5 c5) (.int .u8 a1) (.int .u8 a2)).setCell ⟨w.heap.size + 1 + 1, 0, none⟩ (.slice Ap np cp)).putObj D (.deferred none)) base ok v zs := by
    intro base ok v zs h hb
    have e0 := Kd.R_bound h
    have e1 := Kd.R_far (p := ⟨w.heap.size + 1, 0, none⟩) e0 (fun k hk => by have := hk.2.1; simp; omega) (.slice A5 n5 c5)
    have e2 := Kd.R_far (p := ⟨w.heap.size + 1, 1, none⟩) e1 (fun k hk => by have := hk.2.1; simp; omega) (.int .u8 a1)
    have e3 := Kd.R_far (p := ⟨w.heap.size + 1, 2, none⟩) e2 (fun k hk => by have := hk.2.1; simp; omega) (.int .u8 a2)
    have e4 := Kd.R_far (p := ⟨w.heap.size + 1 + 1, 0, none⟩) e3 (fun k hk => by have := hk.2.1; simp; omega) (.slice Ap np cp)
    exact Kd.R_mono (R_putObj (.deferred none) e4 hKS rfl) (fun _ hk => hk.1)
  have f1 := far h1 (by omega)
  have f2 := far (Kd.R_below (Kd.R_bound h2) hb5) hg
  refine ⟨by simp, .inl ⟨_, _, rfl, run_takeDeferred hKS, ?_⟩⟩
  refine ⟨_, results_35 _ _ (w.heap.size + 1) (w.heap.size + 1 + 1) _ _ _ _ _ hp8 hp9 hp10 (Boxed3.cells (v1 := .slice A5 n5 c5) (v2 := .int .u8 a1) (v3 := .int .u8 a2) ((World.putObj_heap_other (by omega)).trans ((Below.heap_setCell _ _ _ _ (by simp)).trans g2))) (Boxed.cell (Boxed_putObj _ (g3.set _) (by omega))), _, _, rfl, ?_, ?_, ?_⟩
  · refine Kd.R_mono (Kd.R_lower (Kd.R_bound f1) (by have := hbel.size; omega)) (fun k hk e => ?_)
    obtain ⟨cells, hcl⟩ := own_typed (Kd.own_of_R h2) k e.symm
    have i1 := (Array.getElem?_eq_some_iff.1 hcl).1
    have i2 := hk.2.1
    omega
  · refine Kd.R_mono (Kd.R_lower f2 (by omega)) (fun k hk e => ?_)
    have i2 := own_base (Kd.own_of_R f1) k e.symm
    obtain ⟨_, _, _, q, _, cells, hc⟩ := hk
    have i1 := (Array.getElem?_eq_some_iff.1 hc).1
    omega
  · exact Below_putObj _ ((below_set3 (hbel.trans (hb5.mono hbel.size)) (by omega) _ _ _).setCell (by simp; omega) _) (by omega)

set_option maxRecDepth 100000 in
set_option maxHeartbeats 4000000 in
theorem next_walk (A0 : Option Addr) (c0 : Nat) (l0 : List Int) (s0 k0 a1 a2 : Int) (A3 : Option Addr) (c3 : Nat) (l3 y : List Int) (w : World) (hr : Kd.C (Kd.int .i64) w A0 l0.length l0) (hc : l0.length ≤ c0) (hr3 : Kd.C (Kd.int .i64) w A3 l3.length l3) (hc3 : l3.length ≤ c3) (hck : lap_Check.f l0 s0 k0 = some 0) (hsy : block_Synth.f a1 k0 a2 l3 = some (y, 0))
    (hl : 0 < l0.length ∧ l0.length ≤ y.length ∧ l0.length ≤ 900) (hy : 256 < y.length ∧ y.length ≤ 1000) (out : Nat → Int) (hout : ∀ i, i < l0.length → ∃ z e1 e2, fix_Round.f 3000 (wrap64 (rd l0 (i : Int) + rd y (i : Int))) 4 = some (z, e1) ∧ fix_Clip.f z 16 = some (out i, e2)) :
    Calls Try.prog 35 #[.agg #[.slice A0 l0.length c0, .int .u8 s0, .int .u8 k0], .int .u8 a1, .int .u8 a2, .slice A3 l3.length c3] w fun e w' => ∃ v0_ v3_ : Value, e = .returned (.tuple #[.agg #[v0_, .int .u8 a1, .int .u8 a2], v3_, .int .i64 0]) ∧ Kd.R (Kd.int .i64) 3 w' w.heap.size (fun k_ => some k_ ≠ (v3_ : Value).ownBlock) v0_ (y.drop 256) ∧ Kd.R (Kd.int .i64) 3 w' w.heap.size (fun k_ => some k_ ≠ (v0_ : Value).ownBlock) v3_ (pcmL out l0.length) ∧ Below w.heap.size w w' := by
  obtain ⟨ad0, rfl, _⟩ := hr.2.2 hl.1
  have hA0 : ad0.block < w.heap.size := by
    obtain ⟨ad, e, hcell⟩ := Kd.at_int hr 0 (Int.le_refl _) (by omega)
    cases e
    have := World.block_lt_of_cell? w _ hcell
    rwa [addr_block] at this
  have hb0 : Below w.heap.size w (((w.alloc (.cells #[.slice (some ad0) l0.length c0, .int .u8 s0, .int .u8 k0] 31)).alloc (.cells #[.slice none 0 0, .int .u8 0, .int .u8 0] 31)).alloc (.cells #[.slice none 0 0] 29)) := (((Below.refl _ w).alloc (Nat.le_refl _) _).alloc (by simp) _).alloc (by simp; omega) _
  have HA := Lib.hid (lap_Check.calls (some ad0) c0 l0 s0 k0 0 _ (Kd.C_below hr hb0) hc hck)
  have b1 := (Boxed3.new w (.slice (some ad0) l0.length c0) (.int .u8 s0) (.int .u8 k0)).below (((Below.refl _ _).alloc (Nat.le_refl _) (.cells #[.slice none 0 0, .int .u8 0, .int .u8 0] 31)).alloc (by simp) (.cells #[.slice none 0 0] 29))
  have b2 := Boxed3.new (w.alloc (.cells #[.slice (some ad0) l0.length c0, .int .u8 s0, .int .u8 k0] 31)) (.slice none 0 0) (.int .u8 0) (.int .u8 0)
  have b3 := Boxed.new ((w.alloc (.cells #[.slice (some ad0) l0.length c0, .int .u8 s0, .int .u8 k0] 31)).alloc (.cells #[.slice none 0 0, .int .u8 0, .int .u8 0] 31)) 29 (.slice none 0 0)
  rw [World.size_alloc] at b2
  rw [World.size_alloc, World.size_alloc] at b3
  have b2' := b2.below ((Below.refl _ _).alloc (Nat.le_refl _) (.cells #[.slice none 0 0] 29))
  have B1 := Lib.hid b1
  have B2 := Lib.hid b2'
  have B3 := Lib.hid b3
  have HB0 := Lib.hid hb0
  have HR := Lib.hid hr
  have HL := Lib.hid (⟨hl, hy, hA0⟩ : _ ∧ _ ∧ _)
  have HO := Lib.hid hout
  have HSY := Lib.hid (fun W (h : Below w.heap.size w W) => block_Synth.calls a1 k0 a2 A3 c3 l3 y 0 W (Kd.C_below hr3 h) hc3 hsy)
  clear b1 b2 b2' b3 hb0 hr hck hr3 hc3 hsy hl hy hout hA0
  refine (callsIn_wide (n := 12)).1 ?_
  refine callsIn_of_wp_marks Try.func35 rfl trivial ?_ rfl
  simp only [Try.ntmps35, List.size_toArray, List.length_cons, List.length_nil, Nat.reduceAdd, Nat.reduceSub, Array.replicate_succ, Array.replicate_zero, List.push_toArray, List.append_toArray, List.nil_append, List.cons_append]
  gi_wp2_with fail
  refine ⟨trivial, (callsIn_wide.2 HA.out).mono ?_⟩
  rintro e w1 ⟨rfl, hb1⟩
  have C1 := Lib.hid (B1.out.below hb1)
  have C2 := Lib.hid (B2.out.below hb1)
  have C3 := Lib.hid (Boxed_below B3.out hb1)
  have HB1 := Lib.hid (HB0.out.trans (hb1.mono (HB0.out.size)))
  have HS := Lib.hid (HSY.out w1 HB1.out)
  obtain ⟨d1, d2, d3⟩ := C1.out.cells
  clear hb1 B1 B2 B3 HA HSY
  gi_wp2_with fail
  refine ⟨trivial, (callsIn_wide.2 HS.out).mono ?_⟩
  rintro e w2 ⟨v, rfl, hv, hb2⟩
  obtain ⟨Ay, cy, rfl⟩ := Kd.R_slice hv
  obtain ⟨ay, rfl, _⟩ := (Kd.R_reads' hv).2.2.2.2 (by have := HL.out.2.1.1; omega)
  have hsz1 := C3.out.lt
  obtain ⟨e1, e2, e3⟩ := (C1.out.below hb2).cells
  have D1 := Lib.hid (C1.out.below hb2)
  have D2 := Lib.hid (C2.out.below hb2)
  have D3 := Lib.hid (Boxed_below C3.out hb2)
  have HB2 := Lib.hid (HB1.out.trans (hb2.mono (HB1.out.size)))
  have HY := Lib.hid hv
  have HBO := Lib.hid (both.calls (some ad0) (some ay) l0.length c0 y.length cy w2)
  have hs2 := hb2.size
  have HSZ := Lib.hid (⟨hsz1, hs2⟩ : _ ∧ _)
  clear hb2 d1 d2 d3 hv C1 C2 C3 hsz1 hs2
  gi_wp2_with fail
  refine ⟨trivial, (callsIn_wide.2 HBO.out).mono ?_⟩
  rintro e w3 ⟨rfl, hw3⟩
  have q1 := Boxed.new w2 29 (.slice (some ad0) l0.length c0)
  have q2 := Boxed.new (w2.alloc (.cells #[.slice (some ad0) l0.length c0] 29)) 29 (.slice (some ay) y.length cy)
  rw [World.size_alloc] at q2
  replace q1 := q1.alloc (.cells #[.slice (some ay) y.length cy] 29)
  rw [← hw3] at q1 q2
  have hs3 : w3.heap.size = w2.heap.size + 1 + 1 := by rw [hw3]; simp
  have hb3 : Below w2.heap.size w2 w3 := by rw [hw3]; exact ((Below.refl _ w2).alloc (Nat.le_refl _) _).alloc (by simp) _
  have hHL := HL.out
  have hYC := (Kd.R_reads' HY.out).2.2
  have hne := C_ne hYC (by omega) D3.out
  have hyb := C_block hYC (by omega)
  have hsz := HSZ.out
  have hB3 := HB2.out.trans (hb3.mono HB2.out.size)
  have HSQ := Lib.hid (both_go 11 (by omega) w2.heap.size (w2.heap.size + 1) ad0 ay c0 cy l0 y hHL.1.2.1 (by omega) (fun k => k = w.heap.size + 1 + 1) w3 ⟨by omega, by omega⟩ ⟨by omega, by omega⟩ q1.cell q2.cell (Kd.C_below HR.out hB3) (Kd.C_below hYC hb3) ⟨⟨by omega, by omega⟩, ⟨by omega, hne⟩⟩)
  have E1 := Lib.hid (D1.out.below hb3)
  have E2 := Lib.hid (D2.out.below hb3)
  have E3 := Lib.hid (Boxed_below D3.out hb3)
  have HYC := Lib.hid (Kd.C_below hYC hb3)
  have HYN := Lib.hid (⟨hne, hyb, (Kd.R_reads' HY.out).2.1⟩ : _ ∧ _ ∧ _)
  have HB3 := Lib.hid hB3
  have HS3 := Lib.hid (⟨hsz, hs3⟩ : _ ∧ _)
  clear hw3 q1 q2 hs3 hb3 hHL hYC hne hyb hsz hB3 D1 D2 D3 HB2 HSZ HBO HY e1 e2 e3 HS HB1 HB0
  gi_wp2_with fail
  refine wpIn_range_seq rfl (by omega) (gf := 99) (lb := #[.pointer (some ⟨w2.heap.size, 0, none⟩), .pointer (some ⟨w2.heap.size + 1, 0, none⟩)]) rfl trivial (enters_of Try.func99 (by kernel_rfl) rfl)
    HSQ.out (Nat.le_refl _) (fun i vs W h => by rw [show vs = _ from h]; rfl) (fun i vs W l o o' h _ _ => h)
    (fun i W => (∃ v, Boxed W (w.heap.size + 1 + 1) 29 v ∧ Kd.R (Kd.int .i64) 3 W w3.heap.size (fun _ => True) v (pcmL out i)) ∧ Stays (fun k => k = w.heap.size + 1 + 1) w3.heap.size w3 W ∧ Below w.heap.size w W)
    ?ib ?ip ?i0 ?round ?done
  case ib =>
    rintro i X Y ⟨⟨v, hv, hR⟩, h2, h3⟩ hb
    exact ⟨⟨v, Boxed_below hv hb, Kd.R_below hR hb⟩, h2.trans (Stays.below hb h2.1), h3.trans (hb.mono h3.size)⟩
  case ip =>
    rintro i X k o o' ⟨⟨v, hv, hR⟩, h2, h3⟩ hk hl ho
    have := HS3.out
    exact ⟨⟨v, Boxed_putObj o' hv (by omega), R_putObj o' hR hl ho⟩, h2.trans (Stays.putObj _ hk), Below_putObj o' h3 (by omega)⟩
  case i0 => exact ⟨⟨_, E3.out, Kd.R_nil _ _ _ _ _⟩, Stays.refl _ _ _, HB3.out⟩
  case round =>
    rintro l' i vs W hiN hI rfl
    refine ⟨?a₁, ?asg, ?bdy⟩
    case asg =>
      intro K hK
      gi_wp2_with fail
      exact hK
    case bdy =>
      rintro W2 ⟨⟨v, hv, hRv⟩, hst, hBw⟩ _ hsW
      obtain ⟨z, g1, g2, hz1, hz2⟩ := HO.out i hiN
      have HR1 := Lib.hid (fix_Round.calls 3000 _ 4 z g1 W2 hz1)
      have HR2 := Lib.hid (fun W => fix_Clip.calls z 16 (out i) g2 W hz2)
      have HV := Lib.hid (⟨hv, hRv⟩ : _ ∧ _)
      have HST := Lib.hid (⟨hst, hBw, hsW⟩ : _ ∧ _ ∧ _)
      clear hv hRv hst hBw hI hz1 hz2 hsW
      generalize wrap64 (rd l0 (i : Int) + rd y (i : Int)) = xy at HR1
      gi_wp2_with fail
      refine ⟨trivial, (CallsIn.inRound l' (callsIn_wide.2 HR1.out)).mono ?_⟩
      rintro e w4 ⟨rfl, nd, hnd⟩
      have hb4 : Below W2.heap.size W2 w4 := by rw [hnd]; exact pw_below_drewN (Below.refl _ _) nd
      have HB4 := Lib.hid hb4
      have HR3 := Lib.hid (HR2.out w4)
      clear hb4 hnd HR1 HR2
      gi_wp2_with fail
      refine ⟨trivial, (CallsIn.inRound l' (callsIn_wide.2 HR3.out)).mono ?_⟩
      rintro e w5 ⟨rfl, hb5⟩
      have hb25 := HB4.out.trans (hb5.mono HB4.out.size)
      have hbox := Boxed_below HV.out.1 hb25
      have hb6 : Below w5.heap.size w5 (w5.alloc (.cells #[.int .i64 (out i)] 3)) := (Below.refl _ _).alloc (Nat.le_refl _) _
      have hbx6 := Boxed_below hbox hb6
      have hrow := Kd.R_below (Kd.R_below HV.out.2 hb25) hb6
      have hb26 := hb25.trans (hb6.mono hb25.size)
      obtain ⟨A7, c7, w7, hrun, hR7, hg7⟩ := append_owns _ (c := 1) hrow (C_one w5 (out i)) (by simp) ⟨by rw [pcmL_length]; have := HL.out; omega, by simp⟩ (Nat.le_trans HST.out.2.2 hb26.size)
      simp only [List.length_singleton] at hrun hR7
      have HRUN := Lib.hid hrun
      have hown : ∀ k, v.ownBlock = some k → w3.heap.size ≤ k := fun k hk => own_base (Kd.own_of_R hrow) k hk
      have hbx7 : Boxed w7 (w.heap.size + 1 + 1) 29 v := hbx6.kept hg7 (fun e => by have := hown _ e.symm; have := HS3.out; omega)
      have HOW := Lib.hid hown
      have hc5 := hbox.cell
      have hc7 := hbx7.cell
      have hf7 := hbx7.frozen
      have HB26 := Lib.hid hb26
      have HR7 := Lib.hid hR7
      have HG7 := Lib.hid hg7
      have HROW := Lib.hid hrow
      have HX7 := Lib.hid hbx7
      clear hb5 hb25 hbox hb6 hbx6 hrow hb26 hrun hR7 hg7 hown hbx7 HR3 HB4
      gi_wp2_with (gi_at_builtin; refine wpListIn_append_run rfl _ _ _ rfl _ _ _ rfl rfl HRUN.out ?_)
      have h1 := HS3.out
      have h3 := HB26.out.size
      have hrow7 : KeepsOthers _ w7 := KeepsOthers.of_grownBy HG7.out (fun j o ej hj => by
        obtain ⟨cells, hcl⟩ := own_typed (Kd.own_of_R HROW.out) j ej
        rw [hj] at hcl; cases hcl; rfl)
      have hsty : Stays (fun k => k = w.heap.size + 1 + 1) w3.heap.size W2 w7 := (Stays.below HB26.out HST.out.2.2).trans (Stays.grown HG7.out (Nat.le_trans HST.out.2.2 h3) (fun k e => .inr (HOW.out k e)))
      have hb7 : Below w.heap.size w w7 := (HST.out.2.1.trans (HB26.out.mono HST.out.2.1.size)).grown HG7.out (Nat.le_trans HST.out.2.1.size h3) (fun k e => by have := HOW.out k e; omega)
      refine ⟨((KeepsOthers.of_below HB26.out).trans hrow7).trans (KeepsOthers.setCell _ _ _), hsty.trans (Stays.setCell _ (.inl rfl)), ⟨_, HX7.out.set _, ?_⟩, (HST.out.1.trans hsty).trans (Stays.setCell _ (.inl rfl)), hb7.setCell (by simp; omega) _⟩
      have := Kd.R_far (p := ⟨w.heap.size + 1 + 1, 0, none⟩) (Kd.R_bound HR7.out) (fun k hk => by have := hk.2.1; simp; omega) (.slice A7 ((pcmL out i).length + 1) c7)
      exact Kd.R_mono this (fun _ _ => trivial)
  case done =>
    rintro D W hD ⟨⟨v, hv, hRv⟩, hst, hBw⟩ hK
    obtain ⟨Ap, cp, rfl⟩ := Kd.R_slice hRv
    have hYC := C_stays HYC.out hst (fun ad e => by cases e; exact ⟨by have := HYN.out; have := HS3.out; omega, HYN.out.1⟩)
    have E2' : Boxed3 W (w.heap.size + 1) (.slice none 0 0) (.int .u8 0) (.int .u8 0) := (hst.2 _ (by have := HS3.out; omega) (by omega)).trans E2.out
    have hC := Kd.C_drop hYC (Nat.le_of_lt HL.out.2.1.1) HYN.out.2.2
    have hne : ¬ cy = 256 := by have := HYN.out; have := HL.out; omega
    have HLN := Lib.hid (syn_cut1 hC HYN.out.2.2 hne)
    have HCL := Lib.hid (fun W' (h : Below W.heap.size W W') => slices_Clone_int_int.calls (some (ay.add 256)) (cy - 256) (y.drop 256) W' (Kd.C_below HLN.out.1 h) HLN.out.2 (by rw [List.length_drop]; have := HL.out; omega))
    have hcl := HCL.out W.drew (pw_below_drewN (Below.refl _ _) 1)
    rw [List.length_drop] at hcl
    have HC1 := Lib.hid hcl
    have hvc := hv.cell
    have hk1 : (256 : Nat) ≤ y.length := by have := HL.out; omega
    have hk2 : (256 : Nat) ≤ cy := by have := HL.out; have := HYN.out; omega
    have hk3 : (256 : Nat) < cy := by omega
    have HV := Lib.hid (⟨hv, hRv⟩ : _ ∧ _)
    have HE2 := Lib.hid E2'
    have HW := Lib.hid (⟨hBw, hst, hD, hK⟩ : _ ∧ _ ∧ _ ∧ _)
    clear hv hRv E2' hBw hst hD hK hYC hC hcl
    gi_wp2_with fail
    refine wpIn_mono (Q := normPost _) ?_ (fun e a w h => by cases e <;> first | exact h | exact h.elim)
    (gi_region_with (refine ⟨trivial, (callsIn_wide.2 HC1.out).mono ?_⟩; rintro e w5 ⟨v5, rfl, hv5, hb5⟩; obtain ⟨A5, c5, rfl⟩ := Kd.R_slice hv5; have hsz5 := hb5.size; have hc9 := (Boxed_below HV.out.1 ((pw_below_drewN (Below.refl _ _) 1).trans hb5)).cell; have hf9 := (Boxed_below HV.out.1 ((pw_below_drewN (Below.refl _ _) 1).trans hb5)).frozen; have hB5 := HE2.out.below ((pw_below_drewN (Below.refl _ _) 1).trans hb5); obtain ⟨f21, f22, f23⟩ := hB5.frozen; obtain ⟨c21, c22, c23⟩ := hB5.cells; have f32 := fun u => Boxed3.frozen (heap_set1 _ _ 0 u _ _ hB5 : Boxed3 _ _ u (.int .u8 0) (.int .u8 0)); have f33 := fun u u' => Boxed3.frozen (heap_set1 _ _ 1 u' _ _ (heap_set1 _ _ 0 u _ _ hB5) : Boxed3 _ _ u u' (.int .u8 0))))
    all_goals
      simp only [normPost]
      gi_wp2_with fail
    all_goals
      exact next_end a1 a2 _ rfl rfl rfl rfl (by have := HS3.out; omega) HW.out.2.2.1 HW.out.1 HW.out.2.2.2 ((pw_below_drewN (Below.refl _ _) 1).trans hb5) hB5 (Boxed_below HV.out.1 ((pw_below_drewN (Below.refl _ _) 1).trans hb5)) (by rw [List.length_drop] at hv5; exact hv5) HV.out.2

end Go.Proofs.Ytpoppdaaodmicaa.Q

/- lap.Next (35): what it answers, and the contract. -/
namespace Go.Proofs.Ytpoppdaaodmicaa.Q
open Go.RowKit Go.Shelf Go.Proofs.YtpoppdaaodmicaaW.PrintWords Go.Proofs.YtpoppdaaodmicaaW.PrintLast Go.Proofs.YtpoppdaaodmicaaW.PrintMore
set_option linter.unusedVariables false
set_option linter.unusedSimpArgs false

/-- A sum's sample. -/
def sampleOf (x : Int) : Option Int := (fix_Round.f 3000 x 4).bind fun p => (fix_Clip.f p.1 16).map fun q => q.1
def sampleAt (l y : List Int) (i : Nat) : Option Int := sampleOf (wrap64 (rd l (i : Int) + rd y (i : Int)))
def lap_Next.f (l0_0 : List Int) (a0_1 : Int) (a0_2 : Int) (a1 : Int) (a2 : Int) (l3 : List Int) : Option (List Int × Int × Int × List Int × Int) :=
  (lap_Check.f l0_0 a0_1 a0_2).bind fun e =>
    if e = 0 then (block_Synth.f a1 a0_2 a2 l3).bind fun p =>
      if p.2 = 0 then
        (if (0 < l0_0.length ∧ l0_0.length ≤ p.1.length ∧ l0_0.length ≤ 900) ∧ 256 < p.1.length ∧ p.1.length ≤ 1000 then
          (if (List.range l0_0.length).all (fun i => (sampleAt l0_0 p.1 i).isSome) then some (p.1.drop 256, a1, a2, pcmL (fun i => (sampleAt l0_0 p.1 i).getD 0) l0_0.length, 0) else none)
        else none)
      else some ([], 0, 0, [], p.2)
    else some ([], 0, 0, [], e)
theorem sampleOf_some {x : Int} (h : (sampleOf x).isSome = true) : ∃ z e1 e2, fix_Round.f 3000 x 4 = some (z, e1) ∧ fix_Clip.f z 16 = some ((sampleOf x).getD 0, e2) := by
  unfold sampleOf at h ⊢
  cases hR : fix_Round.f 3000 x 4 with
  | none => rw [hR] at h; cases h
  | some p =>
    obtain ⟨z, e1⟩ := p
    rw [hR] at h
    rw [Option.bind_some] at h ⊢
    cases hC : fix_Clip.f z 16 with
    | none => rw [hC] at h; cases h
    | some q =>
      obtain ⟨o, e2⟩ := q
      exact ⟨z, e1, e2, rfl, hC⟩
theorem lap_Next.calls (A0_0 : Option Addr) (c0_0 : Nat) (l0_0 : List Int) (a0_1 : Int) (a0_2 : Int) (a1 : Int) (a2 : Int) (A3 : Option Addr) (c3 : Nat) (l3 : List Int) (r1 : List Int) (r2 : Int) (r3 : Int) (r4 : List Int) (r5 : Int) (w : World) (hr0_0 : Kd.C (Kd.int .i64) w A0_0 l0_0.length l0_0) (hc0_0 : l0_0.length ≤ c0_0) (hr3 : Kd.C (Kd.int .i64) w A3 l3.length l3) (hc3 : l3.length ≤ c3) (h : lap_Next.f l0_0 a0_1 a0_2 a1 a2 l3 = some (r1, r2, r3, r4, r5)) :
    Calls Try.prog 35 #[.agg #[.slice A0_0 l0_0.length c0_0, .int .u8 a0_1, .int .u8 a0_2], .int .u8 a1, .int .u8 a2, .slice A3 l3.length c3] w fun e w' => ∃ v0_ v3_ : Value, e = .returned (.tuple #[.agg #[v0_, .int .u8 r2, .int .u8 r3], v3_, .int .i64 r5]) ∧ Kd.R (Kd.int .i64) 3 w' w.heap.size (fun k_ => some k_ ≠ (v3_ : Value).ownBlock) v0_ r1 ∧ Kd.R (Kd.int .i64) 3 w' w.heap.size (fun k_ => some k_ ≠ (v0_ : Value).ownBlock) v3_ r4 ∧ Below w.heap.size w w' := by
  unfold lap_Next.f at h
  obtain ⟨e, hck, h⟩ := Option.bind_eq_some_iff.1 h
  by_cases he : e = 0
  · rw [if_pos he] at h
    subst he
    obtain ⟨⟨y, er⟩, hsy, h⟩ := Option.bind_eq_some_iff.1 h
    by_cases hz : er = 0
    · rw [if_pos hz] at h
      subst hz
      by_cases hl : (0 < l0_0.length ∧ l0_0.length ≤ y.length ∧ l0_0.length ≤ 900) ∧ 256 < y.length ∧ y.length ≤ 1000
      · rw [if_pos hl] at h
        by_cases ha : (List.range l0_0.length).all (fun i => (sampleAt l0_0 y i).isSome) = true
        · rw [if_pos ha] at h
          simp only [Option.some.injEq, Prod.mk.injEq] at h
          obtain ⟨rfl, rfl, rfl, rfl, rfl⟩ := h
          exact next_walk A0_0 c0_0 l0_0 a0_1 a0_2 a1 a2 A3 c3 l3 y w hr0_0 hc0_0 hr3 hc3 hck hsy hl.1 hl.2 _ (fun i hi => sampleOf_some (List.all_eq_true.1 ha i (List.mem_range.2 hi)))
        · rw [if_neg ha] at h; cases h
      · rw [if_neg hl] at h; cases h
    · rw [if_neg hz] at h
      simp only [Option.some.injEq, Prod.mk.injEq] at h
      obtain ⟨rfl, rfl, rfl, rfl, rfl⟩ := h
      exact (next_err A0_0 c0_0 l0_0 a0_1 a0_2 a1 a2 A3 c3 l3 y er w hr0_0 hc0_0 hr3 hc3 hck hsy hz).mono fun e w' ⟨h1, h2⟩ => ⟨_, _, h1, Kd.R_nil _ _ _ _ _, Kd.R_nil _ _ _ _ _, h2⟩
  · rw [if_neg he] at h
    simp only [Option.some.injEq, Prod.mk.injEq] at h
    obtain ⟨rfl, rfl, rfl, rfl, rfl⟩ := h
    exact (next_bad A0_0 c0_0 l0_0 a0_1 a0_2 a1 a2 A3 c3 l3 e w hr0_0 hc0_0 hck he).mono fun e w' ⟨h1, h2⟩ => ⟨_, _, h1, Kd.R_nil _ _ _ _ _, Kd.R_nil _ _ _ _ _, h2⟩

end Go.Proofs.Ytpoppdaaodmicaa.Q
