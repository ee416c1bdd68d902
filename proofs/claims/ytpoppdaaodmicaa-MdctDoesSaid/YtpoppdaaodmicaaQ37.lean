-- mdct.Forward (37): the contract by hand.
import Derived.Test.YtpoppdaaodmicaaM3
import Derived.Test.YtpoppdaaodmicaaM4
namespace Go.Proofs.Ytpoppdaaodmicaa.Q
open Go.RowKit Go.Proofs.YtpoppdaaodmicaaW.PrintWords Go.Proofs.YtpoppdaaodmicaaW.PrintLast Go.Proofs.YtpoppdaaodmicaaW.PrintMore
set_option linter.unusedVariables false
set_option linter.unusedSimpArgs false

/-- The lines of a window's samples, m of them, the arc's least part s. -/
def linesW (m : Nat) (s : Int) (z : List Int) : List Int := (List.range m).map fun (k : Nat) => rndV (dotW (2 * ((2 * (k : Int) + 1) * s)) z ((1 + (m : Int)) * ((2 * (k : Int) + 1) * s)) 0) 33
def mdct_Forward.f (l0 : List Int) : Option (List Int × Int) :=
  if l0.length = 512 then (if l0.any (oddB 8388608) = true then some ([], 2) else some (linesW 256 1 l0, 0))
  else if l0.length = 64 then (if l0.any (oddB 8388608) = true then some ([], 2) else some (linesW 32 8 l0, 0))
  else some ([], 4)

set_option maxHeartbeats 1000000 in
theorem forward_many (A0 : Option Addr) (c0 : Nat) (l0 : List Int) (w : World) (h1 : ((l0.length : Int) == 512) = false) (h2 : ((l0.length : Int) == 64) = false) (hl : l0.length ≤ 9223372036854775807) :
    Calls Try.prog 37 #[.slice A0 l0.length c0] w fun e w' => e = .returned (.tuple #[.slice none 0 0, .int .i64 4]) ∧ Below w.heap.size w w' := by
  have HB := Lib.hid ((Below.refl w.heap.size w).alloc (Nat.le_refl _) (.cells #[.int .i64 ((l0.length : Int) / 2)] 3))
  have h1' : ((l0.length : Int) != 512) = true := by rw [bne, h1]; rfl
  have h2' : ((l0.length : Int) != 64) = true := by rw [bne, h2]; rfl
  go_enter Try.func37, Try.ntmps37
  go_wp2_with fail
  go_ret2
  exact ⟨rfl, HB.out⟩

set_option maxHeartbeats 1000000 in
theorem forward_odd512 (A0 : Option Addr) (c0 : Nat) (l0 : List Int) (w : World) (hn : l0.length = 512) (hr : Kd.C (Kd.int .i64) w A0 l0.length l0) (ho : l0.any (oddB 8388608) = true) :
    Calls Try.prog 37 #[.slice A0 l0.length c0] w fun e w' => e = .returned (.tuple #[.slice none 0 0, .int .i64 2]) ∧ Below w.heap.size w w' := by
  have hb := (Below.refl w.heap.size w).alloc (Nat.le_refl _) (.cells #[.int .i64 256] 3)
  have HO := odd.calls 8388608 (by omega) (by omega) A0 c0 l0 (w.alloc (.cells #[.int .i64 256] 3)) (by omega) (Kd.C_below hr hb)
  rw [ho, hn] at HO
  rw [hn]
  replace HO := Lib.hid HO
  have HB := Lib.hid hb
  clear hr ho hn hb
  go_enter Try.func37, Try.ntmps37
  go_wp2_with fail
  refine HO.out.mono ?_
  rintro e w' ⟨rfl, hb⟩
  have HB2 := Lib.hid (HB.out.trans (hb.mono (by simp)))
  clear hb
  go_wp2_with fail
  go_ret2
  exact ⟨rfl, HB2.out⟩
set_option maxHeartbeats 1000000 in
theorem forward_do512 (A0 : Option Addr) (c0 : Nat) (l0 : List Int) (w : World) (hn : l0.length = 512) (hr : Kd.C (Kd.int .i64) w A0 l0.length l0) (hc : l0.length ≤ c0) (ho : l0.any (oddB 8388608) = false) :
    Calls Try.prog 37 #[.slice A0 l0.length c0] w fun e w' => ∃ v, e = .returned (.tuple #[v, .int .i64 0]) ∧ Kd.R (Kd.int .i64) 3 w' w.heap.size (fun _ => True) v (linesW 256 1 l0) ∧ Below w.heap.size w w' := by
  have hb := (Below.refl w.heap.size w).alloc (Nat.le_refl _) (.cells #[.int .i64 256] 3)
  have HO := odd.calls 8388608 (by omega) (by omega) A0 c0 l0 (w.alloc (.cells #[.int .i64 256] 3)) (by omega) (Kd.C_below hr hb)
  have HS := fun (W : World) (hW : Below (w.heap.size + 1) (w.alloc (.cells #[.int .i64 256] 3)) W) => sums72.calls (fun k => (1 + (256 : Nat)) * ((2 * (k : Int) + 1) * 1)) (fun k => 2 * ((2 * (k : Int) + 1) * 1)) 256 33 (by omega) (by omega) (by omega) w.heap.size A0 c0 l0 W (by omega)
    (Kd.C_below (Kd.C_below hr hb) (by simpa using hW)) hc (fun W' i hi hW' => arcs72_256 i (by omega) w.heap.size W' (by
      have c1 : (w.alloc (.cells #[.int .i64 256] 3)).cell? ⟨w.heap.size, 0, none⟩ = some (.int .i64 256) := by simp
      have c2 := pw_cell_below (w1 := W) (by simpa using hW) c1
      exact pw_cell_below hW' c2))
  change ∀ (W : World) (hW : Below (w.heap.size + 1) (w.alloc (.cells #[.int .i64 256] 3)) W), Calls Try.prog 71 #[.slice A0 l0.length c0, .int .i64 256, .int .i64 33, .func (.func 72) #[] #[.pointer (some ⟨w.heap.size, 0, none⟩)]] W (fun e w' => ∃ v, e = .returned v ∧ Kd.R (Kd.int .i64) 3 w' W.heap.size (fun _ => True) v (linesW 256 1 l0) ∧ Below W.heap.size W w') at HS
  have hload := fun (W : World) (hW : Below (w.heap.size + 1) (w.alloc (.cells #[.int .i64 256] 3)) W) => hW.cell (p := ⟨w.heap.size, 0, none⟩) (by simp)
  rw [ho, hn] at HO
  rw [hn] at HS
  rw [hn]
  obtain ⟨L, hL⟩ : ∃ L, linesW 256 1 l0 = L := ⟨_, rfl⟩
  rw [hL] at HS ⊢
  replace HO := Lib.hid HO
  replace HS := Lib.hid HS
  have HB := Lib.hid hb
  have HLD := Lib.hid hload
  clear hr ho hn hb hL hload hc
  go_enter Try.func37, Try.ntmps37
  go_wp2_with fail
  refine HO.out.mono ?_
  rintro e w' ⟨rfl, hb⟩
  have hc1 : w'.cell? ⟨w.heap.size, 0, none⟩ = some (.int .i64 256) := (HLD.out w' (by simpa using hb)).trans (by simp)
  have HC := Lib.hid (HS.out w' (by simpa using hb))
  have HB2 := Lib.hid (HB.out.trans (hb.mono (by simp)))
  clear hb HS HLD HO
  go_wp2_with fail
  refine HC.out.mono ?_
  rintro e w2 ⟨v, rfl, hv1, hv2⟩
  have HV := Lib.hid (Kd.R_lower hv1 HB2.out.size)
  have HB3 := Lib.hid (below_then HB2.out HB2.out.size hv2)
  clear hv1 hv2
  go_wp2_with fail
  go_ret2
  exact ⟨v, rfl, HV.out, HB3.out⟩

set_option maxHeartbeats 1000000 in
theorem forward_odd64 (A0 : Option Addr) (c0 : Nat) (l0 : List Int) (w : World) (hn : l0.length = 64) (hr : Kd.C (Kd.int .i64) w A0 l0.length l0) (ho : l0.any (oddB 8388608) = true) :
    Calls Try.prog 37 #[.slice A0 l0.length c0] w fun e w' => e = .returned (.tuple #[.slice none 0 0, .int .i64 2]) ∧ Below w.heap.size w w' := by
  have hb := (Below.refl w.heap.size w).alloc (Nat.le_refl _) (.cells #[.int .i64 32] 3)
  have HO := odd.calls 8388608 (by omega) (by omega) A0 c0 l0 (w.alloc (.cells #[.int .i64 32] 3)) (by omega) (Kd.C_below hr hb)
  rw [ho, hn] at HO
  rw [hn]
  replace HO := Lib.hid HO
  have HB := Lib.hid hb
  clear hr ho hn hb
  go_enter Try.func37, Try.ntmps37
  go_wp2_with fail
  refine HO.out.mono ?_
  rintro e w' ⟨rfl, hb⟩
  have HB2 := Lib.hid (HB.out.trans (hb.mono (by simp)))
  clear hb
  go_wp2_with fail
  go_ret2
  exact ⟨rfl, HB2.out⟩
set_option maxHeartbeats 1000000 in
theorem forward_do64 (A0 : Option Addr) (c0 : Nat) (l0 : List Int) (w : World) (hn : l0.length = 64) (hr : Kd.C (Kd.int .i64) w A0 l0.length l0) (hc : l0.length ≤ c0) (ho : l0.any (oddB 8388608) = false) :
    Calls Try.prog 37 #[.slice A0 l0.length c0] w fun e w' => ∃ v, e = .returned (.tuple #[v, .int .i64 0]) ∧ Kd.R (Kd.int .i64) 3 w' w.heap.size (fun _ => True) v (linesW 32 8 l0) ∧ Below w.heap.size w w' := by
  have hb := (Below.refl w.heap.size w).alloc (Nat.le_refl _) (.cells #[.int .i64 32] 3)
  have HO := odd.calls 8388608 (by omega) (by omega) A0 c0 l0 (w.alloc (.cells #[.int .i64 32] 3)) (by omega) (Kd.C_below hr hb)
  have HS := fun (W : World) (hW : Below (w.heap.size + 1) (w.alloc (.cells #[.int .i64 32] 3)) W) => sums72.calls (fun k => (1 + (32 : Nat)) * ((2 * (k : Int) + 1) * 8)) (fun k => 2 * ((2 * (k : Int) + 1) * 8)) 32 33 (by omega) (by omega) (by omega) w.heap.size A0 c0 l0 W (by omega)
    (Kd.C_below (Kd.C_below hr hb) (by simpa using hW)) hc (fun W' i hi hW' => arcs72_32 i (by omega) w.heap.size W' (by
      have c1 : (w.alloc (.cells #[.int .i64 32] 3)).cell? ⟨w.heap.size, 0, none⟩ = some (.int .i64 32) := by simp
      have c2 := pw_cell_below (w1 := W) (by simpa using hW) c1
      exact pw_cell_below hW' c2))
  change ∀ (W : World) (hW : Below (w.heap.size + 1) (w.alloc (.cells #[.int .i64 32] 3)) W), Calls Try.prog 71 #[.slice A0 l0.length c0, .int .i64 32, .int .i64 33, .func (.func 72) #[] #[.pointer (some ⟨w.heap.size, 0, none⟩)]] W (fun e w' => ∃ v, e = .returned v ∧ Kd.R (Kd.int .i64) 3 w' W.heap.size (fun _ => True) v (linesW 32 8 l0) ∧ Below W.heap.size W w') at HS
  have hload := fun (W : World) (hW : Below (w.heap.size + 1) (w.alloc (.cells #[.int .i64 32] 3)) W) => hW.cell (p := ⟨w.heap.size, 0, none⟩) (by simp)
  rw [ho, hn] at HO
  rw [hn] at HS
  rw [hn]
  obtain ⟨L, hL⟩ : ∃ L, linesW 32 8 l0 = L := ⟨_, rfl⟩
  rw [hL] at HS ⊢
  replace HO := Lib.hid HO
  replace HS := Lib.hid HS
  have HB := Lib.hid hb
  have HLD := Lib.hid hload
  clear hr ho hn hb hL hload hc
  go_enter Try.func37, Try.ntmps37
  go_wp2_with fail
  refine HO.out.mono ?_
  rintro e w' ⟨rfl, hb⟩
  have hc1 : w'.cell? ⟨w.heap.size, 0, none⟩ = some (.int .i64 32) := (HLD.out w' (by simpa using hb)).trans (by simp)
  have HC := Lib.hid (HS.out w' (by simpa using hb))
  have HB2 := Lib.hid (HB.out.trans (hb.mono (by simp)))
  clear hb HS HLD HO
  go_wp2_with fail
  refine HC.out.mono ?_
  rintro e w2 ⟨v, rfl, hv1, hv2⟩
  have HV := Lib.hid (Kd.R_lower hv1 HB2.out.size)
  have HB3 := Lib.hid (below_then HB2.out HB2.out.size hv2)
  clear hv1 hv2
  go_wp2_with fail
  go_ret2
  exact ⟨v, rfl, HV.out, HB3.out⟩

theorem mdct_Forward.calls (A0 : Option Addr) (c0 : Nat) (l0 : List Int) (r1 : List Int) (r2 : Int) (w : World) (hr0 : Kd.C (Kd.int .i64) w A0 l0.length l0) (hc0 : l0.length ≤ c0) (h : mdct_Forward.f l0 = some (r1, r2)) :
    Calls Try.prog 37 #[.slice A0 l0.length c0] w fun e w' => ∃ v0_ : Value, e = .returned (.tuple #[v0_, .int .i64 r2]) ∧ Kd.R (Kd.int .i64) 3 w' w.heap.size (fun _ => True) v0_ r1 ∧ Below w.heap.size w w' := by
  have nil : ∀ w' : World, Kd.R (Kd.int .i64) 3 w' w.heap.size (fun _ => True) (.slice none 0 0) [] := fun w' => Kd.R_nil _ _ _ _ _
  have hlen : l0.length ≤ 9223372036854775807 := Kd.C_max hr0
  unfold mdct_Forward.f at h
  split at h
  · rename_i hn
    split at h
    · rename_i ho
      simp only [Option.some.injEq, Prod.mk.injEq] at h
      obtain ⟨rfl, rfl⟩ := h
      exact (forward_odd512 A0 c0 l0 w hn hr0 ho).mono fun e w' ⟨h1, h2⟩ => ⟨_, h1, nil w', h2⟩
    · rename_i ho
      simp only [Option.some.injEq, Prod.mk.injEq] at h
      obtain ⟨rfl, rfl⟩ := h
      exact forward_do512 A0 c0 l0 w hn hr0 hc0 (Bool.eq_false_iff.mpr ho)
  · rename_i hn
    split at h
    · rename_i hn2
      split at h
      · rename_i ho
        simp only [Option.some.injEq, Prod.mk.injEq] at h
        obtain ⟨rfl, rfl⟩ := h
        exact (forward_odd64 A0 c0 l0 w hn2 hr0 ho).mono fun e w' ⟨h1, h2⟩ => ⟨_, h1, nil w', h2⟩
      · rename_i ho
        simp only [Option.some.injEq, Prod.mk.injEq] at h
        obtain ⟨rfl, rfl⟩ := h
        exact forward_do64 A0 c0 l0 w hn2 hr0 hc0 (Bool.eq_false_iff.mpr ho)
    · rename_i hn2
      simp only [Option.some.injEq, Prod.mk.injEq] at h
      obtain ⟨rfl, rfl⟩ := h
      exact (forward_many A0 c0 l0 w (beq_eq_false_iff_ne.mpr (by omega)) (beq_eq_false_iff_ne.mpr (by omega)) hlen).mono fun e w' ⟨h1, h2⟩ => ⟨_, h1, nil w', h2⟩

end Go.Proofs.Ytpoppdaaodmicaa.Q
