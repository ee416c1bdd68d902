-- mdct.Inverse (46): the contract by hand.
import Derived.Test.YtpoppdaaodmicaaM3
import Derived.Test.YtpoppdaaodmicaaM4
namespace Go.Proofs.Ytpoppdaaodmicaa.Q
open Go.RowKit Go.Proofs.YtpoppdaaodmicaaW.PrintWords Go.Proofs.YtpoppdaaodmicaaW.PrintLast Go.Proofs.YtpoppdaaodmicaaW.PrintMore
set_option linter.unusedVariables false
set_option linter.unusedSimpArgs false

/-- What lines come back to, m of them, the arc's least part s. -/
def backW (m : Nat) (s : Int) (bits : Int) (x : List Int) : List Int := (List.range (2 * m)).map fun (n : Nat) => rndV (dotW (2 * ((2 * (n : Int) + 1 + (m : Int)) * s)) x ((2 * (n : Int) + 1 + (m : Int)) * s) 0) bits
def mdct_Inverse.f (l0 : List Int) : Option (List Int × Int) :=
  if l0.length = 256 then (if l0.any (oddB 268435455) = true then some ([], 2) else some (backW 256 1 26 l0, 0))
  else if l0.length = 32 then (if l0.any (oddB 268435455) = true then some ([], 2) else some (backW 32 8 23 l0, 0))
  else some ([], 4)

set_option maxHeartbeats 1000000 in
theorem inverse_many (A0 : Option Addr) (c0 : Nat) (l0 : List Int) (w : World) (h1 : ((l0.length : Int) == 256) = false) (h2 : ((l0.length : Int) == 32) = false) (hl : l0.length ≤ 9223372036854775807) :
    Calls Try.prog 46 #[.slice A0 l0.length c0] w fun e w' => e = .returned (.tuple #[.slice none 0 0, .int .i64 4]) ∧ Below w.heap.size w w' := by
  have HB := Lib.hid ((Below.refl w.heap.size w).alloc (Nat.le_refl _) (.cells #[.int .i64 (l0.length : Int)] 3))
  have h1' : ((l0.length : Int) != 256) = true := by rw [bne, h1]; rfl
  have h2' : ((l0.length : Int) != 32) = true := by rw [bne, h2]; rfl
  go_enter Try.func46, Try.ntmps46
  go_wp2_with fail
  go_ret2
  exact ⟨rfl, HB.out⟩

set_option maxHeartbeats 1000000 in
theorem inverse_odd256 (A0 : Option Addr) (c0 : Nat) (l0 : List Int) (w : World) (hn : l0.length = 256) (hr : Kd.C (Kd.int .i64) w A0 l0.length l0) (ho : l0.any (oddB 268435455) = true) :
    Calls Try.prog 46 #[.slice A0 l0.length c0] w fun e w' => e = .returned (.tuple #[.slice none 0 0, .int .i64 2]) ∧ Below w.heap.size w w' := by
  have hb := (Below.refl w.heap.size w).alloc (Nat.le_refl _) (.cells #[.int .i64 256] 3)
  have HO := odd.calls 268435455 (by omega) (by omega) A0 c0 l0 (w.alloc (.cells #[.int .i64 256] 3)) (by omega) (Kd.C_below hr hb)
  rw [ho, hn] at HO
  rw [hn]
  replace HO := Lib.hid HO
  have HB := Lib.hid hb
  clear hr ho hn hb
  go_enter Try.func46, Try.ntmps46
  go_wp2_with fail
  refine HO.out.mono ?_
  rintro e w' ⟨rfl, hb⟩
  have HB2 := Lib.hid (HB.out.trans (hb.mono (by simp)))
  clear hb
  go_wp2_with fail
  go_ret2
  exact ⟨rfl, HB2.out⟩
set_option maxHeartbeats 1000000 in
theorem inverse_do256 (A0 : Option Addr) (c0 : Nat) (l0 : List Int) (w : World) (hn : l0.length = 256) (hr : Kd.C (Kd.int .i64) w A0 l0.length l0) (hc : l0.length ≤ c0) (ho : l0.any (oddB 268435455) = false) :
    Calls Try.prog 46 #[.slice A0 l0.length c0] w fun e w' => ∃ v, e = .returned (.tuple #[v, .int .i64 0]) ∧ Kd.R (Kd.int .i64) 3 w' w.heap.size (fun _ => True) v (backW 256 1 26 l0) ∧ Below w.heap.size w w' := by
  have hb := (Below.refl w.heap.size w).alloc (Nat.le_refl _) (.cells #[.int .i64 256] 3)
  have HO := odd.calls 268435455 (by omega) (by omega) A0 c0 l0 (w.alloc (.cells #[.int .i64 256] 3)) (by omega) (Kd.C_below hr hb)
  have HS := fun (W : World) (hW : Below (w.heap.size + 1) (w.alloc (.cells #[.int .i64 256] 3)) W) => sums81.calls (fun n => (2 * (n : Int) + 1 + (256 : Nat)) * 1) (fun n => 2 * ((2 * (n : Int) + 1 + (256 : Nat)) * 1)) 512 26 (by omega) (by omega) (by omega) w.heap.size A0 c0 l0 W (by omega)
    (Kd.C_below (Kd.C_below hr hb) (by simpa using hW)) hc (fun W' i hi hW' => arcs81_256 i (by omega) w.heap.size W' (by
      have c1 : (w.alloc (.cells #[.int .i64 256] 3)).cell? ⟨w.heap.size, 0, none⟩ = some (.int .i64 256) := by simp
      have c2 := pw_cell_below (w1 := W) (by simpa using hW) c1
      exact pw_cell_below hW' c2))
  change ∀ (W : World) (hW : Below (w.heap.size + 1) (w.alloc (.cells #[.int .i64 256] 3)) W), Calls Try.prog 71 #[.slice A0 l0.length c0, .int .i64 512, .int .i64 26, .func (.func 81) #[] #[.pointer (some ⟨w.heap.size, 0, none⟩)]] W (fun e w' => ∃ v, e = .returned v ∧ Kd.R (Kd.int .i64) 3 w' W.heap.size (fun _ => True) v (backW 256 1 26 l0) ∧ Below W.heap.size W w') at HS
  have hload := fun (W : World) (hW : Below (w.heap.size + 1) (w.alloc (.cells #[.int .i64 256] 3)) W) => hW.cell (p := ⟨w.heap.size, 0, none⟩) (by simp)
  rw [ho, hn] at HO
  rw [hn] at HS
  rw [hn]
  obtain ⟨L, hL⟩ : ∃ L, backW 256 1 26 l0 = L := ⟨_, rfl⟩
  rw [hL] at HS ⊢
  replace HO := Lib.hid HO
  replace HS := Lib.hid HS
  have HB := Lib.hid hb
  have HLD := Lib.hid hload
  clear hr ho hn hb hL hload hc
  go_enter Try.func46, Try.ntmps46
  go_wp2_with fail
  refine HO.out.mono ?_
  rintro e w' ⟨rfl, hb⟩
  have hc1 : w'.cell? ⟨w.heap.size, 0, none⟩ = some (.int .i64 256) := (HLD.out w' (by simpa using hb)).trans (by simp)
  have HC := Lib.hid (HS.out w' (by simpa using hb))
  have HB2 := Lib.hid (HB.out.trans (hb.mono (by simp)))
  clear hb HS HLD HO
  go_wp2_with fail
  refine HC.out.mono ?_
  rintro e w2 ⟨v, rfl, hv1, hv2⟩
  have HV := Lib.hid (Kd.R_lower hv1 HB2.out.size)
  have HB3 := Lib.hid (below_then HB2.out HB2.out.size hv2)
  clear hv1 hv2
  go_wp2_with fail
  go_ret2
  exact ⟨v, rfl, HV.out, HB3.out⟩

set_option maxHeartbeats 1000000 in
theorem inverse_odd32 (A0 : Option Addr) (c0 : Nat) (l0 : List Int) (w : World) (hn : l0.length = 32) (hr : Kd.C (Kd.int .i64) w A0 l0.length l0) (ho : l0.any (oddB 268435455) = true) :
    Calls Try.prog 46 #[.slice A0 l0.length c0] w fun e w' => e = .returned (.tuple #[.slice none 0 0, .int .i64 2]) ∧ Below w.heap.size w w' := by
  have hb := (Below.refl w.heap.size w).alloc (Nat.le_refl _) (.cells #[.int .i64 32] 3)
  have HO := odd.calls 268435455 (by omega) (by omega) A0 c0 l0 (w.alloc (.cells #[.int .i64 32] 3)) (by omega) (Kd.C_below hr hb)
  rw [ho, hn] at HO
  rw [hn]
  replace HO := Lib.hid HO
  have HB := Lib.hid hb
  clear hr ho hn hb
  go_enter Try.func46, Try.ntmps46
  go_wp2_with fail
  refine HO.out.mono ?_
  rintro e w' ⟨rfl, hb⟩
  have HB2 := Lib.hid (HB.out.trans (hb.mono (by simp)))
  clear hb
  go_wp2_with fail
  go_ret2
  exact ⟨rfl, HB2.out⟩
set_option maxHeartbeats 1000000 in
theorem inverse_do32 (A0 : Option Addr) (c0 : Nat) (l0 : List Int) (w : World) (hn : l0.length = 32) (hr : Kd.C (Kd.int .i64) w A0 l0.length l0) (hc : l0.length ≤ c0) (ho : l0.any (oddB 268435455) = false) :
    Calls Try.prog 46 #[.slice A0 l0.length c0] w fun e w' => ∃ v, e = .returned (.tuple #[v, .int .i64 0]) ∧ Kd.R (Kd.int .i64) 3 w' w.heap.size (fun _ => True) v (backW 32 8 23 l0) ∧ Below w.heap.size w w' := by
  have hb := (Below.refl w.heap.size w).alloc (Nat.le_refl _) (.cells #[.int .i64 32] 3)
  have HO := odd.calls 268435455 (by omega) (by omega) A0 c0 l0 (w.alloc (.cells #[.int .i64 32] 3)) (by omega) (Kd.C_below hr hb)
  have HS := fun (W : World) (hW : Below (w.heap.size + 1) (w.alloc (.cells #[.int .i64 32] 3)) W) => sums81.calls (fun n => (2 * (n : Int) + 1 + (32 : Nat)) * 8) (fun n => 2 * ((2 * (n : Int) + 1 + (32 : Nat)) * 8)) 64 23 (by omega) (by omega) (by omega) w.heap.size A0 c0 l0 W (by omega)
    (Kd.C_below (Kd.C_below hr hb) (by simpa using hW)) hc (fun W' i hi hW' => arcs81_32 i (by omega) w.heap.size W' (by
      have c1 : (w.alloc (.cells #[.int .i64 32] 3)).cell? ⟨w.heap.size, 0, none⟩ = some (.int .i64 32) := by simp
      have c2 := pw_cell_below (w1 := W) (by simpa using hW) c1
      exact pw_cell_below hW' c2))
  change ∀ (W : World) (hW : Below (w.heap.size + 1) (w.alloc (.cells #[.int .i64 32] 3)) W), Calls Try.prog 71 #[.slice A0 l0.length c0, .int .i64 64, .int .i64 23, .func (.func 81) #[] #[.pointer (some ⟨w.heap.size, 0, none⟩)]] W (fun e w' => ∃ v, e = .returned v ∧ Kd.R (Kd.int .i64) 3 w' W.heap.size (fun _ => True) v (backW 32 8 23 l0) ∧ Below W.heap.size W w') at HS
  have hload := fun (W : World) (hW : Below (w.heap.size + 1) (w.alloc (.cells #[.int .i64 32] 3)) W) => hW.cell (p := ⟨w.heap.size, 0, none⟩) (by simp)
  rw [ho, hn] at HO
  rw [hn] at HS
  rw [hn]
  obtain ⟨L, hL⟩ : ∃ L, backW 32 8 23 l0 = L := ⟨_, rfl⟩
  rw [hL] at HS ⊢
  replace HO := Lib.hid HO
  replace HS := Lib.hid HS
  have HB := Lib.hid hb
  have HLD := Lib.hid hload
  clear hr ho hn hb hL hload hc
  go_enter Try.func46, Try.ntmps46
  go_wp2_with fail
  refine HO.out.mono ?_
  rintro e w' ⟨rfl, hb⟩
  have hc1 : w'.cell? ⟨w.heap.size, 0, none⟩ = some (.int .i64 32) := (HLD.out w' (by simpa using hb)).trans (by simp)
  have HC := Lib.hid (HS.out w' (by simpa using hb))
  have HB2 := Lib.hid (HB.out.trans (hb.mono (by simp)))
  clear hb HS HLD HO
  go_wp2_with fail
  refine HC.out.mono ?_
  rintro e w2 ⟨v, rfl, hv1, hv2⟩
  have HV := Lib.hid (Kd.R_lower hv1 HB2.out.size)
  have HB3 := Lib.hid (below_then HB2.out HB2.out.size hv2)
  clear hv1 hv2
  go_wp2_with fail
  go_ret2
  exact ⟨v, rfl, HV.out, HB3.out⟩

theorem mdct_Inverse.calls (A0 : Option Addr) (c0 : Nat) (l0 : List Int) (r1 : List Int) (r2 : Int) (w : World) (hr0 : Kd.C (Kd.int .i64) w A0 l0.length l0) (hc0 : l0.length ≤ c0) (h : mdct_Inverse.f l0 = some (r1, r2)) :
    Calls Try.prog 46 #[.slice A0 l0.length c0] w fun e w' => ∃ v0_ : Value, e = .returned (.tuple #[v0_, .int .i64 r2]) ∧ Kd.R (Kd.int .i64) 3 w' w.heap.size (fun _ => True) v0_ r1 ∧ Below w.heap.size w w' := by
  have nil : ∀ w' : World, Kd.R (Kd.int .i64) 3 w' w.heap.size (fun _ => True) (.slice none 0 0) [] := fun w' => Kd.R_nil _ _ _ _ _
  have hlen : l0.length ≤ 9223372036854775807 := Kd.C_max hr0
  unfold mdct_Inverse.f at h
  split at h
  · rename_i hn
    split at h
    · rename_i ho
      simp only [Option.some.injEq, Prod.mk.injEq] at h
      obtain ⟨rfl, rfl⟩ := h
      exact (inverse_odd256 A0 c0 l0 w hn hr0 ho).mono fun e w' ⟨h1, h2⟩ => ⟨_, h1, nil w', h2⟩
    · rename_i ho
      simp only [Option.some.injEq, Prod.mk.injEq] at h
      obtain ⟨rfl, rfl⟩ := h
      exact inverse_do256 A0 c0 l0 w hn hr0 hc0 (Bool.eq_false_iff.mpr ho)
  · rename_i hn
    split at h
    · rename_i hn2
      split at h
      · rename_i ho
        simp only [Option.some.injEq, Prod.mk.injEq] at h
        obtain ⟨rfl, rfl⟩ := h
        exact (inverse_odd32 A0 c0 l0 w hn2 hr0 ho).mono fun e w' ⟨h1, h2⟩ => ⟨_, h1, nil w', h2⟩
      · rename_i ho
        simp only [Option.some.injEq, Prod.mk.injEq] at h
        obtain ⟨rfl, rfl⟩ := h
        exact inverse_do32 A0 c0 l0 w hn2 hr0 hc0 (Bool.eq_false_iff.mpr ho)
    · rename_i hn2
      simp only [Option.some.injEq, Prod.mk.injEq] at h
      obtain ⟨rfl, rfl⟩ := h
      exact (inverse_many A0 c0 l0 w (beq_eq_false_iff_ne.mpr (by omega)) (beq_eq_false_iff_ne.mpr (by omega)) hlen).mono fun e w' ⟨h1, h2⟩ => ⟨_, h1, nil w', h2⟩

end Go.Proofs.Ytpoppdaaodmicaa.Q
