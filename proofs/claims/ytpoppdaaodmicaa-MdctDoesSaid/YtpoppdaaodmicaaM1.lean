-- mdct.made (function 101): a circle of cosines in new memory: the contract by hand.
import Derived.Test.YtpoppdaaodmicaaT3
import Derived.Lib.Hide
import Derived.LoopTactic
import Derived.Outline
namespace Go.Proofs.Ytpoppdaaodmicaa.Q
open Go.RowKit Go.Proofs.YtpoppdaaodmicaaW.PrintWords Go.Proofs.YtpoppdaaodmicaaW.PrintLast Go.Proofs.YtpoppdaaodmicaaW.PrintMore
set_option linter.unusedVariables false
set_option linter.unusedSimpArgs false

theorem zero113 : Try.zeroCells113 = Array.replicate 2048 (.int .i64 0) := by kernel_rfl
/-- A circle's block, its first k places told; all places may be read and written. -/
structure Circle (base B k : Nat) (w0 W : World) : Prop where
  cells : ∀ j : Nat, j < k → W.cell? ⟨B, j, none⟩ = some (.int .i64 (Tab.C j))
  some_ : ∀ j : Nat, j < 2048 → (W.cell? ⟨B, j, none⟩).isSome = true
  fz : ∀ j : Nat, j < 2048 → W.frozen? ⟨B, j, none⟩ = false
  le : base ≤ B
  lt : B < W.heap.size
  bel : Below base w0 W
theorem Circle.start (w : World) : Circle w.heap.size w.heap.size 0 w (w.alloc (.cells Try.zeroCells113 113)) := by
  have hb : (w.alloc (.cells Try.zeroCells113 113)).heap[w.heap.size]? = some (.cells Try.zeroCells113 113 (0, 0)) := heap_alloc_new w _
  refine ⟨fun j hj => by omega, fun j hj => ?_, fun j hj => ?_, Nat.le_refl _, by simp, (Below.refl _ _).alloc (Nat.le_refl _) _⟩
  · have : (w.alloc (.cells Try.zeroCells113 113)).cell? ⟨w.heap.size, j, none⟩ = Try.zeroCells113[j]? := by
      simp only [World.cell?]
      rw [hb]
      simp
    rw [this, zero113]
    simp [hj]
  · simp only [World.frozen?]
    rw [hb]
    simp
theorem Circle.below {base B k : Nat} {w0 W W' : World} (h : Circle base B k w0 W) (hb : Below W.heap.size W W') : Circle base B k w0 W' where
  cells := fun j hj => pw_cell_below hb (h.cells j hj)
  some_ := fun j hj => by
    rw [hb.cell (p := ⟨B, j, none⟩) h.lt]
    exact h.some_ j hj
  fz := fun j hj => by
    rw [hb.frozen (p := ⟨B, j, none⟩) h.lt]
    exact h.fz j hj
  le := h.le
  lt := Nat.lt_of_lt_of_le h.lt hb.size
  bel := below_then h.bel (Nat.le_trans h.le (Nat.le_of_lt h.lt)) hb
theorem Circle.put {base B k : Nat} {w0 W : World} (h : Circle base B k w0 W) (hk : k < 2048) : Circle base B (k + 1) w0 (W.setCell ⟨B, k, none⟩ (.int .i64 (Tab.C k))) where
  cells := fun j hj => by
    by_cases e : j = k
    · subst e
      exact World.cell?_setCell_same' _ _ _ (h.some_ j hk)
    · rw [World.cell?_setCell_other _ _ _ _ (by intro e'; injection e' with _ e'; exact e e'.symm)]
      exact h.cells j (by omega)
  some_ := fun j hj => by
    by_cases e : j = k
    · subst e
      rw [World.cell?_setCell_same' _ _ _ (h.some_ j hk)]; rfl
    · rw [World.cell?_setCell_other _ _ _ _ (by intro e'; injection e' with _ e'; exact e e'.symm)]
      exact h.some_ j hj
  fz := fun j hj => by rw [World.frozen?_setCell]; exact h.fz j hj
  le := h.le
  lt := by simpa [World.setCell] using h.lt
  bel := h.bel.setCell h.le _

set_option maxHeartbeats 1000000 in
set_option maxRecDepth 100000 in
theorem made.calls (w : World) :
    Calls Try.prog 101 #[] w fun e w' => ∃ b, e = .returned (.pointer (some ⟨b, 0, none⟩)) ∧ Circle w.heap.size b 2048 w w' := by
  have hc := Lib.hid (Circle.start w)
  obtain ⟨B, hB⟩ : ∃ B, w.heap.size = B := ⟨_, rfl⟩
  rw [hB] at hc
  have HB := Lib.hid hB
  clear hB
  go_enter Try.func101, Try.ntmps101
  go_wp2_with fail
  rw [HB.out]
  go_loopw [2, 3] (fun v2 v3 wr => ∃ (i : Nat), i ≤ 2048 ∧ v3 = .int .i64 (i : Int) ∧ Hid (Circle B B i w wr)) (fun _ v3 _ => (2048 - intOf v3).toNat)
  case atStart => exact ⟨0, by omega, rfl, hc⟩
  case round =>
    obtain ⟨i, hi, rfl, H1⟩ := hrel
    by_cases hlt : i < 2048
    · go_wp2_with fail
      refine (trig_Cos.calls 1 (i : Int) (Tab.C i) _ (cos_is _ (Nat.le_refl _))).mono ?_
      rintro e w1 ⟨rfl, hb⟩
      have h1 := H1.out.below hb
      obtain ⟨v0, c1⟩ := Option.isSome_iff_exists.mp (h1.some_ i hlt)
      have c2 := h1.fz i hlt
      have h2 := Lib.hid (h1.put hlt)
      clear hb h1
      go_wp2_with fail
      go_roundw
      case rel => exact ⟨i + 1, by omega, by go_num, h2⟩
      case measure => simp [intOf]; omega
    · obtain rfl : i = 2048 := by omega
      go_wp2_with fail
      go_ret
      exact ⟨B, rfl, by rw [HB.out]; exact H1.out⟩

end Go.Proofs.Ytpoppdaaodmicaa.Q
