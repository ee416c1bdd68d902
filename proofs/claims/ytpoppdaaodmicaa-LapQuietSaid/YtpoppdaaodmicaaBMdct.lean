-- Several functions' contracts in one text.
import Derived.Test.YtpoppdaaodmicaaT3
import Derived.Lib.Hide
import Derived.LoopTactic
import Derived.Outline
import Derived.Test.YtpoppdaaodmicaaBWindow
import Derived.Deep.QuietTactic
import Derived.BigQuiet
import Derived.Test.YtpoppdaaodmicaaQ0
/- mdct.made (function 101): a circle of cosines in new memory: the contract by hand. -/
namespace Go.Proofs.Ytpoppdaaodmicaa.Q
open Go.RowKit Go.Proofs.YtpoppdaaodmicaaW.PrintWords Go.Proofs.YtpoppdaaodmicaaW.PrintLast Go.Proofs.YtpoppdaaodmicaaW.PrintMore
set_option linter.unusedVariables false
set_option linter.unusedSimpArgs false

theorem zero113 : Try.zeroCells113 = Array.replicate 2048 (.int .i64 0) := by kernel_rfl
/-- A circle's block, its first k places told; all places may be read and written. -/
structure Circle (base B k : Nat) (w0 W : World) : Prop where
  cells : ∀ j : Nat, j < k → W.cell? ⟨B, j, none⟩ = some (.int .i64 (Tab.C j))
  some_ : ∀ j : Nat, j < 2048 → (W.cell? ⟨B, j, none⟩).isSome = true
  fz : ∀ j : Nat, j < 2048 → W.frozen? ⟨B, j, none⟩ = false
  le : base ≤ B
  lt : B < W.heap.size
  bel : Below base w0 W
theorem Circle.start (w : World) : Circle w.heap.size w.heap.size 0 w (w.alloc (.cells Try.zeroCells113 113)) := by
  have hb : (w.alloc (.cells Try.zeroCells113 113)).heap[w.heap.size]? = some (.cells Try.zeroCells113 113 (0, 0)) := heap_alloc_new w _
  refine ⟨fun j hj => by omega, fun j hj => ?_, fun j hj => ?_, Nat.le_refl _, by simp, (Below.refl _ _).alloc (Nat.le_refl _) _⟩
  · have : (w.alloc (.cells Try.zeroCells113 113)).cell? ⟨w.heap.size, j, none⟩ = Try.zeroCells113[j]? := by
      simp only [World.cell?]
      rw [hb]
      simp
    rw [this, zero113]
    simp [hj]
  · simp only [World.frozen?]
    rw [hb]
    simp
theorem Circle.below {base B k : Nat} {w0 W W' : World} (h : Circle base B k w0 W) (hb : Below W.heap.size W W') : Circle base B k w0 W' where
  cells := fun j hj => pw_cell_below hb (h.cells j hj)
  some_ := fun j hj => by
    rw [hb.cell (p := ⟨B, j, none⟩) h.lt]
    exact h.some_ j hj
  fz := fun j hj => by
    rw [hb.frozen (p := ⟨B, j, none⟩) h.lt]
    exact h.fz j hj
  le := h.le
  lt := Nat.lt_of_lt_of_le h.lt hb.size
  bel := below_then h.bel (Nat.le_trans h.le (Nat.le_of_lt h.lt)) hb
theorem Circle.put {base B k : Nat} {w0 W : World} (h : Circle base B k w0 W) (hk : k < 2048) : Circle base B (k + 1) w0 (W.setCell ⟨B, k, none⟩ (.int .i64 (Tab.C k))) where
  cells := fun j hj => by
    by_cases e : j = k
    · subst e
      exact World.cell?_setCell_same' _ _ _ (h.some_ j hk)
    · rw [World.cell?_setCell_other _ _ _ _ (by intro e'; injection e' with _ e'; exact e e'.symm)]
      exact h.cells j (by omega)
  some_ := fun j hj => by
    by_cases e : j = k
    · subst e
      rw [World.cell?_setCell_same' _ _ _ (h.some_ j hk)]; rfl
    · rw [World.cell?_setCell_other _ _ _ _ (by intro e'; injection e' with _ e'; exact e e'.symm)]
      exact h.some_ j hj
  fz := fun j hj => by rw [World.frozen?_setCell]; exact h.fz j hj
  le := h.le
  lt := by simpa [World.setCell] using h.lt
  bel := h.bel.setCell h.le _

set_option maxHeartbeats 1000000 in
set_option maxRecDepth 100000 in
theorem made.calls (w : World) :
    Calls Try.prog 101 #[] w fun e w' => ∃ b, e = .returned (.pointer (some ⟨b, 0, none⟩)) ∧ Circle w.heap.size b 2048 w w' := by
  have hc := Lib.hid (Circle.start w)
  obtain ⟨B, hB⟩ : ∃ B, w.heap.size = B := ⟨_, rfl⟩
  rw [hB] at hc
  have HB := Lib.hid hB
  clear hB
  go_enter Try.func101, Try.ntmps101
  go_wp2_with fail
  rw [HB.out]
  go_loopw [2, 3] (fun v2 v3 wr => ∃ (i : Nat), i ≤ 2048 ∧ v3 = .int .i64 (i : Int) ∧ Hid (Circle B B i w wr)) (fun _ v3 _ => (2048 - intOf v3).toNat)
  case atStart => exact ⟨0, by omega, rfl, hc⟩
  case round =>
    obtain ⟨i, hi, rfl, H1⟩ := hrel
    by_cases hlt : i < 2048
    · go_wp2_with fail
      refine (trig_Cos.calls 1 (i : Int) (Tab.C i) _ (cos_is _ (Nat.le_refl _))).mono ?_
      rintro e w1 ⟨rfl, hb⟩
      have h1 := H1.out.below hb
      obtain ⟨v0, c1⟩ := Option.isSome_iff_exists.mp (h1.some_ i hlt)
      have c2 := h1.fz i hlt
      have h2 := Lib.hid (h1.put hlt)
      clear hb h1
      go_wp2_with fail
      go_roundw
      case rel => exact ⟨i + 1, by omega, by go_num, h2⟩
      case measure => simp [intOf]; omega
    · obtain rfl : i = 2048 := by omega
      go_wp2_with fail
      go_ret
      exact ⟨B, rfl, by rw [HB.out]; exact H1.out⟩

end Go.Proofs.Ytpoppdaaodmicaa.Q

/- mdct.sums' closures (functions 72, 81) and scale (73), where there are 256 lines or 32. -/
namespace Go.Proofs.Ytpoppdaaodmicaa.Q
open Go.RowKit Go.Proofs.YtpoppdaaodmicaaW.PrintWords Go.Proofs.YtpoppdaaodmicaaW.PrintLast Go.Proofs.YtpoppdaaodmicaaW.PrintMore
set_option linter.unusedVariables false
set_option linter.unusedSimpArgs false

theorem ret_pair {a b c d : Int} (h1 : a = c) (h2 : b = d) : Ending.returned (.tuple #[.int .i64 a, .int .i64 b]) = Ending.returned (.tuple #[.int .i64 c, .int .i64 d]) := by rw [h1, h2]
theorem scale_256 (W : World) : Calls Try.prog 73 #[.int .i64 256] W fun e w' => e = .returned (.int .i64 1) ∧ w' = W := by
  go_enter Try.func73, Try.ntmps73
  go_wp2_with fail
  go_ret
  exact ⟨rfl, rfl⟩
theorem scale_32 (W : World) : Calls Try.prog 73 #[.int .i64 32] W fun e w' => e = .returned (.int .i64 8) ∧ w' = W := by
  go_enter Try.func73, Try.ntmps73
  go_wp2_with fail
  go_ret
  exact ⟨rfl, rfl⟩

set_option maxHeartbeats 1000000 in
theorem arcs81_256 (i : Nat) (hi : i < 600) (B0 : Nat) (W : World) (hc : W.cell? ⟨B0, 0, none⟩ = some (.int .i64 256)) :
    Calls Try.prog 81 #[.int .i64 (i : Int), .pointer (some ⟨B0, 0, none⟩)] W fun e w' => e = .returned (.tuple #[.int .i64 ((2 * (i : Int) + 1 + 256) * 1), .int .i64 (2 * ((2 * (i : Int) + 1 + 256) * 1))]) ∧ ∃ nd, w' = W.drewN nd := by
  go_enter Try.func81, Try.ntmps81
  go_wp2_with fail
  go_quiet ((go_at_call 73; exact Calls.quiet_of_same (scale_256 _)))
  go_wp2_with fail
  go_ret2
  exact ⟨ret_pair (by omega) (by omega), _, rfl⟩

set_option maxHeartbeats 1000000 in
theorem arcs81_32 (i : Nat) (hi : i < 600) (B0 : Nat) (W : World) (hc : W.cell? ⟨B0, 0, none⟩ = some (.int .i64 32)) :
    Calls Try.prog 81 #[.int .i64 (i : Int), .pointer (some ⟨B0, 0, none⟩)] W fun e w' => e = .returned (.tuple #[.int .i64 ((2 * (i : Int) + 1 + 32) * 8), .int .i64 (2 * ((2 * (i : Int) + 1 + 32) * 8))]) ∧ ∃ nd, w' = W.drewN nd := by
  go_enter Try.func81, Try.ntmps81
  go_wp2_with fail
  go_quiet ((go_at_call 73; exact Calls.quiet_of_same (scale_32 _)))
  go_wp2_with fail
  go_ret2
  exact ⟨ret_pair (by omega) (by omega), _, rfl⟩

end Go.Proofs.Ytpoppdaaodmicaa.Q

/- mdct.sums (function 71): the contract by hand, over whatever closure tells the arcs. -/
namespace Go.Proofs.Ytpoppdaaodmicaa.Q
open Go.RowKit Go.Proofs.YtpoppdaaodmicaaW.PrintWords Go.Proofs.YtpoppdaaodmicaaW.PrintLast Go.Proofs.YtpoppdaaodmicaaW.PrintMore
set_option linter.unusedVariables false
set_option linter.unusedSimpArgs false

/-- A sum of numbers times cosines, as the program makes it: from an arc on, each by so much. -/
def dotW (by_ : Int) : List Int → Int → Int → Int
  | [], _, s => s
  | x :: r, a, s => dotW by_ r (wrap64 (a + by_)) (wrap64 (s + wrap64 (x * Tab.C a)))
def rndV (s b : Int) : Int := ((fix_Round.f 1 s b).getD (0, 0)).1
theorem round_some (s : Int) {b : Nat} (h1 : 1 ≤ b) (h2 : b ≤ 62) : ∃ v e, fix_Round.f 1 s (b : Int) = some (v, e) ∧ rndV s b = v := by
  have : ∃ p, fix_Round.f 1 s (b : Int) = some p := by
    unfold fix_Round.f
    have h3 : ∀ x, ∃ p, fix_Round.j0 1 s (b : Int) x = some p := by
      intro x
      simp only [fix_Round.j0]
      cases x
      · rw [if_neg (by simp), if_neg (by omega), if_pos (by omega), wrap_in (n := (b : Int) - 1) (by omega) (by omega), if_pos (by omega)]
        exact ⟨_, rfl⟩
      · rw [if_pos rfl]; exact ⟨_, rfl⟩
    split
    · exact h3 _
    · split
      · exact h3 _
      · split <;> exact h3 _
  obtain ⟨⟨v, e⟩, hp⟩ := this
  exact ⟨v, e, hp, by unfold rndV; rw [hp]; rfl⟩

/-- A row of the call's own, of whole numbers, at the head of block G. -/
structure OwnAt (base G : Nat) (xs : List Int) (w0 W : World) : Prop where
  own : W.ownsRow base 3 1 (.slice (some ⟨G, 0, none⟩) xs.length xs.length) xs.length (nums .i64 xs)
  le : base ≤ G
  lt : G < W.heap.size
  bel : Below base w0 W
theorem OwnAt.below {base G : Nat} {xs : List Int} {w0 W W' : World} (h : OwnAt base G xs w0 W) (hb : Below W.heap.size W W') : OwnAt base G xs w0 W' where
  own := pw_own_below h.own hb
  le := h.le
  lt := Nat.lt_of_lt_of_le h.lt hb.size
  bel := below_then h.bel (Nat.le_trans h.le (Nat.le_of_lt h.lt)) hb
theorem OwnAt.drewN {base G : Nat} {xs : List Int} {w0 W : World} (h : OwnAt base G xs w0 W) (n : Nat) : OwnAt base G xs w0 (W.drewN n) := h.below (pw_below_drewN (Below.refl _ _) n)
theorem OwnAt.put {base G : Nat} {xs : List Int} {w0 W : World} (h : OwnAt base G xs w0 W) (i : Nat) (v : Int) : OwnAt base G (xs.set i v) w0 (W.setCell ⟨G, i, none⟩ (.int .i64 v)) where
  own := by
    have := own_put h.own (i : Int) v
    simpa using this
  le := h.le
  lt := by simpa [World.setCell] using h.lt
  bel := h.bel.setCell h.le _
theorem OwnAt.at_ {base G : Nat} {xs : List Int} {w0 W : World} (h : OwnAt base G xs w0 W) {i : Nat} (hi : i < xs.length) : W.cell? ⟨G, i, none⟩ = some (.int .i64 (xs.getD i 0)) ∧ W.frozen? ⟨G, i, none⟩ = false := by
  have := own_at_of (enc := Value.int .i64) (d := (0 : Int)) (xs := xs) h.own (i : Int) (by omega) (by omega)
  simpa [rdOf] using this
theorem OwnAt.R {base G : Nat} {xs : List Int} {w0 W : World} (h : OwnAt base G xs w0 W) : Kd.R (Kd.int .i64) 3 W base (fun _ => True) (.slice (some ⟨G, 0, none⟩) xs.length xs.length) xs := Kd.R_of_own h.own (fun _ _ => trivial)
theorem OwnAt.made {w0 W : World} {base m : Nat} (hb : Below base w0 W) (hle : base ≤ W.heap.size) (hm : m ≤ 9223372036854775807) : OwnAt base W.heap.size (List.replicate m 0) w0 (W.alloc (.cells (madeCells #[.int .i64 0] m) 3)) where
  own := by
    have := own_made' W base 3 .i64 m hle hm
    simpa using this
  le := hle
  lt := by simp
  bel := hb.alloc hle _

theorem Circle.far {base B k : Nat} {w0 W : World} (h : Circle base B k w0 W) {p : Addr} (hne : B ≠ p.block) (hle : base ≤ p.block) (u : Value) : Circle base B k w0 (W.setCell p u) where
  cells := fun j hj => by rw [World.cell?_setCell_other _ _ _ _ (by intro e; exact hne (by rw [e]))]; exact h.cells j hj
  some_ := fun j hj => by rw [World.cell?_setCell_other _ _ _ _ (by intro e; exact hne (by rw [e]))]; exact h.some_ j hj
  fz := fun j hj => by rw [World.frozen?_setCell]; exact h.fz j hj
  le := h.le
  lt := by simpa [World.setCell] using h.lt
  bel := h.bel.setCell hle _
theorem fillM_set {n i : Nat} {t : List Int} (hi : i < n) {v : Int} (hv : t[i]? = some v) : (t.take i ++ List.replicate (n - i) 0).set i v = t.take (i + 1) ++ List.replicate (n - (i + 1)) 0 := by
  have hl : i < t.length := (List.getElem?_eq_some_iff.1 hv).1
  have e : n - i = (n - (i + 1)) + 1 := by omega
  rw [e, List.replicate_succ, List.set_append_right _ _ (by rw [List.length_take]; omega), List.length_take, Nat.min_eq_left (by omega), Nat.sub_self, List.set_cons_zero, List.take_add_one, hv]
  simp
theorem fillM_length {n i : Nat} {t : List Int} (hi : i ≤ n) (ht : t.length = n) : (t.take i ++ List.replicate (n - i) 0).length = n := by
  rw [List.length_append, List.length_take, List.length_replicate]; omega
theorem and_2047_nat (a : Int) : ∃ q : Nat, Go.bits .and .i64 a 2047 = (q : Int) ∧ q < 2048 ∧ Tab.C (q : Int) = Tab.C a :=
  ⟨(a % 2048).toNat, by rw [and_2047]; omega, by omega, Tab.C_same (by omega)⟩

set_option maxHeartbeats 1000000 in
set_option maxRecDepth 100000 in
theorem sums72.calls (A B : Nat → Int) (many bits : Nat) (hmany : many ≤ 1024) (hb1 : 1 ≤ bits) (hb2 : bits ≤ 62) (B0 : Nat) (A0 : Option Addr) (c0 : Nat) (l : List Int) (w : World) (hlen : l.length ≤ 1024) (hr : Kd.C (Kd.int .i64) w A0 l.length l) (hc : l.length ≤ c0)
    (hg : ∀ (W : World) (i : Nat), i < many → Below w.heap.size w W → Calls Try.prog 72 #[.int .i64 (i : Int), .pointer (some ⟨B0, 0, none⟩)] W fun e w' => e = .returned (.tuple #[.int .i64 (A i), .int .i64 (B i)]) ∧ ∃ nd, w' = W.drewN nd) :
    Calls Try.prog 71 #[.slice A0 l.length c0, .int .i64 (many : Int), .int .i64 (bits : Int), .func (.func 72) #[] #[.pointer (some ⟨B0, 0, none⟩)]] w fun e w' => ∃ v, e = .returned v ∧
      Kd.R (Kd.int .i64) 3 w' w.heap.size (fun _ => True) v ((List.range many).map fun i => rndV (dotW (B i) l (A i) 0) bits) ∧ Below w.heap.size w w' := by
  obtain ⟨vals, hvals⟩ : ∃ vals, ((List.range many).map fun i => rndV (dotW (B i) l (A i) 0) bits) = vals := ⟨_, rfl⟩
  have hvl : vals.length = many := by rw [← hvals]; simp
  have hva : ∀ i, i < many → vals[i]? = some (rndV (dotW (B i) l (A i) 0) bits) := by intro i hi; rw [← hvals]; simp [hi]
  rw [hvals]
  have HVL := Lib.hid hvl
  have HVA := Lib.hid hva
  clear hvals hvl hva
  have HR := Lib.hid hr
  have HG := Lib.hid hg
  clear hr hg
  have hmk := print_make (P := Try.prog) 29 3 .i64 8 Try.underlying29 info3 (by decide) many (by omega)
  go_enter Try.func71, Try.ntmps71
  go_wp2_with fail
  refine (made.calls w).mono ?_
  rintro e w1 ⟨b, rfl, h1⟩
  have HO := Lib.hid (OwnAt.made (m := many) h1.bel h1.bel.size (by omega))
  have H1 := Lib.hid (h1.below ((Below.refl _ _).alloc (Nat.le_refl _) (.cells (madeCells #[.int .i64 0] many) 3)))
  obtain ⟨G, hG⟩ : ∃ G, w1.heap.size = G := ⟨_, rfl⟩
  rw [hG] at HO
  have hbG : b < G := by rw [← hG]; exact h1.lt
  have HGG := Lib.hid hG
  clear h1 hG
  go_wp2_with fail
  rw [HGG.out]
  clear hmk
  go_loopw [22] (fun v22 wr => ∃ (i : Nat), i ≤ many ∧ v22 = .int .i64 (i : Int) ∧ Hid (OwnAt w.heap.size G (vals.take i ++ List.replicate (many - i) 0) w wr) ∧ Hid (Circle w.heap.size b 2048 w wr)) (fun v22 _ => (many - intOf v22).toNat)
  case atStart => exact ⟨0, by omega, rfl, by simpa using HO, H1⟩
  case round =>
    clear HO H1
    obtain ⟨i, hi, rfl, HO, H1⟩ := hrel
    by_cases hlt : i < many
    · go_wp2_with fail
      refine (HG.out wr i hlt HO.out.bel).mono ?_
      rintro e w2 ⟨rfl, nd, rfl⟩
      obtain ⟨wq, hwq⟩ : ∃ wq : World, wr.drewN nd = wq := ⟨_, rfl⟩
      have HO2 := Lib.hid (HO.out.drewN nd)
      have H2 := Lib.hid (H1.out.below (pw_below_drewN (Below.refl _ wr) nd))
      rw [hwq] at HO2 H2 ⊢
      clear hwq HO H1
      go_wp2_with fail
      obtain ⟨D, hD⟩ : ∃ D, dotW (B i) l (A i) 0 = D := ⟨_, rfl⟩
      have hvi := HVA.out i hlt
      rw [hD] at hvi
      have HD := Lib.hid hD
      have HVI := Lib.hid hvi
      clear hD hvi
      go_loop [12, 14, 33] (fun v12 v14 v33 => ∃ (j : Nat) (a s : Int), j ≤ l.length ∧ v12 = .int .i64 a ∧ v14 = .int .i64 s ∧ v33 = .int .i64 (j : Int) ∧ Hid (dotW (B i) (l.drop j) a s = D)) (fun _ _ v33 => (l.length - intOf v33).toNat)
      case atStart => exact ⟨0, A i, 0, by omega, rfl, rfl, rfl, HD⟩
      case round =>
        clear HD
        obtain ⟨j, a, s, hj, rfl, rfl, rfl, HD⟩ := hrel
        by_cases hjl : j < l.length
        · have hd : l.drop j = rd l (j : Int) :: l.drop (j + 1) := by
            rw [List.drop_eq_getElem_cons hjl]
            congr 1
            unfold rd
            rw [show ((j : Int)).toNat = j by omega, List.getD_eq_getElem?_getD, List.getElem?_eq_getElem hjl]; rfl
          have hn := HD.out
          rw [hd, dotW] at hn
          obtain ⟨ad, rfl, hcell⟩ := Kd.at_int HR.out (j : Int) (by omega) (by omega)
          replace hcell := (H2.out.bel.cell (World.block_lt_of_cell? w _ hcell)).trans hcell
          obtain ⟨q, hq, hq2, hq3⟩ := and_2047_nat a
          have hcirc := H2.out.cells q hq2
          rw [hq3] at hcirc
          obtain ⟨x, hx⟩ : ∃ x, rd l (j : Int) = x := ⟨_, rfl⟩
          rw [hx] at hn hcell
          obtain ⟨c, hc'⟩ : ∃ c, Tab.C a = c := ⟨_, rfl⟩
          rw [hc'] at hn hcirc
          obtain ⟨p, hp⟩ : ∃ p, wrap64 (x * c) = p := ⟨_, rfl⟩
          have hp' : IntKind.i64.wrap (x * c) = p := (i64_w _).trans hp
          rw [hp] at hn
          obtain ⟨s', hs⟩ : ∃ s', wrap64 (s + p) = s' := ⟨_, rfl⟩
          have hs' : IntKind.i64.wrap (s + p) = s' := (i64_w _).trans hs
          rw [hs] at hn
          obtain ⟨a', ha⟩ : ∃ a', wrap64 (a + B i) = a' := ⟨_, rfl⟩
          have ha' : IntKind.i64.wrap (a + B i) = a' := (i64_w _).trans ha
          rw [ha] at hn
          have HN := Lib.hid hn
          clear hn hd hx hc' hp hs ha hq3 HD
          have hjk : (j : Int).toNat = j := by omega
          simp only [hjk] at hcell
          clear hjk
          go_wp2_with fail
          go_round
          case rel => exact ⟨j + 1, a', s', by omega, rfl, rfl, by go_num, HN⟩
          case measure => simp [intOf]; omega
        · obtain rfl : j = l.length := by omega
          have hD2 : s = D := by
            have := HD.out
            rw [List.drop_length] at this
            exact this
          subst hD2
          clear HD
          obtain ⟨v, e, h5, h6⟩ := round_some s hb1 hb2
          have hvi := HVI.out
          rw [h6] at hvi
          have HVI2 := Lib.hid hvi
          have H5 := Lib.hid h5
          clear hvi h5 h6 HVI
          go_wp2_with fail
          refine (fix_Round.calls 1 s (bits : Int) v e _ H5.out).mono ?_
          rintro e w3 ⟨rfl, hdr⟩
          obtain ⟨nd2, hnd2⟩ := hdr.out
          obtain ⟨wz, hwz⟩ : ∃ wz : World, wq.drewN nd2 = wz := ⟨_, rfl⟩
          have HO3 := Lib.hid (HO2.out.drewN nd2)
          have H3 := Lib.hid (H2.out.below (pw_below_drewN (Below.refl _ wq) nd2))
          subst hnd2
          rw [hwz] at HO3 H3 ⊢
          clear hwz HO2 H2 hdr
          have hfl : i < (vals.take i ++ List.replicate (many - i) 0).length := by rw [fillM_length hi HVL.out]; exact hlt
          have hat := HO3.out.at_ hfl
          obtain ⟨x0, hx0⟩ : ∃ x0, (vals.take i ++ List.replicate (many - i) 0).getD i 0 = x0 := ⟨_, rfl⟩
          rw [hx0] at hat
          obtain ⟨hat1, hat2⟩ := hat
          have hput := HO3.out.put i v
          rw [fillM_set hlt HVI2.out] at hput
          have HP := Lib.hid hput
          have hbc : Below (wz.heap.size) wz wz := Below.refl _ _
          have H4 := Lib.hid (H3.out.far (p := ⟨G, i, none⟩) (Nat.ne_of_lt hbG) HO3.out.le (.int .i64 v))
          clear hx0 hput hfl hbc
          go_wp2_with fail
          go_roundw
          case rel => exact ⟨i + 1, by omega, by go_num, HP, H4⟩
          case measure => simp [intOf]; omega

    · obtain rfl : i = many := by omega
      go_wp2_with fail
      go_ret
      have := HO.out.R
      have hv := HVL.out
      rw [Nat.sub_self, List.replicate_zero, List.append_nil, List.take_of_length_le (by omega), hv] at this
      exact ⟨_, rfl, this, HO.out.bel⟩

set_option maxHeartbeats 1000000 in
set_option maxRecDepth 100000 in
theorem sums81.calls (A B : Nat → Int) (many bits : Nat) (hmany : many ≤ 1024) (hb1 : 1 ≤ bits) (hb2 : bits ≤ 62) (B0 : Nat) (A0 : Option Addr) (c0 : Nat) (l : List Int) (w : World) (hlen : l.length ≤ 1024) (hr : Kd.C (Kd.int .i64) w A0 l.length l) (hc : l.length ≤ c0)
    (hg : ∀ (W : World) (i : Nat), i < many → Below w.heap.size w W → Calls Try.prog 81 #[.int .i64 (i : Int), .pointer (some ⟨B0, 0, none⟩)] W fun e w' => e = .returned (.tuple #[.int .i64 (A i), .int .i64 (B i)]) ∧ ∃ nd, w' = W.drewN nd) :
    Calls Try.prog 71 #[.slice A0 l.length c0, .int .i64 (many : Int), .int .i64 (bits : Int), .func (.func 81) #[] #[.pointer (some ⟨B0, 0, none⟩)]] w fun e w' => ∃ v, e = .returned v ∧
      Kd.R (Kd.int .i64) 3 w' w.heap.size (fun _ => True) v ((List.range many).map fun i => rndV (dotW (B i) l (A i) 0) bits) ∧ Below w.heap.size w w' := by
  obtain ⟨vals, hvals⟩ : ∃ vals, ((List.range many).map fun i => rndV (dotW (B i) l (A i) 0) bits) = vals := ⟨_, rfl⟩
  have hvl : vals.length = many := by rw [← hvals]; simp
  have hva : ∀ i, i < many → vals[i]? = some (rndV (dotW (B i) l (A i) 0) bits) := by intro i hi; rw [← hvals]; simp [hi]
  rw [hvals]
  have HVL := Lib.hid hvl
  have HVA := Lib.hid hva
  clear hvals hvl hva
  have HR := Lib.hid hr
  have HG := Lib.hid hg
  clear hr hg
  have hmk := print_make (P := Try.prog) 29 3 .i64 8 Try.underlying29 info3 (by decide) many (by omega)
  go_enter Try.func71, Try.ntmps71
  go_wp2_with fail
  refine (made.calls w).mono ?_
  rintro e w1 ⟨b, rfl, h1⟩
  have HO := Lib.hid (OwnAt.made (m := many) h1.bel h1.bel.size (by omega))
  have H1 := Lib.hid (h1.below ((Below.refl _ _).alloc (Nat.le_refl _) (.cells (madeCells #[.int .i64 0] many) 3)))
  obtain ⟨G, hG⟩ : ∃ G, w1.heap.size = G := ⟨_, rfl⟩
  rw [hG] at HO
  have hbG : b < G := by rw [← hG]; exact h1.lt
  have HGG := Lib.hid hG
  clear h1 hG
  go_wp2_with fail
  rw [HGG.out]
  clear hmk
  go_loopw [22] (fun v22 wr => ∃ (i : Nat), i ≤ many ∧ v22 = .int .i64 (i : Int) ∧ Hid (OwnAt w.heap.size G (vals.take i ++ List.replicate (many - i) 0) w wr) ∧ Hid (Circle w.heap.size b 2048 w wr)) (fun v22 _ => (many - intOf v22).toNat)
  case atStart => exact ⟨0, by omega, rfl, by simpa using HO, H1⟩
  case round =>
    clear HO H1
    obtain ⟨i, hi, rfl, HO, H1⟩ := hrel
    by_cases hlt : i < many
    · go_wp2_with fail
      refine (HG.out wr i hlt HO.out.bel).mono ?_
      rintro e w2 ⟨rfl, nd, rfl⟩
      obtain ⟨wq, hwq⟩ : ∃ wq : World, wr.drewN nd = wq := ⟨_, rfl⟩
      have HO2 := Lib.hid (HO.out.drewN nd)
      have H2 := Lib.hid (H1.out.below (pw_below_drewN (Below.refl _ wr) nd))
      rw [hwq] at HO2 H2 ⊢
      clear hwq HO H1
      go_wp2_with fail
      obtain ⟨D, hD⟩ : ∃ D, dotW (B i) l (A i) 0 = D := ⟨_, rfl⟩
      have hvi := HVA.out i hlt
      rw [hD] at hvi
      have HD := Lib.hid hD
      have HVI := Lib.hid hvi
      clear hD hvi
      go_loop [12, 14, 33] (fun v12 v14 v33 => ∃ (j : Nat) (a s : Int), j ≤ l.length ∧ v12 = .int .i64 a ∧ v14 = .int .i64 s ∧ v33 = .int .i64 (j : Int) ∧ Hid (dotW (B i) (l.drop j) a s = D)) (fun _ _ v33 => (l.length - intOf v33).toNat)
      case atStart => exact ⟨0, A i, 0, by omega, rfl, rfl, rfl, HD⟩
      case round =>
        clear HD
        obtain ⟨j, a, s, hj, rfl, rfl, rfl, HD⟩ := hrel
        by_cases hjl : j < l.length
        · have hd : l.drop j = rd l (j : Int) :: l.drop (j + 1) := by
            rw [List.drop_eq_getElem_cons hjl]
            congr 1
            unfold rd
            rw [show ((j : Int)).toNat = j by omega, List.getD_eq_getElem?_getD, List.getElem?_eq_getElem hjl]; rfl
          have hn := HD.out
          rw [hd, dotW] at hn
          obtain ⟨ad, rfl, hcell⟩ := Kd.at_int HR.out (j : Int) (by omega) (by omega)
          replace hcell := (H2.out.bel.cell (World.block_lt_of_cell? w _ hcell)).trans hcell
          obtain ⟨q, hq, hq2, hq3⟩ := and_2047_nat a
          have hcirc := H2.out.cells q hq2
          rw [hq3] at hcirc
          obtain ⟨x, hx⟩ : ∃ x, rd l (j : Int) = x := ⟨_, rfl⟩
          rw [hx] at hn hcell
          obtain ⟨c, hc'⟩ : ∃ c, Tab.C a = c := ⟨_, rfl⟩
          rw [hc'] at hn hcirc
          obtain ⟨p, hp⟩ : ∃ p, wrap64 (x * c) = p := ⟨_, rfl⟩
          have hp' : IntKind.i64.wrap (x * c) = p := (i64_w _).trans hp
          rw [hp] at hn
          obtain ⟨s', hs⟩ : ∃ s', wrap64 (s + p) = s' := ⟨_, rfl⟩
          have hs' : IntKind.i64.wrap (s + p) = s' := (i64_w _).trans hs
          rw [hs] at hn
          obtain ⟨a', ha⟩ : ∃ a', wrap64 (a + B i) = a' := ⟨_, rfl⟩
          have ha' : IntKind.i64.wrap (a + B i) = a' := (i64_w _).trans ha
          rw [ha] at hn
          have HN := Lib.hid hn
          clear hn hd hx hc' hp hs ha hq3 HD
          have hjk : (j : Int).toNat = j := by omega
          simp only [hjk] at hcell
          clear hjk
          go_wp2_with fail
          go_round
          case rel => exact ⟨j + 1, a', s', by omega, rfl, rfl, by go_num, HN⟩
          case measure => simp [intOf]; omega
        · obtain rfl : j = l.length := by omega
          have hD2 : s = D := by
            have := HD.out
            rw [List.drop_length] at this
            exact this
          subst hD2
          clear HD
          obtain ⟨v, e, h5, h6⟩ := round_some s hb1 hb2
          have hvi := HVI.out
          rw [h6] at hvi
          have HVI2 := Lib.hid hvi
          have H5 := Lib.hid h5
          clear hvi h5 h6 HVI
          go_wp2_with fail
          refine (fix_Round.calls 1 s (bits : Int) v e _ H5.out).mono ?_
          rintro e w3 ⟨rfl, hdr⟩
          obtain ⟨nd2, hnd2⟩ := hdr.out
          obtain ⟨wz, hwz⟩ : ∃ wz : World, wq.drewN nd2 = wz := ⟨_, rfl⟩
          have HO3 := Lib.hid (HO2.out.drewN nd2)
          have H3 := Lib.hid (H2.out.below (pw_below_drewN (Below.refl _ wq) nd2))
          subst hnd2
          rw [hwz] at HO3 H3 ⊢
          clear hwz HO2 H2 hdr
          have hfl : i < (vals.take i ++ List.replicate (many - i) 0).length := by rw [fillM_length hi HVL.out]; exact hlt
          have hat := HO3.out.at_ hfl
          obtain ⟨x0, hx0⟩ : ∃ x0, (vals.take i ++ List.replicate (many - i) 0).getD i 0 = x0 := ⟨_, rfl⟩
          rw [hx0] at hat
          obtain ⟨hat1, hat2⟩ := hat
          have hput := HO3.out.put i v
          rw [fillM_set hlt HVI2.out] at hput
          have HP := Lib.hid hput
          have hbc : Below (wz.heap.size) wz wz := Below.refl _ _
          have H4 := Lib.hid (H3.out.far (p := ⟨G, i, none⟩) (Nat.ne_of_lt hbG) HO3.out.le (.int .i64 v))
          clear hx0 hput hfl hbc
          go_wp2_with fail
          go_roundw
          case rel => exact ⟨i + 1, by omega, by go_num, HP, H4⟩
          case measure => simp [intOf]; omega

    · obtain rfl : i = many := by omega
      go_wp2_with fail
      go_ret
      have := HO.out.R
      have hv := HVL.out
      rw [Nat.sub_self, List.replicate_zero, List.append_nil, List.take_of_length_le (by omega), hv] at this
      exact ⟨_, rfl, this, HO.out.bel⟩

end Go.Proofs.Ytpoppdaaodmicaa.Q

/- slices.ContainsFunc (79), IndexFunc (108) at the two closures that are handed to them (100: mdct.odd's; 78: lap.Check's); mdct.odd (70). -/
namespace Go.Proofs.Ytpoppdaaodmicaa.Q
open Go.RowKit Go.Proofs.YtpoppdaaodmicaaW.PrintWords Go.Proofs.YtpoppdaaodmicaaW.PrintLast Go.Proofs.YtpoppdaaodmicaaW.PrintMore
set_option linter.unusedVariables false
set_option linter.unusedSimpArgs false

def Found (pr : Int → Bool) (l : List Int) (w : World) (e : Ending) (w' : World) : Prop := ∃ i : Int, e = .returned (.int .i64 i) ∧ decide (0 ≤ i) = l.any pr ∧ w = w'
theorem any_take_snoc {pr : Int → Bool} {l : List Int} {j : Nat} (hj : j < l.length) : (l.take (j + 1)).any pr = ((l.take j).any pr || pr (rd l (j : Int))) := by
  rw [List.take_add_one, List.getElem?_eq_getElem hj, List.any_append]
  congr 1
  unfold rd
  rw [show ((j : Int)).toNat = j by omega, List.getD_eq_getElem?_getD, List.getElem?_eq_getElem hj]
  simp
theorem any_of_at {pr : Int → Bool} {l : List Int} {j : Nat} (hj : j < l.length) (h : pr (rd l (j : Int)) = true) : l.any pr = true := by
  rw [List.any_eq_true]
  refine ⟨rd l (j : Int), ?_, h⟩
  unfold rd
  rw [show ((j : Int)).toNat = j by omega, List.getD_eq_getElem?_getD, List.getElem?_eq_getElem hj]
  exact List.getElem_mem hj
def oddB (m x : Int) : Bool := decide (x < -m) || decide (m < x)
def farB (x : Int) : Bool := decide (x < -1099511627776) || decide (1099511627776 < x)

set_option maxHeartbeats 1000000 in
theorem odd1.calls (m x : Int) (hm : 0 ≤ m) (hm2 : m ≤ 1073741824) (B0 : Nat) (w : World) (hc : w.cell? ⟨B0, 0, none⟩ = some (.int .i64 m)) :
    Calls Try.prog 100 #[.int .i64 x, .pointer (some ⟨B0, 0, none⟩)] w fun e w' => e = .returned (.bool (oddB m x)) ∧ w = w' := by
  by_cases h1 : x < -m
  · have h1b : decide (x < -m) = true := decide_eq_true h1
    have hg : oddB m x = true := by unfold oddB; rw [h1b]; rfl
    rw [hg]
    clear hg
    go_enter Try.func100, Try.ntmps100
    go_wp2_with fail
    go_ret
    exact ⟨rfl, rfl⟩
  · have h1b : decide (x < -m) = false := decide_eq_false h1
    have hg : oddB m x = decide (m < x) := by unfold oddB; rw [h1b]; rfl
    rw [hg]
    clear hg
    go_enter Try.func100, Try.ntmps100
    go_wp2_with fail
    go_ret
    exact ⟨rfl, rfl⟩
set_option maxHeartbeats 1000000 in
theorem far1.calls (x : Int) (w : World) : Calls Try.prog 78 #[.int .i64 x] w fun e w' => e = .returned (.bool (farB x)) ∧ w = w' := by
  by_cases h1 : x < -1099511627776
  · have h1b : decide (x < -1099511627776) = true := decide_eq_true h1
    have hg : farB x = true := by unfold farB; rw [h1b]; rfl
    rw [hg]
    clear hg
    go_enter Try.func78, Try.ntmps78
    go_wp2_with fail
    go_ret
    exact ⟨rfl, rfl⟩
  · have h1b : decide (x < -1099511627776) = false := decide_eq_false h1
    have hg : farB x = decide (1099511627776 < x) := by unfold farB; rw [h1b]; rfl
    rw [hg]
    clear hg
    go_enter Try.func78, Try.ntmps78
    go_wp2_with fail
    go_ret
    exact ⟨rfl, rfl⟩

set_option maxHeartbeats 1000000 in
theorem index100.calls (pr : Int → Bool) (B0 : Nat) (A0 : Option Addr) (c0 : Nat) (l : List Int) (w : World) (hl : l.length ≤ 9223372036854775807) (hr : Kd.C (Kd.int .i64) w A0 l.length l)
    (hg : ∀ x : Int, Calls Try.prog 100 #[.int .i64 x, .pointer (some ⟨B0, 0, none⟩)] w fun e w' => e = .returned (.bool (pr x)) ∧ w = w') :
    Calls Try.prog 108 #[.slice A0 l.length c0, .func (.func 100) #[] #[.pointer (some ⟨B0, 0, none⟩)]] w (Found pr l w) := by
  have HR := Lib.hid hr
  have HG := Lib.hid hg
  clear hr hg
  go_enter Try.func108, Try.ntmps108
  go_wp2_with fail
  go_loop [8] (fun v8 => ∃ j : Nat, j ≤ l.length ∧ v8 = .int .i64 (j : Int) ∧ Hid ((l.take j).any pr = false)) (fun v8 => (l.length - intOf v8).toNat)
  case atStart => exact ⟨0, by omega, rfl, Lib.hid (by simp)⟩
  case round =>
    obtain ⟨j, hj, rfl, HN⟩ := hrel
    by_cases hlt : j < l.length
    · obtain ⟨ad, rfl, hcell⟩ := Kd.at_int HR.out (j : Int) (by omega) (by omega)
      have hjk : (j : Int).toNat = j := by omega
      simp only [hjk] at hcell
      clear hjk
      have hs := any_take_snoc (pr := pr) hlt
      rw [HN.out, Bool.false_or] at hs
      have ha := any_of_at (pr := pr) hlt
      obtain ⟨x, hx⟩ : ∃ x, rd l (j : Int) = x := ⟨_, rfl⟩
      rw [hx] at hs ha hcell
      clear hx
      have c := HG.out x
      by_cases hp : pr x = true
      · have HA := Lib.hid (ha hp)
        rw [hp] at c
        have CC := Lib.hid c
        clear hs ha hp c
        go_wp2_with fail
        refine CC.out.mono ?_
        rintro e w' ⟨rfl, rfl⟩
        go_wp2_with fail
        go_ret
        exact ⟨(j : Int), rfl, by rw [HA.out]; exact decide_eq_true (by omega), rfl⟩
      · replace hp := Bool.eq_false_iff.mpr hp
        rw [hp] at c hs
        have HS := Lib.hid hs
        have CC := Lib.hid c
        clear hs ha hp c
        go_wp2_with fail
        refine CC.out.mono ?_
        rintro e w' ⟨rfl, rfl⟩
        go_wp2_with fail
        go_round
        case rel => exact ⟨j + 1, by omega, by go_num, HS⟩
        case measure => simp [intOf]; omega
    · obtain rfl : j = l.length := by omega
      go_wp2_with fail
      go_ret
      have := HN.out
      rw [List.take_length] at this
      exact ⟨-1, rfl, by rw [this]; rfl, rfl⟩
set_option maxHeartbeats 1000000 in
theorem contains100.calls (pr : Int → Bool) (B0 : Nat) (A0 : Option Addr) (c0 : Nat) (l : List Int) (w : World) (hl : l.length ≤ 9223372036854775807) (hr : Kd.C (Kd.int .i64) w A0 l.length l)
    (hg : ∀ x : Int, Calls Try.prog 100 #[.int .i64 x, .pointer (some ⟨B0, 0, none⟩)] w fun e w' => e = .returned (.bool (pr x)) ∧ w = w') :
    Calls Try.prog 79 #[.slice A0 l.length c0, .func (.func 100) #[] #[.pointer (some ⟨B0, 0, none⟩)]] w fun e w' => e = .returned (.bool (l.any pr)) ∧ w = w' := by
  have HC := Lib.hid (index100.calls pr B0 A0 c0 l w hl hr hg)
  obtain ⟨Y, hY⟩ : ∃ Y, l.any pr = Y := ⟨_, rfl⟩
  rw [hY]
  have HY := Lib.hid hY
  clear hr hg hY
  go_enter Try.func79, Try.ntmps79
  go_wp2_with fail
  refine HC.out.mono ?_
  rintro e w' ⟨i, rfl, h2, rfl⟩
  rw [HY.out] at h2
  subst h2
  go_wp2_with fail
  go_ret
  exact ⟨rfl, rfl⟩

set_option maxHeartbeats 1000000 in
theorem index78.calls (pr : Int → Bool) (A0 : Option Addr) (c0 : Nat) (l : List Int) (w : World) (hl : l.length ≤ 9223372036854775807) (hr : Kd.C (Kd.int .i64) w A0 l.length l)
    (hg : ∀ x : Int, Calls Try.prog 78 #[.int .i64 x] w fun e w' => e = .returned (.bool (pr x)) ∧ w = w') :
    Calls Try.prog 108 #[.slice A0 l.length c0, .func (.func 78) #[] #[]] w (Found pr l w) := by
  have HR := Lib.hid hr
  have HG := Lib.hid hg
  clear hr hg
  go_enter Try.func108, Try.ntmps108
  go_wp2_with fail
  go_loop [8] (fun v8 => ∃ j : Nat, j ≤ l.length ∧ v8 = .int .i64 (j : Int) ∧ Hid ((l.take j).any pr = false)) (fun v8 => (l.length - intOf v8).toNat)
  case atStart => exact ⟨0, by omega, rfl, Lib.hid (by simp)⟩
  case round =>
    obtain ⟨j, hj, rfl, HN⟩ := hrel
    by_cases hlt : j < l.length
    · obtain ⟨ad, rfl, hcell⟩ := Kd.at_int HR.out (j : Int) (by omega) (by omega)
      have hjk : (j : Int).toNat = j := by omega
      simp only [hjk] at hcell
      clear hjk
      have hs := any_take_snoc (pr := pr) hlt
      rw [HN.out, Bool.false_or] at hs
      have ha := any_of_at (pr := pr) hlt
      obtain ⟨x, hx⟩ : ∃ x, rd l (j : Int) = x := ⟨_, rfl⟩
      rw [hx] at hs ha hcell
      clear hx
      have c := HG.out x
      by_cases hp : pr x = true
      · have HA := Lib.hid (ha hp)
        rw [hp] at c
        have CC := Lib.hid c
        clear hs ha hp c
        go_wp2_with fail
        refine CC.out.mono ?_
        rintro e w' ⟨rfl, rfl⟩
        go_wp2_with fail
        go_ret
        exact ⟨(j : Int), rfl, by rw [HA.out]; exact decide_eq_true (by omega), rfl⟩
      · replace hp := Bool.eq_false_iff.mpr hp
        rw [hp] at c hs
        have HS := Lib.hid hs
        have CC := Lib.hid c
        clear hs ha hp c
        go_wp2_with fail
        refine CC.out.mono ?_
        rintro e w' ⟨rfl, rfl⟩
        go_wp2_with fail
        go_round
        case rel => exact ⟨j + 1, by omega, by go_num, HS⟩
        case measure => simp [intOf]; omega
    · obtain rfl : j = l.length := by omega
      go_wp2_with fail
      go_ret
      have := HN.out
      rw [List.take_length] at this
      exact ⟨-1, rfl, by rw [this]; rfl, rfl⟩
set_option maxHeartbeats 1000000 in
theorem contains78.calls (pr : Int → Bool) (A0 : Option Addr) (c0 : Nat) (l : List Int) (w : World) (hl : l.length ≤ 9223372036854775807) (hr : Kd.C (Kd.int .i64) w A0 l.length l)
    (hg : ∀ x : Int, Calls Try.prog 78 #[.int .i64 x] w fun e w' => e = .returned (.bool (pr x)) ∧ w = w') :
    Calls Try.prog 79 #[.slice A0 l.length c0, .func (.func 78) #[] #[]] w fun e w' => e = .returned (.bool (l.any pr)) ∧ w = w' := by
  have HC := Lib.hid (index78.calls pr A0 c0 l w hl hr hg)
  obtain ⟨Y, hY⟩ : ∃ Y, l.any pr = Y := ⟨_, rfl⟩
  rw [hY]
  have HY := Lib.hid hY
  clear hr hg hY
  go_enter Try.func79, Try.ntmps79
  go_wp2_with fail
  refine HC.out.mono ?_
  rintro e w' ⟨i, rfl, h2, rfl⟩
  rw [HY.out] at h2
  subst h2
  go_wp2_with fail
  go_ret
  exact ⟨rfl, rfl⟩

set_option maxHeartbeats 1000000 in
theorem odd.calls (m : Int) (hm : 0 ≤ m) (hm2 : m ≤ 1073741824) (A0 : Option Addr) (c0 : Nat) (l : List Int) (w : World) (hl : l.length ≤ 9223372036854775807) (hr : Kd.C (Kd.int .i64) w A0 l.length l) :
    Calls Try.prog 70 #[.slice A0 l.length c0, .int .i64 m] w fun e w' => e = .returned (.bool (l.any (oddB m))) ∧ Below w.heap.size w w' := by
  have HB := Lib.hid ((Below.refl w.heap.size w).alloc (Nat.le_refl _) (.cells #[.int .i64 m] 3))
  have HC := Lib.hid (contains100.calls (oddB m) w.heap.size A0 c0 l (w.alloc (.cells #[.int .i64 m] 3)) hl (Kd.C_below hr HB.out) (fun x => odd1.calls m x hm hm2 w.heap.size _ (by simp)))
  clear hr
  go_enter Try.func70, Try.ntmps70
  go_wp2_with fail
  refine HC.out.mono ?_
  rintro e w' ⟨rfl, rfl⟩
  go_wp2_with fail
  go_ret
  exact ⟨rfl, HB.out⟩

end Go.Proofs.Ytpoppdaaodmicaa.Q

/- mdct.Forward (37): the contract by hand. -/
namespace Go.Proofs.Ytpoppdaaodmicaa.Q
open Go.RowKit Go.Proofs.YtpoppdaaodmicaaW.PrintWords Go.Proofs.YtpoppdaaodmicaaW.PrintLast Go.Proofs.YtpoppdaaodmicaaW.PrintMore
set_option linter.unusedVariables false
set_option linter.unusedSimpArgs false

end Go.Proofs.Ytpoppdaaodmicaa.Q

/- mdct.Inverse (46): the contract by hand. -/
namespace Go.Proofs.Ytpoppdaaodmicaa.Q
open Go.RowKit Go.Proofs.YtpoppdaaodmicaaW.PrintWords Go.Proofs.YtpoppdaaodmicaaW.PrintLast Go.Proofs.YtpoppdaaodmicaaW.PrintMore
set_option linter.unusedVariables false
set_option linter.unusedSimpArgs false

/-- What lines come back to, m of them, the arc's least part s. -/
def backW (m : Nat) (s : Int) (bits : Int) (x : List Int) : List Int := (List.range (2 * m)).map fun (n : Nat) => rndV (dotW (2 * ((2 * (n : Int) + 1 + (m : Int)) * s)) x ((2 * (n : Int) + 1 + (m : Int)) * s) 0) bits
def mdct_Inverse.f (l0 : List Int) : Option (List Int × Int) :=
  if l0.length = 256 then (if l0.any (oddB 268435455) = true then some ([], 2) else some (backW 256 1 26 l0, 0))
  else if l0.length = 32 then (if l0.any (oddB 268435455) = true then some ([], 2) else some (backW 32 8 23 l0, 0))
  else some ([], 4)

set_option maxHeartbeats 1000000 in
theorem inverse_many (A0 : Option Addr) (c0 : Nat) (l0 : List Int) (w : World) (h1 : ((l0.length : Int) == 256) = false) (h2 : ((l0.length : Int) == 32) = false) (hl : l0.length ≤ 9223372036854775807) :
    Calls Try.prog 46 #[.slice A0 l0.length c0] w fun e w' => e = .returned (.tuple #[.slice none 0 0, .int .i64 4]) ∧ Below w.heap.size w w' := by
  have HB := Lib.hid ((Below.refl w.heap.size w).alloc (Nat.le_refl _) (.cells #[.int .i64 (l0.length : Int)] 3))
  have h1' : ((l0.length : Int) != 256) = true := by rw [bne, h1]; rfl
  have h2' : ((l0.length : Int) != 32) = true := by rw [bne, h2]; rfl
  go_enter Try.func46, Try.ntmps46
  go_wp2_with fail
  go_ret2
  exact ⟨rfl, HB.out⟩

set_option maxHeartbeats 1000000 in
theorem inverse_odd256 (A0 : Option Addr) (c0 : Nat) (l0 : List Int) (w : World) (hn : l0.length = 256) (hr : Kd.C (Kd.int .i64) w A0 l0.length l0) (ho : l0.any (oddB 268435455) = true) :
    Calls Try.prog 46 #[.slice A0 l0.length c0] w fun e w' => e = .returned (.tuple #[.slice none 0 0, .int .i64 2]) ∧ Below w.heap.size w w' := by
  have hb := (Below.refl w.heap.size w).alloc (Nat.le_refl _) (.cells #[.int .i64 256] 3)
  have HO := odd.calls 268435455 (by omega) (by omega) A0 c0 l0 (w.alloc (.cells #[.int .i64 256] 3)) (by omega) (Kd.C_below hr hb)
  rw [ho, hn] at HO
  rw [hn]
  replace HO := Lib.hid HO
  have HB := Lib.hid hb
  clear hr ho hn hb
  go_enter Try.func46, Try.ntmps46
  go_wp2_with fail
  refine HO.out.mono ?_
  rintro e w' ⟨rfl, hb⟩
  have HB2 := Lib.hid (HB.out.trans (hb.mono (by simp)))
  clear hb
  go_wp2_with fail
  go_ret2
  exact ⟨rfl, HB2.out⟩
set_option maxHeartbeats 1000000 in
theorem inverse_do256 (A0 : Option Addr) (c0 : Nat) (l0 : List Int) (w : World) (hn : l0.length = 256) (hr : Kd.C (Kd.int .i64) w A0 l0.length l0) (hc : l0.length ≤ c0) (ho : l0.any (oddB 268435455) = false) :
    Calls Try.prog 46 #[.slice A0 l0.length c0] w fun e w' => ∃ v, e = .returned (.tuple #[v, .int .i64 0]) ∧ Kd.R (Kd.int .i64) 3 w' w.heap.size (fun _ => True) v (backW 256 1 26 l0) ∧ Below w.heap.size w w' := by
  have hb := (Below.refl w.heap.size w).alloc (Nat.le_refl _) (.cells #[.int .i64 256] 3)
  have HO := odd.calls 268435455 (by omega) (by omega) A0 c0 l0 (w.alloc (.cells #[.int .i64 256] 3)) (by omega) (Kd.C_below hr hb)
  have HS := fun (W : World) (hW : Below (w.heap.size + 1) (w.alloc (.cells #[.int .i64 256] 3)) W) => sums81.calls (fun n => (2 * (n : Int) + 1 + (256 : Nat)) * 1) (fun n => 2 * ((2 * (n : Int) + 1 + (256 : Nat)) * 1)) 512 26 (by omega) (by omega) (by omega) w.heap.size A0 c0 l0 W (by omega)
    (Kd.C_below (Kd.C_below hr hb) (by simpa using hW)) hc (fun W' i hi hW' => arcs81_256 i (by omega) w.heap.size W' (by
      have c1 : (w.alloc (.cells #[.int .i64 256] 3)).cell? ⟨w.heap.size, 0, none⟩ = some (.int .i64 256) := by simp
      have c2 := pw_cell_below (w1 := W) (by simpa using hW) c1
      exact pw_cell_below hW' c2))
  change ∀ (W : World) (hW : Below (w.heap.size + 1) (w.alloc (.cells #[.int .i64 256] 3)) W), Calls Try.prog 71 #[.slice A0 l0.length c0, .int .i64 512, .int .i64 26, .func (.func 81) #[] #[.pointer (some ⟨w.heap.size, 0, none⟩)]] W (fun e w' => ∃ v, e = .returned v ∧ Kd.R (Kd.int .i64) 3 w' W.heap.size (fun _ => True) v (backW 256 1 26 l0) ∧ Below W.heap.size W w') at HS
  have hload := fun (W : World) (hW : Below (w.heap.size + 1) (w.alloc (.cells #[.int .i64 256] 3)) W) => hW.cell (p := ⟨w.heap.size, 0, none⟩) (by simp)
  rw [ho, hn] at HO
  rw [hn] at HS
  rw [hn]
  obtain ⟨L, hL⟩ : ∃ L, backW 256 1 26 l0 = L := ⟨_, rfl⟩
  rw [hL] at HS ⊢
  replace HO := Lib.hid HO
  replace HS := Lib.hid HS
  have HB := Lib.hid hb
  have HLD := Lib.hid hload
  clear hr ho hn hb hL hload hc
  go_enter Try.func46, Try.ntmps46
  go_wp2_with fail
  refine HO.out.mono ?_
  rintro e w' ⟨rfl, hb⟩
  have hc1 : w'.cell? ⟨w.heap.size, 0, none⟩ = some (.int .i64 256) := (HLD.out w' (by simpa using hb)).trans (by simp)
  have HC := Lib.hid (HS.out w' (by simpa using hb))
  have HB2 := Lib.hid (HB.out.trans (hb.mono (by simp)))
  clear hb HS HLD HO
  go_wp2_with fail
  refine HC.out.mono ?_
  rintro e w2 ⟨v, rfl, hv1, hv2⟩
  have HV := Lib.hid (Kd.R_lower hv1 HB2.out.size)
  have HB3 := Lib.hid (below_then HB2.out HB2.out.size hv2)
  clear hv1 hv2
  go_wp2_with fail
  go_ret2
  exact ⟨v, rfl, HV.out, HB3.out⟩

set_option maxHeartbeats 1000000 in
theorem inverse_odd32 (A0 : Option Addr) (c0 : Nat) (l0 : List Int) (w : World) (hn : l0.length = 32) (hr : Kd.C (Kd.int .i64) w A0 l0.length l0) (ho : l0.any (oddB 268435455) = true) :
    Calls Try.prog 46 #[.slice A0 l0.length c0] w fun e w' => e = .returned (.tuple #[.slice none 0 0, .int .i64 2]) ∧ Below w.heap.size w w' := by
  have hb := (Below.refl w.heap.size w).alloc (Nat.le_refl _) (.cells #[.int .i64 32] 3)
  have HO := odd.calls 268435455 (by omega) (by omega) A0 c0 l0 (w.alloc (.cells #[.int .i64 32] 3)) (by omega) (Kd.C_below hr hb)
  rw [ho, hn] at HO
  rw [hn]
  replace HO := Lib.hid HO
  have HB := Lib.hid hb
  clear hr ho hn hb
  go_enter Try.func46, Try.ntmps46
  go_wp2_with fail
  refine HO.out.mono ?_
  rintro e w' ⟨rfl, hb⟩
  have HB2 := Lib.hid (HB.out.trans (hb.mono (by simp)))
  clear hb
  go_wp2_with fail
  go_ret2
  exact ⟨rfl, HB2.out⟩
set_option maxHeartbeats 1000000 in
theorem inverse_do32 (A0 : Option Addr) (c0 : Nat) (l0 : List Int) (w : World) (hn : l0.length = 32) (hr : Kd.C (Kd.int .i64) w A0 l0.length l0) (hc : l0.length ≤ c0) (ho : l0.any (oddB 268435455) = false) :
    Calls Try.prog 46 #[.slice A0 l0.length c0] w fun e w' => ∃ v, e = .returned (.tuple #[v, .int .i64 0]) ∧ Kd.R (Kd.int .i64) 3 w' w.heap.size (fun _ => True) v (backW 32 8 23 l0) ∧ Below w.heap.size w w' := by
  have hb := (Below.refl w.heap.size w).alloc (Nat.le_refl _) (.cells #[.int .i64 32] 3)
  have HO := odd.calls 268435455 (by omega) (by omega) A0 c0 l0 (w.alloc (.cells #[.int .i64 32] 3)) (by omega) (Kd.C_below hr hb)
  have HS := fun (W : World) (hW : Below (w.heap.size + 1) (w.alloc (.cells #[.int .i64 32] 3)) W) => sums81.calls (fun n => (2 * (n : Int) + 1 + (32 : Nat)) * 8) (fun n => 2 * ((2 * (n : Int) + 1 + (32 : Nat)) * 8)) 64 23 (by omega) (by omega) (by omega) w.heap.size A0 c0 l0 W (by omega)
    (Kd.C_below (Kd.C_below hr hb) (by simpa using hW)) hc (fun W' i hi hW' => arcs81_32 i (by omega) w.heap.size W' (by
      have c1 : (w.alloc (.cells #[.int .i64 32] 3)).cell? ⟨w.heap.size, 0, none⟩ = some (.int .i64 32) := by simp
      have c2 := pw_cell_below (w1 := W) (by simpa using hW) c1
      exact pw_cell_below hW' c2))
  change ∀ (W : World) (hW : Below (w.heap.size + 1) (w.alloc (.cells #[.int .i64 32] 3)) W), Calls Try.prog 71 #[.slice A0 l0.length c0, .int .i64 64, .int .i64 23, .func (.func 81) #[] #[.pointer (some ⟨w.heap.size, 0, none⟩)]] W (fun e w' => ∃ v, e = .returned v ∧ Kd.R (Kd.int .i64) 3 w' W.heap.size (fun _ => True) v (backW 32 8 23 l0) ∧ Below W.heap.size W w') at HS
  have hload := fun (W : World) (hW : Below (w.heap.size + 1) (w.alloc (.cells #[.int .i64 32] 3)) W) => hW.cell (p := ⟨w.heap.size, 0, none⟩) (by simp)
  rw [ho, hn] at HO
  rw [hn] at HS
  rw [hn]
  obtain ⟨L, hL⟩ : ∃ L, backW 32 8 23 l0 = L := ⟨_, rfl⟩
  rw [hL] at HS ⊢
  replace HO := Lib.hid HO
  replace HS := Lib.hid HS
  have HB := Lib.hid hb
  have HLD := Lib.hid hload
  clear hr ho hn hb hL hload hc
  go_enter Try.func46, Try.ntmps46
  go_wp2_with fail
  refine HO.out.mono ?_
  rintro e w' ⟨rfl, hb⟩
  have hc1 : w'.cell? ⟨w.heap.size, 0, none⟩ = some (.int .i64 32) := (HLD.out w' (by simpa using hb)).trans (by simp)
  have HC := Lib.hid (HS.out w' (by simpa using hb))
  have HB2 := Lib.hid (HB.out.trans (hb.mono (by simp)))
  clear hb HS HLD HO
  go_wp2_with fail
  refine HC.out.mono ?_
  rintro e w2 ⟨v, rfl, hv1, hv2⟩
  have HV := Lib.hid (Kd.R_lower hv1 HB2.out.size)
  have HB3 := Lib.hid (below_then HB2.out HB2.out.size hv2)
  clear hv1 hv2
  go_wp2_with fail
  go_ret2
  exact ⟨v, rfl, HV.out, HB3.out⟩

theorem mdct_Inverse.calls (A0 : Option Addr) (c0 : Nat) (l0 : List Int) (r1 : List Int) (r2 : Int) (w : World) (hr0 : Kd.C (Kd.int .i64) w A0 l0.length l0) (hc0 : l0.length ≤ c0) (h : mdct_Inverse.f l0 = some (r1, r2)) :
    Calls Try.prog 46 #[.slice A0 l0.length c0] w fun e w' => ∃ v0_ : Value, e = .returned (.tuple #[v0_, .int .i64 r2]) ∧ Kd.R (Kd.int .i64) 3 w' w.heap.size (fun _ => True) v0_ r1 ∧ Below w.heap.size w w' := by
  have nil : ∀ w' : World, Kd.R (Kd.int .i64) 3 w' w.heap.size (fun _ => True) (.slice none 0 0) [] := fun w' => Kd.R_nil _ _ _ _ _
  have hlen : l0.length ≤ 9223372036854775807 := Kd.C_max hr0
  unfold mdct_Inverse.f at h
  split at h
  · rename_i hn
    split at h
    · rename_i ho
      simp only [Option.some.injEq, Prod.mk.injEq] at h
      obtain ⟨rfl, rfl⟩ := h
      exact (inverse_odd256 A0 c0 l0 w hn hr0 ho).mono fun e w' ⟨h1, h2⟩ => ⟨_, h1, nil w', h2⟩
    · rename_i ho
      simp only [Option.some.injEq, Prod.mk.injEq] at h
      obtain ⟨rfl, rfl⟩ := h
      exact inverse_do256 A0 c0 l0 w hn hr0 hc0 (Bool.eq_false_iff.mpr ho)
  · rename_i hn
    split at h
    · rename_i hn2
      split at h
      · rename_i ho
        simp only [Option.some.injEq, Prod.mk.injEq] at h
        obtain ⟨rfl, rfl⟩ := h
        exact (inverse_odd32 A0 c0 l0 w hn2 hr0 ho).mono fun e w' ⟨h1, h2⟩ => ⟨_, h1, nil w', h2⟩
      · rename_i ho
        simp only [Option.some.injEq, Prod.mk.injEq] at h
        obtain ⟨rfl, rfl⟩ := h
        exact inverse_do32 A0 c0 l0 w hn2 hr0 hc0 (Bool.eq_false_iff.mpr ho)
    · rename_i hn2
      simp only [Option.some.injEq, Prod.mk.injEq] at h
      obtain ⟨rfl, rfl⟩ := h
      exact (inverse_many A0 c0 l0 w (beq_eq_false_iff_ne.mpr (by omega)) (beq_eq_false_iff_ne.mpr (by omega)) hlen).mono fun e w' ⟨h1, h2⟩ => ⟨_, h1, nil w', h2⟩

end Go.Proofs.Ytpoppdaaodmicaa.Q
