-- mdct.sums (function 71): the contract by hand, over whatever closure tells the arcs.
import Derived.Test.YtpoppdaaodmicaaM2
import Derived.LoopTactic
import Derived.Outline
namespace Go.Proofs.Ytpoppdaaodmicaa.Q
open Go.RowKit Go.Proofs.YtpoppdaaodmicaaW.PrintWords Go.Proofs.YtpoppdaaodmicaaW.PrintLast Go.Proofs.YtpoppdaaodmicaaW.PrintMore
set_option linter.unusedVariables false
set_option linter.unusedSimpArgs false

/-- A sum of numbers times cosines, as the program makes it: from an arc on, each by so much. -/
def dotW (by_ : Int) : List Int → Int → Int → Int
  | [], _, s => s
  | x :: r, a, s => dotW by_ r (wrap64 (a + by_)) (wrap64 (s + wrap64 (x * Tab.C a)))
def rndV (s b : Int) : Int := ((fix_Round.f 1 s b).getD (0, 0)).1
theorem round_some (s : Int) {b : Nat} (h1 : 1 ≤ b) (h2 : b ≤ 62) : ∃ v e, fix_Round.f 1 s (b : Int) = some (v, e) ∧ rndV s b = v := by
  have : ∃ p, fix_Round.f 1 s (b : Int) = some p := by
    unfold fix_Round.f
    have h3 : ∀ x, ∃ p, fix_Round.j0 1 s (b : Int) x = some p := by
      intro x
      simp only [fix_Round.j0]
      cases x
      · rw [if_neg (by simp), if_neg (by omega), if_pos (by omega), wrap_in (n := (b : Int) - 1) (by omega) (by omega), if_pos (by omega)]
        exact ⟨_, rfl⟩
      · rw [if_pos rfl]; exact ⟨_, rfl⟩
    split
    · exact h3 _
    · split
      · exact h3 _
      · split <;> exact h3 _
  obtain ⟨⟨v, e⟩, hp⟩ := this
  exact ⟨v, e, hp, by unfold rndV; rw [hp]; rfl⟩

/-- A row of the call's own, of whole numbers, at the head of block G. -/
structure OwnAt (base G : Nat) (xs : List Int) (w0 W : World) : Prop where
  own : W.ownsRow base 3 1 (.slice (some ⟨G, 0, none⟩) xs.length xs.length) xs.length (nums .i64 xs)
  le : base ≤ G
  lt : G < W.heap.size
  bel : Below base w0 W
theorem OwnAt.below {base G : Nat} {xs : List Int} {w0 W W' : World} (h : OwnAt base G xs w0 W) (hb : Below W.heap.size W W') : OwnAt base G xs w0 W' where
  own := pw_own_below h.own hb
  le := h.le
  lt := Nat.lt_of_lt_of_le h.lt hb.size
  bel := below_then h.bel (Nat.le_trans h.le (Nat.le_of_lt h.lt)) hb
theorem OwnAt.drewN {base G : Nat} {xs : List Int} {w0 W : World} (h : OwnAt base G xs w0 W) (n : Nat) : OwnAt base G xs w0 (W.drewN n) := h.below (pw_below_drewN (Below.refl _ _) n)
theorem OwnAt.put {base G : Nat} {xs : List Int} {w0 W : World} (h : OwnAt base G xs w0 W) (i : Nat) (v : Int) : OwnAt base G (xs.set i v) w0 (W.setCell ⟨G, i, none⟩ (.int .i64 v)) where
  own := by
    have := own_put h.own (i : Int) v
    simpa using this
  le := h.le
  lt := by simpa [World.setCell] using h.lt
  bel := h.bel.setCell h.le _
theorem OwnAt.at_ {base G : Nat} {xs : List Int} {w0 W : World} (h : OwnAt base G xs w0 W) {i : Nat} (hi : i < xs.length) : W.cell? ⟨G, i, none⟩ = some (.int .i64 (xs.getD i 0)) ∧ W.frozen? ⟨G, i, none⟩ = false := by
  have := own_at_of (enc := Value.int .i64) (d := (0 : Int)) (xs := xs) h.own (i : Int) (by omega) (by omega)
  simpa [rdOf] using this
theorem OwnAt.R {base G : Nat} {xs : List Int} {w0 W : World} (h : OwnAt base G xs w0 W) : Kd.R (Kd.int .i64) 3 W base (fun _ => True) (.slice (some ⟨G, 0, none⟩) xs.length xs.length) xs := Kd.R_of_own h.own (fun _ _ => trivial)
theorem OwnAt.made {w0 W : World} {base m : Nat} (hb : Below base w0 W) (hle : base ≤ W.heap.size) (hm : m ≤ 9223372036854775807) : OwnAt base W.heap.size (List.replicate m 0) w0 (W.alloc (.cells (madeCells #[.int .i64 0] m) 3)) where
  own := by
    have := own_made' W base 3 .i64 m hle hm
    simpa using this
  le := hle
  lt := by simp
  bel := hb.alloc hle _

theorem Circle.far {base B k : Nat} {w0 W : World} (h : Circle base B k w0 W) {p : Addr} (hne : B ≠ p.block) (hle : base ≤ p.block) (u : Value) : Circle base B k w0 (W.setCell p u) where
  cells := fun j hj => by rw [World.cell?_setCell_other _ _ _ _ (by intro e; exact hne (by rw [e]))]; exact h.cells j hj
  some_ := fun j hj => by rw [World.cell?_setCell_other _ _ _ _ (by intro e; exact hne (by rw [e]))]; exact h.some_ j hj
  fz := fun j hj => by rw [World.frozen?_setCell]; exact h.fz j hj
  le := h.le
  lt := by simpa [World.setCell] using h.lt
  bel := h.bel.setCell hle _
theorem fillM_set {n i : Nat} {t : List Int} (hi : i < n) {v : Int} (hv : t[i]? = some v) : (t.take i ++ List.replicate (n - i) 0).set i v = t.take (i + 1) ++ List.replicate (n - (i + 1)) 0 := by
  have hl : i < t.length := (List.getElem?_eq_some_iff.1 hv).1
  have e : n - i = (n - (i + 1)) + 1 := by omega
  rw [e, List.replicate_succ, List.set_append_right _ _ (by rw [List.length_take]; omega), List.length_take, Nat.min_eq_left (by omega), Nat.sub_self, List.set_cons_zero, List.take_add_one, hv]
  simp
theorem fillM_length {n i : Nat} {t : List Int} (hi : i ≤ n) (ht : t.length = n) : (t.take i ++ List.replicate (n - i) 0).length = n := by
  rw [List.length_append, List.length_take, List.length_replicate]; omega
theorem and_2047_nat (a : Int) : ∃ q : Nat, Go.bits .and .i64 a 2047 = (q : Int) ∧ q < 2048 ∧ Tab.C (q : Int) = Tab.C a :=
  ⟨(a % 2048).toNat, by rw [and_2047]; omega, by omega, Tab.C_same (by omega)⟩

set_option maxHeartbeats 1000000 in
set_option maxRecDepth 100000 in
theorem sums72.calls (A B : Nat → Int) (many bits : Nat) (hmany : many ≤ 1024) (hb1 : 1 ≤ bits) (hb2 : bits ≤ 62) (B0 : Nat) (A0 : Option Addr) (c0 : Nat) (l : List Int) (w : World) (hlen : l.length ≤ 1024) (hr : Kd.C (Kd.int .i64) w A0 l.length l) (hc : l.length ≤ c0)
    (hg : ∀ (W : World) (i : Nat), i < many → Below w.heap.size w W → Calls Try.prog 72 #[.int .i64 (i : Int), .pointer (some ⟨B0, 0, none⟩)] W fun e w' => e = .returned (.tuple #[.int .i64 (A i), .int .i64 (B i)]) ∧ ∃ nd, w' = W.drewN nd) :
    Calls Try.prog 71 #[.slice A0 l.length c0, .int .i64 (many : Int), .int .i64 (bits : Int), .func (.func 72) #[] #[.pointer (some ⟨B0, 0, none⟩)]] w fun e w' => ∃ v, e = .returned v ∧
      Kd.R (Kd.int .i64) 3 w' w.heap.size (fun _ => True) v ((List.range many).map fun i => rndV (dotW (B i) l (A i) 0) bits) ∧ Below w.heap.size w w' := by
  obtain ⟨vals, hvals⟩ : ∃ vals, ((List.range many).map fun i => rndV (dotW (B i) l (A i) 0) bits) = vals := ⟨_, rfl⟩
  have hvl : vals.length = many := by rw [← hvals]; simp
  have hva : ∀ i, i < many → vals[i]? = some (rndV (dotW (B i) l (A i) 0) bits) := by intro i hi; rw [← hvals]; simp [hi]
  rw [hvals]
  have HVL := Lib.hid hvl
  have HVA := Lib.hid hva
  clear hvals hvl hva
  have HR := Lib.hid hr
  have HG := Lib.hid hg
  clear hr hg
  have hmk := print_make (P := Try.prog) 29 3 .i64 8 Try.underlying29 info3 (by decide) many (by omega)
  go_enter Try.func71, Try.ntmps71
  go_wp2_with fail
  refine (made.calls w).mono ?_
  rintro e w1 ⟨b, rfl, h1⟩
  have HO := Lib.hid (OwnAt.made (m := many) h1.bel h1.bel.size (by omega))
  have H1 := Lib.hid (h1.below ((Below.refl _ _).alloc (Nat.le_refl _) (.cells (madeCells #[.int .i64 0] many) 3)))
  obtain ⟨G, hG⟩ : ∃ G, w1.heap.size = G := ⟨_, rfl⟩
  rw [hG] at HO
  have hbG : b < G := by rw [← hG]; exact h1.lt
  have HGG := Lib.hid hG
  clear h1 hG
  go_wp2_with fail
  rw [HGG.out]
  clear hmk
  go_loopw [22] (fun v22 wr => ∃ (i : Nat), i ≤ many ∧ v22 = .int .i64 (i : Int) ∧ Hid (OwnAt w.heap.size G (vals.take i ++ List.replicate (many - i) 0) w wr) ∧ Hid (Circle w.heap.size b 2048 w wr)) (fun v22 _ => (many - intOf v22).toNat)
  case atStart => exact ⟨0, by omega, rfl, by simpa using HO, H1⟩
  case round =>
    clear HO H1
    obtain ⟨i, hi, rfl, HO, H1⟩ := hrel
    by_cases hlt : i < many
    · go_wp2_with fail
      refine (HG.out wr i hlt HO.out.bel).mono ?_
      rintro e w2 ⟨rfl, nd, rfl⟩
      obtain ⟨wq, hwq⟩ : ∃ wq : World, wr.drewN nd = wq := ⟨_, rfl⟩
      have HO2 := Lib.hid (HO.out.drewN nd)
      have H2 := Lib.hid (H1.out.below (pw_below_drewN (Below.refl _ wr) nd))
      rw [hwq] at HO2 H2 ⊢
      clear hwq HO H1
      go_wp2_with fail
      obtain ⟨D, hD⟩ : ∃ D, dotW (B i) l (A i) 0 = D := ⟨_, rfl⟩
      have hvi := HVA.out i hlt
      rw [hD] at hvi
      have HD := Lib.hid hD
      have HVI := Lib.hid hvi
      clear hD hvi
      go_loop [12, 14, 33] (fun v12 v14 v33 => ∃ (j : Nat) (a s : Int), j ≤ l.length ∧ v12 = .int .i64 a ∧ v14 = .int .i64 s ∧ v33 = .int .i64 (j : Int) ∧ Hid (dotW (B i) (l.drop j) a s = D)) (fun _ _ v33 => (l.length - intOf v33).toNat)
      case atStart => exact ⟨0, A i, 0, by omega, rfl, rfl, rfl, HD⟩
      case round =>
        clear HD
        obtain ⟨j, a, s, hj, rfl, rfl, rfl, HD⟩ := hrel
        by_cases hjl : j < l.length
        · have hd : l.drop j = rd l (j : Int) :: l.drop (j + 1) := by
            rw [List.drop_eq_getElem_cons hjl]
            congr 1
            unfold rd
            rw [show ((j : Int)).toNat = j by omega, List.getD_eq_getElem?_getD, List.getElem?_eq_getElem hjl]; rfl
          have hn := HD.out
          rw [hd, dotW] at hn
          obtain ⟨ad, rfl, hcell⟩ := Kd.at_int HR.out (j : Int) (by omega) (by omega)
          replace hcell := (H2.out.bel.cell (World.block_lt_of_cell? w _ hcell)).trans hcell
          obtain ⟨q, hq, hq2, hq3⟩ := and_2047_nat a
          have hcirc := H2.out.cells q hq2
          rw [hq3] at hcirc
          obtain ⟨x, hx⟩ : ∃ x, rd l (j : Int) = x := ⟨_, rfl⟩
          rw [hx] at hn hcell
          obtain ⟨c, hc'⟩ : ∃ c, Tab.C a = c := ⟨_, rfl⟩
          rw [hc'] at hn hcirc
          obtain ⟨p, hp⟩ : ∃ p, wrap64 (x * c) = p := ⟨_, rfl⟩
          have hp' : IntKind.i64.wrap (x * c) = p := (i64_w _).trans hp
          rw [hp] at hn
          obtain ⟨s', hs⟩ : ∃ s', wrap64 (s + p) = s' := ⟨_, rfl⟩
          have hs' : IntKind.i64.wrap (s + p) = s' := (i64_w _).trans hs
          rw [hs] at hn
          obtain ⟨a', ha⟩ : ∃ a', wrap64 (a + B i) = a' := ⟨_, rfl⟩
          have ha' : IntKind.i64.wrap (a + B i) = a' := (i64_w _).trans ha
          rw [ha] at hn
          have HN := Lib.hid hn
          clear hn hd hx hc' hp hs ha hq3 HD
          have hjk : (j : Int).toNat = j := by omega
          simp only [hjk] at hcell
          clear hjk
          go_wp2_with fail
          go_round
          case rel => exact ⟨j + 1, a', s', by omega, rfl, rfl, by go_num, HN⟩
          case measure => simp [intOf]; omega
        · obtain rfl : j = l.length := by omega
          have hD2 : s = D := by
            have := HD.out
            rw [List.drop_length] at this
            exact this
          subst hD2
          clear HD
          obtain ⟨v, e, h5, h6⟩ := round_some s hb1 hb2
          have hvi := HVI.out
          rw [h6] at hvi
          have HVI2 := Lib.hid hvi
          have H5 := Lib.hid h5
          clear hvi h5 h6 HVI
          go_wp2_with fail
          refine (fix_Round.calls 1 s (bits : Int) v e _ H5.out).mono ?_
          rintro e w3 ⟨rfl, hdr⟩
          obtain ⟨nd2, hnd2⟩ := hdr.out
          obtain ⟨wz, hwz⟩ : ∃ wz : World, wq.drewN nd2 = wz := ⟨_, rfl⟩
          have HO3 := Lib.hid (HO2.out.drewN nd2)
          have H3 := Lib.hid (H2.out.below (pw_below_drewN (Below.refl _ wq) nd2))
          subst hnd2
          rw [hwz] at HO3 H3 ⊢
          clear hwz HO2 H2 hdr
          have hfl : i < (vals.take i ++ List.replicate (many - i) 0).length := by rw [fillM_length hi HVL.out]; exact hlt
          have hat := HO3.out.at_ hfl
          obtain ⟨x0, hx0⟩ : ∃ x0, (vals.take i ++ List.replicate (many - i) 0).getD i 0 = x0 := ⟨_, rfl⟩
          rw [hx0] at hat
          obtain ⟨hat1, hat2⟩ := hat
          have hput := HO3.out.put i v
          rw [fillM_set hlt HVI2.out] at hput
          have HP := Lib.hid hput
          have hbc : Below (wz.heap.size) wz wz := Below.refl _ _
          have H4 := Lib.hid (H3.out.far (p := ⟨G, i, none⟩) (Nat.ne_of_lt hbG) HO3.out.le (.int .i64 v))
          clear hx0 hput hfl hbc
          go_wp2_with fail
          go_roundw
          case rel => exact ⟨i + 1, by omega, by go_num, HP, H4⟩
          case measure => simp [intOf]; omega

    · obtain rfl : i = many := by omega
      go_wp2_with fail
      go_ret
      have := HO.out.R
      have hv := HVL.out
      rw [Nat.sub_self, List.replicate_zero, List.append_nil, List.take_of_length_le (by omega), hv] at this
      exact ⟨_, rfl, this, HO.out.bel⟩

set_option maxHeartbeats 1000000 in
set_option maxRecDepth 100000 in
theorem sums81.calls (A B : Nat → Int) (many bits : Nat) (hmany : many ≤ 1024) (hb1 : 1 ≤ bits) (hb2 : bits ≤ 62) (B0 : Nat) (A0 : Option Addr) (c0 : Nat) (l : List Int) (w : World) (hlen : l.length ≤ 1024) (hr : Kd.C (Kd.int .i64) w A0 l.length l) (hc : l.length ≤ c0)
    (hg : ∀ (W : World) (i : Nat), i < many → Below w.heap.size w W → Calls Try.prog 81 #[.int .i64 (i : Int), .pointer (some ⟨B0, 0, none⟩)] W fun e w' => e = .returned (.tuple #[.int .i64 (A i), .int .i64 (B i)]) ∧ ∃ nd, w' = W.drewN nd) :
    Calls Try.prog 71 #[.slice A0 l.length c0, .int .i64 (many : Int), .int .i64 (bits : Int), .func (.func 81) #[] #[.pointer (some ⟨B0, 0, none⟩)]] w fun e w' => ∃ v, e = .returned v ∧
      Kd.R (Kd.int .i64) 3 w' w.heap.size (fun _ => True) v ((List.range many).map fun i => rndV (dotW (B i) l (A i) 0) bits) ∧ Below w.heap.size w w' := by
  obtain ⟨vals, hvals⟩ : ∃ vals, ((List.range many).map fun i => rndV (dotW (B i) l (A i) 0) bits) = vals := ⟨_, rfl⟩
  have hvl : vals.length = many := by rw [← hvals]; simp
  have hva : ∀ i, i < many → vals[i]? = some (rndV (dotW (B i) l (A i) 0) bits) := by intro i hi; rw [← hvals]; simp [hi]
  rw [hvals]
  have HVL := Lib.hid hvl
  have HVA := Lib.hid hva
  clear hvals hvl hva
  have HR := Lib.hid hr
  have HG := Lib.hid hg
  clear hr hg
  have hmk := print_make (P := Try.prog) 29 3 .i64 8 Try.underlying29 info3 (by decide) many (by omega)
  go_enter Try.func71, Try.ntmps71
  go_wp2_with fail
  refine (made.calls w).mono ?_
  rintro e w1 ⟨b, rfl, h1⟩
  have HO := Lib.hid (OwnAt.made (m := many) h1.bel h1.bel.size (by omega))
  have H1 := Lib.hid (h1.below ((Below.refl _ _).alloc (Nat.le_refl _) (.cells (madeCells #[.int .i64 0] many) 3)))
  obtain ⟨G, hG⟩ : ∃ G, w1.heap.size = G := ⟨_, rfl⟩
  rw [hG] at HO
  have hbG : b < G := by rw [← hG]; exact h1.lt
  have HGG := Lib.hid hG
  clear h1 hG
  go_wp2_with fail
  rw [HGG.out]
  clear hmk
  go_loopw [22] (fun v22 wr => ∃ (i : Nat), i ≤ many ∧ v22 = .int .i64 (i : Int) ∧ Hid (OwnAt w.heap.size G (vals.take i ++ List.replicate (many - i) 0) w wr) ∧ Hid (Circle w.heap.size b 2048 w wr)) (fun v22 _ => (many - intOf v22).toNat)
  case atStart => exact ⟨0, by omega, rfl, by simpa using HO, H1⟩
  case round =>
    clear HO H1
    obtain ⟨i, hi, rfl, HO, H1⟩ := hrel
    by_cases hlt : i < many
    · go_wp2_with fail
      refine (HG.out wr i hlt HO.out.bel).mono ?_
      rintro e w2 ⟨rfl, nd, rfl⟩
      obtain ⟨wq, hwq⟩ : ∃ wq : World, wr.drewN nd = wq := ⟨_, rfl⟩
      have HO2 := Lib.hid (HO.out.drewN nd)
      have H2 := Lib.hid (H1.out.below (pw_below_drewN (Below.refl _ wr) nd))
      rw [hwq] at HO2 H2 ⊢
      clear hwq HO H1
      go_wp2_with fail
      obtain ⟨D, hD⟩ : ∃ D, dotW (B i) l (A i) 0 = D := ⟨_, rfl⟩
      have hvi := HVA.out i hlt
      rw [hD] at hvi
      have HD := Lib.hid hD
      have HVI := Lib.hid hvi
      clear hD hvi
      go_loop [12, 14, 33] (fun v12 v14 v33 => ∃ (j : Nat) (a s : Int), j ≤ l.length ∧ v12 = .int .i64 a ∧ v14 = .int .i64 s ∧ v33 = .int .i64 (j : Int) ∧ Hid (dotW (B i) (l.drop j) a s = D)) (fun _ _ v33 => (l.length - intOf v33).toNat)
      case atStart => exact ⟨0, A i, 0, by omega, rfl, rfl, rfl, HD⟩
      case round =>
        clear HD
        obtain ⟨j, a, s, hj, rfl, rfl, rfl, HD⟩ := hrel
        by_cases hjl : j < l.length
        · have hd : l.drop j = rd l (j : Int) :: l.drop (j + 1) := by
            rw [List.drop_eq_getElem_cons hjl]
            congr 1
            unfold rd
            rw [show ((j : Int)).toNat = j by omega, List.getD_eq_getElem?_getD, List.getElem?_eq_getElem hjl]; rfl
          have hn := HD.out
          rw [hd, dotW] at hn
          obtain ⟨ad, rfl, hcell⟩ := Kd.at_int HR.out (j : Int) (by omega) (by omega)
          replace hcell := (H2.out.bel.cell (World.block_lt_of_cell? w _ hcell)).trans hcell
          obtain ⟨q, hq, hq2, hq3⟩ := and_2047_nat a
          have hcirc := H2.out.cells q hq2
          rw [hq3] at hcirc
          obtain ⟨x, hx⟩ : ∃ x, rd l (j : Int) = x := ⟨_, rfl⟩
          rw [hx] at hn hcell
          obtain ⟨c, hc'⟩ : ∃ c, Tab.C a = c := ⟨_, rfl⟩
          rw [hc'] at hn hcirc
          obtain ⟨p, hp⟩ : ∃ p, wrap64 (x * c) = p := ⟨_, rfl⟩
          have hp' : IntKind.i64.wrap (x * c) = p := (i64_w _).trans hp
          rw [hp] at hn
          obtain ⟨s', hs⟩ : ∃ s', wrap64 (s + p) = s' := ⟨_, rfl⟩
          have hs' : IntKind.i64.wrap (s + p) = s' := (i64_w _).trans hs
          rw [hs] at hn
          obtain ⟨a', ha⟩ : ∃ a', wrap64 (a + B i) = a' := ⟨_, rfl⟩
          have ha' : IntKind.i64.wrap (a + B i) = a' := (i64_w _).trans ha
          rw [ha] at hn
          have HN := Lib.hid hn
          clear hn hd hx hc' hp hs ha hq3 HD
          have hjk : (j : Int).toNat = j := by omega
          simp only [hjk] at hcell
          clear hjk
          go_wp2_with fail
          go_round
          case rel => exact ⟨j + 1, a', s', by omega, rfl, rfl, by go_num, HN⟩
          case measure => simp [intOf]; omega
        · obtain rfl : j = l.length := by omega
          have hD2 : s = D := by
            have := HD.out
            rw [List.drop_length] at this
            exact this
          subst hD2
          clear HD
          obtain ⟨v, e, h5, h6⟩ := round_some s hb1 hb2
          have hvi := HVI.out
          rw [h6] at hvi
          have HVI2 := Lib.hid hvi
          have H5 := Lib.hid h5
          clear hvi h5 h6 HVI
          go_wp2_with fail
          refine (fix_Round.calls 1 s (bits : Int) v e _ H5.out).mono ?_
          rintro e w3 ⟨rfl, hdr⟩
          obtain ⟨nd2, hnd2⟩ := hdr.out
          obtain ⟨wz, hwz⟩ : ∃ wz : World, wq.drewN nd2 = wz := ⟨_, rfl⟩
          have HO3 := Lib.hid (HO2.out.drewN nd2)
          have H3 := Lib.hid (H2.out.below (pw_below_drewN (Below.refl _ wq) nd2))
          subst hnd2
          rw [hwz] at HO3 H3 ⊢
          clear hwz HO2 H2 hdr
          have hfl : i < (vals.take i ++ List.replicate (many - i) 0).length := by rw [fillM_length hi HVL.out]; exact hlt
          have hat := HO3.out.at_ hfl
          obtain ⟨x0, hx0⟩ : ∃ x0, (vals.take i ++ List.replicate (many - i) 0).getD i 0 = x0 := ⟨_, rfl⟩
          rw [hx0] at hat
          obtain ⟨hat1, hat2⟩ := hat
          have hput := HO3.out.put i v
          rw [fillM_set hlt HVI2.out] at hput
          have HP := Lib.hid hput
          have hbc : Below (wz.heap.size) wz wz := Below.refl _ _
          have H4 := Lib.hid (H3.out.far (p := ⟨G, i, none⟩) (Nat.ne_of_lt hbG) HO3.out.le (.int .i64 v))
          clear hx0 hput hfl hbc
          go_wp2_with fail
          go_roundw
          case rel => exact ⟨i + 1, by omega, by go_num, HP, H4⟩
          case measure => simp [intOf]; omega

    · obtain rfl : i = many := by omega
      go_wp2_with fail
      go_ret
      have := HO.out.R
      have hv := HVL.out
      rw [Nat.sub_self, List.replicate_zero, List.append_nil, List.take_of_length_le (by omega), hv] at this
      exact ⟨_, rfl, this, HO.out.bel⟩

end Go.Proofs.Ytpoppdaaodmicaa.Q
