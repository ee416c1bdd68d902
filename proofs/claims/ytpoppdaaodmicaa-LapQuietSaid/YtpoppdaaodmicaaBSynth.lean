-- Several functions' contracts in one text.
import Derived.Test.YtpoppdaaodmicaaBRange
import Derived.Test.YtpoppdaaodmicaaBMdct
/- block.Synth (53): the walk. -/
namespace Go.Proofs.Ytpoppdaaodmicaa.Q
open Go.RowKit Go.Shelf Go.Proofs.YtpoppdaaodmicaaW.PrintWords Go.Proofs.YtpoppdaaodmicaaW.PrintLast Go.Proofs.YtpoppdaaodmicaaW.PrintMore
attribute [local go_sem] Oper.semAt_some
set_option linter.unusedVariables false
set_option linter.unusedSimpArgs false

/-- Numbers put to their place among others, j of them. -/
def addAt (acc : List Int) (p : Nat) (x : List Int) : Nat → List Int
  | 0 => acc
  | j + 1 => (addAt acc p x j).set (p + j) (wrap64 (rd (addAt acc p x j) ((p + j : Nat) : Int) + rd x (j : Int)))
theorem addAt_length (acc : List Int) (p : Nat) (x : List Int) : ∀ j, (addAt acc p x j).length = acc.length
  | 0 => rfl
  | j + 1 => by rw [addAt, List.length_set, addAt_length acc p x j]
/-- What one window's numbers come of. -/
def Steps53 (l : List Int) (off p : Nat) (X Y : List Int) : Prop := off + X.length / 2 ≤ l.length ∧ 0 < X.length / 2 ∧ (∃ y, mdct_Inverse.f ((l.drop off).take (X.length / 2)) = some (y, 0) ∧ block_times.f 3000 y X 26 = some Y) ∧ p + Y.length ≤ 512 ∧ X.length ≤ 1000

theorem synth_pre {l X Y : List Int} {off p : Nat} (h : Steps53 l off p X Y) : ∃ (m : Nat) (y : List Int), m = X.length / 2 ∧ 0 < m ∧ wrap64 ((X.length : Int) / 2) = (m : Int) ∧ m ≤ (l.drop off).length ∧ ((l.drop off).take m).length = m ∧
    mdct_Inverse.f ((l.drop off).take m) = some (y, 0) ∧ block_times.f 3000 y X 26 = some Y ∧ p + Y.length ≤ 512 ∧ l.drop (off + m) = (l.drop off).drop m := by
  obtain ⟨g1, g2, ⟨y, g3, g4⟩, g5, g6⟩ := h
  refine ⟨X.length / 2, y, rfl, g2, ?_, ?_, ?_, g3, g4, g5, by rw [List.drop_drop]⟩
  · unfold wrap64; omega
  · rw [List.length_drop]; omega
  · rw [List.length_take, List.length_drop]; omega
theorem syn_cut1 {w : World} {adL : Addr} {cL m : Nat} {D : List Int} (h : Kd.C (Kd.int .i64) w (if cL = m then some adL else (some adL).map (·.add (m * (Kd.int .i64).sz))) (D.drop m).length (D.drop m)) (hc : D.length ≤ cL) (hne : ¬ cL = m) :
    Kd.C (Kd.int .i64) w (some (adL.add m)) (D.drop m).length (D.drop m) ∧ (D.drop m).length ≤ cL - m := by
  rw [if_neg hne] at h
  have hs : (Kd.int .i64).sz = 1 := rfl
  rw [hs, Nat.mul_one] at h
  exact ⟨h, by rw [List.length_drop]; omega⟩
theorem syn_cut2 {w : World} {adL : Addr} {cL m : Nat} {D : List Int} (h : Kd.C (Kd.int .i64) w (if cL = m then some adL else (some adL).map (·.add (m * (Kd.int .i64).sz))) (D.drop m).length (D.drop m)) (hc : D.length ≤ cL) (he : m = cL) :
    Kd.C (Kd.int .i64) w (some adL) (D.drop m).length (D.drop m) ∧ (D.drop m).length ≤ 0 := by
  rw [if_pos he.symm] at h
  exact ⟨h, by rw [List.length_drop]; omega⟩
theorem put_facts {p j n M : Nat} (h : j < n) (h2 : p + n ≤ 512) (hM : M = 512) : wrap64 ((p : Int) + (j : Int)) = (p : Int) + (j : Int) ∧ wrap64 ((j : Int) + 1) = (j : Int) + 1 ∧ ((p : Int) + (j : Int)).toNat = p + j ∧ (0 : Int) ≤ (p : Int) + (j : Int) ∧ (p : Int) + (j : Int) < (M : Int) ∧ ((p + j : Nat) : Int) < (M : Int) := by
  refine ⟨?_, ?_, by omega, by omega, by omega, by omega⟩
  · unfold wrap64; omega
  · unfold wrap64; omega
theorem far_of_base {W : World} {base : Nat} {ok : Nat → Prop} {v : Value} {xs : List Int} {p : Addr} (h : Kd.R (Kd.int .i64) 3 W base ok v xs) (hB : p.block < base) (u : Value) : Kd.R (Kd.int .i64) 3 (W.setCell p u) base (fun _ => True) v xs :=
  Kd.R_mono (Kd.R_far (p := p) (Kd.R_bound h) (fun k hk => Nat.ne_of_gt (Nat.lt_of_lt_of_le hB hk.2.1)) u) (fun _ _ => trivial)
/-- The boxes of the call's own that a round leaves as they are, and the row of what it answers. -/
structure Core53 (w : World) (G M : Nat) (L : List Int) (W : World) : Prop where
  b1 : Boxed W (w.heap.size + 1) 29 (.slice none 0 0)
  b2 : Boxed W (w.heap.size + 1 + 1) 32 (.int .i64 0)
  b3 : Boxed W (G + 1) 29 (.slice (some ⟨G, 0, none⟩) M M)
  row : Kd.R (Kd.int .i64) 3 W G (fun k => k = G) (.slice (some ⟨G, 0, none⟩) M M) L
  bel : Below w.heap.size w W
  far : w.heap.size + 1 + 1 + 1 ≤ G
section
variable {w W W' : World} {G M : Nat} {L : List Int}
theorem Core53.below (h : Core53 w G M L W) (hb : Below W.heap.size W W') : Core53 w G M L W' := ⟨Boxed_below h.b1 hb, Boxed_below h.b2 hb, Boxed_below h.b3 hb, Kd.R_below h.row hb, h.bel.trans (hb.mono h.bel.size), h.far⟩
theorem Core53.put (h : Core53 w G M L W) {l : Nat} {o : Obj} (o' : Obj) (hl : W.heap[l]? = some o) (ho : o.isCells = false) (hG : G + 1 < l) : Core53 w G M L (W.putObj l o') := by
  have := h.far
  exact ⟨Boxed_putObj o' h.b1 (by omega), Boxed_putObj o' h.b2 (by omega), Boxed_putObj o' h.b3 (by omega), R_putObj o' h.row hl ho, Below_putObj o' h.bel (by omega), h.far⟩
theorem boxed_set {B : Nat} {t : TypeId} {v : Value} {a : Addr} (h : Boxed W B t v) (hne : B ≠ a.block) (u : Value) : Boxed (W.setCell a u) B t v := (Below.heap_setCell _ _ _ _ hne).trans h
theorem Core53.setP (h : Core53 w G M L W) (u : Value) : Core53 w G M L (W.setCell ⟨w.heap.size, 0, none⟩ u) := by
  have := h.far
  exact ⟨boxed_set h.b1 (by simp) u, boxed_set h.b2 (by simp; omega) u, boxed_set h.b3 (by simp; omega) u, Kd.R_far (p := ⟨w.heap.size, 0, none⟩) h.row (fun k hk => by subst hk; simp; omega) u, h.bel.setCell (by simp) u, h.far⟩
theorem Core53.setG (h : Core53 w G M L W) (hL : L.length = M) (i : Int) (x : Int) : Core53 w G M (L.set i.toNat x) (W.setCell ⟨G, i.toNat, none⟩ (.int .i64 x)) := by
  have := h.far
  have hr := h.row
  have e : Value.slice (some ⟨G, 0, none⟩) M M = Value.slice (some ⟨G, 0, none⟩) L.length M := by rw [hL]
  rw [e] at hr
  have hp := (Kd.R_put (enc := Value.int .i64) (h1 := fun _ => rfl) hr i x).1
  rw [← e] at hp
  exact ⟨boxed_set h.b1 (by simp; omega) _, boxed_set h.b2 (by simp; omega) _, boxed_set h.b3 (by simp) _, hp, h.bel.setCell (by simp; omega) _, h.far⟩
theorem Core53.cell (h : Core53 w G M L W) (hL : L.length = M) (i : Int) (h0 : 0 ≤ i) (hi : i < (M : Int)) : W.cell? ⟨G, i.toNat, none⟩ = some (.int .i64 (rd L i)) ∧ W.frozen? ⟨G, i.toNat, none⟩ = false := by
  have hr := h.row
  have e : Value.slice (some ⟨G, 0, none⟩) M M = Value.slice (some ⟨G, 0, none⟩) L.length M := by rw [hL]
  rw [e] at hr
  have hc := Kd.R_cell (enc := Value.int .i64) (h1 := fun _ => rfl) (0 : Int) hr i h0 (by rw [hL]; exact hi)
  exact hc
end
/-- What a round keeps of the world that it began in. -/
structure Moved53 (P G B : Nat) (W0 W : World) : Prop where
  keeps : KeepsOthers W0 W
  stays : Stays (fun k => k = P ∨ k = G) B W0 W
  ge : B ≤ W.heap.size
section
variable {P G B : Nat} {W0 W W' : World}
theorem Moved53.below (h : Moved53 P G B W0 W) (hb : Below W.heap.size W W') : Moved53 P G B W0 W' := ⟨h.keeps.trans (KeepsOthers.of_below hb), h.stays.trans (Stays.below hb h.ge), Nat.le_trans h.ge hb.size⟩
theorem Moved53.set (h : Moved53 P G B W0 W) {a : Addr} (u : Value) (ha : a.block = P ∨ a.block = G) : Moved53 P G B W0 (W.setCell a u) :=
  ⟨h.keeps.trans (KeepsOthers.setCell _ _ _), h.stays.trans (Stays.setCell _ (.inl ha)), Nat.le_trans h.ge (KeepsWalks.setCell W a u).size⟩
end
/-- What may be read may be read behind a store into a box that holds a slice. -/
theorem C_set {W : World} {A : Option Addr} {n : Nat} {xs : List Int} {B : Nat} {A' : Option Addr} {n' c' : Nat} (v : Value) (h : Kd.C (Kd.int .i64) W A n xs) (hb : Boxed W B 29 (.slice A' n' c')) : Kd.C (Kd.int .i64) (W.setCell ⟨B, 0, none⟩ v) A n xs := by
  refine ⟨h.1, h.2.1, fun hn => ?_⟩
  obtain ⟨ad, ha, hc⟩ := h.2.2 hn
  refine ⟨ad, ha, fun j p hj => ?_⟩
  obtain ⟨c, h1, h2, h3⟩ := hc j p hj
  refine ⟨c, h1, h2, fun i u hi => ?_⟩
  have hcell := h3 i u hi
  have h2' : c = [Value.int .i64 p] := h2
  have hu : u = .int .i64 p := by
    rw [h2'] at hi
    cases i with
    | zero => exact (Option.some.inj hi).symm
    | succ i => simp at hi
  have hne : (ad.add (j * (Kd.int .i64).sz + i)).block ≠ B := by
    intro e
    unfold World.cell? at hcell
    rw [e, show W.heap[B]? = _ from hb] at hcell
    dsimp only at hcell
    split at hcell
    · cases hcell
    · have := List.getElem?_eq_some_iff.1 (by simpa using hcell : [Value.slice A' n' c'][(ad.add (j * (Kd.int .i64).sz + i)).off]? = some u)
      obtain ⟨hlt, he⟩ := this
      have h0 : (ad.add (j * (Kd.int .i64).sz + i)).off = 0 := by simp at hlt; exact hlt
      simp only [h0] at he
      rw [hu] at he
      cases he
  exact (World.cell?_of_block (Below.heap_setCell W _ v _ (by simpa using hne))).trans hcell
theorem syn_ne1 {P G : Nat} (h : P + 1 + 1 + 1 ≤ G) : P ≠ G := by omega
theorem syn_lt {P G W0 W2 w4 : Nat} (h : P + 1 + 1 + 1 ≤ G ∧ W0 = G + 1 + 1 ∧ W2 = W0 + 1 + 1 + 1) (h4 : W2 ≤ w4) : G < w4 := by omega
theorem syn_measure {n j : Nat} (h : j < n) : ((n : Int) - ((j : Int) + 1)).toNat < ((n : Int) - (j : Int)).toNat := by omega
set_option maxRecDepth 100000 in
set_option maxHeartbeats 4000000 in
theorem synth_walk (a0 a1 a2 : Int) (ad : Addr) (c0 : Nat) (l : List Int) (w : World) (hr : Kd.C (Kd.int .i64) w (some ad) l.length l) (hc : l.length ≤ c0) (hl : l.length = 256) (hask : block_asked.f 3000 a0 a1 a2 l 256 (-268435455) 268435455 = some 0)
    (N : Nat) (hN : N ≤ 8) (pos off : Nat → Nat) (val out acc : Nat → List Int)
    (hseq : ∀ (B : Nat) (W : World) (T : Nat → Prop), B + 1 + 1 < W.heap.size → ¬ T B ∧ ¬ T (B + 1) ∧ ¬ T (B + 1 + 1) → W.cell? ⟨B, 0, none⟩ = some (.int .u8 a0) → W.cell? ⟨B + 1, 0, none⟩ = some (.int .u8 a1) → W.cell? ⟨B + 1 + 1, 0, none⟩ = some (.int .u8 a2) →
      SeqGo Fence.wide 11 Try.prog 107 #[.pointer (some ⟨B, 0, none⟩), .pointer (some ⟨B + 1, 0, none⟩), .pointer (some ⟨B + 1 + 1, 0, none⟩)] T W.heap.size N (Gd2 (fun i => (pos i : Int)) val) W)
    (hstep : ∀ i, i < N → Steps53 l (off i) (pos i) (val i) (out i)) (hoff : off 0 = 0 ∧ ∀ i, i < N → off (i + 1) = off i + (val i).length / 2) (hacc : acc 0 = List.replicate 512 0 ∧ ∀ i, i < N → acc (i + 1) = addAt (acc i) (pos i) (out i) (out i).length) (hal : ∀ i, (acc i).length = 512) (M : Nat) (hM : M = 512) :
    Calls Try.prog 53 #[.int .u8 a0, .int .u8 a1, .int .u8 a2, .slice (some ad) l.length c0] w fun e w' => ∃ v, e = .returned (.tuple #[v, .int .i64 0]) ∧ Kd.R (Kd.int .i64) 3 w' w.heap.size (fun _ => True) v (acc N) ∧ Below w.heap.size w w' := by
  have b1 := Boxed.new w 29 (.slice (some ad) l.length c0)
  have b2 := Boxed.new (w.alloc (.cells #[.slice (some ad) l.length c0] 29)) 29 (.slice none 0 0)
  have b3 := Boxed.new ((w.alloc (.cells #[.slice (some ad) l.length c0] 29)).alloc (.cells #[.slice none 0 0] 29)) 32 (.int .i64 0)
  rw [World.size_alloc] at b2
  rw [World.size_alloc, World.size_alloc] at b3
  have hb0 : Below w.heap.size w (((w.alloc (.cells #[.slice (some ad) l.length c0] 29)).alloc (.cells #[.slice none 0 0] 29)).alloc (.cells #[.int .i64 0] 32)) := (((Below.refl _ w).alloc (Nat.le_refl _) _).alloc (by simp) _).alloc (by simp; omega) _
  have HA := Lib.hid (block_asked.calls 3000 a0 a1 a2 (some ad) c0 l 256 (-268435455) 268435455 0 _ (Kd.C_below hr hb0) hc hask)
  have B1 := Lib.hid ((b1.alloc (.cells #[.slice none 0 0] 29)).alloc (.cells #[.int .i64 0] 32))
  have B2 := Lib.hid (b2.alloc (.cells #[.int .i64 0] 32))
  have B3 := Lib.hid b3
  have HB0 := Lib.hid hb0
  have HR := Lib.hid hr
  have HSQ := Lib.hid hseq
  have HST := Lib.hid hstep
  have HOFF := Lib.hid hoff
  have HACC := Lib.hid hacc
  have HAL := Lib.hid (fun i => (hal i).trans hM.symm)
  have HM := Lib.hid hM
  have HL := Lib.hid hl
  have HC := Lib.hid hc
  clear b1 b2 b3 hb0 hr hseq hstep hoff hacc hal hl hask hc hM
  refine (callsIn_wide (n := 12)).1 ?_
  refine callsIn_of_wp_marks Try.func53 rfl trivial ?_ rfl
  simp only [Try.ntmps53, List.size_toArray, List.length_cons, List.length_nil, Nat.reduceAdd, Nat.reduceSub, Array.replicate_succ, Array.replicate_zero, List.push_toArray, List.append_toArray, List.nil_append, List.cons_append]
  gi_wp2_with fail
  refine ⟨trivial, (callsIn_wide.2 HA.out).mono ?_⟩
  rintro e w1 ⟨rfl, hb1⟩
  have C1 := Lib.hid (Boxed_below B1.out hb1)
  have C2 := Lib.hid (Boxed_below B2.out hb1)
  have C3 := Lib.hid (Boxed_below B3.out hb1)
  have HB1 := Lib.hid (HB0.out.trans (hb1.mono (HB0.out.size)))
  have hmk : ∀ W : World, (Instr.makeSlice 29 (.int .i64 512) (.int .i64 512)).run Try.prog W = .ok (.slice (some ⟨W.heap.size, 0, none⟩) M M) (W.alloc (.cells (madeCells #[.int .i64 0] M) 3)) := by
    rw [HM.out]
    exact print_make_of 29 3 (.int .i64 0) 8 Try.underlying29 info3 rfl (by omega) 512 (by omega)
  clear hb1 B1 B2 B3 HA
  gi_wp2_with fail
  obtain ⟨W0, hW0⟩ : ∃ W0, (w1.alloc (.cells (madeCells #[.int .i64 0] M) 3)).alloc (.cells #[.slice (some ⟨w1.heap.size, 0, none⟩) M M] 29) = W0 := ⟨_, rfl⟩
  have hbW0 : Below w1.heap.size w1 W0 := by rw [← hW0]; exact ((Below.refl _ w1).alloc (Nat.le_refl _) _).alloc (by simp) _
  have hsW0 : W0.heap.size = w1.heap.size + 1 + 1 := by rw [← hW0]; simp
  have hrow0 : Kd.R (Kd.int .i64) 3 W0 w1.heap.size (fun k => k = w1.heap.size) (.slice (some ⟨w1.heap.size, 0, none⟩) M M) (List.replicate M 0) := by
    have h := own_made_of (enc := Value.int .i64) (d := (0 : Int)) w1 w1.heap.size 3 M (Nat.le_refl _) (by rw [HM.out]; decide)
    have h2 : Kd.R (Kd.int .i64) 3 (w1.alloc (.cells (madeCells #[.int .i64 0] M) 3)) w1.heap.size (fun k => k = w1.heap.size) (.slice (some ⟨w1.heap.size, 0, none⟩) M M) (List.replicate M 0) := by
      refine Kd.R_of_own (enc := Value.int .i64) ?_ (fun k hk => by simpa [Value.ownBlock] using hk.symm)
      rw [List.length_replicate]
      exact h
    rw [← hW0]
    exact Kd.R_below h2 ((Below.refl _ _).alloc (Nat.le_refl _) _)
  have hbx0 : Boxed W0 (w1.heap.size + 1) 29 (.slice (some ⟨w1.heap.size, 0, none⟩) M M) := by
    have h := Boxed.new (w1.alloc (.cells (madeCells #[.int .i64 0] M) 3)) 29 (.slice (some ⟨w1.heap.size, 0, none⟩) M M)
    rw [World.size_alloc] at h
    rw [← hW0]
    exact h
  rw [hW0]
  have HROW0 := Lib.hid hrow0
  have HBX0 := Lib.hid hbx0
  have E1 := Lib.hid (Boxed_below C1.out hbW0)
  have E2 := Lib.hid (Boxed_below C2.out hbW0)
  have E3 := Lib.hid (Boxed_below C3.out hbW0)
  have HBW0 := Lib.hid (HB1.out.trans (hbW0.mono HB1.out.size))
  have HSW0 := Lib.hid hsW0
  have hs1 : w.heap.size + 1 + 1 + 1 ≤ w1.heap.size := by have := C3.out.lt; omega
  have HS1 := Lib.hid hs1
  have HWC := Lib.hid (windows.calls a0 a1 a2 W0)
  clear hW0 hrow0 hbx0 hbW0 hsW0 hs1 C1 C2 C3 hmk
  refine ⟨trivial, (callsIn_wide.2 HWC.out).mono ?_⟩
  rintro e w2 ⟨rfl, hw2⟩
  have q1 := Boxed.new W0 5 (.int .u8 a0)
  have q2 := Boxed.new (W0.alloc (.cells #[.int .u8 a0] 5)) 5 (.int .u8 a1)
  have q3 := Boxed.new ((W0.alloc (.cells #[.int .u8 a0] 5)).alloc (.cells #[.int .u8 a1] 5)) 5 (.int .u8 a2)
  rw [World.size_alloc] at q2
  rw [World.size_alloc, World.size_alloc] at q3
  replace q1 := (q1.alloc (.cells #[.int .u8 a1] 5)).alloc (.cells #[.int .u8 a2] 5)
  replace q2 := q2.alloc (.cells #[.int .u8 a2] 5)
  rw [← hw2] at q1 q2 q3
  have hs2 : w2.heap.size = W0.heap.size + 1 + 1 + 1 := by rw [hw2]; simp
  have hb2 : Below W0.heap.size W0 w2 := by rw [hw2]; exact (((Below.refl _ W0).alloc (Nat.le_refl _) _).alloc (by simp) _).alloc (by simp; omega) _
  have HSQ2 := Lib.hid (HSQ.out W0.heap.size w2 (fun k => k = w.heap.size ∨ k = w1.heap.size) (by omega) (by have h1 := HSW0.out; have h2 := HS1.out; exact ⟨by omega, by omega, by omega⟩) q1.cell q2.cell q3.cell)
  have D1 := Lib.hid (Boxed_below E1.out hb2)
  have D2 := Lib.hid (Boxed_below E2.out hb2)
  have D3 := Lib.hid (Boxed_below E3.out hb2)
  have D4 := Lib.hid (Boxed_below HBX0.out hb2)
  have D5 := Lib.hid (Kd.R_below HROW0.out hb2)
  have HB2 := Lib.hid (HBW0.out.trans (hb2.mono HBW0.out.size))
  have HS2 := Lib.hid (⟨HS1.out, HSW0.out, hs2⟩ : _ ∧ _ ∧ _)
  clear hs2 hw2 hb2 HSQ HWC E1 E2 E3 HBX0 HROW0 HBW0 q1 q2 q3 HB1 HS1 HSW0
  gi_wp2_with fail
  refine wpIn_range_seq rfl (by omega) (gf := 107) (lb := #[.pointer (some ⟨W0.heap.size, 0, none⟩), .pointer (some ⟨W0.heap.size + 1, 0, none⟩), .pointer (some ⟨W0.heap.size + 1 + 1, 0, none⟩)]) rfl trivial (enters_of Try.func107 (by kernel_rfl) rfl)
    HSQ2.out (Nat.le_refl _) (fun i vs W h => by obtain ⟨A, c, rfl, _⟩ := h; rfl) (gd2_put _ _)
    (fun i W => (∃ A c, Boxed W w.heap.size 29 (.slice A (l.drop (off i)).length c) ∧ Kd.C (Kd.int .i64) w A (l.drop (off i)).length (l.drop (off i)) ∧ (l.drop (off i)).length ≤ c) ∧ Core53 w w1.heap.size M (acc i) W ∧ w2.heap.size ≤ W.heap.size)
    ?ib ?ip ?i0 ?round ?done
  case ib =>
    rintro i X Y ⟨⟨A, c, hv, hC, hc⟩, h2, h7⟩ hb
    exact ⟨⟨A, c, Boxed_below hv hb, hC, hc⟩, h2.below hb, Nat.le_trans h7 hb.size⟩
  case ip =>
    rintro i X k o o' ⟨⟨A, c, hv, hC, hc⟩, h2, h7⟩ hk hl ho
    have := HS2.out
    exact ⟨⟨A, c, Boxed_putObj o' hv (by omega), hC, hc⟩, h2.put o' hl ho (by omega), by simp; omega⟩
  case i0 =>
    refine ⟨⟨some ad, c0, ?_, ?_, ?_⟩, ⟨D2.out, D3.out, D4.out, ?_, HB2.out, HS2.out.1⟩, Nat.le_refl _⟩
    · rw [HOFF.out.1, List.drop_zero]; exact D1.out
    · rw [HOFF.out.1, List.drop_zero]; exact HR.out
    · rw [HOFF.out.1, List.drop_zero]; exact HC.out
    · rw [HACC.out.1, ← HM.out]; exact D5.out
  case round =>
    rintro l' i vs W hiN hI ⟨A, c, rfl, hCv, hcv⟩
    refine ⟨?a₁, ?asg, ?bdy⟩
    case asg =>
      intro K hK
      gi_wp2_with fail
      exact hK
    case bdy =>
      rintro W2 ⟨⟨AL, cL, hlb, hLC, hLc⟩, hcore, hsz⟩ ⟨A', c', hvs, hCv2, hcv2⟩ hsW
      have hvs2 : Value.slice A (val i).length c = Value.slice A' (val i).length c' := by
        simp only [Array.mk.injEq, List.cons.injEq] at hvs
        exact hvs.2.1
      obtain ⟨m, y, hm, hm0, hq, hDm, hlt, g3, g4, g5, hdd⟩ := synth_pre (HST.out i hiN)
      have hoffi := HOFF.out.2 i hiN
      have hacci := HACC.out.2 i hiN
      have hCX : Kd.C (Kd.int .i64) W2 A (val i).length (val i) := by cases hvs2; exact hCv2
      have hcX : (val i).length ≤ c := by cases hvs2; exact hcv2
      clear hI hCv hcv hvs hCv2 hcv2 hvs2
      rw [← hm] at hoffi
      have hnext : l.drop (off (i + 1)) = (l.drop (off i)).drop m := by rw [hoffi]; exact hdd
      generalize l.drop (off i) = D at hDm hlt g3 hnext hdd hlb hLC hLc
      obtain ⟨adL, rfl, _⟩ := hLC.2.2 (Nat.lt_of_lt_of_le hm0 hDm)
      have hcm : m ≤ cL := Nat.le_trans hDm hLc
      have hC1 := Kd.C_take hLC hDm
      rw [hlt] at hC1
      have hI := mdct_Inverse.calls (some adL) cL (D.take m) y 0 W2
      rw [hlt] at hI
      have HI := Lib.hid (hI (Kd.C_below hC1 hcore.bel) hcm g3)
      have hC2 := Kd.C_drop hLC hDm hLc
      have HLC := Lib.hid hC2
      have HLc := Lib.hid (⟨hLc, hDm, hcm⟩ : _ ∧ _ ∧ _)
      have HGX := Lib.hid (⟨hCX, hcX, g4, g5, hacci, hnext, hm0⟩ : _ ∧ _ ∧ _ ∧ _ ∧ _ ∧ _ ∧ _)
      have HCO := Lib.hid hcore
      have HLB := Lib.hid hlb
      have HMV := Lib.hid (⟨KeepsOthers.refl _, Stays.refl _ _ _, hsz⟩ : Moved53 w.heap.size w1.heap.size w2.heap.size W2 W2)
      have hPlt := hlb.lt
      have hlc := hlb.cell
      clear g3 g4 g5 hoffi hacci hnext hm hdd hC1 hlt hI hC2 hLC hLc hCX hcX hlb hcore hDm
      rcases Nat.lt_or_eq_of_le hcm with hcase | hcase
      · have hcase2 : ¬ cL = m := Nat.ne_of_gt hcase
        have HLN := Lib.hid (syn_cut1 HLC.out HLc.out.1 hcase2)
        gi_wp2_with fail
        refine ⟨trivial, (CallsIn.inRound l' (callsIn_wide.2 HI.out)).mono ?_⟩
        rintro e w3 ⟨v3, rfl, hv3, hb3⟩
        obtain ⟨A3, c3, rfl⟩ := Kd.R_slice hv3
        have hlb3 := Boxed_below HLB.out hb3
        have hlc3 := hlb3.cell
        have hlf3 := hlb3.frozen
        have HB3 := Lib.hid hb3
        have HY := Lib.hid hv3
        have HLB3 := Lib.hid hlb3
        have hDm := HLc.out.2.1
        clear hv3 hb3 hlb3 hlc
        gi_wp2_with fail
        obtain ⟨w4, hw4⟩ : ∃ w4, w3.setCell ⟨w.heap.size, 0, none⟩ (.slice (some (adL.add m)) (D.length - m) (cL - m)) = w4 := ⟨_, rfl⟩
        rw [hw4]
        have hbx4 : Boxed w4 w.heap.size 29 (.slice (some (adL.add m)) (D.length - m) (cL - m)) := by rw [← hw4]; exact HLB3.out.set _
        have hcore4 : Core53 w w1.heap.size M (acc i) w4 := by rw [← hw4]; exact (HCO.out.below HB3.out).setP _
        have hmv4 : Moved53 w.heap.size w1.heap.size w2.heap.size W2 w4 := by rw [← hw4]; exact (HMV.out.below HB3.out).set _ (.inl rfl)
        have hY4 := far_of_base (p := ⟨w.heap.size, 0, none⟩) HY.out hPlt (.slice (some (adL.add m)) (D.length - m) (cL - m))
        have hX4 := C_set (.slice (some (adL.add m)) (D.length - m) (cL - m)) (Kd.C_below HGX.out.1 HB3.out) HLB3.out
        rw [hw4] at hY4 hX4
        have HT := Lib.hid (block_times.calls 3000 A3 c3 y A c (val i) 26 (out i) w4 (Kd.R_reads' hY4).2.2 (Kd.R_reads' hY4).2.1 hX4 HGX.out.2.1 HGX.out.2.2.1)
        have HX4 := Lib.hid hbx4
        have HC4 := Lib.hid hcore4
        have HM4 := Lib.hid hmv4
        clear hw4 hbx4 hcore4 hmv4 hY4 hX4
        refine ⟨trivial, (CallsIn.inRound l' (callsIn_wide.2 HT.out)).mono ?_⟩
        rintro e w5 ⟨v5, rfl, hv5, hb5⟩
        obtain ⟨A5, c5, rfl⟩ := Kd.R_slice hv5
        have HV5 := Lib.hid hv5
        have HX5 := Lib.hid (Boxed_below HX4.out hb5)
        have HC5 := Lib.hid (HC4.out.below hb5)
        have HM5 := Lib.hid (HM4.out.below hb5)
        clear hv5 hb5 hlc3 hlf3
        gi_wp2_with fail
        gi_loopw [54] (fun v54 wr => ∃ j : Nat, j ≤ (out i).length ∧ v54 = .int .i64 (j : Int) ∧ Hid (Core53 w w1.heap.size M (addAt (acc i) (pos i) (out i) j) wr) ∧ Hid (Boxed wr w.heap.size 29 (.slice (some (adL.add m)) (D.length - m) (cL - m))) ∧
          Hid (Kd.R (Kd.int .i64) 3 wr w4.heap.size (fun _ => True) (.slice A5 (out i).length c5) (out i)) ∧ Hid (Moved53 w.heap.size w1.heap.size w2.heap.size W2 wr)) (fun v54 wr => ((out i).length - intOf v54).toNat)
        case atStart => exact ⟨0, Nat.zero_le _, rfl, HC5, HX5, HV5, HM5⟩
        case round =>
          obtain ⟨j, hj, rfl, HCj, HXj, HVj, HMj⟩ := hrel
          by_cases hlt : j < (out i).length
          · obtain ⟨ad5, hA5, hcell⟩ := Kd.at_int (Kd.R_reads' HVj.out).2.2 (j : Int) (Int.natCast_nonneg _) (Int.ofNat_lt.mpr hlt)
            subst hA5
            rw [Int.toNat_natCast] at hcell
            obtain ⟨hw1, hw2, hw3, hp0, hp1, hp2⟩ := put_facts hlt HGX.out.2.2.2.1 HM.out
            obtain ⟨hoc, hof⟩ := HCj.out.cell (by rw [addAt_length]; exact HAL.out i) ((pos i + j : Nat) : Int) (Int.natCast_nonneg _) hp2
            rw [Int.toNat_natCast] at hoc hof
            have hobx := HCj.out.b3.cell
            have HSG := Lib.hid (fun x => HCj.out.setG (by rw [addAt_length]; exact HAL.out i) ((pos i + j : Nat) : Int) x)
            obtain ⟨X0, hX0⟩ : ∃ x, rd (out i) (j : Int) = x := ⟨_, rfl⟩
            obtain ⟨Y0, hY0⟩ : ∃ x, rd (addAt (acc i) (pos i) (out i) j) ((pos i + j : Nat) : Int) = x := ⟨_, rfl⟩
            rw [hX0] at hcell
            rw [hY0] at hoc
            have HXY := Lib.hid (⟨hX0, hY0⟩ : _ ∧ _)
            clear hX0 hY0 hp2
            gi_wp2_with fail
            have hcj := HSG.out (wrap64 (Y0 + X0))
            rw [Int.toNat_natCast] at hcj
            have hadd : (addAt (acc i) (pos i) (out i) j).set (pos i + j) (wrap64 (Y0 + X0)) = addAt (acc i) (pos i) (out i) (j + 1) := by rw [addAt, HXY.out.1, HXY.out.2]
            rw [hadd] at hcj
            refine ⟨⟨j + 1, hlt, by rw [hw2]; rfl, hcj, boxed_set HXj.out (syn_ne1 HCj.out.far) _, far_of_base HVj.out (syn_lt HS2.out HM4.out.ge) _, HMj.out.set _ (.inr rfl)⟩, ?_⟩
            rw [hw2]
            exact syn_measure hlt
          · obtain rfl : j = (out i).length := Nat.le_antisymm hj (Nat.le_of_not_lt hlt)
            gi_wp2_with fail
            have e1 := HGX.out.2.2.2.2.1
            have e2 := HGX.out.2.2.2.2.2.1
            refine ⟨HMj.out.keeps, HMj.out.stays, ⟨some (adL.add m), cL - m, ?_, ?_, ?_⟩, ?_, HMj.out.ge⟩
            · rw [e2, List.length_drop]; exact HXj.out
            · rw [e2]; exact HLN.out.1
            · rw [e2]; exact HLN.out.2
            · rw [e1]; exact HCj.out
      · have HLN := Lib.hid (syn_cut2 HLC.out HLc.out.1 hcase)
        subst hcase
        gi_wp2_with fail
        refine ⟨trivial, (CallsIn.inRound l' (callsIn_wide.2 HI.out)).mono ?_⟩
        rintro e w3 ⟨v3, rfl, hv3, hb3⟩
        obtain ⟨A3, c3, rfl⟩ := Kd.R_slice hv3
        have hlb3 := Boxed_below HLB.out hb3
        have hlc3 := hlb3.cell
        have hlf3 := hlb3.frozen
        have HB3 := Lib.hid hb3
        have HY := Lib.hid hv3
        have HLB3 := Lib.hid hlb3
        have hDm := HLc.out.2.1
        clear hv3 hb3 hlb3 hlc
        gi_wp2_with fail
        obtain ⟨w4, hw4⟩ : ∃ w4, w3.setCell ⟨w.heap.size, 0, none⟩ (.slice (some adL) (D.length - m) (0)) = w4 := ⟨_, rfl⟩
        rw [hw4]
        have hbx4 : Boxed w4 w.heap.size 29 (.slice (some adL) (D.length - m) (0)) := by rw [← hw4]; exact HLB3.out.set _
        have hcore4 : Core53 w w1.heap.size M (acc i) w4 := by rw [← hw4]; exact (HCO.out.below HB3.out).setP _
        have hmv4 : Moved53 w.heap.size w1.heap.size w2.heap.size W2 w4 := by rw [← hw4]; exact (HMV.out.below HB3.out).set _ (.inl rfl)
        have hY4 := far_of_base (p := ⟨w.heap.size, 0, none⟩) HY.out hPlt (.slice (some adL) (D.length - m) (0))
        have hX4 := C_set (.slice (some adL) (D.length - m) (0)) (Kd.C_below HGX.out.1 HB3.out) HLB3.out
        rw [hw4] at hY4 hX4
        have HT := Lib.hid (block_times.calls 3000 A3 c3 y A c (val i) 26 (out i) w4 (Kd.R_reads' hY4).2.2 (Kd.R_reads' hY4).2.1 hX4 HGX.out.2.1 HGX.out.2.2.1)
        have HX4 := Lib.hid hbx4
        have HC4 := Lib.hid hcore4
        have HM4 := Lib.hid hmv4
        clear hw4 hbx4 hcore4 hmv4 hY4 hX4
        refine ⟨trivial, (CallsIn.inRound l' (callsIn_wide.2 HT.out)).mono ?_⟩
        rintro e w5 ⟨v5, rfl, hv5, hb5⟩
        obtain ⟨A5, c5, rfl⟩ := Kd.R_slice hv5
        have HV5 := Lib.hid hv5
        have HX5 := Lib.hid (Boxed_below HX4.out hb5)
        have HC5 := Lib.hid (HC4.out.below hb5)
        have HM5 := Lib.hid (HM4.out.below hb5)
        clear hv5 hb5 hlc3 hlf3
        gi_wp2_with fail
        gi_loopw [54] (fun v54 wr => ∃ j : Nat, j ≤ (out i).length ∧ v54 = .int .i64 (j : Int) ∧ Hid (Core53 w w1.heap.size M (addAt (acc i) (pos i) (out i) j) wr) ∧ Hid (Boxed wr w.heap.size 29 (.slice (some adL) (D.length - m) (0))) ∧
          Hid (Kd.R (Kd.int .i64) 3 wr w4.heap.size (fun _ => True) (.slice A5 (out i).length c5) (out i)) ∧ Hid (Moved53 w.heap.size w1.heap.size w2.heap.size W2 wr)) (fun v54 wr => ((out i).length - intOf v54).toNat)
        case atStart => exact ⟨0, Nat.zero_le _, rfl, HC5, HX5, HV5, HM5⟩
        case round =>
          obtain ⟨j, hj, rfl, HCj, HXj, HVj, HMj⟩ := hrel
          by_cases hlt : j < (out i).length
          · obtain ⟨ad5, hA5, hcell⟩ := Kd.at_int (Kd.R_reads' HVj.out).2.2 (j : Int) (Int.natCast_nonneg _) (Int.ofNat_lt.mpr hlt)
            subst hA5
            rw [Int.toNat_natCast] at hcell
            obtain ⟨hw1, hw2, hw3, hp0, hp1, hp2⟩ := put_facts hlt HGX.out.2.2.2.1 HM.out
            obtain ⟨hoc, hof⟩ := HCj.out.cell (by rw [addAt_length]; exact HAL.out i) ((pos i + j : Nat) : Int) (Int.natCast_nonneg _) hp2
            rw [Int.toNat_natCast] at hoc hof
            have hobx := HCj.out.b3.cell
            have HSG := Lib.hid (fun x => HCj.out.setG (by rw [addAt_length]; exact HAL.out i) ((pos i + j : Nat) : Int) x)
            obtain ⟨X0, hX0⟩ : ∃ x, rd (out i) (j : Int) = x := ⟨_, rfl⟩
            obtain ⟨Y0, hY0⟩ : ∃ x, rd (addAt (acc i) (pos i) (out i) j) ((pos i + j : Nat) : Int) = x := ⟨_, rfl⟩
            rw [hX0] at hcell
            rw [hY0] at hoc
            have HXY := Lib.hid (⟨hX0, hY0⟩ : _ ∧ _)
            clear hX0 hY0 hp2
            gi_wp2_with fail
            have hcj := HSG.out (wrap64 (Y0 + X0))
            rw [Int.toNat_natCast] at hcj
            have hadd : (addAt (acc i) (pos i) (out i) j).set (pos i + j) (wrap64 (Y0 + X0)) = addAt (acc i) (pos i) (out i) (j + 1) := by rw [addAt, HXY.out.1, HXY.out.2]
            rw [hadd] at hcj
            refine ⟨⟨j + 1, hlt, by rw [hw2]; rfl, hcj, boxed_set HXj.out (syn_ne1 HCj.out.far) _, far_of_base HVj.out (syn_lt HS2.out HM4.out.ge) _, HMj.out.set _ (.inr rfl)⟩, ?_⟩
            rw [hw2]
            exact syn_measure hlt
          · obtain rfl : j = (out i).length := Nat.le_antisymm hj (Nat.le_of_not_lt hlt)
            gi_wp2_with fail
            have e1 := HGX.out.2.2.2.2.1
            have e2 := HGX.out.2.2.2.2.2.1
            refine ⟨HMj.out.keeps, HMj.out.stays, ⟨some adL, 0, ?_, ?_, ?_⟩, ?_, HMj.out.ge⟩
            · rw [e2, List.length_drop]; exact HXj.out
            · rw [e2]; exact HLN.out.1
            · rw [e2]; exact HLN.out.2
            · rw [e1]; exact HCj.out
  case done =>
    rintro D W hD ⟨_, hcore, hsz⟩ hK
    have hvc := hcore.b3.cell
    have h1c := hcore.b1.cell
    have h1f := hcore.b1.frozen
    have h2c := hcore.b2.cell
    have h2f := hcore.b2.frozen
    have HCO := Lib.hid hcore
    have HK := Lib.hid (⟨hD, hK⟩ : _ ∧ _)
    clear hcore hsz hD hK
    gi_wp2_with fail
    have h1 := HS2.out
    have h2 := HK.out.1
    have hK2 : ((W.setCell ⟨w.heap.size + 1, 0, none⟩ (.slice (some ⟨w1.heap.size, 0, none⟩) M M)).setCell ⟨w.heap.size + 1 + 1, 0, none⟩ (.int .i64 0)).heap[D]? = some (.deferred (some [])) :=
      (Below.heap_setCell _ _ _ _ (by simp; omega)).trans ((Below.heap_setCell _ _ _ _ (by simp; omega)).trans HK.out.2)
    refine ⟨by simp, .inl ⟨_, _, rfl, run_takeDeferred hK2, ?_⟩⟩
    have e1 : Boxed (((W.setCell ⟨w.heap.size + 1, 0, none⟩ (.slice (some ⟨w1.heap.size, 0, none⟩) M M)).setCell ⟨w.heap.size + 1 + 1, 0, none⟩ (.int .i64 0)).putObj D (.deferred none)) (w.heap.size + 1) 29 (.slice (some ⟨w1.heap.size, 0, none⟩) M M) :=
      Boxed_putObj _ (boxed_set (HCO.out.b1.set _) (by simp) _) (by omega)
    have e2 : Boxed (((W.setCell ⟨w.heap.size + 1, 0, none⟩ (.slice (some ⟨w1.heap.size, 0, none⟩) M M)).setCell ⟨w.heap.size + 1 + 1, 0, none⟩ (.int .i64 0)).putObj D (.deferred none)) (w.heap.size + 1 + 1) 32 (.int .i64 0) :=
      Boxed_putObj _ ((boxed_set HCO.out.b2 (by simp) _).set _) (by omega)
    have hR1 := Kd.R_far (p := ⟨w.heap.size + 1, 0, none⟩) HCO.out.row (fun k hk => by subst hk; simp; omega) (.slice (some ⟨w1.heap.size, 0, none⟩) M M)
    have hR2 := Kd.R_far (p := ⟨w.heap.size + 1 + 1, 0, none⟩) hR1 (fun k hk => by subst hk; simp; omega) (.int .i64 0)
    have hR3 := R_putObj (.deferred none) hR2 hK2 rfl
    have hBf : Below w.heap.size w (((W.setCell ⟨w.heap.size + 1, 0, none⟩ (.slice (some ⟨w1.heap.size, 0, none⟩) M M)).setCell ⟨w.heap.size + 1 + 1, 0, none⟩ (.int .i64 0)).putObj D (.deferred none)) :=
      Below_putObj _ ((HCO.out.bel.setCell (by simp) _).setCell (by simp; omega) _) (by omega)
    exact ⟨_, results_pp rfl _ _ ⟨w.heap.size + 1, 0, none⟩ ⟨w.heap.size + 1 + 1, 0, none⟩ _ _ rfl rfl e1.cell e2.cell, _, rfl, Kd.R_mono (Kd.R_lower hR3 (by omega)) (fun _ _ => trivial), hBf⟩

end Go.Proofs.Ytpoppdaaodmicaa.Q

/- block.Synth (53): what it answers, and the contract. -/
namespace Go.Proofs.Ytpoppdaaodmicaa.Q
open Go.RowKit Go.Shelf Go.Proofs.YtpoppdaaodmicaaW.PrintWords Go.Proofs.YtpoppdaaodmicaaW.PrintLast Go.Proofs.YtpoppdaaodmicaaW.PrintMore
set_option linter.unusedVariables false
set_option linter.unusedSimpArgs false

/-- One window's numbers, of the lines that are its own. -/
def synOf (Z : Option (List Int × Int)) (X : List Int) : Option (List Int) := Z.bind fun r => if r.2 = 0 then block_times.f 3000 r.1 X 26 else none
def synOut (l : List Int) (off : Nat) (X : List Int) : Option (List Int) := if off + X.length / 2 ≤ l.length ∧ 0 < X.length / 2 ∧ X.length ≤ 1000 then synOf (mdct_Inverse.f ((l.drop off).take (X.length / 2))) X else none
def gatherS (pos : Nat → Nat) (step : Nat → Option (List Int)) : Nat → Option (List Int)
  | 0 => some (List.replicate 512 0)
  | i + 1 => (gatherS pos step i).bind fun g => (step i).bind fun x => if pos i + x.length ≤ 512 then some (addAt g (pos i) x x.length) else none
def accL (pos : Nat → Nat) (out : Nat → List Int) : Nat → List Int
  | 0 => List.replicate 512 0
  | i + 1 => addAt (accL pos out i) (pos i) (out i) (out i).length
theorem accL_length (pos : Nat → Nat) (out : Nat → List Int) : ∀ i, (accL pos out i).length = 512
  | 0 => by rw [accL, List.length_replicate]
  | i + 1 => by rw [accL, addAt_length, accL_length pos out i]
def block_Synth.f (a0 a1 a2 : Int) (l3 : List Int) : Option (List Int × Int) :=
  (block_asked.f 3000 a0 a1 a2 l3 256 (-268435455) 268435455).bind fun e =>
    if e = 0 then
      (if l3.length = 256 then
        (if a0 = 2 then (block_half.f a1 true).bind fun L1 => (block_half.f a2 true).bind fun L2 => (block_fall.f 3000 a2 true).bind fun L3 =>
          if L1.length = 32 ∧ L2.length = 32 ∧ L3.length = 32 then (gatherS (fun i => 112 + 32 * i) (fun i => synOut l3 (32 * i) ((if i = 0 then L1 else L2) ++ L3)) 8).map fun x => (x, 0) else none
        else (block_Window.f 3000 a0 a1 a2).bind fun p => if p.2 = 0 then (gatherS (fun _ => 0) (fun _ => synOut l3 0 p.1) 1).map fun x => (x, 0) else none)
      else none)
    else some ([], e)
theorem synOut_some {l X Y : List Int} {off p : Nat} (h : synOut l off X = some Y) (hp : p + Y.length ≤ 512) : Steps53 l off p X Y := by
  unfold synOut at h
  generalize hZ : mdct_Inverse.f ((l.drop off).take (X.length / 2)) = Z at h
  by_cases hc : off + X.length / 2 ≤ l.length ∧ 0 < X.length / 2 ∧ X.length ≤ 1000
  · rw [if_pos hc] at h
    unfold synOf at h
    cases Z with
    | none => cases h
    | some r =>
      obtain ⟨y, e⟩ := r
      rw [Option.bind_some] at h
      by_cases he : e = 0
      · rw [if_pos he] at h
        rw [he] at hZ
        exact ⟨hc.1, hc.2.1, ⟨y, hZ, h⟩, hp, hc.2.2⟩
      · rw [if_neg he] at h; cases h
  · rw [if_neg hc] at h; cases h
theorem gatherS_some {pos : Nat → Nat} {step : Nat → Option (List Int)} : ∀ {n : Nat} {r : List Int}, gatherS pos step n = some r → (∀ i, i < n → step i = some ((step i).getD []) ∧ pos i + ((step i).getD []).length ≤ 512) ∧ r = accL pos (fun i => (step i).getD []) n
  | 0, r, h => ⟨fun i hi => by omega, (Option.some.inj h).symm⟩
  | n + 1, r, h => by
    rw [gatherS] at h
    cases hg : gatherS pos step n with
    | none => rw [hg] at h; cases h
    | some g =>
      rw [hg, Option.bind_some] at h
      obtain ⟨h1, h2⟩ := gatherS_some hg
      cases hs : step n with
      | none => rw [hs] at h; cases h
      | some x =>
        rw [hs, Option.bind_some] at h
        by_cases hl : pos n + x.length ≤ 512
        · rw [if_pos hl] at h
          refine ⟨fun i hi => ?_, ?_⟩
          · by_cases e : i = n
            · subst e; rw [hs]; exact ⟨rfl, hl⟩
            · exact h1 i (by omega)
          · rw [← Option.some.inj h, accL, ← h2, hs]; rfl
        · rw [if_neg hl] at h; cases h

set_option maxRecDepth 100000 in
set_option maxHeartbeats 1000000 in
theorem synth_err (a0 a1 a2 : Int) (A0 : Option Addr) (c0 : Nat) (l : List Int) (er : Int) (w : World) (hr : Kd.C (Kd.int .i64) w A0 l.length l) (hc : l.length ≤ c0) (hask : block_asked.f 3000 a0 a1 a2 l 256 (-268435455) 268435455 = some er) (he : er ≠ 0) :
    Calls Try.prog 53 #[.int .u8 a0, .int .u8 a1, .int .u8 a2, .slice A0 l.length c0] w fun e w' => e = .returned (.tuple #[.slice none 0 0, .int .i64 er]) ∧ Below w.heap.size w w' := by
  have b2 := Boxed.new (w.alloc (.cells #[.slice A0 l.length c0] 29)) 29 (.slice none 0 0)
  have b3 := Boxed.new ((w.alloc (.cells #[.slice A0 l.length c0] 29)).alloc (.cells #[.slice none 0 0] 29)) 32 (.int .i64 0)
  rw [World.size_alloc] at b2
  rw [World.size_alloc, World.size_alloc] at b3
  have hb0 : Below w.heap.size w (((w.alloc (.cells #[.slice A0 l.length c0] 29)).alloc (.cells #[.slice none 0 0] 29)).alloc (.cells #[.int .i64 0] 32)) := (((Below.refl _ w).alloc (Nat.le_refl _) _).alloc (by simp) _).alloc (by simp; omega) _
  have HA := Lib.hid (block_asked.calls 3000 a0 a1 a2 A0 c0 l 256 (-268435455) 268435455 er _ (Kd.C_below hr hb0) hc hask)
  have B2 := Lib.hid (b2.alloc (.cells #[.int .i64 0] 32))
  have B3 := Lib.hid b3
  have HB0 := Lib.hid hb0
  have hne : (er != 0) = true := bne_iff_ne.mpr he
  clear b2 b3 hb0 hr hask hc he
  go_enter Try.func53, Try.ntmps53
  go_wp2_with fail
  refine HA.out.mono ?_
  rintro e w1 ⟨rfl, hb1⟩
  have C2 := Lib.hid (Boxed_below B2.out hb1)
  have C3 := Lib.hid (Boxed_below B3.out hb1)
  have c2 := C2.out.cell
  have c3 := C3.out.cell
  have f2 := C2.out.frozen
  have f3 := C3.out.frozen
  have HB1 := Lib.hid (HB0.out.trans (hb1.mono (HB0.out.size)))
  clear hb1 B2 B3 HA
  go_wp2_with fail
  have e1 : Boxed ((w1.setCell ⟨w.heap.size + 1, 0, none⟩ (.slice none 0 0)).setCell ⟨w.heap.size + 1 + 1, 0, none⟩ (.int .i64 er)) (w.heap.size + 1) 29 (.slice none 0 0) :=
    (Below.heap_setCell _ _ _ _ (by simp)).trans (C2.out.set _)
  have e2 : Boxed ((w1.setCell ⟨w.heap.size + 1, 0, none⟩ (.slice none 0 0)).setCell ⟨w.heap.size + 1 + 1, 0, none⟩ (.int .i64 er)) (w.heap.size + 1 + 1) 32 (.int .i64 er) := by
    have h : Boxed (w1.setCell ⟨w.heap.size + 1, 0, none⟩ (.slice none 0 0)) (w.heap.size + 1 + 1) 32 (.int .i64 0) := (Below.heap_setCell _ _ _ _ (by simp)).trans C3.out
    exact h.set _
  refine bodyPost_ret (results_pp rfl _ _ ⟨w.heap.size + 1, 0, none⟩ ⟨w.heap.size + 1 + 1, 0, none⟩ _ _ rfl rfl e1.cell e2.cell) rfl ?_
  exact ⟨rfl, (HB1.out.setCell (by simp) _).setCell (by simp; omega) _⟩

theorem block_Synth.calls (a0 a1 a2 : Int) (A3 : Option Addr) (c3 : Nat) (l3 : List Int) (r1 : List Int) (r2 : Int) (w : World) (hr3 : Kd.C (Kd.int .i64) w A3 l3.length l3) (hc3 : l3.length ≤ c3) (h : block_Synth.f a0 a1 a2 l3 = some (r1, r2)) :
    Calls Try.prog 53 #[.int .u8 a0, .int .u8 a1, .int .u8 a2, .slice A3 l3.length c3] w fun e w' => ∃ v0_ : Value, e = .returned (.tuple #[v0_, .int .i64 r2]) ∧ Kd.R (Kd.int .i64) 3 w' w.heap.size (fun _ => True) v0_ r1 ∧ Below w.heap.size w w' := by
  unfold block_Synth.f at h
  obtain ⟨er, hask, h⟩ := Option.bind_eq_some_iff.1 h
  by_cases he : er = 0
  · rw [if_pos he] at h
    subst he
    by_cases hl : l3.length = 256
    · rw [if_pos hl] at h
      obtain ⟨ad, rfl, _⟩ := hr3.2.2 (by omega)
      by_cases h2 : a0 = 2
      · rw [if_pos h2] at h
        obtain ⟨L1, hL1, h⟩ := Option.bind_eq_some_iff.1 h
        obtain ⟨L2, hL2, h⟩ := Option.bind_eq_some_iff.1 h
        obtain ⟨L3, hL3, h⟩ := Option.bind_eq_some_iff.1 h
        by_cases hlen : L1.length = 32 ∧ L2.length = 32 ∧ L3.length = 32
        · rw [if_pos hlen] at h
          obtain ⟨g, hg, hg2⟩ := Option.map_eq_some_iff.1 h
          obtain ⟨g1, g2⟩ := gatherS_some hg
          simp only [Prod.mk.injEq] at hg2
          obtain ⟨rfl, rfl⟩ := hg2
          subst h2
          rw [g2]
          have hpos : (fun i : Nat => 112 + 32 * (i : Int)) = fun i : Nat => ((112 + 32 * i : Nat) : Int) := by
            funext i
            omega
          have hvl : ∀ i : Nat, ((if i = 0 then L1 else L2) ++ L3).length / 2 = 32 := by
            intro i
            rw [List.length_append]
            split <;> omega
          refine synth_walk 2 a1 a2 ad c3 l3 w hr3 hc3 hl hask 8 (by omega) (fun i => 112 + 32 * i) (fun i => 32 * i) (fun i => (if i = 0 then L1 else L2) ++ L3) _ _ (fun B W T h1 hT c1 c2 c3' => ?_) (fun i hi => synOut_some (g1 i hi).1 (g1 i hi).2) ⟨rfl, fun i hi => by have := hvl i; omega⟩ ⟨rfl, fun i hi => rfl⟩ (accL_length _ _) 512 rfl
          have hw := windows_eight 11 (by omega) B (B + 1) (B + 1 + 1) a1 a2 L1 L2 L3 hL1 hL2 hL3 (by omega) T W ⟨by omega, by omega, h1⟩ hT c1 c2 c3'
          rw [hpos] at hw
          exact hw
        · rw [if_neg hlen] at h; cases h
      · rw [if_neg h2] at h
        obtain ⟨⟨L, e⟩, hL, h⟩ := Option.bind_eq_some_iff.1 h
        by_cases hp : e = 0
        · rw [if_pos hp] at h
          obtain ⟨g, hg, hg2⟩ := Option.map_eq_some_iff.1 h
          obtain ⟨g1, g2⟩ := gatherS_some hg
          simp only [Prod.mk.injEq] at hg2
          obtain ⟨rfl, rfl⟩ := hg2
          rw [g2]
          rw [hp] at hL
          refine synth_walk a0 a1 a2 ad c3 l3 w hr3 hc3 hl hask 1 (by omega) (fun _ => 0) (fun i => i * (L.length / 2)) (fun _ => L) _ _ (fun B W T h1 hT c1 c2 c3' => ?_) (fun i hi => ?_) ⟨Nat.zero_mul _, fun i hi => by rw [Nat.add_mul, Nat.one_mul]⟩ ⟨rfl, fun i hi => rfl⟩ (accL_length _ _) 512 rfl
          · exact windows_one 11 (by omega) B (B + 1) (B + 1 + 1) a0 a1 a2 L hL h2 T W ⟨by omega, by omega, h1⟩ hT c1 c2 c3'
          · obtain rfl : i = 0 := by omega
            dsimp only
            rw [Nat.zero_mul]
            exact synOut_some (g1 0 hi).1 (g1 0 hi).2
        · rw [if_neg hp] at h; cases h
    · rw [if_neg hl] at h; cases h
  · rw [if_neg he] at h
    simp only [Option.some.injEq, Prod.mk.injEq] at h
    obtain ⟨rfl, rfl⟩ := h
    exact (synth_err a0 a1 a2 A3 c3 l3 er w hr3 hc3 hask he).mono fun e w' ⟨h1, h2⟩ => ⟨_, h1, Kd.R_nil _ _ _ _ _, h2⟩

end Go.Proofs.Ytpoppdaaodmicaa.Q
