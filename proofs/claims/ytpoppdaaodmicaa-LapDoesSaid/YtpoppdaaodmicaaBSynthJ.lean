-- Several texts of this claim in one.
import Derived.Test.YtpoppdaaodmicaaBRange
import Derived.Test.YtpoppdaaodmicaaBMdct
import Derived.Test.YtpoppdaaodmicaaK2
import Derived.Test.YtpoppdaaodmicaaQ0
import Derived.Test.YtpoppdaaodmicaaBBlock
import Derived.Test.YtpoppdaaodmicaaM6a
import Derived.Sort.QuietIn
import Derived.Stop.RegionWithIn
-- Several functions' contracts in one text.
namespace Go.Proofs.Ytpoppdaaodmicaa.Q
open Go.RowKit Go.Shelf Go.Proofs.YtpoppdaaodmicaaW.PrintWords Go.Proofs.YtpoppdaaodmicaaW.PrintLast Go.Proofs.YtpoppdaaodmicaaW.PrintMore
attribute [local go_sem] Oper.semAt_some
set_option linter.unusedVariables false
set_option linter.unusedSimpArgs false

def addAt (acc : List Int) (p : Nat) (x : List Int) : Nat → List Int
  | 0 => acc
  | j + 1 => (addAt acc p x j).set (p + j) (wrap64 (rd (addAt acc p x j) ((p + j : Nat) : Int) + rd x (j : Int)))
theorem addAt_length (acc : List Int) (p : Nat) (x : List Int) : ∀ j, (addAt acc p x j).length = acc.length
  | 0 => rfl
  | j + 1 => by rw [addAt, List.length_set, addAt_length acc p x j]
def Steps53 (l : List Int) (off p : Nat) (X Y : List Int) : Prop := off + X.length / 2 ≤ l.length ∧ 0 < X.length / 2 ∧ (∃ y, mdct_Inverse.f ((l.drop off).take (X.length / 2)) = some (y, 0) ∧ block_times.f 3000 y X 26 = some Y) ∧ p + Y.length ≤ 512 ∧ X.length ≤ 1000

theorem synth_pre {l X Y : List Int} {off p : Nat} (h : Steps53 l off p X Y) : ∃ (m : Nat) (y : List Int), m = X.length / 2 ∧ 0 < m ∧ wrap64 ((X.length : Int) / 2) = (m : Int) ∧ m ≤ (l.drop off).length ∧ ((l.drop off).take m).length = m ∧
    mdct_Inverse.f ((l.drop off).take m) = some (y, 0) ∧ block_times.f 3000 y X 26 = some Y ∧ p + Y.length ≤ 512 ∧ l.drop (off + m) = (l.drop off).drop m := by
  obtain ⟨g1, g2, ⟨y, g3, g4⟩, g5, g6⟩ := h
  refine ⟨X.length / 2, y, rfl, g2, ?_, ?_, ?_, g3, g4, g5, by rw [List.drop_drop]⟩
  · unfold wrap64; omega
  · rw [List.length_drop]; omega
  · rw [List.length_take, List.length_drop]; omega
theorem syn_cut1 {w : World} {adL : Addr} {cL m : Nat} {D : List Int} (h : Kd.C (Kd.int .i64) w (if cL = m then some adL else (some adL).map (·.add (m * (Kd.int .i64).sz))) (D.drop m).length (D.drop m)) (hc : D.length ≤ cL) (hne : ¬ cL = m) :
    Kd.C (Kd.int .i64) w (some (adL.add m)) (D.drop m).length (D.drop m) ∧ (D.drop m).length ≤ cL - m := by
  rw [if_neg hne] at h
  have hs : (Kd.int .i64).sz = 1 := rfl
  rw [hs, Nat.mul_one] at h
  exact ⟨h, by rw [List.length_drop]; omega⟩
theorem syn_cut2 {w : World} {adL : Addr} {cL m : Nat} {D : List Int} (h : Kd.C (Kd.int .i64) w (if cL = m then some adL else (some adL).map (·.add (m * (Kd.int .i64).sz))) (D.drop m).length (D.drop m)) (hc : D.length ≤ cL) (he : m = cL) :
    Kd.C (Kd.int .i64) w (some adL) (D.drop m).length (D.drop m) ∧ (D.drop m).length ≤ 0 := by
  rw [if_pos he.symm] at h
  exact ⟨h, by rw [List.length_drop]; omega⟩
theorem put_facts {p j n M : Nat} (h : j < n) (h2 : p + n ≤ 512) (hM : M = 512) : wrap64 ((p : Int) + (j : Int)) = (p : Int) + (j : Int) ∧ wrap64 ((j : Int) + 1) = (j : Int) + 1 ∧ ((p : Int) + (j : Int)).toNat = p + j ∧ (0 : Int) ≤ (p : Int) + (j : Int) ∧ (p : Int) + (j : Int) < (M : Int) ∧ ((p + j : Nat) : Int) < (M : Int) := by
  refine ⟨?_, ?_, by omega, by omega, by omega, by omega⟩
  · unfold wrap64; omega
  · unfold wrap64; omega
theorem far_of_base {W : World} {base : Nat} {ok : Nat → Prop} {v : Value} {xs : List Int} {p : Addr} (h : Kd.R (Kd.int .i64) 3 W base ok v xs) (hB : p.block < base) (u : Value) : Kd.R (Kd.int .i64) 3 (W.setCell p u) base (fun _ => True) v xs :=
  Kd.R_mono (Kd.R_far (p := p) (Kd.R_bound h) (fun k hk => Nat.ne_of_gt (Nat.lt_of_lt_of_le hB hk.2.1)) u) (fun _ _ => trivial)
structure Core53 (w : World) (G M : Nat) (L : List Int) (W : World) : Prop where
  b1 : Boxed W (w.heap.size + 1) 29 (.slice none 0 0)
  b2 : Boxed W (w.heap.size + 1 + 1) 32 (.int .i64 0)
  b3 : Boxed W (G + 1) 29 (.slice (some ⟨G, 0, none⟩) M M)
  row : Kd.R (Kd.int .i64) 3 W G (fun k => k = G) (.slice (some ⟨G, 0, none⟩) M M) L
  bel : Below w.heap.size w W
  far : w.heap.size + 1 + 1 + 1 ≤ G
section
variable {w W W' : World} {G M : Nat} {L : List Int}
theorem Core53.below (h : Core53 w G M L W) (hb : Below W.heap.size W W') : Core53 w G M L W' := ⟨Boxed_below h.b1 hb, Boxed_below h.b2 hb, Boxed_below h.b3 hb, Kd.R_below h.row hb, h.bel.trans (hb.mono h.bel.size), h.far⟩
theorem Core53.put (h : Core53 w G M L W) {l : Nat} {o : Obj} (o' : Obj) (hl : W.heap[l]? = some o) (ho : o.isCells = false) (hG : G + 1 < l) : Core53 w G M L (W.putObj l o') := by
  have := h.far
  exact ⟨Boxed_putObj o' h.b1 (by omega), Boxed_putObj o' h.b2 (by omega), Boxed_putObj o' h.b3 (by omega), R_putObj o' h.row hl ho, Below_putObj o' h.bel (by omega), h.far⟩
theorem boxed_set {B : Nat} {t : TypeId} {v : Value} {a : Addr} (h : Boxed W B t v) (hne : B ≠ a.block) (u : Value) : Boxed (W.setCell a u) B t v := (Below.heap_setCell _ _ _ _ hne).trans h
theorem Core53.setP (h : Core53 w G M L W) (u : Value) : Core53 w G M L (W.setCell ⟨w.heap.size, 0, none⟩ u) := by
  have := h.far
  exact ⟨boxed_set h.b1 (by simp) u, boxed_set h.b2 (by simp; omega) u, boxed_set h.b3 (by simp; omega) u, Kd.R_far (p := ⟨w.heap.size, 0, none⟩) h.row (fun k hk => by subst hk; simp; omega) u, h.bel.setCell (by simp) u, h.far⟩
theorem Core53.setG (h : Core53 w G M L W) (hL : L.length = M) (i : Int) (x : Int) : Core53 w G M (L.set i.toNat x) (W.setCell ⟨G, i.toNat, none⟩ (.int .i64 x)) := by
  have := h.far
  have hr := h.row
  have e : Value.slice (some ⟨G, 0, none⟩) M M = Value.slice (some ⟨G, 0, none⟩) L.length M := by rw [hL]
  rw [e] at hr
  have hp := (Kd.R_put (enc := Value.int .i64) (h1 := fun _ => rfl) hr i x).1
  rw [← e] at hp
  exact ⟨boxed_set h.b1 (by simp; omega) _, boxed_set h.b2 (by simp; omega) _, boxed_set h.b3 (by simp) _, hp, h.bel.setCell (by simp; omega) _, h.far⟩
theorem Core53.cell (h : Core53 w G M L W) (hL : L.length = M) (i : Int) (h0 : 0 ≤ i) (hi : i < (M : Int)) : W.cell? ⟨G, i.toNat, none⟩ = some (.int .i64 (rd L i)) ∧ W.frozen? ⟨G, i.toNat, none⟩ = false := by
  have hr := h.row
  have e : Value.slice (some ⟨G, 0, none⟩) M M = Value.slice (some ⟨G, 0, none⟩) L.length M := by rw [hL]
  rw [e] at hr
  have hc := Kd.R_cell (enc := Value.int .i64) (h1 := fun _ => rfl) (0 : Int) hr i h0 (by rw [hL]; exact hi)
  exact hc
end
structure Moved53 (P G B : Nat) (W0 W : World) : Prop where
  keeps : KeepsOthers W0 W
  stays : Stays (fun k => k = P ∨ k = G) B W0 W
  ge : B ≤ W.heap.size
section
variable {P G B : Nat} {W0 W W' : World}
theorem Moved53.below (h : Moved53 P G B W0 W) (hb : Below W.heap.size W W') : Moved53 P G B W0 W' := ⟨h.keeps.trans (KeepsOthers.of_below hb), h.stays.trans (Stays.below hb h.ge), Nat.le_trans h.ge hb.size⟩
theorem Moved53.set (h : Moved53 P G B W0 W) {a : Addr} (u : Value) (ha : a.block = P ∨ a.block = G) : Moved53 P G B W0 (W.setCell a u) :=
  ⟨h.keeps.trans (KeepsOthers.setCell _ _ _), h.stays.trans (Stays.setCell _ (.inl ha)), Nat.le_trans h.ge (KeepsWalks.setCell W a u).size⟩
end
theorem C_set {W : World} {A : Option Addr} {n : Nat} {xs : List Int} {B : Nat} {A' : Option Addr} {n' c' : Nat} (v : Value) (h : Kd.C (Kd.int .i64) W A n xs) (hb : Boxed W B 29 (.slice A' n' c')) : Kd.C (Kd.int .i64) (W.setCell ⟨B, 0, none⟩ v) A n xs := by
  refine ⟨h.1, h.2.1, fun hn => ?_⟩
  obtain ⟨ad, ha, hc⟩ := h.2.2 hn
  refine ⟨ad, ha, fun j p hj => ?_⟩
  obtain ⟨c, h1, h2, h3⟩ := hc j p hj
  refine ⟨c, h1, h2, fun i u hi => ?_⟩
  have hcell := h3 i u hi
  have h2' : c = [Value.int .i64 p] := h2
  have hu : u = .int .i64 p := by
    rw [h2'] at hi
    cases i with
    | zero => exact (Option.some.inj hi).symm
    | succ i => simp at hi
  have hne : (ad.add (j * (Kd.int .i64).sz + i)).block ≠ B := by
    intro e
    unfold World.cell? at hcell
    rw [e, show W.heap[B]? = _ from hb] at hcell
    dsimp only at hcell
    split at hcell
    · cases hcell
    · have := List.getElem?_eq_some_iff.1 (by simpa using hcell : [Value.slice A' n' c'][(ad.add (j * (Kd.int .i64).sz + i)).off]? = some u)
      obtain ⟨hlt, he⟩ := this
      have h0 : (ad.add (j * (Kd.int .i64).sz + i)).off = 0 := by simp at hlt; exact hlt
      simp only [h0] at he
      rw [hu] at he
      cases he
  exact (World.cell?_of_block (Below.heap_setCell W _ v _ (by simpa using hne))).trans hcell
theorem syn_ne1 {P G : Nat} (h : P + 1 + 1 + 1 ≤ G) : P ≠ G := by omega
theorem syn_lt {P G W0 W2 w4 : Nat} (h : P + 1 + 1 + 1 ≤ G ∧ W0 = G + 1 + 1 ∧ W2 = W0 + 1 + 1 + 1) (h4 : W2 ≤ w4) : G < w4 := by omega
theorem syn_measure {n j : Nat} (h : j < n) : ((n : Int) - ((j : Int) + 1)).toNat < ((n : Int) - (j : Int)).toNat := by omega
set_option maxRecDepth 100000 in
set_option maxHeartbeats 4000000 in
theorem synth_walk (a0 a1 a2 : Int) (ad : Addr) (c0 : Nat) (l : List Int) (w : World) (hr : Kd.C (Kd.int .i64) w (some ad) l.length l) (hc : l.length ≤ c0) (hl : l.length = 256) (hask : block_asked.f 3000 a0 a1 a2 l 256 (-268435455) 268435455 = some 0)
    (N : Nat) (hN : N ≤ 8) (pos off : Nat → Nat) (val out acc : Nat → List Int)
    (hseq : ∀ (B : Nat) (W : World) (T : Nat → Prop), B + 1 + 1 < W.heap.size → ¬ T B ∧ ¬ T (B + 1) ∧ ¬ T (B + 1 + 1) → W.cell? ⟨B, 0, none⟩ = some (.int .u8 a0) → W.cell? ⟨B + 1, 0, none⟩ = some (.int .u8 a1) → W.cell? ⟨B + 1 + 1, 0, none⟩ = some (.int .u8 a2) →
      SeqGo Fence.wide 11 Try.prog 107 #[.pointer (some ⟨B, 0, none⟩), .pointer (some ⟨B + 1, 0, none⟩), .pointer (some ⟨B + 1 + 1, 0, none⟩)] T W.heap.size N (Gd2 (fun i => (pos i : Int)) val) W)
    (hstep : ∀ i, i < N → Steps53 l (off i) (pos i) (val i) (out i)) (hoff : off 0 = 0 ∧ ∀ i, i < N → off (i + 1) = off i + (val i).length / 2) (hacc : acc 0 = List.replicate 512 0 ∧ ∀ i, i < N → acc (i + 1) = addAt (acc i) (pos i) (out i) (out i).length) (hal : ∀ i, (acc i).length = 512) (M : Nat) (hM : M = 512) :
    Calls Try.prog 53 #[.int .u8 a0, .int .u8 a1, .int .u8 a2, .slice (some ad) l.length c0] w fun e w' => ∃ v, e = .returned (.tuple #[v, .int .i64 0]) ∧ Kd.R (Kd.int .i64) 3 w' w.heap.size (fun _ => True) v (acc N) ∧ Below w.heap.size w w' := by
  have b1 := Boxed.new w 29 (.slice (some ad) l.length c0)
  have b2 := Boxed.new (w.alloc (.cells #[.slice (some ad) l.length c0] 29)) 29 (.slice none 0 0)
  have b3 := Boxed.new ((w.alloc (.cells #[.slice (some ad) l.length c0] 29)).alloc (.cells #[.slice none 0 0] 29)) 32 (.int .i64 0)
  rw [World.size_alloc] at b2
  rw [World.size_alloc, World.size_alloc] at b3
  have hb0 : Below w.heap.size w (((w.alloc (.cells #[.slice (some ad) l.length c0] 29)).alloc (.cells #[.slice none 0 0] 29)).alloc (.cells #[.int .i64 0] 32)) := (((Below.refl _ w).alloc (Nat.le_refl _) _).alloc (by simp) _).alloc (by simp; omega) _
  have HA := Lib.hid (block_asked.calls 3000 a0 a1 a2 (some ad) c0 l 256 (-268435455) 268435455 0 _ (Kd.C_below hr hb0) hc hask)
  have B1 := Lib.hid ((b1.alloc (.cells #[.slice none 0 0] 29)).alloc (.cells #[.int .i64 0] 32))
  have B2 := Lib.hid (b2.alloc (.cells #[.int .i64 0] 32))
  have B3 := Lib.hid b3
  have HB0 := Lib.hid hb0
  have HR := Lib.hid hr
  have HSQ := Lib.hid hseq
  have HST := Lib.hid hstep
  have HOFF := Lib.hid hoff
  have HACC := Lib.hid hacc
  have HAL := Lib.hid (fun i => (hal i).trans hM.symm)
  have HM := Lib.hid hM
  have HL := Lib.hid hl
  have HC := Lib.hid hc
  clear b1 b2 b3 hb0 hr hseq hstep hoff hacc hal hl hask hc hM
  refine (callsIn_wide (n := 12)).1 ?_
  refine callsIn_of_wp_marks Try.func53 rfl trivial ?_ rfl
  simp only [Try.ntmps53, List.size_toArray, List.length_cons, List.length_nil, Nat.reduceAdd, Nat.reduceSub, Array.replicate_succ, Array.replicate_zero, List.push_toArray, List.append_toArray, List.nil_append, List.cons_append]
  gi_wp2_with fail
  refine ⟨trivial, (callsIn_wide.2 HA.out).mono ?_⟩
  rintro e w1 ⟨rfl, hb1⟩
  have C1 := Lib.hid (Boxed_below B1.out hb1)
  have C2 := Lib.hid (Boxed_below B2.out hb1)
  have C3 := Lib.hid (Boxed_below B3.out hb1)
  have HB1 := Lib.hid (HB0.out.trans (hb1.mono (HB0.out.size)))
  have hmk : ∀ W : World, (Instr.makeSlice 29 (.int .i64 512) (.int .i64 512)).run Try.prog W = .ok (.slice (some ⟨W.heap.size, 0, none⟩) M M) (W.alloc (.cells (madeCells #[.int .i64 0] M) 3)) := by
    rw [HM.out]
    exact print_make_of 29 3 (.int .i64 0) 8 Try.underlying29 info3 rfl (by omega) 512 (by omega)
  clear hb1 B1 B2 B3 HA
  gi_wp2_with fail
  obtain ⟨W0, hW0⟩ : ∃ W0, (w1.alloc (.cells (madeCells #[.int .i64 0] M) 3)).alloc (.cells #[.slice (some ⟨w1.heap.size, 0, none⟩) M M] 29) = W0 := ⟨_, rfl⟩
  have hbW0 : Below w1.heap.size w1 W0 := by rw [← hW0]; exact ((Below.refl _ w1).alloc (Nat.le_refl _) _).alloc (by simp) _
  have hsW0 : W0.heap.size = w1.heap.size + 1 + 1 := by rw [← hW0]; simp
  have hrow0 : Kd.R (Kd.int .i64) 3 W0 w1.heap.size (fun k => k = w1.heap.size) (.slice (some ⟨w1.heap.size, 0, none⟩) M M) (List.replicate M 0) := by
    have h := own_made_of (enc := Value.int .i64) (d := (0 : Int)) w1 w1.heap.size 3 M (Nat.le_refl _) (by rw [HM.out]; decide)
    have h2 : Kd.R (Kd.int .i64) 3 (w1.alloc (.cells (madeCells #[.int .i64 0] M) 3)) w1.heap.size (fun k => k = w1.heap.size) (.slice (some ⟨w1.heap.size, 0, none⟩) M M) (List.replicate M 0) := by
      refine Kd.R_of_own (enc := Value.int .i64) ?_ (fun k hk => by simpa [Value.ownBlock] using hk.symm)
      rw [List.length_replicate]
      exact h
    rw [← hW0]
    exact Kd.R_below h2 ((Below.refl _ _).alloc (Nat.le_refl _) _)
  have hbx0 : Boxed W0 (w1.heap.size + 1) 29 (.slice (some ⟨w1.heap.size, 0, none⟩) M M) := by
    have h := Boxed.new (w1.alloc (.cells (madeCells #[.int .i64 0] M) 3)) 29 (.slice (some ⟨w1.heap.size, 0, none⟩) M M)
    rw [World.size_alloc] at h
    rw [← hW0]
    exact h
  rw [hW0]
  have HROW0 := Lib.hid hrow0
  have HBX0 := Lib.hid hbx0
  have E1 := Lib.hid (Boxed_below C1.out hbW0)
  have E2 := Lib.hid (Boxed_below C2.out hbW0)
  have E3 := Lib.hid (Boxed_below C3.out hbW0)
  have HBW0 := Lib.hid (HB1.out.trans (hbW0.mono HB1.out.size))
  have HSW0 := Lib.hid hsW0
  have hs1 : w.heap.size + 1 + 1 + 1 ≤ w1.heap.size := by have := C3.out.lt; omega
  have HS1 := Lib.hid hs1
  have HWC := Lib.hid (windows.calls a0 a1 a2 W0)
  clear hW0 hrow0 hbx0 hbW0 hsW0 hs1 C1 C2 C3 hmk
  refine ⟨trivial, (callsIn_wide.2 HWC.out).mono ?_⟩
  rintro e w2 ⟨rfl, hw2⟩
  have q1 := Boxed.new W0 5 (.int .u8 a0)
  have q2 := Boxed.new (W0.alloc (.cells #[.int .u8 a0] 5)) 5 (.int .u8 a1)
  have q3 := Boxed.new ((W0.alloc (.cells #[.int .u8 a0] 5)).alloc (.cells #[.int .u8 a1] 5)) 5 (.int .u8 a2)
  rw [World.size_alloc] at q2
  rw [World.size_alloc, World.size_alloc] at q3
  replace q1 := (q1.alloc (.cells #[.int .u8 a1] 5)).alloc (.cells #[.int .u8 a2] 5)
  replace q2 := q2.alloc (.cells #[.int .u8 a2] 5)
  rw [← hw2] at q1 q2 q3
  have hs2 : w2.heap.size = W0.heap.size + 1 + 1 + 1 := by rw [hw2]; simp
  have hb2 : Below W0.heap.size W0 w2 := by rw [hw2]; exact (((Below.refl _ W0).alloc (Nat.le_refl _) _).alloc (by simp) _).alloc (by simp; omega) _
  have HSQ2 := Lib.hid (HSQ.out W0.heap.size w2 (fun k => k = w.heap.size ∨ k = w1.heap.size) (by omega) (by have h1 := HSW0.out; have h2 := HS1.out; exact ⟨by omega, by omega, by omega⟩) q1.cell q2.cell q3.cell)
  have D1 := Lib.hid (Boxed_below E1.out hb2)
  have D2 := Lib.hid (Boxed_below E2.out hb2)
  have D3 := Lib.hid (Boxed_below E3.out hb2)
  have D4 := Lib.hid (Boxed_below HBX0.out hb2)
  have D5 := Lib.hid (Kd.R_below HROW0.out hb2)
  have HB2 := Lib.hid (HBW0.out.trans (hb2.mono HBW0.out.size))
  have HS2 := Lib.hid (⟨HS1.out, HSW0.out, hs2⟩ : _ ∧ _ ∧ _)
  clear hs2 hw2 hb2 HSQ HWC E1 E2 E3 HBX0 HROW0 HBW0 q1 q2 q3 HB1 HS1 HSW0
  gi_wp2_with fail
  refine wpIn_range_seq rfl (by omega) (gf := 107) (lb := #[.pointer (some ⟨W0.heap.size, 0, none⟩), .pointer (some ⟨W0.heap.size + 1, 0, none⟩), .pointer (some ⟨W0.heap.size + 1 + 1, 0, none⟩)]) rfl trivial (enters_of Try.func107 (by kernel_rfl) rfl)
    HSQ2.out (Nat.le_refl _) (fun i vs W h => by obtain ⟨A, c, rfl, _⟩ := h; rfl) (gd2_put _ _)
    (fun i W => (∃ A c, Boxed W w.heap.size 29 (.slice A (l.drop (off i)).length c) ∧ Kd.C (Kd.int .i64) w A (l.drop (off i)).length (l.drop (off i)) ∧ (l.drop (off i)).length ≤ c) ∧ Core53 w w1.heap.size M (acc i) W ∧ w2.heap.size ≤ W.heap.size)
    ?ib ?ip ?i0 ?round ?done
  case ib =>
    rintro i X Y ⟨⟨A, c, hv, hC, hc⟩, h2, h7⟩ hb
    exact ⟨⟨A, c, Boxed_below hv hb, hC, hc⟩, h2.below hb, Nat.le_trans h7 hb.size⟩
  case ip =>
    rintro i X k o o' ⟨⟨A, c, hv, hC, hc⟩, h2, h7⟩ hk hl ho
    have := HS2.out
    exact ⟨⟨A, c, Boxed_putObj o' hv (by omega), hC, hc⟩, h2.put o' hl ho (by omega), by simp; omega⟩
  case i0 =>
    refine ⟨⟨some ad, c0, ?_, ?_, ?_⟩, ⟨D2.out, D3.out, D4.out, ?_, HB2.out, HS2.out.1⟩, Nat.le_refl _⟩
    · rw [HOFF.out.1, List.drop_zero]; exact D1.out
    · rw [HOFF.out.1, List.drop_zero]; exact HR.out
    · rw [HOFF.out.1, List.drop_zero]; exact HC.out
    · rw [HACC.out.1, ← HM.out]; exact D5.out
  case round =>
    rintro l' i vs W hiN hI ⟨A, c, rfl, hCv, hcv⟩
    refine ⟨?a₁, ?asg, ?bdy⟩
    case asg =>
      intro K hK
      gi_wp2_with fail
      exact hK
    case bdy =>
      rintro W2 ⟨⟨AL, cL, hlb, hLC, hLc⟩, hcore, hsz⟩ ⟨A', c', hvs, hCv2, hcv2⟩ hsW
      have hvs2 : Value.slice A (val i).length c = Value.slice A' (val i).length c' := by
        simp only [Array.mk.injEq, List.cons.injEq] at hvs
        exact hvs.2.1
      obtain ⟨m, y, hm, hm0, hq, hDm, hlt, g3, g4, g5, hdd⟩ := synth_pre (HST.out i hiN)
      have hoffi := HOFF.out.2 i hiN
      have hacci := HACC.out.2 i hiN
      have hCX : Kd.C (Kd.int .i64) W2 A (val i).length (val i) := by cases hvs2; exact hCv2
      have hcX : (val i).length ≤ c := by cases hvs2; exact hcv2
      clear hI hCv hcv hvs hCv2 hcv2 hvs2
      rw [← hm] at hoffi
      have hnext : l.drop (off (i + 1)) = (l.drop (off i)).drop m := by rw [hoffi]; exact hdd
      generalize l.drop (off i) = D at hDm hlt g3 hnext hdd hlb hLC hLc
      obtain ⟨adL, rfl, _⟩ := hLC.2.2 (Nat.lt_of_lt_of_le hm0 hDm)
      have hcm : m ≤ cL := Nat.le_trans hDm hLc
      have hC1 := Kd.C_take hLC hDm
      rw [hlt] at hC1
      have hI := mdct_Inverse.calls (some adL) cL (D.take m) y 0 W2
      rw [hlt] at hI
      have HI := Lib.hid (hI (Kd.C_below hC1 hcore.bel) hcm g3)
      have hC2 := Kd.C_drop hLC hDm hLc
      have HLC := Lib.hid hC2
      have HLc := Lib.hid (⟨hLc, hDm, hcm⟩ : _ ∧ _ ∧ _)
      have HGX := Lib.hid (⟨hCX, hcX, g4, g5, hacci, hnext, hm0⟩ : _ ∧ _ ∧ _ ∧ _ ∧ _ ∧ _ ∧ _)
      have HCO := Lib.hid hcore
      have HLB := Lib.hid hlb
      have HMV := Lib.hid (⟨KeepsOthers.refl _, Stays.refl _ _ _, hsz⟩ : Moved53 w.heap.size w1.heap.size w2.heap.size W2 W2)
      have hPlt := hlb.lt
      have hlc := hlb.cell
      clear g3 g4 g5 hoffi hacci hnext hm hdd hC1 hlt hI hC2 hLC hLc hCX hcX hlb hcore hDm
      rcases Nat.lt_or_eq_of_le hcm with hcase | hcase
      · have hcase2 : ¬ cL = m := Nat.ne_of_gt hcase
        have HLN := Lib.hid (syn_cut1 HLC.out HLc.out.1 hcase2)
        gi_wp2_with fail
        refine ⟨trivial, (CallsIn.inRound l' (callsIn_wide.2 HI.out)).mono ?_⟩
        rintro e w3 ⟨v3, rfl, hv3, hb3⟩
        obtain ⟨A3, c3, rfl⟩ := Kd.R_slice hv3
        have hlb3 := Boxed_below HLB.out hb3
        have hlc3 := hlb3.cell
        have hlf3 := hlb3.frozen
        have HB3 := Lib.hid hb3
        have HY := Lib.hid hv3
        have HLB3 := Lib.hid hlb3
        have hDm := HLc.out.2.1
        clear hv3 hb3 hlb3 hlc
        gi_wp2_with fail
        obtain ⟨w4, hw4⟩ : ∃ w4, w3.setCell ⟨w.heap.size, 0, none⟩ (.slice (some (adL.add m)) (D.length - m) (cL - m)) = w4 := ⟨_, rfl⟩
        rw [hw4]
        have hbx4 : Boxed w4 w.heap.size 29 (.slice (some (adL.add m)) (D.length - m) (cL - m)) := by rw [← hw4]; exact HLB3.out.set _
        have hcore4 : Core53 w w1.heap.size M (acc i) w4 := by rw [← hw4]; exact (HCO.out.below HB3.out).setP _
        have hmv4 : Moved53 w.heap.size w1.heap.size w2.heap.size W2 w4 := by rw [← hw4]; exact (HMV.out.below HB3.out).set _ (.inl rfl)
        have hY4 := far_of_base (p := ⟨w.heap.size, 0, none⟩) HY.out hPlt (.slice (some (adL.add m)) (D.length - m) (cL - m))
        have hX4 := C_set (.slice (some (adL.add m)) (D.length - m) (cL - m)) (Kd.C_below HGX.out.1 HB3.out) HLB3.out
        rw [hw4] at hY4 hX4
        have HT := Lib.hid (block_times.calls 3000 A3 c3 y A c (val i) 26 (out i) w4 (Kd.R_reads' hY4).2.2 (Kd.R_reads' hY4).2.1 hX4 HGX.out.2.1 HGX.out.2.2.1)
        have HX4 := Lib.hid hbx4
        have HC4 := Lib.hid hcore4
        have HM4 := Lib.hid hmv4
        clear hw4 hbx4 hcore4 hmv4 hY4 hX4
        refine ⟨trivial, (CallsIn.inRound l' (callsIn_wide.2 HT.out)).mono ?_⟩
        rintro e w5 ⟨v5, rfl, hv5, hb5⟩
        obtain ⟨A5, c5, rfl⟩ := Kd.R_slice hv5
        have HV5 := Lib.hid hv5
        have HX5 := Lib.hid (Boxed_below HX4.out hb5)
        have HC5 := Lib.hid (HC4.out.below hb5)
        have HM5 := Lib.hid (HM4.out.below hb5)
        clear hv5 hb5 hlc3 hlf3
        gi_wp2_with fail
        gi_loopw [54] (fun v54 wr => ∃ j : Nat, j ≤ (out i).length ∧ v54 = .int .i64 (j : Int) ∧ Hid (Core53 w w1.heap.size M (addAt (acc i) (pos i) (out i) j) wr) ∧ Hid (Boxed wr w.heap.size 29 (.slice (some (adL.add m)) (D.length - m) (cL - m))) ∧
          Hid (Kd.R (Kd.int .i64) 3 wr w4.heap.size (fun _ => True) (.slice A5 (out i).length c5) (out i)) ∧ Hid (Moved53 w.heap.size w1.heap.size w2.heap.size W2 wr)) (fun v54 wr => ((out i).length - intOf v54).toNat)
        case atStart => exact ⟨0, Nat.zero_le _, rfl, HC5, HX5, HV5, HM5⟩
        case round =>
          obtain ⟨j, hj, rfl, HCj, HXj, HVj, HMj⟩ := hrel
          by_cases hlt : j < (out i).length
          · obtain ⟨ad5, hA5, hcell⟩ := Kd.at_int (Kd.R_reads' HVj.out).2.2 (j : Int) (Int.natCast_nonneg _) (Int.ofNat_lt.mpr hlt)
            subst hA5
            rw [Int.toNat_natCast] at hcell
            obtain ⟨hw1, hw2, hw3, hp0, hp1, hp2⟩ := put_facts hlt HGX.out.2.2.2.1 HM.out
            obtain ⟨hoc, hof⟩ := HCj.out.cell (by rw [addAt_length]; exact HAL.out i) ((pos i + j : Nat) : Int) (Int.natCast_nonneg _) hp2
            rw [Int.toNat_natCast] at hoc hof
            have hobx := HCj.out.b3.cell
            have HSG := Lib.hid (fun x => HCj.out.setG (by rw [addAt_length]; exact HAL.out i) ((pos i + j : Nat) : Int) x)
            obtain ⟨X0, hX0⟩ : ∃ x, rd (out i) (j : Int) = x := ⟨_, rfl⟩
            obtain ⟨Y0, hY0⟩ : ∃ x, rd (addAt (acc i) (pos i) (out i) j) ((pos i + j : Nat) : Int) = x := ⟨_, rfl⟩
            rw [hX0] at hcell
            rw [hY0] at hoc
            have HXY := Lib.hid (⟨hX0, hY0⟩ : _ ∧ _)
            clear hX0 hY0 hp2
            gi_wp2_with fail
            have hcj := HSG.out (wrap64 (Y0 + X0))
            rw [Int.toNat_natCast] at hcj
            have hadd : (addAt (acc i) (pos i) (out i) j).set (pos i + j) (wrap64 (Y0 + X0)) = addAt (acc i) (pos i) (out i) (j + 1) := by rw [addAt, HXY.out.1, HXY.out.2]
            rw [hadd] at hcj
            refine ⟨⟨j + 1, hlt, by rw [hw2]; rfl, hcj, boxed_set HXj.out (syn_ne1 HCj.out.far) _, far_of_base HVj.out (syn_lt HS2.out HM4.out.ge) _, HMj.out.set _ (.inr rfl)⟩, ?_⟩
            rw [hw2]
            exact syn_measure hlt
          · obtain rfl : j = (out i).length := Nat.le_antisymm hj (Nat.le_of_not_lt hlt)
            gi_wp2_with fail
            have e1 := HGX.out.2.2.2.2.1
            have e2 := HGX.out.2.2.2.2.2.1
            refine ⟨HMj.out.keeps, HMj.out.stays, ⟨some (adL.add m), cL - m, ?_, ?_, ?_⟩, ?_, HMj.out.ge⟩
            · rw [e2, List.length_drop]; exact HXj.out
            · rw [e2]; exact HLN.out.1
            · rw [e2]; exact HLN.out.2
            · rw [e1]; exact HCj.out
      · have HLN := Lib.hid (syn_cut2 HLC.out HLc.out.1 hcase)
        subst hcase
        gi_wp2_with fail
        refine ⟨trivial, (CallsIn.inRound l' (callsIn_wide.2 HI.out)).mono ?_⟩
        rintro e w3 ⟨v3, rfl, hv3, hb3⟩
        obtain ⟨A3, c3, rfl⟩ := Kd.R_slice hv3
        have hlb3 := Boxed_below HLB.out hb3
        have hlc3 := hlb3.cell
        have hlf3 := hlb3.frozen
        have HB3 := Lib.hid hb3
        have HY := Lib.hid hv3
        have HLB3 := Lib.hid hlb3
        have hDm := HLc.out.2.1
        clear hv3 hb3 hlb3 hlc
        gi_wp2_with fail
        obtain ⟨w4, hw4⟩ : ∃ w4, w3.setCell ⟨w.heap.size, 0, none⟩ (.slice (some adL) (D.length - m) (0)) = w4 := ⟨_, rfl⟩
        rw [hw4]
        have hbx4 : Boxed w4 w.heap.size 29 (.slice (some adL) (D.length - m) (0)) := by rw [← hw4]; exact HLB3.out.set _
        have hcore4 : Core53 w w1.heap.size M (acc i) w4 := by rw [← hw4]; exact (HCO.out.below HB3.out).setP _
        have hmv4 : Moved53 w.heap.size w1.heap.size w2.heap.size W2 w4 := by rw [← hw4]; exact (HMV.out.below HB3.out).set _ (.inl rfl)
        have hY4 := far_of_base (p := ⟨w.heap.size, 0, none⟩) HY.out hPlt (.slice (some adL) (D.length - m) (0))
        have hX4 := C_set (.slice (some adL) (D.length - m) (0)) (Kd.C_below HGX.out.1 HB3.out) HLB3.out
        rw [hw4] at hY4 hX4
        have HT := Lib.hid (block_times.calls 3000 A3 c3 y A c (val i) 26 (out i) w4 (Kd.R_reads' hY4).2.2 (Kd.R_reads' hY4).2.1 hX4 HGX.out.2.1 HGX.out.2.2.1)
        have HX4 := Lib.hid hbx4
        have HC4 := Lib.hid hcore4
        have HM4 := Lib.hid hmv4
        clear hw4 hbx4 hcore4 hmv4 hY4 hX4
        refine ⟨trivial, (CallsIn.inRound l' (callsIn_wide.2 HT.out)).mono ?_⟩
        rintro e w5 ⟨v5, rfl, hv5, hb5⟩
        obtain ⟨A5, c5, rfl⟩ := Kd.R_slice hv5
        have HV5 := Lib.hid hv5
        have HX5 := Lib.hid (Boxed_below HX4.out hb5)
        have HC5 := Lib.hid (HC4.out.below hb5)
        have HM5 := Lib.hid (HM4.out.below hb5)
        clear hv5 hb5 hlc3 hlf3
        gi_wp2_with fail
        gi_loopw [54] (fun v54 wr => ∃ j : Nat, j ≤ (out i).length ∧ v54 = .int .i64 (j : Int) ∧ Hid (Core53 w w1.heap.size M (addAt (acc i) (pos i) (out i) j) wr) ∧ Hid (Boxed wr w.heap.size 29 (.slice (some adL) (D.length - m) (0))) ∧
          Hid (Kd.R (Kd.int .i64) 3 wr w4.heap.size (fun _ => True) (.slice A5 (out i).length c5) (out i)) ∧ Hid (Moved53 w.heap.size w1.heap.size w2.heap.size W2 wr)) (fun v54 wr => ((out i).length - intOf v54).toNat)
        case atStart => exact ⟨0, Nat.zero_le _, rfl, HC5, HX5, HV5, HM5⟩
        case round =>
          obtain ⟨j, hj, rfl, HCj, HXj, HVj, HMj⟩ := hrel
          by_cases hlt : j < (out i).length
          · obtain ⟨ad5, hA5, hcell⟩ := Kd.at_int (Kd.R_reads' HVj.out).2.2 (j : Int) (Int.natCast_nonneg _) (Int.ofNat_lt.mpr hlt)
            subst hA5
            rw [Int.toNat_natCast] at hcell
            obtain ⟨hw1, hw2, hw3, hp0, hp1, hp2⟩ := put_facts hlt HGX.out.2.2.2.1 HM.out
            obtain ⟨hoc, hof⟩ := HCj.out.cell (by rw [addAt_length]; exact HAL.out i) ((pos i + j : Nat) : Int) (Int.natCast_nonneg _) hp2
            rw [Int.toNat_natCast] at hoc hof
            have hobx := HCj.out.b3.cell
            have HSG := Lib.hid (fun x => HCj.out.setG (by rw [addAt_length]; exact HAL.out i) ((pos i + j : Nat) : Int) x)
            obtain ⟨X0, hX0⟩ : ∃ x, rd (out i) (j : Int) = x := ⟨_, rfl⟩
            obtain ⟨Y0, hY0⟩ : ∃ x, rd (addAt (acc i) (pos i) (out i) j) ((pos i + j : Nat) : Int) = x := ⟨_, rfl⟩
            rw [hX0] at hcell
            rw [hY0] at hoc
            have HXY := Lib.hid (⟨hX0, hY0⟩ : _ ∧ _)
            clear hX0 hY0 hp2
            gi_wp2_with fail
            have hcj := HSG.out (wrap64 (Y0 + X0))
            rw [Int.toNat_natCast] at hcj
            have hadd : (addAt (acc i) (pos i) (out i) j).set (pos i + j) (wrap64 (Y0 + X0)) = addAt (acc i) (pos i) (out i) (j + 1) := by rw [addAt, HXY.out.1, HXY.out.2]
            rw [hadd] at hcj
            refine ⟨⟨j + 1, hlt, by rw [hw2]; rfl, hcj, boxed_set HXj.out (syn_ne1 HCj.out.far) _, far_of_base HVj.out (syn_lt HS2.out HM4.out.ge) _, HMj.out.set _ (.inr rfl)⟩, ?_⟩
            rw [hw2]
            exact syn_measure hlt
          · obtain rfl : j = (out i).length := Nat.le_antisymm hj (Nat.le_of_not_lt hlt)
            gi_wp2_with fail
            have e1 := HGX.out.2.2.2.2.1
            have e2 := HGX.out.2.2.2.2.2.1
            refine ⟨HMj.out.keeps, HMj.out.stays, ⟨some adL, 0, ?_, ?_, ?_⟩, ?_, HMj.out.ge⟩
            · rw [e2, List.length_drop]; exact HXj.out
            · rw [e2]; exact HLN.out.1
            · rw [e2]; exact HLN.out.2
            · rw [e1]; exact HCj.out
  case done =>
    rintro D W hD ⟨_, hcore, hsz⟩ hK
    have hvc := hcore.b3.cell
    have h1c := hcore.b1.cell
    have h1f := hcore.b1.frozen
    have h2c := hcore.b2.cell
    have h2f := hcore.b2.frozen
    have HCO := Lib.hid hcore
    have HK := Lib.hid (⟨hD, hK⟩ : _ ∧ _)
    clear hcore hsz hD hK
    gi_wp2_with fail
    have h1 := HS2.out
    have h2 := HK.out.1
    have hK2 : ((W.setCell ⟨w.heap.size + 1, 0, none⟩ (.slice (some ⟨w1.heap.size, 0, none⟩) M M)).setCell ⟨w.heap.size + 1 + 1, 0, none⟩ (.int .i64 0)).heap[D]? = some (.deferred (some [])) :=
      (Below.heap_setCell _ _ _ _ (by simp; omega)).trans ((Below.heap_setCell _ _ _ _ (by simp; omega)).trans HK.out.2)
    refine ⟨by simp, .inl ⟨_, _, rfl, run_takeDeferred hK2, ?_⟩⟩
    have e1 : Boxed (((W.setCell ⟨w.heap.size + 1, 0, none⟩ (.slice (some ⟨w1.heap.size, 0, none⟩) M M)).setCell ⟨w.heap.size + 1 + 1, 0, none⟩ (.int .i64 0)).putObj D (.deferred none)) (w.heap.size + 1) 29 (.slice (some ⟨w1.heap.size, 0, none⟩) M M) :=
      Boxed_putObj _ (boxed_set (HCO.out.b1.set _) (by simp) _) (by omega)
    have e2 : Boxed (((W.setCell ⟨w.heap.size + 1, 0, none⟩ (.slice (some ⟨w1.heap.size, 0, none⟩) M M)).setCell ⟨w.heap.size + 1 + 1, 0, none⟩ (.int .i64 0)).putObj D (.deferred none)) (w.heap.size + 1 + 1) 32 (.int .i64 0) :=
      Boxed_putObj _ ((boxed_set HCO.out.b2 (by simp) _).set _) (by omega)
    have hR1 := Kd.R_far (p := ⟨w.heap.size + 1, 0, none⟩) HCO.out.row (fun k hk => by subst hk; simp; omega) (.slice (some ⟨w1.heap.size, 0, none⟩) M M)
    have hR2 := Kd.R_far (p := ⟨w.heap.size + 1 + 1, 0, none⟩) hR1 (fun k hk => by subst hk; simp; omega) (.int .i64 0)
    have hR3 := R_putObj (.deferred none) hR2 hK2 rfl
    have hBf : Below w.heap.size w (((W.setCell ⟨w.heap.size + 1, 0, none⟩ (.slice (some ⟨w1.heap.size, 0, none⟩) M M)).setCell ⟨w.heap.size + 1 + 1, 0, none⟩ (.int .i64 0)).putObj D (.deferred none)) :=
      Below_putObj _ ((HCO.out.bel.setCell (by simp) _).setCell (by simp; omega) _) (by omega)
    exact ⟨_, results_pp rfl _ _ ⟨w.heap.size + 1, 0, none⟩ ⟨w.heap.size + 1 + 1, 0, none⟩ _ _ rfl rfl e1.cell e2.cell, _, rfl, Kd.R_mono (Kd.R_lower hR3 (by omega)) (fun _ _ => trivial), hBf⟩

end Go.Proofs.Ytpoppdaaodmicaa.Q

namespace Go.Proofs.Ytpoppdaaodmicaa.Q
open Go.RowKit Go.Shelf Go.Proofs.YtpoppdaaodmicaaW.PrintWords Go.Proofs.YtpoppdaaodmicaaW.PrintLast Go.Proofs.YtpoppdaaodmicaaW.PrintMore
set_option linter.unusedVariables false
set_option linter.unusedSimpArgs false

def synOf (Z : Option (List Int × Int)) (X : List Int) : Option (List Int) := Z.bind fun r => if r.2 = 0 then block_times.f 3000 r.1 X 26 else none
def synOut (l : List Int) (off : Nat) (X : List Int) : Option (List Int) := if off + X.length / 2 ≤ l.length ∧ 0 < X.length / 2 ∧ X.length ≤ 1000 then synOf (mdct_Inverse.f ((l.drop off).take (X.length / 2))) X else none
def gatherS (pos : Nat → Nat) (step : Nat → Option (List Int)) : Nat → Option (List Int)
  | 0 => some (List.replicate 512 0)
  | i + 1 => (gatherS pos step i).bind fun g => (step i).bind fun x => if pos i + x.length ≤ 512 then some (addAt g (pos i) x x.length) else none
def accL (pos : Nat → Nat) (out : Nat → List Int) : Nat → List Int
  | 0 => List.replicate 512 0
  | i + 1 => addAt (accL pos out i) (pos i) (out i) (out i).length
theorem accL_length (pos : Nat → Nat) (out : Nat → List Int) : ∀ i, (accL pos out i).length = 512
  | 0 => by rw [accL, List.length_replicate]
  | i + 1 => by rw [accL, addAt_length, accL_length pos out i]
def block_Synth.f (a0 a1 a2 : Int) (l3 : List Int) : Option (List Int × Int) :=
  (block_asked.f 3000 a0 a1 a2 l3 256 (-268435455) 268435455).bind fun e =>
    if e = 0 then
      (if l3.length = 256 then
        (if a0 = 2 then (block_half.f a1 true).bind fun L1 => (block_half.f a2 true).bind fun L2 => (block_fall.f 3000 a2 true).bind fun L3 =>
          if L1.length = 32 ∧ L2.length = 32 ∧ L3.length = 32 then (gatherS (fun i => 112 + 32 * i) (fun i => synOut l3 (32 * i) ((if i = 0 then L1 else L2) ++ L3)) 8).map fun x => (x, 0) else none
        else (block_Window.f 3000 a0 a1 a2).bind fun p => if p.2 = 0 then (gatherS (fun _ => 0) (fun _ => synOut l3 0 p.1) 1).map fun x => (x, 0) else none)
      else none)
    else some ([], e)
theorem synOut_some {l X Y : List Int} {off p : Nat} (h : synOut l off X = some Y) (hp : p + Y.length ≤ 512) : Steps53 l off p X Y := by
  unfold synOut at h
  generalize hZ : mdct_Inverse.f ((l.drop off).take (X.length / 2)) = Z at h
  by_cases hc : off + X.length / 2 ≤ l.length ∧ 0 < X.length / 2 ∧ X.length ≤ 1000
  · rw [if_pos hc] at h
    unfold synOf at h
    cases Z with
    | none => cases h
    | some r =>
      obtain ⟨y, e⟩ := r
      rw [Option.bind_some] at h
      by_cases he : e = 0
      · rw [if_pos he] at h
        rw [he] at hZ
        exact ⟨hc.1, hc.2.1, ⟨y, hZ, h⟩, hp, hc.2.2⟩
      · rw [if_neg he] at h; cases h
  · rw [if_neg hc] at h; cases h
theorem gatherS_some {pos : Nat → Nat} {step : Nat → Option (List Int)} : ∀ {n : Nat} {r : List Int}, gatherS pos step n = some r → (∀ i, i < n → step i = some ((step i).getD []) ∧ pos i + ((step i).getD []).length ≤ 512) ∧ r = accL pos (fun i => (step i).getD []) n
  | 0, r, h => ⟨fun i hi => by omega, (Option.some.inj h).symm⟩
  | n + 1, r, h => by
    rw [gatherS] at h
    cases hg : gatherS pos step n with
    | none => rw [hg] at h; cases h
    | some g =>
      rw [hg, Option.bind_some] at h
      obtain ⟨h1, h2⟩ := gatherS_some hg
      cases hs : step n with
      | none => rw [hs] at h; cases h
      | some x =>
        rw [hs, Option.bind_some] at h
        by_cases hl : pos n + x.length ≤ 512
        · rw [if_pos hl] at h
          refine ⟨fun i hi => ?_, ?_⟩
          · by_cases e : i = n
            · subst e; rw [hs]; exact ⟨rfl, hl⟩
            · exact h1 i (by omega)
          · rw [← Option.some.inj h, accL, ← h2, hs]; rfl
        · rw [if_neg hl] at h; cases h

set_option maxRecDepth 100000 in
set_option maxHeartbeats 1000000 in
theorem synth_err (a0 a1 a2 : Int) (A0 : Option Addr) (c0 : Nat) (l : List Int) (er : Int) (w : World) (hr : Kd.C (Kd.int .i64) w A0 l.length l) (hc : l.length ≤ c0) (hask : block_asked.f 3000 a0 a1 a2 l 256 (-268435455) 268435455 = some er) (he : er ≠ 0) :
    Calls Try.prog 53 #[.int .u8 a0, .int .u8 a1, .int .u8 a2, .slice A0 l.length c0] w fun e w' => e = .returned (.tuple #[.slice none 0 0, .int .i64 er]) ∧ Below w.heap.size w w' := by
  have b2 := Boxed.new (w.alloc (.cells #[.slice A0 l.length c0] 29)) 29 (.slice none 0 0)
  have b3 := Boxed.new ((w.alloc (.cells #[.slice A0 l.length c0] 29)).alloc (.cells #[.slice none 0 0] 29)) 32 (.int .i64 0)
  rw [World.size_alloc] at b2
  rw [World.size_alloc, World.size_alloc] at b3
  have hb0 : Below w.heap.size w (((w.alloc (.cells #[.slice A0 l.length c0] 29)).alloc (.cells #[.slice none 0 0] 29)).alloc (.cells #[.int .i64 0] 32)) := (((Below.refl _ w).alloc (Nat.le_refl _) _).alloc (by simp) _).alloc (by simp; omega) _
  have HA := Lib.hid (block_asked.calls 3000 a0 a1 a2 A0 c0 l 256 (-268435455) 268435455 er _ (Kd.C_below hr hb0) hc hask)
  have B2 := Lib.hid (b2.alloc (.cells #[.int .i64 0] 32))
  have B3 := Lib.hid b3
  have HB0 := Lib.hid hb0
  have hne : (er != 0) = true := bne_iff_ne.mpr he
  clear b2 b3 hb0 hr hask hc he
  go_enter Try.func53, Try.ntmps53
  go_wp2_with fail
  refine HA.out.mono ?_
  rintro e w1 ⟨rfl, hb1⟩
  have C2 := Lib.hid (Boxed_below B2.out hb1)
  have C3 := Lib.hid (Boxed_below B3.out hb1)
  have c2 := C2.out.cell
  have c3 := C3.out.cell
  have f2 := C2.out.frozen
  have f3 := C3.out.frozen
  have HB1 := Lib.hid (HB0.out.trans (hb1.mono (HB0.out.size)))
  clear hb1 B2 B3 HA
  go_wp2_with fail
  have e1 : Boxed ((w1.setCell ⟨w.heap.size + 1, 0, none⟩ (.slice none 0 0)).setCell ⟨w.heap.size + 1 + 1, 0, none⟩ (.int .i64 er)) (w.heap.size + 1) 29 (.slice none 0 0) :=
    (Below.heap_setCell _ _ _ _ (by simp)).trans (C2.out.set _)
  have e2 : Boxed ((w1.setCell ⟨w.heap.size + 1, 0, none⟩ (.slice none 0 0)).setCell ⟨w.heap.size + 1 + 1, 0, none⟩ (.int .i64 er)) (w.heap.size + 1 + 1) 32 (.int .i64 er) := by
    have h : Boxed (w1.setCell ⟨w.heap.size + 1, 0, none⟩ (.slice none 0 0)) (w.heap.size + 1 + 1) 32 (.int .i64 0) := (Below.heap_setCell _ _ _ _ (by simp)).trans C3.out
    exact h.set _
  refine bodyPost_ret (results_pp rfl _ _ ⟨w.heap.size + 1, 0, none⟩ ⟨w.heap.size + 1 + 1, 0, none⟩ _ _ rfl rfl e1.cell e2.cell) rfl ?_
  exact ⟨rfl, (HB1.out.setCell (by simp) _).setCell (by simp; omega) _⟩

theorem block_Synth.calls (a0 a1 a2 : Int) (A3 : Option Addr) (c3 : Nat) (l3 : List Int) (r1 : List Int) (r2 : Int) (w : World) (hr3 : Kd.C (Kd.int .i64) w A3 l3.length l3) (hc3 : l3.length ≤ c3) (h : block_Synth.f a0 a1 a2 l3 = some (r1, r2)) :
    Calls Try.prog 53 #[.int .u8 a0, .int .u8 a1, .int .u8 a2, .slice A3 l3.length c3] w fun e w' => ∃ v0_ : Value, e = .returned (.tuple #[v0_, .int .i64 r2]) ∧ Kd.R (Kd.int .i64) 3 w' w.heap.size (fun _ => True) v0_ r1 ∧ Below w.heap.size w w' := by
  unfold block_Synth.f at h
  obtain ⟨er, hask, h⟩ := Option.bind_eq_some_iff.1 h
  by_cases he : er = 0
  · rw [if_pos he] at h
    subst he
    by_cases hl : l3.length = 256
    · rw [if_pos hl] at h
      obtain ⟨ad, rfl, _⟩ := hr3.2.2 (by omega)
      by_cases h2 : a0 = 2
      · rw [if_pos h2] at h
        obtain ⟨L1, hL1, h⟩ := Option.bind_eq_some_iff.1 h
        obtain ⟨L2, hL2, h⟩ := Option.bind_eq_some_iff.1 h
        obtain ⟨L3, hL3, h⟩ := Option.bind_eq_some_iff.1 h
        by_cases hlen : L1.length = 32 ∧ L2.length = 32 ∧ L3.length = 32
        · rw [if_pos hlen] at h
          obtain ⟨g, hg, hg2⟩ := Option.map_eq_some_iff.1 h
          obtain ⟨g1, g2⟩ := gatherS_some hg
          simp only [Prod.mk.injEq] at hg2
          obtain ⟨rfl, rfl⟩ := hg2
          subst h2
          rw [g2]
          have hpos : (fun i : Nat => 112 + 32 * (i : Int)) = fun i : Nat => ((112 + 32 * i : Nat) : Int) := by
            funext i
            omega
          have hvl : ∀ i : Nat, ((if i = 0 then L1 else L2) ++ L3).length / 2 = 32 := by
            intro i
            rw [List.length_append]
            split <;> omega
          refine synth_walk 2 a1 a2 ad c3 l3 w hr3 hc3 hl hask 8 (by omega) (fun i => 112 + 32 * i) (fun i => 32 * i) (fun i => (if i = 0 then L1 else L2) ++ L3) _ _ (fun B W T h1 hT c1 c2 c3' => ?_) (fun i hi => synOut_some (g1 i hi).1 (g1 i hi).2) ⟨rfl, fun i hi => by have := hvl i; omega⟩ ⟨rfl, fun i hi => rfl⟩ (accL_length _ _) 512 rfl
          have hw := windows_eight 11 (by omega) B (B + 1) (B + 1 + 1) a1 a2 L1 L2 L3 hL1 hL2 hL3 (by omega) T W ⟨by omega, by omega, h1⟩ hT c1 c2 c3'
          rw [hpos] at hw
          exact hw
        · rw [if_neg hlen] at h; cases h
      · rw [if_neg h2] at h
        obtain ⟨⟨L, e⟩, hL, h⟩ := Option.bind_eq_some_iff.1 h
        by_cases hp : e = 0
        · rw [if_pos hp] at h
          obtain ⟨g, hg, hg2⟩ := Option.map_eq_some_iff.1 h
          obtain ⟨g1, g2⟩ := gatherS_some hg
          simp only [Prod.mk.injEq] at hg2
          obtain ⟨rfl, rfl⟩ := hg2
          rw [g2]
          rw [hp] at hL
          refine synth_walk a0 a1 a2 ad c3 l3 w hr3 hc3 hl hask 1 (by omega) (fun _ => 0) (fun i => i * (L.length / 2)) (fun _ => L) _ _ (fun B W T h1 hT c1 c2 c3' => ?_) (fun i hi => ?_) ⟨Nat.zero_mul _, fun i hi => by rw [Nat.add_mul, Nat.one_mul]⟩ ⟨rfl, fun i hi => rfl⟩ (accL_length _ _) 512 rfl
          · exact windows_one 11 (by omega) B (B + 1) (B + 1 + 1) a0 a1 a2 L hL h2 T W ⟨by omega, by omega, h1⟩ hT c1 c2 c3'
          · obtain rfl : i = 0 := by omega
            dsimp only
            rw [Nat.zero_mul]
            exact synOut_some (g1 0 hi).1 (g1 0 hi).2
        · rw [if_neg hp] at h; cases h
    · rw [if_neg hl] at h; cases h
  · rw [if_neg he] at h
    simp only [Option.some.injEq, Prod.mk.injEq] at h
    obtain ⟨rfl, rfl⟩ := h
    exact (synth_err a0 a1 a2 A3 c3 l3 er w hr3 hc3 hask he).mono fun e w' ⟨h1, h2⟩ => ⟨_, h1, Kd.R_nil _ _ _ _ _, h2⟩

end Go.Proofs.Ytpoppdaaodmicaa.Q

/- Plain facts on block.Synth: which errors, and whose numbers. -/
namespace Go.Proofs.Ytpoppdaaodmicaa.Q
open Go.RowKit Go.Proofs.YtpoppdaaodmicaaW.PrintWords Go.Proofs.YtpoppdaaodmicaaW.PrintLast Go.Proofs.YtpoppdaaodmicaaW.PrintMore

theorem between_all {X : Int} {l : List Int} (h : Between (-X) X l) : AllIn X l := by
  intro x hx
  obtain ⟨n, hn, rfl⟩ := List.getElem_of_mem hx
  have := h n hn
  unfold rd at this
  rw [show ((n : Int)).toNat = n by omega, List.getD_eq_getElem?_getD, List.getElem?_eq_getElem hn] at this
  exact this
theorem all_between {X : Int} {l : List Int} (h : AllIn X l) : Between (-X) X l := by
  intro n hn
  unfold rd
  rw [show ((n : Int)).toNat = n by omega, List.getD_eq_getElem?_getD, List.getElem?_eq_getElem hn]
  exact h _ (List.getElem_mem hn)
theorem all_cut {X : Int} {l : List Int} (h : AllIn X l) (o m : Nat) : AllIn X ((l.drop o).take m) := fun x hx => h x (List.mem_of_mem_drop (List.mem_of_mem_take hx))
def bkL (a0 : Int) (l : List Int) (i : Nat) : List Int := (List.range (2 * anM a0)).map (backAt (anM a0) (anS a0) (anB a0) ((l.drop (anM a0 * i)).take (anM a0)))
def snOut (a0 a1 a2 : Int) (l : List Int) (i : Nat) : List Int := timesL 26 (bkL a0 l i) (anWin a0 a1 a2 i)
def snAt (a0 a1 a2 : Int) (l : List Int) (i n : Nat) : Int := rnd 26 (backAt (anM a0) (anS a0) (anB a0) ((l.drop (anM a0 * i)).take (anM a0)) n * rd (anWin a0 a1 a2 i) (n : Int))
theorem bkL_length (a0 : Int) (l : List Int) (i : Nat) : (bkL a0 l i).length = 2 * anM a0 := by unfold bkL; rw [List.length_map, List.length_range]
theorem snOut_length (a0 a1 a2 : Int) (l : List Int) (i : Nat) : (snOut a0 a1 a2 l i).length = 2 * anM a0 := by unfold snOut timesL; rw [List.length_map, List.length_range, bkL_length]
theorem rd_snOut {a0 a1 a2 : Int} {l : List Int} {i n : Nat} (hn : n < 2 * anM a0) : rd (snOut a0 a1 a2 l i) (n : Int) = snAt a0 a1 a2 l i n := by
  unfold snOut timesL
  rw [rd_map_range (by rw [bkL_length]; exact hn)]
  unfold snAt bkL
  rw [rd_map_range hn]
theorem an_len {a0 : Int} {l : List Int} (hl : l.length = 256) {i : Nat} (hi : i < anN a0) : ((l.drop (anM a0 * i)).take (anM a0)).length = anM a0 := by
  rw [List.length_take, List.length_drop]
  unfold anN at hi
  unfold anM
  by_cases h : a0 = 2
  · rw [if_pos h] at hi ⊢; omega
  · rw [if_neg h] at hi ⊢; omega
theorem prod_big {x y : Int} (hx : -1099511627776 ≤ x ∧ x ≤ 1099511627776) (hy : 0 ≤ y ∧ y ≤ 4194304) : -4611686018427387904 ≤ x * y ∧ x * y ≤ 4611686018427387904 := by
  have := mul_in' (X := 1099511627776) (Y := 4194304) (x := x) (y := y) (by omega) (by omega)
  omega
theorem snAt_bound {a0 a1 a2 : Int} (h1 : a1 = 0 ∨ a1 = 1) (h2 : a2 = 0 ∨ a2 = 1) {l : List Int} (hl : l.length = 256) (hb : AllIn 268435455 l) {i : Nat} (hi : i < anN a0) (n : Nat) : -68719476736 ≤ snAt a0 a1 a2 l i n ∧ snAt a0 a1 a2 l i n ≤ 68719476736 := by
  have hB := back_bound (an_sized a0) (an_len hl hi) (all_cut hb _ _) n
  have := prod_big hB (anWin_in (a0 := a0) h1 h2 i n)
  unfold snAt rnd
  rw [show (2 : Int) ^ (26 - 1) = 33554432 from rfl, show (2 : Int) ^ 26 = 67108864 from rfl]
  omega
theorem anM_le (a0 : Int) : 32 ≤ anM a0 ∧ anM a0 ≤ 256 := by unfold anM; split <;> omega
theorem synOut_is {a0 a1 a2 : Int} (h1 : a1 = 0 ∨ a1 = 1) (h2 : a2 = 0 ∨ a2 = 1) {l : List Int} (hl : l.length = 256) (hb : AllIn 268435455 l) {i : Nat} (hi : i < anN a0) : synOut l (anM a0 * i) (anWin a0 a1 a2 i) = some (snOut a0 a1 a2 l i) := by
  have hm := anM_le a0
  have hX := anWin_length a0 a1 a2 i
  have hcl := an_len (a0 := a0) hl hi
  have h2m : (anWin a0 a1 a2 i).length / 2 = anM a0 := by omega
  have hpos : anM a0 * i + anM a0 ≤ l.length := by
    unfold anN at hi
    unfold anM
    by_cases h : a0 = 2
    · rw [if_pos h] at hi ⊢; omega
    · rw [if_neg h] at hi ⊢; omega
  have hI := inverse_yes (an_sized a0) hcl (all_cut hb _ _)
  have hlen : ((List.range (2 * anM a0)).map (backAt (anM a0) (anS a0) (anB a0) ((l.drop (anM a0 * i)).take (anM a0)))).length = 2 * anM a0 := by rw [List.length_map, List.length_range]
  have hT := times_is (b := 26) (by omega) (l := bkL a0 l i) (v := anWin a0 a1 a2 i) (by rw [bkL_length]; omega) (by rw [bkL_length]; omega) (fun n hn => by
    rw [bkL_length] at hn
    unfold bkL
    rw [rd_map_range hn]
    exact prod_big (back_bound (an_sized a0) hcl (all_cut hb _ _) n) (anWin_in (a0 := a0) h1 h2 i n)) (k := 3000) (by omega)
  rw [show ((26 : Nat) : Int) = 26 from rfl] at hT
  unfold synOut
  rw [if_pos (by omega), h2m, hI]
  unfold synOf
  rw [Option.bind_some, if_pos rfl]
  exact hT
def snL (a0 a1 a2 : Int) (l : List Int) : List Int := accL (anPos a0) (snOut a0 a1 a2 l) (anN a0)
theorem gatherS_is {pos : Nat → Nat} {step : Nat → Option (List Int)} {out : Nat → List Int} : ∀ {n : Nat}, (∀ i, i < n → step i = some (out i)) → (∀ i, i < n → pos i + (out i).length ≤ 512) → gatherS pos step n = some (accL pos out n)
  | 0, _, _ => rfl
  | n + 1, h, hg => by
    rw [gatherS, gatherS_is (fun i hi => h i (by omega)) (fun i hi => hg i (by omega)), Option.bind_some, h n (by omega), Option.bind_some, if_pos (hg n (by omega)), accL]
theorem synth_yes {a0 a1 a2 : Int} (h0 : 0 ≤ a0 ∧ a0 ≤ 3) (h1 : a1 = 0 ∨ a1 = 1) (h2 : a2 = 0 ∨ a2 = 1) {l : List Int} (hl : l.length = 256) (hb : AllIn 268435455 l) : block_Synth.f a0 a1 a2 l = some (snL a0 a1 a2 l, 0) := by
  have hask : block_asked.f 3000 a0 a1 a2 l 256 (-268435455) 268435455 = some 0 := by
    rcases asked_cases a0 a1 a2 l (many := 256) (low := -268435455) (high := 268435455) (by omega) (k := 3000) (by omega) with ⟨_, h | ⟨_, h⟩⟩ | ⟨_, _, h⟩ | ⟨h, _⟩
    · exact absurd (show MayBe a0 a1 a2 by unfold MayBe; omega) h
    · exact absurd (all_between hb) h
    · exact absurd hl h
    · exact h
  have hg : ∀ i, i < anN a0 → anPos a0 i + (snOut a0 a1 a2 l i).length ≤ 512 := fun i hi => by rw [snOut_length]; exact an_pos_le hi
  have hst : ∀ i, i < anN a0 → synOut l (anM a0 * i) (anWin a0 a1 a2 i) = some (snOut a0 a1 a2 l i) := fun i hi => synOut_is h1 h2 hl hb hi
  unfold block_Synth.f
  rw [hask, Option.bind_some, if_pos rfl, if_pos hl]
  by_cases h : a0 = 2
  · have e1 : anN a0 = 8 := by unfold anN; rw [if_pos h]
    have e2 : anM a0 = 32 := by unfold anM; rw [if_pos h]
    have e3 : anPos a0 = fun i => 112 + 32 * i := by funext i; unfold anPos; rw [if_pos h]
    rw [if_pos h, bhalf_yes h1, Option.bind_some, bhalf_yes h2, Option.bind_some, fall_yes h2 (by omega), Option.bind_some, if_pos (by rw [List.length_reverse, halfL_length, halfL_length]; decide)]
    rw [e1] at hst hg
    rw [e3] at hg
    rw [gatherS_is (out := snOut a0 a1 a2 l) (fun i hi => ?_) hg]
    · unfold snL; rw [e1, e3]; rfl
    · have := hst i hi
      rw [e2] at this
      unfold anWin litL at this
      rw [if_pos h] at this
      exact this
  · have e1 : anN a0 = 1 := by unfold anN; rw [if_neg h]
    have e3 : anPos a0 = fun _ => 0 := by funext i; unfold anPos; rw [if_neg h]
    rw [if_neg h, window_yes (by omega) h1 h2 (by omega), Option.bind_some, if_pos rfl]
    rw [e1] at hst hg
    rw [e3] at hg
    rw [gatherS_is (out := snOut a0 a1 a2 l) (fun i hi => ?_) hg]
    · unfold snL; rw [e1, e3]; rfl
    · have := hst i hi
      obtain rfl : i = 0 := by omega
      unfold anWin at this
      rw [Nat.mul_zero, if_neg h] at this
      exact this
theorem synth_no {a0 a1 a2 : Int} {l : List Int} : (∃ e, e ≠ 0 ∧ block_Synth.f a0 a1 a2 l = some ([], e) ∧ (¬ MayBe a0 a1 a2 → e = 2) ∧ (MayBe a0 a1 a2 → l.length ≠ 256 → e = 4)) ∨ (MayBe a0 a1 a2 ∧ l.length = 256 ∧ AllIn 268435455 l) := by
  unfold block_Synth.f
  rcases asked_cases a0 a1 a2 l (many := 256) (low := -268435455) (high := 268435455) (by omega) (k := 3000) (by omega) with ⟨h, h'⟩ | ⟨h, h', h''⟩ | ⟨_, h, h', h''⟩
  · refine .inl ⟨2, by decide, ?_, fun _ => rfl, fun g1 g2 => ?_⟩
    · rw [show ((256 : Nat) : Int) = 256 from rfl] at h
      rw [h, Option.bind_some, if_neg (by decide)]
    · rcases h' with h' | ⟨h', _⟩
      · exact absurd g1 h'
      · exact absurd h' g2
  · refine .inl ⟨4, by decide, ?_, fun g => absurd h' g, fun _ _ => rfl⟩
    rw [show ((256 : Nat) : Int) = 256 from rfl] at h
    rw [h, Option.bind_some, if_neg (by decide)]
  · exact .inr ⟨h, h', between_all h''⟩
theorem rd_set_eq {l : List Int} {i : Nat} (h : i < l.length) (v : Int) (n : Nat) : rd (l.set i v) (n : Int) = if n = i then v else rd l (n : Int) := by
  unfold rd
  rw [show ((n : Int)).toNat = n by omega, List.getD_eq_getElem?_getD, List.getElem?_set, List.getD_eq_getElem?_getD]
  by_cases e : i = n
  · rw [if_pos e, if_pos h, if_pos e.symm]; rfl
  · rw [if_neg e, if_neg (fun h => e h.symm)]
theorem addAt_rd {acc x : List Int} {p : Nat} {Y : Int} (hY : 0 ≤ Y ∧ Y ≤ 1152921504606846976) (ha : ∀ n : Nat, -Y ≤ rd acc (n : Int) ∧ rd acc (n : Int) ≤ Y) (hx : ∀ n : Nat, -1152921504606846976 ≤ rd x (n : Int) ∧ rd x (n : Int) ≤ 1152921504606846976) :
    ∀ j : Nat, p + j ≤ acc.length → ∀ n : Nat, rd (addAt acc p x j) (n : Int) = rd acc (n : Int) + (if p ≤ n ∧ n < p + j then rd x ((n - p : Nat) : Int) else 0)
  | 0, _, n => by rw [addAt, if_neg (by omega), Int.add_zero]
  | j + 1, h, n => by
    have hj : p + j ≤ acc.length := by omega
    have ih := fun n => addAt_rd hY ha hx j hj n
    rw [addAt, rd_set_eq (i := p + j) (by rw [addAt_length]; omega)]
    by_cases e : n = p + j
    · subst e
      have h1 := ih (p + j)
      rw [if_neg (by omega), Int.add_zero] at h1
      have h2 := ha (p + j)
      have h3 := hx j
      rw [if_pos rfl, h1, if_pos (by omega), show p + j - p = j by omega, wrap_in (by omega) (by omega)]
    · rw [if_neg e, ih n]
      by_cases h4 : p ≤ n ∧ n < p + j
      · rw [if_pos h4, if_pos (by omega)]
      · rw [if_neg h4, if_neg (by omega)]

end Go.Proofs.Ytpoppdaaodmicaa.Q

-- Written by a program of this session's (wip/mk.py, over the kit's print.py); Lean checks it.
namespace Go.Proofs.Ytpoppdaaodmicaa.Q
open Go.RowKit Go.Proofs.YtpoppdaaodmicaaW.PrintWords Go.Proofs.YtpoppdaaodmicaaW.PrintLast Go.Proofs.YtpoppdaaodmicaaW.PrintMore
attribute [local go_sem] max2_int min2_int max_two min_two max_three min_three max_four min_four   -- for this text's walks alone
set_option linter.unusedVariables false
set_option linter.unusedSimpArgs false

end Go.Proofs.Ytpoppdaaodmicaa.Q

-- Written by a program of this session's (wip/mk.py, over the kit's print.py); Lean checks it.
namespace Go.Proofs.Ytpoppdaaodmicaa.Q
open Go.RowKit Go.Proofs.YtpoppdaaodmicaaW.PrintWords Go.Proofs.YtpoppdaaodmicaaW.PrintLast Go.Proofs.YtpoppdaaodmicaaW.PrintMore
attribute [local go_sem] max2_int min2_int max_two min_two max_three min_three max_four min_four   -- for this text's walks alone
set_option linter.unusedVariables false
set_option linter.unusedSimpArgs false

end Go.Proofs.Ytpoppdaaodmicaa.Q

/- The laws of layer 12: what they all begin with. -/
namespace Go.Proofs.Ytpoppdaaodmicaa.Q
open Go.RowKit Go.Proofs.YtpoppdaaodmicaaW.PrintWords Go.Proofs.YtpoppdaaodmicaaW.PrintLast Go.Proofs.YtpoppdaaodmicaaW.PrintMore

theorem rd_zeros (n i : Nat) : rd (List.replicate n 0) (i : Int) = 0 := by
  unfold rd
  rw [List.getD_eq_getElem?_getD, List.getElem?_replicate]
  split <;> rfl
end Go.Proofs.Ytpoppdaaodmicaa.Q

/- Plain facts on sums: forward and back, samples come to themselves, less or and their mirror. -/
namespace Go.Proofs.Ytpoppdaaodmicaa.Q
open Go.RowKit Go.Proofs.YtpoppdaaodmicaaW.PrintWords Go.Proofs.YtpoppdaaodmicaaW.PrintLast Go.Proofs.YtpoppdaaodmicaaW.PrintMore

def sm : Nat → (Nat → Int) → Int
  | 0, _ => 0
  | n + 1, f => sm n f + f n
theorem sm_congr {f g : Nat → Int} : ∀ {n : Nat}, (∀ i, i < n → f i = g i) → sm n f = sm n g
  | 0, _ => rfl
  | n + 1, h => by rw [sm, sm, sm_congr (fun i hi => h i (by omega)), h n (by omega)]
theorem sm_head (f : Nat → Int) : ∀ n : Nat, sm (n + 1) f = f 0 + sm n (fun i => f (i + 1))
  | 0 => by simp [sm]
  | n + 1 => by rw [sm, sm_head f n, sm]; omega
theorem sm_bound {f : Nat → Int} {B : Int} : ∀ {n : Nat}, (∀ i, i < n → -B ≤ f i ∧ f i ≤ B) → -((n : Int) * B) ≤ sm n f ∧ sm n f ≤ (n : Int) * B
  | 0, _ => by simp [sm]
  | n + 1, h => by
    have h1 := sm_bound (n := n) (fun i hi => h i (by omega))
    have h2 := h n (by omega)
    rw [sm, show (((n + 1 : Nat)) : Int) = (n : Int) + 1 by omega, Int.add_mul, Int.one_mul]
    generalize (n : Int) * B = z at *
    omega
theorem dot_sm (b : Int) : ∀ (l : List Int) (a : Int), dot b l a = sm l.length (fun i => rd l (i : Int) * Tab.C (a + i * b))
  | [], _ => rfl
  | x :: r, a => by
    rw [dot, dot_sm b r, List.length_cons, sm_head]
    congr 1
    · rw [show ((0 : Nat) : Int) * b = 0 by simp, Int.add_zero]; rfl
    · refine sm_congr fun i _ => ?_
      rw [show a + b + (i : Int) * b = a + ((i + 1 : Nat) : Int) * b by rw [show (((i + 1 : Nat)) : Int) = (i : Int) + 1 by omega, Int.add_mul]; omega]
      rfl

def arcAt (m : Nat) (s : Int) (n k : Nat) : Int := (2 * (n : Int) + 1 + (m : Int)) * ((2 * (k : Int) + 1) * s)
def zs (m : Nat) (s j : Int) : Int := sm m (fun k => Tab.C (2 * j * ((2 * (k : Int) + 1) * s)))
theorem backAt_sum {m b : Nat} {s : Int} {x : List Int} (hl : x.length = m) (n : Nat) : backAt m s b x n = rnd b (sm m (fun k => rd x (k : Int) * Tab.C (arcAt m s n k))) := by
  unfold backAt
  rw [dot_sm, hl]
  congr 1
  refine sm_congr fun k _ => ?_
  congr 2
  unfold arcAt
  generalize 2 * (n : Int) + 1 + (m : Int) = a
  rw [← Int.mul_assoc 2 a s, Int.mul_comm 2 a, Int.mul_assoc a 2 s, ← Int.mul_assoc (k : Int) a, Int.mul_comm (k : Int) a, Int.mul_assoc a (k : Int), ← Int.mul_add, ← Int.mul_assoc (k : Int) 2 s, Int.mul_comm (k : Int) 2, Int.add_mul, Int.one_mul, Int.add_comm s]
end Go.Proofs.Ytpoppdaaodmicaa.Q

/- Plain facts on block.Synth, one by one: each number is a sum of what its windows bear; noughts; what hangs on what. -/
namespace Go.Proofs.Ytpoppdaaodmicaa.Q
open Go.RowKit Go.Proofs.YtpoppdaaodmicaaW.PrintWords Go.Proofs.YtpoppdaaodmicaaW.PrintLast Go.Proofs.YtpoppdaaodmicaaW.PrintMore

def bearAt (a0 a1 a2 : Int) (l : List Int) (n i : Nat) : Int := if anPos a0 i ≤ n ∧ n < anPos a0 i + 2 * anM a0 then snAt a0 a1 a2 l i (n - anPos a0 i) else 0
theorem accL_rd {a0 a1 a2 : Int} (h1 : a1 = 0 ∨ a1 = 1) (h2 : a2 = 0 ∨ a2 = 1) {l : List Int} (hl : l.length = 256) (hb : AllIn 268435455 l) : ∀ N : Nat, N ≤ anN a0 → ∀ n : Nat,
    (-((N : Int) * 68719476736) ≤ rd (accL (anPos a0) (snOut a0 a1 a2 l) N) (n : Int) ∧ rd (accL (anPos a0) (snOut a0 a1 a2 l) N) (n : Int) ≤ (N : Int) * 68719476736) ∧ rd (accL (anPos a0) (snOut a0 a1 a2 l) N) (n : Int) = sm N (bearAt a0 a1 a2 l n)
  | 0, _, n => by
    rw [accL, rd_zeros, sm]
    exact ⟨by omega, rfl⟩
  | N + 1, hN, n => by
    have hN' : N ≤ anN a0 := by omega
    have ih := accL_rd (a0 := a0) h1 h2 hl hb N hN'
    have hN8 : anN a0 ≤ 8 := by unfold anN; split <;> omega
    have hpos := an_pos_le (a0 := a0) (i := N) (by omega)
    have hlen : (snOut a0 a1 a2 l N).length = 2 * anM a0 := snOut_length a0 a1 a2 l N
    have hx : ∀ k : Nat, -1152921504606846976 ≤ rd (snOut a0 a1 a2 l N) (k : Int) ∧ rd (snOut a0 a1 a2 l N) (k : Int) ≤ 1152921504606846976 := by
      intro k
      by_cases hk : k < 2 * anM a0
      · rw [rd_snOut hk]
        have := snAt_bound h1 h2 hl hb (a0 := a0) (i := N) (by omega) k
        omega
      · unfold rd
        rw [show ((k : Int)).toNat = k by omega, List.getD_eq_getElem?_getD, List.getElem?_eq_none (by omega)]
        exact ⟨by decide, by decide⟩
    have hacc : (accL (anPos a0) (snOut a0 a1 a2 l) N).length = 512 := accL_length _ _ N
    have hr := addAt_rd (Y := (N : Int) * 68719476736) (by omega) (fun k => (ih k).1) hx (2 * anM a0) (by rw [hacc]; omega) n
    have hB : -68719476736 ≤ bearAt a0 a1 a2 l n N ∧ bearAt a0 a1 a2 l n N ≤ 68719476736 := by
      unfold bearAt
      split
      · exact snAt_bound h1 h2 hl hb (by omega) _
      · exact ⟨by decide, by decide⟩
    have he : (if anPos a0 N ≤ n ∧ n < anPos a0 N + 2 * anM a0 then rd (snOut a0 a1 a2 l N) ((n - anPos a0 N : Nat) : Int) else 0) = bearAt a0 a1 a2 l n N := by
      unfold bearAt
      by_cases h : anPos a0 N ≤ n ∧ n < anPos a0 N + 2 * anM a0
      · rw [if_pos h, if_pos h, rd_snOut (by omega)]
      · rw [if_neg h, if_neg h]
    rw [he] at hr
    have e1 : accL (anPos a0) (snOut a0 a1 a2 l) (N + 1) = addAt (accL (anPos a0) (snOut a0 a1 a2 l) N) (anPos a0 N) (snOut a0 a1 a2 l N) (2 * anM a0) := by rw [accL, hlen]
    have i2 := (ih n).2
    have i1 := (ih n).1
    rw [e1, hr, sm, ← i2]
    clear e1 hr i2 he hx hacc ih
    refine ⟨?_, rfl⟩
    generalize rd (accL (anPos a0) (snOut a0 a1 a2 l) N) (n : Int) = u at *
    generalize bearAt a0 a1 a2 l n N = v at *
    rw [show (((N + 1 : Nat)) : Int) = (N : Int) + 1 by omega, Int.add_mul, Int.one_mul]
    generalize (N : Int) * 68719476736 = z at *
    omega
theorem snL_length (a0 a1 a2 : Int) (l : List Int) : (snL a0 a1 a2 l).length = 512 := accL_length _ _ _
theorem snL_bound {a0 a1 a2 : Int} (h1 : a1 = 0 ∨ a1 = 1) (h2 : a2 = 0 ∨ a2 = 1) {l : List Int} (hl : l.length = 256) (hb : AllIn 268435455 l) (n : Nat) : -549755813888 ≤ rd (snL a0 a1 a2 l) (n : Int) ∧ rd (snL a0 a1 a2 l) (n : Int) ≤ 549755813888 := by
  have h := (accL_rd h1 h2 hl hb (anN a0) (Nat.le_refl _) n).1
  have hN8 : anN a0 ≤ 8 := by unfold anN; split <;> omega
  unfold snL
  omega
end Go.Proofs.Ytpoppdaaodmicaa.Q

-- Written by a program of this session's (wip/mk.py, over the kit's print.py); Lean checks it.
namespace Go.Proofs.Ytpoppdaaodmicaa.Q
open Go.RowKit Go.Proofs.YtpoppdaaodmicaaW.PrintWords Go.Proofs.YtpoppdaaodmicaaW.PrintLast Go.Proofs.YtpoppdaaodmicaaW.PrintMore
attribute [local go_sem] max2_int min2_int max_two min_two max_three min_three max_four min_four   -- for this text's walks alone
set_option linter.unusedVariables false
set_option linter.unusedSimpArgs false

def fix_Clip.f (a0 : Int) (a1 : Int) : Option (Int × Int) := if a1 < 1 then (some (0, 2)) else (if a1 > 62 then (some (0, 2)) else (if 0 ≤ (wrap64 (a1 - 1)) then (some (mn (mx a0 (wrap64 ((wrap64 (-(wrap64 ((shl .i64 1 (wrap64 (a1 - 1))) - 1)))) - 1))) (wrap64 ((shl .i64 1 (wrap64 (a1 - 1))) - 1)), 0)) else (none)))
set_option maxHeartbeats 8000000 in
set_option maxRecDepth 100000 in
theorem fix_Clip.calls (a0 : Int) (a1 : Int) (r1 : Int) (r2 : Int) (w : World) (h : fix_Clip.f a0 a1 = some (r1, r2)) :
  Calls Try.prog 68 #[.int .i64 a0, .int .i64 a1] w fun e w' => e = .returned (.tuple #[.int .i64 r1, .int .i64 r2]) ∧ Below w.heap.size w w' := by
 have HB := Aside0.mk (Below.refl w.heap.size w)
 have H : (if a1 < 1 then (some (0, 2)) else (if a1 > 62 then (some (0, 2)) else (if 0 ≤ (wrap64 (a1 - 1)) then (some (mn (mx a0 (wrap64 ((wrap64 (-(wrap64 ((shl .i64 1 (wrap64 (a1 - 1))) - 1)))) - 1))) (wrap64 ((shl .i64 1 (wrap64 (a1 - 1))) - 1)), 0)) else (none)))) = some (r1, r2) := h
 clear h
 by_cases c3 : a1 < 1
 ·rw [if_pos c3] at H
  have c3b0 : decide (a1 < 1) = true := decide_eq_true c3
  clear c3
  simp only [Option.some.injEq, Prod.mk.injEq] at H
  obtain ⟨rfl, rfl⟩ := H
  go_enter Try.func68, Try.ntmps68
  go_wp2
  go_ret2
  exact ⟨by first | rfl | (simp [errW_none, errW_some] <;> rfl) | (simp [*, errW_none, errW_some] <;> rfl), by repeat (first | (with_reducible first | exact HB.out | apply below_alloc | apply pw_below_drewN | apply below_drew1) | exact HB.out)⟩
 ·rw [if_neg c3] at H
  have c3b0 : decide (a1 < 1) = false := decide_eq_false c3
  clear c3
  by_cases c4 : a1 > 62
  ·rw [if_pos c4] at H
   have c4b0 : decide (62 < a1) = true := decide_eq_true c4
   clear c4
   simp only [Option.some.injEq, Prod.mk.injEq] at H
   obtain ⟨rfl, rfl⟩ := H
   go_enter Try.func68, Try.ntmps68
   go_wp2
   go_ret2
   exact ⟨by first | rfl | (simp [errW_none, errW_some] <;> rfl) | (simp [*, errW_none, errW_some] <;> rfl), by repeat (first | (with_reducible first | exact HB.out | apply below_alloc | apply pw_below_drewN | apply below_drew1) | exact HB.out)⟩
  ·rw [if_neg c4] at H
   have c4b0 : decide (62 < a1) = false := decide_eq_false c4
   clear c4
   obtain ⟨ji5, hji5⟩ : ∃ j_ : Int, (wrap64 (a1 - 1)) = j_ := ⟨_, rfl⟩
   replace H : (if 0 ≤ (ji5) then (some (mn (mx a0 (wrap64 ((wrap64 (-(wrap64 ((shl .i64 1 (ji5)) - 1)))) - 1))) (wrap64 ((shl .i64 1 (ji5)) - 1)), 0)) else (none)) = some (r1, r2) := by first | (rw [hji5] at H; exact H) | (simp only [hji5] at H ⊢; exact H)
   have hji5w : (IntKind.i64.wrap (a1 - 1)) = ji5 := (i64_w _).trans hji5
   by_cases c6 : 0 ≤ (ji5)
   ·rw [if_pos c6] at H
    have c6b0 := eq_true c6
    have c6b1 : decide (0 ≤ (ji5)) = true := decide_eq_true c6
    clear c6
    obtain ⟨ji7, hji7⟩ : ∃ j_ : Int, (shl .i64 1 (ji5)) = j_ := ⟨_, rfl⟩
    replace H : (some (mn (mx a0 (wrap64 ((wrap64 (-(wrap64 ((ji7) - 1)))) - 1))) (wrap64 ((ji7) - 1)), 0)) = some (r1, r2) := by first | (rw [hji7] at H; exact H) | (simp only [hji7] at H ⊢; exact H)
    have hji7_ : (IntKind.i64.wrap (1 * 2 ^ min (ji5).toNat 64)) = ji7 := hji7
    have hji7z : (ji5) ≤ 64 → (IntKind.i64.wrap (1 * 2 ^ (ji5).toNat)) = ji7 := shl_small hji7
    have hji7u : (IntKind.i64.wrap (2 ^ min (ji5).toNat 64)) = ji7 := by have h_ := hji7_; rw [Int.one_mul] at h_; exact h_
    have hji7v : (ji5) ≤ 64 → (IntKind.i64.wrap (2 ^ (ji5).toNat)) = ji7 := fun hle_ => by have h_ := hji7z hle_; rw [Int.one_mul] at h_; exact h_
    have hji7y : (wrap64 (1 * 2 ^ min (ji5).toNat 64)) = ji7 := (i64_w _).symm.trans hji7_
    have hji7x : (ji5) ≤ 64 → (wrap64 (1 * 2 ^ (ji5).toNat)) = ji7 := fun h_ => (i64_w _).symm.trans (hji7z h_)
    obtain ⟨ji8, hji8⟩ : ∃ j_ : Int, (mx a0 (wrap64 ((wrap64 (-(wrap64 ((ji7) - 1)))) - 1))) = j_ := ⟨_, rfl⟩
    replace H : (some (mn (ji8) (wrap64 ((ji7) - 1)), 0)) = some (r1, r2) := by first | (rw [hji8] at H; exact H) | (simp only [hji8] at H ⊢; exact H)
    have hji8_ : (if a0 < (wrap64 ((wrap64 (-(wrap64 ((ji7) - 1)))) - 1)) then (wrap64 ((wrap64 (-(wrap64 ((ji7) - 1)))) - 1)) else a0) = ji8 := hji8
    obtain ⟨ji9, hji9⟩ : ∃ j_ : Int, (mn (ji8) (wrap64 ((ji7) - 1))) = j_ := ⟨_, rfl⟩
    replace H : (some (ji9, 0)) = some (r1, r2) := by first | (rw [hji9] at H; exact H) | (simp only [hji9] at H ⊢; exact H)
    have hji9_ : (if (wrap64 ((ji7) - 1)) < (ji8) then (wrap64 ((ji7) - 1)) else (ji8)) = ji9 := hji9
    simp only [Option.some.injEq, Prod.mk.injEq] at H
    obtain ⟨rfl, rfl⟩ := H
    go_enter Try.func68, Try.ntmps68
    go_wp2
    go_ret2
    exact ⟨by first | rfl | (simp [errW_none, errW_some] <;> rfl) | (simp only [← hji5, ← hji7, ← hji8, ← hji9]; first | rfl | (simp [errW_none, errW_some] <;> rfl)) | (simp [*, errW_none, errW_some] <;> rfl), by repeat (first | (with_reducible first | exact HB.out | apply below_alloc | apply pw_below_drewN | apply below_drew1) | exact HB.out)⟩
   ·rw [if_neg c6] at H
    exact absurd H (by simp)

end Go.Proofs.Ytpoppdaaodmicaa.Q

-- Several functions' contracts in one text.
namespace Go.Proofs.Ytpoppdaaodmicaa.Q
open Go.RowKit Go.Shelf Go.Proofs.YtpoppdaaodmicaaW.PrintWords Go.Proofs.YtpoppdaaodmicaaW.PrintLast Go.Proofs.YtpoppdaaodmicaaW.PrintMore
attribute [local go_sem] Oper.semAt_some
set_option linter.unusedVariables false
set_option linter.unusedSimpArgs false

theorem append_fresh (w : World) {ad1 : Addr} {A2 : Option Addr} {ys : List Int} {c : Nat} (h2 : Kd.C (Kd.int .i64) w A2 ys.length ys) (p2 : 0 < ys.length) (hl : ys.length ≤ 1000) :
    ∃ v' w', (Builtin.append_ #[29, 29] 29 #[.slice (some ad1) 0 0, .slice A2 ys.length c]).run Try.prog w = .ok v' w' ∧ Kd.R (Kd.int .i64) 3 w' w.heap.size (fun _ => True) v' ys ∧ Below w.heap.size w w' := by
  obtain ⟨i0, hi, hz0, hz1, hz2⟩ := info_parts info3
  obtain ⟨ad2, rfl, hc⟩ := h2.2.2 p2
  have g2 : ∀ j u, (encs (Value.int .i64) ys)[j]? = some u → w.cell? (ad2.add j) = some u := by
    intro j u hj
    simp only [encs, List.getElem?_map, Option.map_eq_some_iff] at hj
    obtain ⟨x, hx, rfl⟩ := hj
    obtain ⟨c, _, hk, hcell⟩ := hc j x hx
    have hk' : c = [Value.int .i64 x] := hk
    have := hcell 0 (.int .i64 x) (by rw [hk']; rfl)
    have hs : (Kd.int .i64).sz = 1 := rfl
    rw [hs, Nat.mul_one, Nat.add_zero] at this
    exact this
  obtain ⟨v', w', hrun, hown, hg⟩ := run_append_arg_grows (P := Try.prog) w 29 29 3 i0 (.int .i64 0) 1 8 Try.underlying29 hi hz0 hz1 hz2 rfl (by decide) ad1 0 0 [] (by simp) (by simp) ad2 ys.length c (encs (Value.int .i64) ys) (by simp [encs]) g2 (by omega) (by simp [maxLen]; omega) (by omega)
  refine ⟨v', w', hrun, ?_, ?_⟩
  · refine Kd.R_of_own (enc := Value.int .i64) ?_ (fun _ _ => trivial)
    rw [Nat.zero_add, List.nil_append] at hown
    exact hown
  · exact (Below.refl _ _).grown hg (Nat.le_refl _) (fun k e => by cases e)

set_option maxRecDepth 100000 in
set_option maxHeartbeats 2000000 in
theorem slices_Clone_int_int.calls (A0 : Option Addr) (c0 : Nat) (l0 : List Int) (w : World) (hr0 : Kd.C (Kd.int .i64) w A0 l0.length l0) (hc0 : l0.length ≤ c0) (hl : 0 < l0.length ∧ l0.length ≤ 1000) :
    Calls Try.prog 69 #[.slice A0 l0.length c0] w fun e w' => ∃ v0_ : Value, e = .returned (v0_) ∧ Kd.R (Kd.int .i64) 3 w' w.heap.size (fun _ => True) v0_ l0 ∧ Below w.heap.size w w' := by
  obtain ⟨ad, rfl, _⟩ := hr0.2.2 hl.1
  have hb0 : Below w.heap.size w (w.alloc (.cells #[] 3)) := (Below.refl _ w).alloc (Nat.le_refl _) _
  obtain ⟨v', w', hrun, hR, hb⟩ := append_fresh (w.alloc (.cells #[] 3)) (ad1 := ⟨w.heap.size, 0, none⟩) (c := c0) (Kd.C_below hr0 hb0) hl.1 hl.2
  have hcmp : ∀ W : World, (binOp BinOp.eql 29 (.slice (some ad) l0.length c0) (.slice none 0 0)).run Try.prog W = .ok (.bool false) W := fun _ => rfl
  have HRUN := Lib.hid hrun
  have HR := Lib.hid hR
  have HB := Lib.hid (hb0.trans (hb.mono hb0.size))
  clear hr0 hl hb0 hrun hR hb
  refine (callsIn_wide (n := 12)).1 ?_
  refine callsIn_of_wp Try.func69 rfl trivial ?_ rfl
  simp only [Try.ntmps69, List.size_toArray, List.length_cons, List.length_nil, Nat.reduceAdd, Nat.reduceSub, Array.replicate_succ, Array.replicate_zero, List.push_toArray, List.append_toArray, List.nil_append, List.cons_append]
  gi_wp2_with (gi_at_builtin; refine wpListIn_append_run rfl _ _ _ rfl _ _ _ rfl rfl HRUN.out ?_)
  refine bodyPost_ret (results_tmp rfl _ _ _) rfl ?_
  exact ⟨v', rfl, Kd.R_lower HR.out (by simp), HB.out⟩

def Gd1 (val : Nat → Int) (i : Nat) (vs : Array Value) (W : World) : Prop := vs = #[.int .i64 (val i)]
theorem addr_block (a : Addr) (n : Nat) : (a.add n).block = a.block := by unfold Addr.add; split <;> rfl
theorem C_stays {T : Nat → Prop} {B : Nat} {w W : World} {A : Option Addr} {n : Nat} {xs : List Int} (h : Kd.C (Kd.int .i64) w A n xs) (hS : Stays T B w W) (hA : ∀ ad, A = some ad → ad.block < B ∧ ¬ T ad.block) : Kd.C (Kd.int .i64) W A n xs := by
  refine ⟨h.1, h.2.1, fun hn => ?_⟩
  obtain ⟨ad, ha, hc⟩ := h.2.2 hn
  refine ⟨ad, ha, fun j p hj => ?_⟩
  obtain ⟨c, h1, h2, h3⟩ := hc j p hj
  have hx := hA ad ha
  exact ⟨c, h1, h2, fun i u hi => (hS.cell (p := ad.add (j * (Kd.int .i64).sz + i)) (by rw [addr_block]; exact hx.1) (by rw [addr_block]; exact hx.2)).trans (h3 i u hi)⟩
set_option maxHeartbeats 1000000 in
theorem both.calls (A1 A2 : Option Addr) (n1 c1 n2 c2 : Nat) (w : World) :
    Calls Try.prog 66 #[.slice A1 n1 c1, .slice A2 n2 c2] w fun e w' => e = .returned (.func (.func 99) #[] #[.pointer (some ⟨w.heap.size, 0, none⟩), .pointer (some ⟨w.heap.size + 1, 0, none⟩)]) ∧
      w' = (w.alloc (.cells #[.slice A1 n1 c1] 29)).alloc (.cells #[.slice A2 n2 c2] 29) := by
  go_enter Try.func66, Try.ntmps66
  go_wp2_with fail
  go_ret
  exact ⟨rfl, rfl⟩

set_option maxRecDepth 100000 in
set_option maxHeartbeats 4000000 in
theorem both_go (n : Nat) (hn : 3 ≤ n) (B1 B2 : Nat) (a1 a2 : Addr) (c1 c2 : Nat) (X Y : List Int) (hle : X.length ≤ Y.length) (hX : X.length ≤ 1000) (T : Nat → Prop) (w : World) (h1 : B1 < w.heap.size ∧ B2 < w.heap.size) (hT : ¬ T B1 ∧ ¬ T B2)
    (d1 : w.cell? ⟨B1, 0, none⟩ = some (.slice (some a1) X.length c1)) (d2 : w.cell? ⟨B2, 0, none⟩ = some (.slice (some a2) Y.length c2))
    (hXC : Kd.C (Kd.int .i64) w (some a1) X.length X) (hYC : Kd.C (Kd.int .i64) w (some a2) Y.length Y) (hA : (a1.block < w.heap.size ∧ ¬ T a1.block) ∧ (a2.block < w.heap.size ∧ ¬ T a2.block)) :
    SeqGo Fence.wide n Try.prog 99 #[.pointer (some ⟨B1, 0, none⟩), .pointer (some ⟨B2, 0, none⟩)] T w.heap.size X.length (Gd1 (fun i => wrap64 (rd X (i : Int) + rd Y (i : Int)))) w := by
  intro l J W hW hJ hY h0
  have HD := Lib.hid (fun W' (h : Stays T w.heap.size w W') => (⟨(h.cell (p := ⟨B1, 0, none⟩) h1.1 hT.1).trans d1, (h.cell (p := ⟨B2, 0, none⟩) h1.2 hT.2).trans d2,
    C_stays hXC h (fun ad e => by cases e; exact hA.1), C_stays hYC h (fun ad e => by cases e; exact hA.2)⟩ : _ ∧ _ ∧ _ ∧ _))
  have HY := Lib.hid hY
  have HJ := Lib.hid hJ
  have H0 := Lib.hid h0
  have HW := Lib.hid hW
  have HLE := Lib.hid (⟨hle, hX⟩ : _ ∧ _)
  clear hY hJ h0 hW h1 hT d1 d2 hXC hYC hA hle hX
  refine callsIn_of_wp Try.func99 rfl trivial ?_ rfl
  simp only [Try.ntmps99, List.size_toArray, List.length_cons, List.length_nil, Nat.reduceAdd, Nat.reduceSub, Array.replicate_succ, Array.replicate_zero, List.push_toArray, List.append_toArray, List.nil_append, List.cons_append]
  gi_wp2_with fail
  gi_loopw [4] (fun v4 wr => ∃ (i : Nat), i ≤ X.length ∧ v4 = .int .i64 (i : Int) ∧ Hid (Stays T w.heap.size w wr) ∧ Hid (J i wr)) (fun v4 wr => (X.length - intOf v4).toNat)
  case atStart => exact ⟨0, Nat.zero_le _, rfl, HW, H0⟩
  case round =>
    obtain ⟨i, hi, rfl, HSi, HJi⟩ := hrel
    obtain ⟨e1, e2, e3, e4⟩ := HD.out _ HSi.out
    by_cases hlt : i < X.length
    · have hltY : i < Y.length := Nat.lt_of_lt_of_le hlt HLE.out.1
      obtain ⟨adx, hax, hcx⟩ := Kd.at_int e3 (i : Int) (Int.natCast_nonneg _) (Int.ofNat_lt.mpr hlt)
      obtain ⟨ady, hay, hcy⟩ := Kd.at_int e4 (i : Int) (Int.natCast_nonneg _) (Int.ofNat_lt.mpr hltY)
      cases hax
      cases hay
      rw [Int.toNat_natCast] at hcx hcy
      obtain ⟨fn, tmps, assign, body, hy, hR⟩ := HY.out i #[.int .i64 (wrap64 (rd X (i : Int) + rd Y (i : Int)))] wr.drew hlt (HJ.out _ _ _ HJi.out (pw_below_drewN (Below.refl _ _) 1)) rfl
      have hww : wrap64 (rd X (i : Int) + rd Y (i : Int)) = IntKind.i64.wrap (rd X (i : Int) + rd Y (i : Int)) := (IntWalk.i64_left _).symm
      rw [hww] at hy
      have HR := Lib.hid hR
      have hw1 : wrap64 ((i : Int) + 1) = (i : Int) + 1 := by have := HLE.out.2; unfold wrap64; omega
      have q1 : decide ((i : Int) < (X.length : Int)) = true := decide_eq_true (by omega)
      have q2 : decide ((i : Int) < (Y.length : Int)) = true := decide_eq_true (by omega)
      clear e3 e4 hR
      gi_wp2_with fail
      gi_region_with (refine ⟨fun _ => by omega, HR.out.mono ?_⟩; rintro e W2 ⟨rfl, hJ2, hk2⟩)
      all_goals
        have HS2 := Lib.hid (HSi.out.trans ((Stays.below (T := T) (pw_below_drewN (Below.refl wr.heap.size wr) 1) HSi.out.1).trans hk2))
        have HJ2 := Lib.hid hJ2
        have hb := HLE.out.2
        clear hJ2 hk2 hy HR hww q1 q2 e1 e2 hcx hcy
        gi_wp2_with fail
        go_roundw
        case rel => exact ⟨i + 1, hlt, by rw [Int.natCast_add]; rfl, HS2, HJ2⟩
        case measure => simp [intOf]; omega
    · obtain rfl : i = X.length := Nat.le_antisymm hi (Nat.le_of_not_lt hlt)
      have q1 : decide ((X.length : Int) < (X.length : Int)) = false := decide_eq_false (by omega)
      gi_wp2_with fail
      refine wpIn_region_quiet_lit rfl (by kernel_rfl) (by kernel_rfl) ?_
      repeat (gi_big_quiet_step (fail))
      refine wpQuietIn_step (fun _ _ _ _ => trivial) (fun K hK => ?_)
      go_simp
      refine hK _ ?_
      clear hK K
      repeat (gi_big_quiet_step (fail))
      refine wpQuietIn_nil ?_
      rintro _ ⟨nq, rfl⟩
      gi_wp2_with fail
      go_end0
      exact ⟨⟨_, rfl⟩, HJ.out _ _ _ HJi.out (pw_below_drewN (Below.refl _ _) nq)⟩

end Go.Proofs.Ytpoppdaaodmicaa.Q

namespace Go.Proofs.Ytpoppdaaodmicaa.Q
open Go.RowKit Go.Proofs.YtpoppdaaodmicaaW.PrintWords Go.Proofs.YtpoppdaaodmicaaW.PrintLast Go.Proofs.YtpoppdaaodmicaaW.PrintMore
set_option linter.unusedVariables false
set_option linter.unusedSimpArgs false

def lap_Check.f (l0_0 : List Int) (a0_1 : Int) (a0_2 : Int) : Option (Int) := if l0_0.length = 256 then (if l0_0.any farB = true then some 8 else if a0_1 > 3 then some 8 else if a0_2 > 1 then some 8 else some 0) else some 8

set_option maxRecDepth 100000 in
set_option maxHeartbeats 2000000 in
theorem check_many (A : Option Addr) (c : Nat) (l : List Int) (a1 a2 : Int) (w : World) (h : ((l.length : Int) != 256) = true) :
    Calls Try.prog 43 #[.agg #[.slice A l.length c, .int .u8 a1, .int .u8 a2]] w fun e w' => e = .returned (.int .i64 8) ∧ Below w.heap.size w w' := by
  have HB := Lib.hid ((Below.refl w.heap.size w).alloc (Nat.le_refl _) (.cells #[.slice A l.length c, .int .u8 a1, .int .u8 a2] 31))
  go_enter Try.func43, Try.ntmps43
  go_wp2_with fail
  go_ret
  exact ⟨rfl, HB.out⟩
set_option maxRecDepth 100000 in
set_option maxHeartbeats 2000000 in
theorem check_far (A : Option Addr) (c : Nat) (l : List Int) (a1 a2 : Int) (w : World) (h : ((l.length : Int) != 256) = false) (hl : l.length ≤ 9223372036854775807) (hr : Kd.C (Kd.int .i64) w A l.length l) (ho : l.any farB = true) :
    Calls Try.prog 43 #[.agg #[.slice A l.length c, .int .u8 a1, .int .u8 a2]] w fun e w' => e = .returned (.int .i64 8) ∧ Below w.heap.size w w' := by
  have hb := (Below.refl w.heap.size w).alloc (Nat.le_refl _) (.cells #[.slice A l.length c, .int .u8 a1, .int .u8 a2] 31)
  have hc := contains78.calls farB A c l (w.alloc (.cells #[.slice A l.length c, .int .u8 a1, .int .u8 a2] 31)) hl (Kd.C_below hr hb) (fun x => far1.calls x _)
  rw [ho] at hc
  clear ho
  have HC := Lib.hid hc
  have HB := Lib.hid hb
  clear hc hb hr hl
  go_enter Try.func43, Try.ntmps43
  go_wp2_with fail
  refine HC.out.mono ?_
  rintro e w' ⟨rfl, rfl⟩
  go_wp2_with fail
  go_ret
  exact ⟨rfl, HB.out⟩
set_option maxRecDepth 100000 in
set_option maxHeartbeats 2000000 in
theorem check_seq (A : Option Addr) (c : Nat) (l : List Int) (a1 a2 : Int) (w : World) (h : ((l.length : Int) != 256) = false) (hl : l.length ≤ 9223372036854775807) (hr : Kd.C (Kd.int .i64) w A l.length l) (ho : l.any farB = false) (h1 : decide (3 < a1) = true) :
    Calls Try.prog 43 #[.agg #[.slice A l.length c, .int .u8 a1, .int .u8 a2]] w fun e w' => e = .returned (.int .i64 8) ∧ Below w.heap.size w w' := by
  have hb := (Below.refl w.heap.size w).alloc (Nat.le_refl _) (.cells #[.slice A l.length c, .int .u8 a1, .int .u8 a2] 31)
  have hc := contains78.calls farB A c l (w.alloc (.cells #[.slice A l.length c, .int .u8 a1, .int .u8 a2] 31)) hl (Kd.C_below hr hb) (fun x => far1.calls x _)
  rw [ho] at hc
  clear ho
  have HC := Lib.hid hc
  have HB := Lib.hid hb
  clear hc hb hr hl
  go_enter Try.func43, Try.ntmps43
  go_wp2_with fail
  refine HC.out.mono ?_
  rintro e w' ⟨rfl, rfl⟩
  go_wp2_with fail
  go_ret
  exact ⟨rfl, HB.out⟩
set_option maxRecDepth 100000 in
set_option maxHeartbeats 2000000 in
theorem check_shape (A : Option Addr) (c : Nat) (l : List Int) (a1 a2 : Int) (w : World) (h : ((l.length : Int) != 256) = false) (hl : l.length ≤ 9223372036854775807) (hr : Kd.C (Kd.int .i64) w A l.length l) (ho : l.any farB = false) (h1 : decide (3 < a1) = false) (h2 : decide (1 < a2) = true) :
    Calls Try.prog 43 #[.agg #[.slice A l.length c, .int .u8 a1, .int .u8 a2]] w fun e w' => e = .returned (.int .i64 8) ∧ Below w.heap.size w w' := by
  have hb := (Below.refl w.heap.size w).alloc (Nat.le_refl _) (.cells #[.slice A l.length c, .int .u8 a1, .int .u8 a2] 31)
  have hc := contains78.calls farB A c l (w.alloc (.cells #[.slice A l.length c, .int .u8 a1, .int .u8 a2] 31)) hl (Kd.C_below hr hb) (fun x => far1.calls x _)
  rw [ho] at hc
  clear ho
  have HC := Lib.hid hc
  have HB := Lib.hid hb
  clear hc hb hr hl
  go_enter Try.func43, Try.ntmps43
  go_wp2_with fail
  refine HC.out.mono ?_
  rintro e w' ⟨rfl, rfl⟩
  go_wp2_with fail
  go_ret
  exact ⟨rfl, HB.out⟩
set_option maxRecDepth 100000 in
set_option maxHeartbeats 2000000 in
theorem check_ok (A : Option Addr) (c : Nat) (l : List Int) (a1 a2 : Int) (w : World) (h : ((l.length : Int) != 256) = false) (hl : l.length ≤ 9223372036854775807) (hr : Kd.C (Kd.int .i64) w A l.length l) (ho : l.any farB = false) (h1 : decide (3 < a1) = false) (h2 : decide (1 < a2) = false) :
    Calls Try.prog 43 #[.agg #[.slice A l.length c, .int .u8 a1, .int .u8 a2]] w fun e w' => e = .returned (.int .i64 0) ∧ Below w.heap.size w w' := by
  have hb := (Below.refl w.heap.size w).alloc (Nat.le_refl _) (.cells #[.slice A l.length c, .int .u8 a1, .int .u8 a2] 31)
  have hc := contains78.calls farB A c l (w.alloc (.cells #[.slice A l.length c, .int .u8 a1, .int .u8 a2] 31)) hl (Kd.C_below hr hb) (fun x => far1.calls x _)
  rw [ho] at hc
  clear ho
  have HC := Lib.hid hc
  have HB := Lib.hid hb
  clear hc hb hr hl
  go_enter Try.func43, Try.ntmps43
  go_wp2_with fail
  refine HC.out.mono ?_
  rintro e w' ⟨rfl, rfl⟩
  go_wp2_with fail
  go_ret
  exact ⟨rfl, HB.out⟩
theorem lap_Check.calls (A0_0 : Option Addr) (c0_0 : Nat) (l0_0 : List Int) (a0_1 : Int) (a0_2 : Int) (r : Int) (w : World) (hr0_0 : Kd.C (Kd.int .i64) w A0_0 l0_0.length l0_0) (hc0_0 : l0_0.length ≤ c0_0) (h : lap_Check.f l0_0 a0_1 a0_2 = some r) :
    Calls Try.prog 43 #[.agg #[.slice A0_0 l0_0.length c0_0, .int .u8 a0_1, .int .u8 a0_2]] w fun e w' => e = .returned (.int .i64 r) ∧ Below w.heap.size w w' := by
  have hlen : l0_0.length ≤ 9223372036854775807 := Kd.C_max hr0_0
  unfold lap_Check.f at h
  by_cases hn : l0_0.length = 256
  · have hb : ((l0_0.length : Int) != 256) = false := by rw [bne_eq_false_iff_eq]; omega
    rw [if_pos hn] at h
    by_cases ho : l0_0.any farB = true
    · rw [if_pos ho] at h
      cases h
      exact check_far A0_0 c0_0 l0_0 a0_1 a0_2 w hb hlen hr0_0 ho
    · rw [if_neg ho] at h
      have ho' := Bool.eq_false_iff.mpr ho
      by_cases h1 : a0_1 > 3
      · rw [if_pos h1] at h
        cases h
        exact check_seq A0_0 c0_0 l0_0 a0_1 a0_2 w hb hlen hr0_0 ho' (decide_eq_true h1)
      · rw [if_neg h1] at h
        by_cases h2 : a0_2 > 1
        · rw [if_pos h2] at h
          cases h
          exact check_shape A0_0 c0_0 l0_0 a0_1 a0_2 w hb hlen hr0_0 ho' (decide_eq_false h1) (decide_eq_true h2)
        · rw [if_neg h2] at h
          cases h
          exact check_ok A0_0 c0_0 l0_0 a0_1 a0_2 w hb hlen hr0_0 ho' (decide_eq_false h1) (decide_eq_false h2)
  · rw [if_neg hn] at h
    cases h
    exact check_many A0_0 c0_0 l0_0 a0_1 a0_2 w (by rw [bne_iff_ne]; omega)

end Go.Proofs.Ytpoppdaaodmicaa.Q

namespace Go.Proofs.Ytpoppdaaodmicaa.Q
open Go.RowKit Go.Shelf Go.Proofs.YtpoppdaaodmicaaW.PrintWords Go.Proofs.YtpoppdaaodmicaaW.PrintLast Go.Proofs.YtpoppdaaodmicaaW.PrintMore
attribute [local go_sem] Oper.semAt_some
set_option linter.unusedVariables false
set_option linter.unusedSimpArgs false

def Boxed3 (W : World) (B : Nat) (v1 v2 v3 : Value) : Prop := W.heap[B]? = some (.cells #[v1, v2, v3] 31 (0, 0))
theorem Boxed3.cells {W : World} {B : Nat} {v1 v2 v3 : Value} (h : Boxed3 W B v1 v2 v3) : W.cell? ⟨B, 0, none⟩ = some v1 ∧ W.cell? ⟨B, 1, none⟩ = some v2 ∧ W.cell? ⟨B, 2, none⟩ = some v3 := by
  unfold Boxed3 at h
  refine ⟨?_, ?_, ?_⟩ <;> simp [World.cell?, h]
theorem Boxed3.below {W W' : World} {B : Nat} {v1 v2 v3 : Value} (h : Boxed3 W B v1 v2 v3) (hb : Below W.heap.size W W') : Boxed3 W' B v1 v2 v3 := (hb.block _ (Array.getElem?_eq_some_iff.1 h).1).trans h
theorem Boxed3.new (w : World) (v1 v2 v3 : Value) : Boxed3 (w.alloc (.cells #[v1, v2, v3] 31)) w.heap.size v1 v2 v3 := World.alloc_heap_new w _

theorem Boxed3.lt {W : World} {B : Nat} {v1 v2 v3 : Value} (h : Boxed3 W B v1 v2 v3) : B < W.heap.size := (Array.getElem?_eq_some_iff.1 h).1
theorem Boxed3.frozen {W : World} {B : Nat} {v1 v2 v3 : Value} (h : Boxed3 W B v1 v2 v3) : W.frozen? ⟨B, 0, none⟩ = false ∧ W.frozen? ⟨B, 1, none⟩ = false ∧ W.frozen? ⟨B, 2, none⟩ = false := by
  unfold Boxed3 at h
  refine ⟨?_, ?_, ?_⟩ <;> simp [World.frozen?, h]
def set3 (W : World) (B : Nat) (u1 u2 u3 : Value) : World := ((W.setCell ⟨B, 0, none⟩ u1).setCell ⟨B, 1, none⟩ u2).setCell ⟨B, 2, none⟩ u3
theorem heap_set1 (W : World) (B j : Nat) (u : Value) (cs : Array Value) (t : TypeId) (h : W.heap[B]? = some (.cells cs t (0, 0))) : (W.setCell ⟨B, j, none⟩ u).heap[B]? = some (.cells (cs.setIfInBounds j u) t (0, 0)) := by
  obtain ⟨hlt, hk⟩ := Array.getElem?_eq_some_iff.1 h
  show (W.heap.modify B _)[B]? = _
  rw [Array.getElem?_eq_getElem (by rw [Array.size_modify]; exact hlt), Array.getElem_modify_self, hk]
  rfl
theorem Boxed3.set3 {W : World} {B : Nat} {v1 v2 v3 : Value} (h : Boxed3 W B v1 v2 v3) (u1 u2 u3 : Value) : Boxed3 (set3 W B u1 u2 u3) B u1 u2 u3 :=
  heap_set1 _ _ 2 u3 _ _ (heap_set1 _ _ 1 u2 _ _ (heap_set1 _ _ 0 u1 _ _ h))
theorem set3_other {W : World} {B k : Nat} (u1 u2 u3 : Value) (h : k ≠ B) : (Q.set3 W B u1 u2 u3).heap[k]? = W.heap[k]? := by
  unfold Q.set3
  exact (Below.heap_setCell _ _ _ _ (by simpa using h)).trans ((Below.heap_setCell _ _ _ _ (by simpa using h)).trans (Below.heap_setCell _ _ _ _ (by simpa using h)))
theorem below_set3 {N : Nat} {w W : World} {B : Nat} (h : Below N w W) (hB : N ≤ B) (u1 u2 u3 : Value) : Below N w (Q.set3 W B u1 u2 u3) := ((h.setCell (by simpa using hB) _).setCell (by simpa using hB) _).setCell (by simpa using hB) _

theorem results_35 (tmps : Array Value) (w : World) (B B' : Nat) (v1 v2 v3 v' t : Value) (hp : tmps.getD 8 undef = .pointer (some ⟨B, 0, none⟩)) (hp' : tmps.getD 9 undef = .pointer (some ⟨B', 0, none⟩)) (ht : tmps.getD 10 undef = t)
    (hc : w.cell? ⟨B, 0, none⟩ = some v1 ∧ w.cell? ⟨B, 1, none⟩ = some v2 ∧ w.cell? ⟨B, 2, none⟩ = some v3) (hc' : w.cell? ⟨B', 0, none⟩ = some v') :
    (results Try.f35 tmps).run Try.prog w = .ok (.tuple #[.agg #[v1, v2, v3], v', t]) w := by
  have h1 : tmps[8]?.getD undef = .pointer (some ⟨B, 0, none⟩) := by simpa using hp
  have h2 : tmps[9]?.getD undef = .pointer (some ⟨B', 0, none⟩) := by simpa using hp'
  have h3 : tmps[10]?.getD undef = t := by simpa using ht
  obtain ⟨c1, c2, c3⟩ := hc
  simp [results, Try.f35, h1, h2, h3, asAddr, go_sem, c1, c2, c3, hc', run_underlying Try.underlying29, run_underlying Try.underlying31]

set_option maxRecDepth 100000 in
set_option maxHeartbeats 2000000 in
theorem next_bad (A0 : Option Addr) (c0 : Nat) (l0 : List Int) (s0 k0 a1 a2 : Int) (A3 : Option Addr) (c3 : Nat) (l3 : List Int) (er : Int) (w : World) (hr : Kd.C (Kd.int .i64) w A0 l0.length l0) (hc : l0.length ≤ c0) (hck : lap_Check.f l0 s0 k0 = some er) (he : er ≠ 0) :
    Calls Try.prog 35 #[.agg #[.slice A0 l0.length c0, .int .u8 s0, .int .u8 k0], .int .u8 a1, .int .u8 a2, .slice A3 l3.length c3] w fun e w' => e = .returned (.tuple #[.agg #[.slice none 0 0, .int .u8 0, .int .u8 0], .slice none 0 0, .int .i64 er]) ∧ Below w.heap.size w w' := by
  have hb0 : Below w.heap.size w (((w.alloc (.cells #[.slice A0 l0.length c0, .int .u8 s0, .int .u8 k0] 31)).alloc (.cells #[.slice none 0 0, .int .u8 0, .int .u8 0] 31)).alloc (.cells #[.slice none 0 0] 29)) := (((Below.refl _ w).alloc (Nat.le_refl _) _).alloc (by simp) _).alloc (by simp; omega) _
  have HA := Lib.hid (lap_Check.calls A0 c0 l0 s0 k0 er _ (Kd.C_below hr hb0) hc hck)
  have b2 := Boxed3.new (w.alloc (.cells #[.slice A0 l0.length c0, .int .u8 s0, .int .u8 k0] 31)) (.slice none 0 0) (.int .u8 0) (.int .u8 0)
  have b3 := Boxed.new ((w.alloc (.cells #[.slice A0 l0.length c0, .int .u8 s0, .int .u8 k0] 31)).alloc (.cells #[.slice none 0 0, .int .u8 0, .int .u8 0] 31)) 29 (.slice none 0 0)
  rw [World.size_alloc] at b2
  rw [World.size_alloc, World.size_alloc] at b3
  have b2' := b2.below ((Below.refl _ _).alloc (Nat.le_refl _) (.cells #[.slice none 0 0] 29))
  have B2 := Lib.hid b2'
  have B3 := Lib.hid b3
  have HB0 := Lib.hid hb0
  have hne : (er != 0) = true := bne_iff_ne.mpr he
  clear b2 b2' b3 hb0 hr hck he
  go_enter Try.func35, Try.ntmps35
  go_wp2_with fail
  refine HA.out.mono ?_
  rintro e w1 ⟨rfl, hb1⟩
  have c2 := (B2.out.below hb1).cells
  have c3 := (Boxed_below B3.out hb1).cell
  obtain ⟨c21, c22, c23⟩ := c2
  have HB1 := Lib.hid (HB0.out.trans (hb1.mono (HB0.out.size)))
  clear hb1 B2 B3 HA
  go_wp2_with fail
  refine bodyPost_ret (results_35 _ _ (w.heap.size + 1) (w.heap.size + 1 + 1) _ _ _ _ _ rfl rfl rfl ⟨c21, c22, c23⟩ c3) rfl ?_
  exact ⟨rfl, HB1.out⟩

set_option maxRecDepth 100000 in
set_option maxHeartbeats 2000000 in
theorem next_err (A0 : Option Addr) (c0 : Nat) (l0 : List Int) (s0 k0 a1 a2 : Int) (A3 : Option Addr) (c3 : Nat) (l3 y : List Int) (er : Int) (w : World) (hr : Kd.C (Kd.int .i64) w A0 l0.length l0) (hc : l0.length ≤ c0) (hr3 : Kd.C (Kd.int .i64) w A3 l3.length l3) (hc3 : l3.length ≤ c3) (hck : lap_Check.f l0 s0 k0 = some 0) (hsy : block_Synth.f a1 k0 a2 l3 = some (y, er)) (he : er ≠ 0) :
    Calls Try.prog 35 #[.agg #[.slice A0 l0.length c0, .int .u8 s0, .int .u8 k0], .int .u8 a1, .int .u8 a2, .slice A3 l3.length c3] w fun e w' => e = .returned (.tuple #[.agg #[.slice none 0 0, .int .u8 0, .int .u8 0], .slice none 0 0, .int .i64 er]) ∧ Below w.heap.size w w' := by
  have hb0 : Below w.heap.size w (((w.alloc (.cells #[.slice A0 l0.length c0, .int .u8 s0, .int .u8 k0] 31)).alloc (.cells #[.slice none 0 0, .int .u8 0, .int .u8 0] 31)).alloc (.cells #[.slice none 0 0] 29)) := (((Below.refl _ w).alloc (Nat.le_refl _) _).alloc (by simp) _).alloc (by simp; omega) _
  have HA := Lib.hid (lap_Check.calls A0 c0 l0 s0 k0 0 _ (Kd.C_below hr hb0) hc hck)
  have b1 := (Boxed3.new w (.slice A0 l0.length c0) (.int .u8 s0) (.int .u8 k0)).below (((Below.refl _ _).alloc (Nat.le_refl _) (.cells #[.slice none 0 0, .int .u8 0, .int .u8 0] 31)).alloc (by simp) (.cells #[.slice none 0 0] 29))
  have b2 := Boxed3.new (w.alloc (.cells #[.slice A0 l0.length c0, .int .u8 s0, .int .u8 k0] 31)) (.slice none 0 0) (.int .u8 0) (.int .u8 0)
  have b3 := Boxed.new ((w.alloc (.cells #[.slice A0 l0.length c0, .int .u8 s0, .int .u8 k0] 31)).alloc (.cells #[.slice none 0 0, .int .u8 0, .int .u8 0] 31)) 29 (.slice none 0 0)
  rw [World.size_alloc] at b2
  rw [World.size_alloc, World.size_alloc] at b3
  have b2' := b2.below ((Below.refl _ _).alloc (Nat.le_refl _) (.cells #[.slice none 0 0] 29))
  have B1 := Lib.hid b1
  have B2 := Lib.hid b2'
  have B3 := Lib.hid b3
  have HB0 := Lib.hid hb0
  have HSY := Lib.hid (fun W (h : Below w.heap.size w W) => block_Synth.calls a1 k0 a2 A3 c3 l3 y er W (Kd.C_below hr3 h) hc3 hsy)
  have hne : (er != 0) = true := bne_iff_ne.mpr he
  clear b1 b2 b2' b3 hb0 hr hck he hr3 hc3 hsy
  go_enter Try.func35, Try.ntmps35
  go_wp2_with fail
  refine HA.out.mono ?_
  rintro e w1 ⟨rfl, hb1⟩
  have C1 := Lib.hid (B1.out.below hb1)
  have C2 := Lib.hid (B2.out.below hb1)
  have C3 := Lib.hid (Boxed_below B3.out hb1)
  have HB1 := Lib.hid (HB0.out.trans (hb1.mono (HB0.out.size)))
  have HS := Lib.hid (HSY.out w1 HB1.out)
  obtain ⟨d1, d2, d3⟩ := C1.out.cells
  clear hb1 B1 B2 B3 HA
  go_wp2_with fail
  refine HS.out.mono ?_
  rintro e w2 ⟨v, rfl, hv, hb2⟩
  obtain ⟨c21, c22, c23⟩ := (C2.out.below hb2).cells
  obtain ⟨f21, f22, f23⟩ := (C2.out.below hb2).frozen
  have D2 := Lib.hid (C2.out.below hb2)
  have D3 := Lib.hid (Boxed_below C3.out hb2)
  have c3' := (Boxed_below C3.out hb2).cell
  have f3 := (Boxed_below C3.out hb2).frozen
  have HB2 := Lib.hid (HB1.out.trans (hb2.mono (HB1.out.size)))
  clear hb2 hv d1 d2 d3
  go_wp2_with fail
  have e2 := D2.out.set3 (.slice none 0 0) (.int .u8 0) (.int .u8 0)
  have e3 : Boxed (set3 w2 (w.heap.size + 1) (.slice none 0 0) (.int .u8 0) (.int .u8 0)) (w.heap.size + 1 + 1) 29 (.slice none 0 0) := (set3_other _ _ _ (by omega)).trans D3.out
  have hB := below_set3 HB2.out (B := w.heap.size + 1) (by omega) (.slice none 0 0) (.int .u8 0) (.int .u8 0)
  have g2 : Boxed3 ((set3 w2 (w.heap.size + 1) (.slice none 0 0) (.int .u8 0) (.int .u8 0)).setCell ⟨w.heap.size + 1 + 1, 0, none⟩ (.slice none 0 0)) (w.heap.size + 1) (.slice none 0 0) (.int .u8 0) (.int .u8 0) := (Below.heap_setCell _ _ _ _ (by simp)).trans e2
  have g3 := e3.set (.slice none 0 0)
  refine bodyPost_ret (results_35 _ _ (w.heap.size + 1) (w.heap.size + 1 + 1) _ _ _ _ _ rfl rfl rfl g2.cells g3.cell) rfl ?_
  exact ⟨rfl, hB.setCell (by simp; omega) _⟩

theorem C_ne {W : World} {ad : Addr} {n : Nat} {xs : List Int} {B : Nat} {A' : Option Addr} {n' c' : Nat} (h : Kd.C (Kd.int .i64) W (some ad) n xs) (hn : 0 < n) (hb : Boxed W B 29 (.slice A' n' c')) : ad.block ≠ B := by
  intro e
  obtain ⟨ad', e', hcell⟩ := Kd.at_int h 0 (Int.le_refl _) (by have := h.1; omega)
  cases e'
  unfold World.cell? at hcell
  rw [addr_block, e, show W.heap[B]? = _ from hb] at hcell
  dsimp only at hcell
  split at hcell
  · cases hcell
  · have := List.getElem?_eq_some_iff.1 (by simpa using hcell : [Value.slice A' n' c'][(ad.add (Int.toNat 0)).off]? = some _)
    obtain ⟨hlt, he⟩ := this
    have h0 : (ad.add (Int.toNat 0)).off = 0 := by simp at hlt; exact hlt
    simp only [h0] at he
    cases he
theorem C_block {W : World} {ad : Addr} {n : Nat} {xs : List Int} (h : Kd.C (Kd.int .i64) W (some ad) n xs) (hn : 0 < n) : ad.block < W.heap.size := by
  obtain ⟨ad', e', hcell⟩ := Kd.at_int h 0 (Int.le_refl _) (by have := h.1; omega)
  cases e'
  have := World.block_lt_of_cell? W _ hcell
  rwa [addr_block] at this
def normPost (K : Act → World → Prop) : Exit → Act → World → Prop
  | .normal, a, w => K a w
  | _, _, _ => False
def pcmL (out : Nat → Int) : Nat → List Int
  | 0 => []
  | i + 1 => pcmL out i ++ [out i]
theorem pcmL_length (out : Nat → Int) : ∀ i, (pcmL out i).length = i
  | 0 => rfl
  | i + 1 => by rw [pcmL, List.length_append, pcmL_length out i]; rfl
theorem C_one (W : World) (x : Int) : Kd.C (Kd.int .i64) (W.alloc (.cells #[.int .i64 x] 3)) (some ⟨W.heap.size, 0, none⟩) [x].length [x] := by
  have h := own_made_of (enc := Value.int .i64) (d := x) W W.heap.size 3 1 (Nat.le_refl _) (by decide)
  have h2 : Kd.R (Kd.int .i64) 3 (W.alloc (.cells (madeCells #[.int .i64 x] 1) 3)) W.heap.size (fun k => k = W.heap.size) (.slice (some ⟨W.heap.size, 0, none⟩) 1 1) [x] := by
    refine Kd.R_of_own (enc := Value.int .i64) ?_ (fun k hk => by simpa [Value.ownBlock] using hk.symm)
    exact h
  have h3 := (Kd.R_reads' h2).2.2
  have e : madeCells #[Value.int .i64 x] 1 = #[.int .i64 x] := by simp [madeCells]; exact ⟨0, rfl, rfl⟩
  rw [e] at h3
  exact h3
theorem next_end {w W w5 : World} {B D g : Nat} {A5 Ap : Option Addr} {n5 c5 np cp : Nat} {v1 v2 v3 : Value} {xs ps : List Int} (a1 a2 : Int) (tmps : Array Value) (hp8 : tmps.getD 8 undef = .pointer (some ⟨B + 1, 0, none⟩)) (hp9 : tmps.getD 9 undef = .pointer (some ⟨B + 1 + 1, 0, none⟩)) (hp10 : tmps.getD 10 undef = .int .i64 0)
    (hB : B = w.heap.size) (hg : B + 1 + 1 < g) (hD : g ≤ D) (hbel : Below w.heap.size w W) (hK : W.heap[D]? = some (.deferred (some []))) (hb5 : Below W.heap.size W w5) (hB5 : Boxed3 w5 (B + 1) v1 v2 v3) (hv9 : Boxed w5 (B + 1 + 1) 29 (.slice Ap np cp))
    (h1 : Kd.R (Kd.int .i64) 3 w5 W.heap.size (fun _ => True) (.slice A5 n5 c5) xs) (h2 : Kd.R (Kd.int .i64) 3 W g (fun _ => True) (.slice Ap np cp) ps) :
    bodyPostM Fence.wide 12 Try.prog Try.f35 (fun e w' => ∃ v0_ v3_ : Value, e = .returned (.tuple #[.agg #[v0_, .int .u8 a1, .int .u8 a2], v3_, .int .i64 0]) ∧ Kd.R (Kd.int .i64) 3 w' w.heap.size (fun k_ => some k_ ≠ (v3_ : Value).ownBlock) v0_ xs ∧ Kd.R (Kd.int .i64) 3 w' w.heap.size (fun k_ => some k_ ≠ (v0_ : Value).ownBlock) v3_ ps ∧ Below w.heap.size w w')
      .ret { tmps := tmps, defers := [{ target := .collected D, args := #[] }] } ((set3 w5 (B + 1) (.slice A5 n5 c5) (.int .u8 a1) (.int .u8 a2)).setCell ⟨B + 1 + 1, 0, none⟩ (.slice Ap np cp)) := by
  subst hB
  have hDlt := (Array.getElem?_eq_some_iff.1 hK).1
  have hK5 : w5.heap[D]? = some (.deferred (some [])) := (hb5.block D hDlt).trans hK
  have hKS : ((set3 w5 (w.heap.size + 1) (.slice A5 n5 c5) (.int .u8 a1) (.int .u8 a2)).setCell ⟨w.heap.size + 1 + 1, 0, none⟩ (.slice Ap np cp)).heap[D]? = some (.deferred (some [])) :=
    (Below.heap_setCell _ _ _ _ (by simp; omega)).trans ((set3_other _ _ _ (by omega)).trans hK5)
  have g2 := hB5.set3 (.slice A5 n5 c5) (.int .u8 a1) (.int .u8 a2)
  have g3 : Boxed (set3 w5 (w.heap.size + 1) (.slice A5 n5 c5) (.int .u8 a1) (.int .u8 a2)) (w.heap.size + 1 + 1) 29 (.slice Ap np cp) := (set3_other _ _ _ (by omega)).trans hv9
  have far : ∀ {base : Nat} {ok : Nat → Prop} {v : Value} {zs : List Int}, Kd.R (Kd.int .i64) 3 w5 base ok v zs → w.heap.size + 1 + 1 < base →
      Kd.R (Kd.int .i64) 3 (((set3 w5 (w.heap.size + 1) (.slice A5 n5 c5) (.int .u8 a1) (.int .u8 a2)).setCell ⟨w.heap.size + 1 + 1, 0, none⟩ (.slice Ap np cp)).putObj D (.deferred none)) base ok v zs := by
    intro base ok v zs h hb
    have e0 := Kd.R_bound h
    have e1 := Kd.R_far (p := ⟨w.heap.size + 1, 0, none⟩) e0 (fun k hk => by have := hk.2.1; simp; omega) (.slice A5 n5 c5)
    have e2 := Kd.R_far (p := ⟨w.heap.size + 1, 1, none⟩) e1 (fun k hk => by have := hk.2.1; simp; omega) (.int .u8 a1)
    have e3 := Kd.R_far (p := ⟨w.heap.size + 1, 2, none⟩) e2 (fun k hk => by have := hk.2.1; simp; omega) (.int .u8 a2)
    have e4 := Kd.R_far (p := ⟨w.heap.size + 1 + 1, 0, none⟩) e3 (fun k hk => by have := hk.2.1; simp; omega) (.slice Ap np cp)
    exact Kd.R_mono (R_putObj (.deferred none) e4 hKS rfl) (fun _ hk => hk.1)
  have f1 := far h1 (by omega)
  have f2 := far (Kd.R_below (Kd.R_bound h2) hb5) hg
  refine ⟨by simp, .inl ⟨_, _, rfl, run_takeDeferred hKS, ?_⟩⟩
  refine ⟨_, results_35 _ _ (w.heap.size + 1) (w.heap.size + 1 + 1) _ _ _ _ _ hp8 hp9 hp10 (Boxed3.cells (v1 := .slice A5 n5 c5) (v2 := .int .u8 a1) (v3 := .int .u8 a2) ((World.putObj_heap_other (by omega)).trans ((Below.heap_setCell _ _ _ _ (by simp)).trans g2))) (Boxed.cell (Boxed_putObj _ (g3.set _) (by omega))), _, _, rfl, ?_, ?_, ?_⟩
  · refine Kd.R_mono (Kd.R_lower (Kd.R_bound f1) (by have := hbel.size; omega)) (fun k hk e => ?_)
    obtain ⟨cells, hcl⟩ := own_typed (Kd.own_of_R h2) k e.symm
    have i1 := (Array.getElem?_eq_some_iff.1 hcl).1
    have i2 := hk.2.1
    omega
  · refine Kd.R_mono (Kd.R_lower f2 (by omega)) (fun k hk e => ?_)
    have i2 := own_base (Kd.own_of_R f1) k e.symm
    obtain ⟨_, _, _, q, _, cells, hc⟩ := hk
    have i1 := (Array.getElem?_eq_some_iff.1 hc).1
    omega
  · exact Below_putObj _ ((below_set3 (hbel.trans (hb5.mono hbel.size)) (by omega) _ _ _).setCell (by simp; omega) _) (by omega)

set_option maxRecDepth 100000 in
set_option maxHeartbeats 4000000 in
theorem next_walk (A0 : Option Addr) (c0 : Nat) (l0 : List Int) (s0 k0 a1 a2 : Int) (A3 : Option Addr) (c3 : Nat) (l3 y : List Int) (w : World) (hr : Kd.C (Kd.int .i64) w A0 l0.length l0) (hc : l0.length ≤ c0) (hr3 : Kd.C (Kd.int .i64) w A3 l3.length l3) (hc3 : l3.length ≤ c3) (hck : lap_Check.f l0 s0 k0 = some 0) (hsy : block_Synth.f a1 k0 a2 l3 = some (y, 0))
    (hl : 0 < l0.length ∧ l0.length ≤ y.length ∧ l0.length ≤ 900) (hy : 256 < y.length ∧ y.length ≤ 1000) (out : Nat → Int) (hout : ∀ i, i < l0.length → ∃ z e1 e2, fix_Round.f 3000 (wrap64 (rd l0 (i : Int) + rd y (i : Int))) 4 = some (z, e1) ∧ fix_Clip.f z 16 = some (out i, e2)) :
    Calls Try.prog 35 #[.agg #[.slice A0 l0.length c0, .int .u8 s0, .int .u8 k0], .int .u8 a1, .int .u8 a2, .slice A3 l3.length c3] w fun e w' => ∃ v0_ v3_ : Value, e = .returned (.tuple #[.agg #[v0_, .int .u8 a1, .int .u8 a2], v3_, .int .i64 0]) ∧ Kd.R (Kd.int .i64) 3 w' w.heap.size (fun k_ => some k_ ≠ (v3_ : Value).ownBlock) v0_ (y.drop 256) ∧ Kd.R (Kd.int .i64) 3 w' w.heap.size (fun k_ => some k_ ≠ (v0_ : Value).ownBlock) v3_ (pcmL out l0.length) ∧ Below w.heap.size w w' := by
  obtain ⟨ad0, rfl, _⟩ := hr.2.2 hl.1
  have hA0 : ad0.block < w.heap.size := by
    obtain ⟨ad, e, hcell⟩ := Kd.at_int hr 0 (Int.le_refl _) (by omega)
    cases e
    have := World.block_lt_of_cell? w _ hcell
    rwa [addr_block] at this
  have hb0 : Below w.heap.size w (((w.alloc (.cells #[.slice (some ad0) l0.length c0, .int .u8 s0, .int .u8 k0] 31)).alloc (.cells #[.slice none 0 0, .int .u8 0, .int .u8 0] 31)).alloc (.cells #[.slice none 0 0] 29)) := (((Below.refl _ w).alloc (Nat.le_refl _) _).alloc (by simp) _).alloc (by simp; omega) _
  have HA := Lib.hid (lap_Check.calls (some ad0) c0 l0 s0 k0 0 _ (Kd.C_below hr hb0) hc hck)
  have b1 := (Boxed3.new w (.slice (some ad0) l0.length c0) (.int .u8 s0) (.int .u8 k0)).below (((Below.refl _ _).alloc (Nat.le_refl _) (.cells #[.slice none 0 0, .int .u8 0, .int .u8 0] 31)).alloc (by simp) (.cells #[.slice none 0 0] 29))
  have b2 := Boxed3.new (w.alloc (.cells #[.slice (some ad0) l0.length c0, .int .u8 s0, .int .u8 k0] 31)) (.slice none 0 0) (.int .u8 0) (.int .u8 0)
  have b3 := Boxed.new ((w.alloc (.cells #[.slice (some ad0) l0.length c0, .int .u8 s0, .int .u8 k0] 31)).alloc (.cells #[.slice none 0 0, .int .u8 0, .int .u8 0] 31)) 29 (.slice none 0 0)
  rw [World.size_alloc] at b2
  rw [World.size_alloc, World.size_alloc] at b3
  have b2' := b2.below ((Below.refl _ _).alloc (Nat.le_refl _) (.cells #[.slice none 0 0] 29))
  have B1 := Lib.hid b1
  have B2 := Lib.hid b2'
  have B3 := Lib.hid b3
  have HB0 := Lib.hid hb0
  have HR := Lib.hid hr
  have HL := Lib.hid (⟨hl, hy, hA0⟩ : _ ∧ _ ∧ _)
  have HO := Lib.hid hout
  have HSY := Lib.hid (fun W (h : Below w.heap.size w W) => block_Synth.calls a1 k0 a2 A3 c3 l3 y 0 W (Kd.C_below hr3 h) hc3 hsy)
  clear b1 b2 b2' b3 hb0 hr hck hr3 hc3 hsy hl hy hout hA0
  refine (callsIn_wide (n := 12)).1 ?_
  refine callsIn_of_wp_marks Try.func35 rfl trivial ?_ rfl
  simp only [Try.ntmps35, List.size_toArray, List.length_cons, List.length_nil, Nat.reduceAdd, Nat.reduceSub, Array.replicate_succ, Array.replicate_zero, List.push_toArray, List.append_toArray, List.nil_append, List.cons_append]
  gi_wp2_with fail
  refine ⟨trivial, (callsIn_wide.2 HA.out).mono ?_⟩
  rintro e w1 ⟨rfl, hb1⟩
  have C1 := Lib.hid (B1.out.below hb1)
  have C2 := Lib.hid (B2.out.below hb1)
  have C3 := Lib.hid (Boxed_below B3.out hb1)
  have HB1 := Lib.hid (HB0.out.trans (hb1.mono (HB0.out.size)))
  have HS := Lib.hid (HSY.out w1 HB1.out)
  obtain ⟨d1, d2, d3⟩ := C1.out.cells
  clear hb1 B1 B2 B3 HA HSY
  gi_wp2_with fail
  refine ⟨trivial, (callsIn_wide.2 HS.out).mono ?_⟩
  rintro e w2 ⟨v, rfl, hv, hb2⟩
  obtain ⟨Ay, cy, rfl⟩ := Kd.R_slice hv
  obtain ⟨ay, rfl, _⟩ := (Kd.R_reads' hv).2.2.2.2 (by have := HL.out.2.1.1; omega)
  have hsz1 := C3.out.lt
  obtain ⟨e1, e2, e3⟩ := (C1.out.below hb2).cells
  have D1 := Lib.hid (C1.out.below hb2)
  have D2 := Lib.hid (C2.out.below hb2)
  have D3 := Lib.hid (Boxed_below C3.out hb2)
  have HB2 := Lib.hid (HB1.out.trans (hb2.mono (HB1.out.size)))
  have HY := Lib.hid hv
  have HBO := Lib.hid (both.calls (some ad0) (some ay) l0.length c0 y.length cy w2)
  have hs2 := hb2.size
  have HSZ := Lib.hid (⟨hsz1, hs2⟩ : _ ∧ _)
  clear hb2 d1 d2 d3 hv C1 C2 C3 hsz1 hs2
  gi_wp2_with fail
  refine ⟨trivial, (callsIn_wide.2 HBO.out).mono ?_⟩
  rintro e w3 ⟨rfl, hw3⟩
  have q1 := Boxed.new w2 29 (.slice (some ad0) l0.length c0)
  have q2 := Boxed.new (w2.alloc (.cells #[.slice (some ad0) l0.length c0] 29)) 29 (.slice (some ay) y.length cy)
  rw [World.size_alloc] at q2
  replace q1 := q1.alloc (.cells #[.slice (some ay) y.length cy] 29)
  rw [← hw3] at q1 q2
  have hs3 : w3.heap.size = w2.heap.size + 1 + 1 := by rw [hw3]; simp
  have hb3 : Below w2.heap.size w2 w3 := by rw [hw3]; exact ((Below.refl _ w2).alloc (Nat.le_refl _) _).alloc (by simp) _
  have hHL := HL.out
  have hYC := (Kd.R_reads' HY.out).2.2
  have hne := C_ne hYC (by omega) D3.out
  have hyb := C_block hYC (by omega)
  have hsz := HSZ.out
  have hB3 := HB2.out.trans (hb3.mono HB2.out.size)
  have HSQ := Lib.hid (both_go 11 (by omega) w2.heap.size (w2.heap.size + 1) ad0 ay c0 cy l0 y hHL.1.2.1 (by omega) (fun k => k = w.heap.size + 1 + 1) w3 ⟨by omega, by omega⟩ ⟨by omega, by omega⟩ q1.cell q2.cell (Kd.C_below HR.out hB3) (Kd.C_below hYC hb3) ⟨⟨by omega, by omega⟩, ⟨by omega, hne⟩⟩)
  have E1 := Lib.hid (D1.out.below hb3)
  have E2 := Lib.hid (D2.out.below hb3)
  have E3 := Lib.hid (Boxed_below D3.out hb3)
  have HYC := Lib.hid (Kd.C_below hYC hb3)
  have HYN := Lib.hid (⟨hne, hyb, (Kd.R_reads' HY.out).2.1⟩ : _ ∧ _ ∧ _)
  have HB3 := Lib.hid hB3
  have HS3 := Lib.hid (⟨hsz, hs3⟩ : _ ∧ _)
  clear hw3 q1 q2 hs3 hb3 hHL hYC hne hyb hsz hB3 D1 D2 D3 HB2 HSZ HBO HY e1 e2 e3 HS HB1 HB0
  gi_wp2_with fail
  refine wpIn_range_seq rfl (by omega) (gf := 99) (lb := #[.pointer (some ⟨w2.heap.size, 0, none⟩), .pointer (some ⟨w2.heap.size + 1, 0, none⟩)]) rfl trivial (enters_of Try.func99 (by kernel_rfl) rfl)
    HSQ.out (Nat.le_refl _) (fun i vs W h => by rw [show vs = _ from h]; rfl) (fun i vs W l o o' h _ _ => h)
    (fun i W => (∃ v, Boxed W (w.heap.size + 1 + 1) 29 v ∧ Kd.R (Kd.int .i64) 3 W w3.heap.size (fun _ => True) v (pcmL out i)) ∧ Stays (fun k => k = w.heap.size + 1 + 1) w3.heap.size w3 W ∧ Below w.heap.size w W)
    ?ib ?ip ?i0 ?round ?done
  case ib =>
    rintro i X Y ⟨⟨v, hv, hR⟩, h2, h3⟩ hb
    exact ⟨⟨v, Boxed_below hv hb, Kd.R_below hR hb⟩, h2.trans (Stays.below hb h2.1), h3.trans (hb.mono h3.size)⟩
  case ip =>
    rintro i X k o o' ⟨⟨v, hv, hR⟩, h2, h3⟩ hk hl ho
    have := HS3.out
    exact ⟨⟨v, Boxed_putObj o' hv (by omega), R_putObj o' hR hl ho⟩, h2.trans (Stays.putObj _ hk), Below_putObj o' h3 (by omega)⟩
  case i0 => exact ⟨⟨_, E3.out, Kd.R_nil _ _ _ _ _⟩, Stays.refl _ _ _, HB3.out⟩
  case round =>
    rintro l' i vs W hiN hI rfl
    refine ⟨?a₁, ?asg, ?bdy⟩
    case asg =>
      intro K hK
      gi_wp2_with fail
      exact hK
    case bdy =>
      rintro W2 ⟨⟨v, hv, hRv⟩, hst, hBw⟩ _ hsW
      obtain ⟨z, g1, g2, hz1, hz2⟩ := HO.out i hiN
      have HR1 := Lib.hid (fix_Round.calls 3000 _ 4 z g1 W2 hz1)
      have HR2 := Lib.hid (fun W => fix_Clip.calls z 16 (out i) g2 W hz2)
      have HV := Lib.hid (⟨hv, hRv⟩ : _ ∧ _)
      have HST := Lib.hid (⟨hst, hBw, hsW⟩ : _ ∧ _ ∧ _)
      clear hv hRv hst hBw hI hz1 hz2 hsW
      generalize wrap64 (rd l0 (i : Int) + rd y (i : Int)) = xy at HR1
      gi_wp2_with fail
      refine ⟨trivial, (CallsIn.inRound l' (callsIn_wide.2 HR1.out)).mono ?_⟩
      rintro e w4 ⟨rfl, nd, hnd⟩
      have hb4 : Below W2.heap.size W2 w4 := by rw [hnd]; exact pw_below_drewN (Below.refl _ _) nd
      have HB4 := Lib.hid hb4
      have HR3 := Lib.hid (HR2.out w4)
      clear hb4 hnd HR1 HR2
      gi_wp2_with fail
      refine ⟨trivial, (CallsIn.inRound l' (callsIn_wide.2 HR3.out)).mono ?_⟩
      rintro e w5 ⟨rfl, hb5⟩
      have hb25 := HB4.out.trans (hb5.mono HB4.out.size)
      have hbox := Boxed_below HV.out.1 hb25
      have hb6 : Below w5.heap.size w5 (w5.alloc (.cells #[.int .i64 (out i)] 3)) := (Below.refl _ _).alloc (Nat.le_refl _) _
      have hbx6 := Boxed_below hbox hb6
      have hrow := Kd.R_below (Kd.R_below HV.out.2 hb25) hb6
      have hb26 := hb25.trans (hb6.mono hb25.size)
      obtain ⟨A7, c7, w7, hrun, hR7, hg7⟩ := append_owns _ (c := 1) hrow (C_one w5 (out i)) (by simp) ⟨by rw [pcmL_length]; have := HL.out; omega, by simp⟩ (Nat.le_trans HST.out.2.2 hb26.size)
      simp only [List.length_singleton] at hrun hR7
      have HRUN := Lib.hid hrun
      have hown : ∀ k, v.ownBlock = some k → w3.heap.size ≤ k := fun k hk => own_base (Kd.own_of_R hrow) k hk
      have hbx7 : Boxed w7 (w.heap.size + 1 + 1) 29 v := hbx6.kept hg7 (fun e => by have := hown _ e.symm; have := HS3.out; omega)
      have HOW := Lib.hid hown
      have hc5 := hbox.cell
      have hc7 := hbx7.cell
      have hf7 := hbx7.frozen
      have HB26 := Lib.hid hb26
      have HR7 := Lib.hid hR7
      have HG7 := Lib.hid hg7
      have HROW := Lib.hid hrow
      have HX7 := Lib.hid hbx7
      clear hb5 hb25 hbox hb6 hbx6 hrow hb26 hrun hR7 hg7 hown hbx7 HR3 HB4
      gi_wp2_with (gi_at_builtin; refine wpListIn_append_run rfl _ _ _ rfl _ _ _ rfl rfl HRUN.out ?_)
      have h1 := HS3.out
      have h3 := HB26.out.size
      have hrow7 : KeepsOthers _ w7 := KeepsOthers.of_grownBy HG7.out (fun j o ej hj => by
        obtain ⟨cells, hcl⟩ := own_typed (Kd.own_of_R HROW.out) j ej
        rw [hj] at hcl; cases hcl; rfl)
      have hsty : Stays (fun k => k = w.heap.size + 1 + 1) w3.heap.size W2 w7 := (Stays.below HB26.out HST.out.2.2).trans (Stays.grown HG7.out (Nat.le_trans HST.out.2.2 h3) (fun k e => .inr (HOW.out k e)))
      have hb7 : Below w.heap.size w w7 := (HST.out.2.1.trans (HB26.out.mono HST.out.2.1.size)).grown HG7.out (Nat.le_trans HST.out.2.1.size h3) (fun k e => by have := HOW.out k e; omega)
      refine ⟨((KeepsOthers.of_below HB26.out).trans hrow7).trans (KeepsOthers.setCell _ _ _), hsty.trans (Stays.setCell _ (.inl rfl)), ⟨_, HX7.out.set _, ?_⟩, (HST.out.1.trans hsty).trans (Stays.setCell _ (.inl rfl)), hb7.setCell (by simp; omega) _⟩
      have := Kd.R_far (p := ⟨w.heap.size + 1 + 1, 0, none⟩) (Kd.R_bound HR7.out) (fun k hk => by have := hk.2.1; simp; omega) (.slice A7 ((pcmL out i).length + 1) c7)
      exact Kd.R_mono this (fun _ _ => trivial)
  case done =>
    rintro D W hD ⟨⟨v, hv, hRv⟩, hst, hBw⟩ hK
    obtain ⟨Ap, cp, rfl⟩ := Kd.R_slice hRv
    have hYC := C_stays HYC.out hst (fun ad e => by cases e; exact ⟨by have := HYN.out; have := HS3.out; omega, HYN.out.1⟩)
    have E2' : Boxed3 W (w.heap.size + 1) (.slice none 0 0) (.int .u8 0) (.int .u8 0) := (hst.2 _ (by have := HS3.out; omega) (by omega)).trans E2.out
    have hC := Kd.C_drop hYC (Nat.le_of_lt HL.out.2.1.1) HYN.out.2.2
    have hne : ¬ cy = 256 := by have := HYN.out; have := HL.out; omega
    have HLN := Lib.hid (syn_cut1 hC HYN.out.2.2 hne)
    have HCL := Lib.hid (fun W' (h : Below W.heap.size W W') => slices_Clone_int_int.calls (some (ay.add 256)) (cy - 256) (y.drop 256) W' (Kd.C_below HLN.out.1 h) HLN.out.2 (by rw [List.length_drop]; have := HL.out; omega))
    have hcl := HCL.out W.drew (pw_below_drewN (Below.refl _ _) 1)
    rw [List.length_drop] at hcl
    have HC1 := Lib.hid hcl
    have hvc := hv.cell
    have hk1 : (256 : Nat) ≤ y.length := by have := HL.out; omega
    have hk2 : (256 : Nat) ≤ cy := by have := HL.out; have := HYN.out; omega
    have hk3 : (256 : Nat) < cy := by omega
    have HV := Lib.hid (⟨hv, hRv⟩ : _ ∧ _)
    have HE2 := Lib.hid E2'
    have HW := Lib.hid (⟨hBw, hst, hD, hK⟩ : _ ∧ _ ∧ _ ∧ _)
    clear hv hRv E2' hBw hst hD hK hYC hC hcl
    gi_wp2_with fail
    refine wpIn_mono (Q := normPost _) ?_ (fun e a w h => by cases e <;> first | exact h | exact h.elim)
    (gi_region_with (refine ⟨trivial, (callsIn_wide.2 HC1.out).mono ?_⟩; rintro e w5 ⟨v5, rfl, hv5, hb5⟩; obtain ⟨A5, c5, rfl⟩ := Kd.R_slice hv5; have hsz5 := hb5.size; have hc9 := (Boxed_below HV.out.1 ((pw_below_drewN (Below.refl _ _) 1).trans hb5)).cell; have hf9 := (Boxed_below HV.out.1 ((pw_below_drewN (Below.refl _ _) 1).trans hb5)).frozen; have hB5 := HE2.out.below ((pw_below_drewN (Below.refl _ _) 1).trans hb5); obtain ⟨f21, f22, f23⟩ := hB5.frozen; obtain ⟨c21, c22, c23⟩ := hB5.cells; have f32 := fun u => Boxed3.frozen (heap_set1 _ _ 0 u _ _ hB5 : Boxed3 _ _ u (.int .u8 0) (.int .u8 0)); have f33 := fun u u' => Boxed3.frozen (heap_set1 _ _ 1 u' _ _ (heap_set1 _ _ 0 u _ _ hB5) : Boxed3 _ _ u u' (.int .u8 0))))
    all_goals
      simp only [normPost]
      gi_wp2_with fail
    all_goals
      exact next_end a1 a2 _ rfl rfl rfl rfl (by have := HS3.out; omega) HW.out.2.2.1 HW.out.1 HW.out.2.2.2 ((pw_below_drewN (Below.refl _ _) 1).trans hb5) hB5 (Boxed_below HV.out.1 ((pw_below_drewN (Below.refl _ _) 1).trans hb5)) (by rw [List.length_drop] at hv5; exact hv5) HV.out.2

end Go.Proofs.Ytpoppdaaodmicaa.Q

namespace Go.Proofs.Ytpoppdaaodmicaa.Q
open Go.RowKit Go.Shelf Go.Proofs.YtpoppdaaodmicaaW.PrintWords Go.Proofs.YtpoppdaaodmicaaW.PrintLast Go.Proofs.YtpoppdaaodmicaaW.PrintMore
set_option linter.unusedVariables false
set_option linter.unusedSimpArgs false

def sampleOf (x : Int) : Option Int := (fix_Round.f 3000 x 4).bind fun p => (fix_Clip.f p.1 16).map fun q => q.1
def sampleAt (l y : List Int) (i : Nat) : Option Int := sampleOf (wrap64 (rd l (i : Int) + rd y (i : Int)))
def lap_Next.f (l0_0 : List Int) (a0_1 : Int) (a0_2 : Int) (a1 : Int) (a2 : Int) (l3 : List Int) : Option (List Int × Int × Int × List Int × Int) :=
  (lap_Check.f l0_0 a0_1 a0_2).bind fun e =>
    if e = 0 then (block_Synth.f a1 a0_2 a2 l3).bind fun p =>
      if p.2 = 0 then
        (if (0 < l0_0.length ∧ l0_0.length ≤ p.1.length ∧ l0_0.length ≤ 900) ∧ 256 < p.1.length ∧ p.1.length ≤ 1000 then
          (if (List.range l0_0.length).all (fun i => (sampleAt l0_0 p.1 i).isSome) then some (p.1.drop 256, a1, a2, pcmL (fun i => (sampleAt l0_0 p.1 i).getD 0) l0_0.length, 0) else none)
        else none)
      else some ([], 0, 0, [], p.2)
    else some ([], 0, 0, [], e)
theorem sampleOf_some {x : Int} (h : (sampleOf x).isSome = true) : ∃ z e1 e2, fix_Round.f 3000 x 4 = some (z, e1) ∧ fix_Clip.f z 16 = some ((sampleOf x).getD 0, e2) := by
  unfold sampleOf at h ⊢
  cases hR : fix_Round.f 3000 x 4 with
  | none => rw [hR] at h; cases h
  | some p =>
    obtain ⟨z, e1⟩ := p
    rw [hR] at h
    rw [Option.bind_some] at h ⊢
    cases hC : fix_Clip.f z 16 with
    | none => rw [hC] at h; cases h
    | some q =>
      obtain ⟨o, e2⟩ := q
      exact ⟨z, e1, e2, rfl, hC⟩
theorem lap_Next.calls (A0_0 : Option Addr) (c0_0 : Nat) (l0_0 : List Int) (a0_1 : Int) (a0_2 : Int) (a1 : Int) (a2 : Int) (A3 : Option Addr) (c3 : Nat) (l3 : List Int) (r1 : List Int) (r2 : Int) (r3 : Int) (r4 : List Int) (r5 : Int) (w : World) (hr0_0 : Kd.C (Kd.int .i64) w A0_0 l0_0.length l0_0) (hc0_0 : l0_0.length ≤ c0_0) (hr3 : Kd.C (Kd.int .i64) w A3 l3.length l3) (hc3 : l3.length ≤ c3) (h : lap_Next.f l0_0 a0_1 a0_2 a1 a2 l3 = some (r1, r2, r3, r4, r5)) :
    Calls Try.prog 35 #[.agg #[.slice A0_0 l0_0.length c0_0, .int .u8 a0_1, .int .u8 a0_2], .int .u8 a1, .int .u8 a2, .slice A3 l3.length c3] w fun e w' => ∃ v0_ v3_ : Value, e = .returned (.tuple #[.agg #[v0_, .int .u8 r2, .int .u8 r3], v3_, .int .i64 r5]) ∧ Kd.R (Kd.int .i64) 3 w' w.heap.size (fun k_ => some k_ ≠ (v3_ : Value).ownBlock) v0_ r1 ∧ Kd.R (Kd.int .i64) 3 w' w.heap.size (fun k_ => some k_ ≠ (v0_ : Value).ownBlock) v3_ r4 ∧ Below w.heap.size w w' := by
  unfold lap_Next.f at h
  obtain ⟨e, hck, h⟩ := Option.bind_eq_some_iff.1 h
  by_cases he : e = 0
  · rw [if_pos he] at h
    subst he
    obtain ⟨⟨y, er⟩, hsy, h⟩ := Option.bind_eq_some_iff.1 h
    by_cases hz : er = 0
    · rw [if_pos hz] at h
      subst hz
      by_cases hl : (0 < l0_0.length ∧ l0_0.length ≤ y.length ∧ l0_0.length ≤ 900) ∧ 256 < y.length ∧ y.length ≤ 1000
      · rw [if_pos hl] at h
        by_cases ha : (List.range l0_0.length).all (fun i => (sampleAt l0_0 y i).isSome) = true
        · rw [if_pos ha] at h
          simp only [Option.some.injEq, Prod.mk.injEq] at h
          obtain ⟨rfl, rfl, rfl, rfl, rfl⟩ := h
          exact next_walk A0_0 c0_0 l0_0 a0_1 a0_2 a1 a2 A3 c3 l3 y w hr0_0 hc0_0 hr3 hc3 hck hsy hl.1 hl.2 _ (fun i hi => sampleOf_some (List.all_eq_true.1 ha i (List.mem_range.2 hi)))
        · rw [if_neg ha] at h; cases h
      · rw [if_neg hl] at h; cases h
    · rw [if_neg hz] at h
      simp only [Option.some.injEq, Prod.mk.injEq] at h
      obtain ⟨rfl, rfl, rfl, rfl, rfl⟩ := h
      exact (next_err A0_0 c0_0 l0_0 a0_1 a0_2 a1 a2 A3 c3 l3 y er w hr0_0 hc0_0 hr3 hc3 hck hsy hz).mono fun e w' ⟨h1, h2⟩ => ⟨_, _, h1, Kd.R_nil _ _ _ _ _, Kd.R_nil _ _ _ _ _, h2⟩
  · rw [if_neg he] at h
    simp only [Option.some.injEq, Prod.mk.injEq] at h
    obtain ⟨rfl, rfl, rfl, rfl, rfl⟩ := h
    exact (next_bad A0_0 c0_0 l0_0 a0_1 a0_2 a1 a2 A3 c3 l3 e w hr0_0 hc0_0 hck he).mono fun e w' ⟨h1, h2⟩ => ⟨_, _, h1, Kd.R_nil _ _ _ _ _, Kd.R_nil _ _ _ _ _, h2⟩

end Go.Proofs.Ytpoppdaaodmicaa.Q

-- Written by a program of this session's (wip/mk.py, over the kit's print.py); Lean checks it.
namespace Go.Proofs.Ytpoppdaaodmicaa.Q
open Go.RowKit Go.Proofs.YtpoppdaaodmicaaW.PrintWords Go.Proofs.YtpoppdaaodmicaaW.PrintLast Go.Proofs.YtpoppdaaodmicaaW.PrintMore
attribute [local go_sem] max2_int min2_int max_two min_two max_three min_three max_four min_four   -- for this text's walks alone
set_option linter.unusedVariables false
set_option linter.unusedSimpArgs false

def lap_New.f  : Option (List Int × Int × Int) := if 256 ≤ 35184372088832 then (some ((List.replicate 256 0), 0, 0)) else (none)
set_option maxHeartbeats 8000000 in
set_option maxRecDepth 100000 in
theorem lap_New.calls  (r1 : List Int) (r2 : Int) (r3 : Int) (w : World) (h : lap_New.f  = some (r1, r2, r3)) :
  Calls Try.prog 40 #[] w fun e w' => ∃ v0_ : Value, e = .returned (.agg #[v0_, .int .u8 r2, .int .u8 r3]) ∧ Kd.R (Kd.int .i64) 3 w' w.heap.size (fun _ => True) v0_ r1 ∧ Below w.heap.size w w' := by
 have hu31 := Try.underlying31
 have HB := Aside0.mk (Below.refl w.heap.size w)
 have H : (if 256 ≤ 35184372088832 then (some ((List.replicate 256 0), 0, 0)) else (none)) = some (r1, r2, r3) := h
 clear h
 by_cases c1 : 256 ≤ 35184372088832
 ·rw [if_pos c1] at H
  have c1b0 := eq_true c1
  have c1b1 : decide (256 ≤ 35184372088832) = true := decide_eq_true c1
  clear c1
  obtain ⟨y165, hy165⟩ : ∃ y_ : List Int, y_ = (List.replicate 256 0) := ⟨_, rfl⟩
  replace H : (some (y165, 0, 0)) = some (r1, r2, r3) := by first | (rw [hy165]; with_reducible exact H) | (have H2_ := (Option.bind_some _ _).symm.trans H; rw [hy165]; with_reducible exact H2_) | (have H2_ := (Option.bind_some _ _).symm.trans H; with_reducible exact H2_) | with_reducible exact H | (rw [hy165]; exact H) | exact H
  have Ny165 := Aside0.mk hy165
  clear hy165
  simp only [Option.some.injEq, Prod.mk.injEq] at H
  obtain ⟨rfl, rfl, rfl⟩ := H
  go_enter Try.func40, Try.ntmps40
  go_wp2_with (first | ((with_reducible refine gate_dst (N := 0) rfl ?_); refine box_event ?hg (N := 0) ?hd (cs := #[.slice none 0 0, .int .u8 0, .int .u8 0]) (t := 31) ?hr ?_; (case hd => rfl); (case hg => rfl); (case hr => first | (go_simp; done) | (go_simp; rfl)); intro gb164 hg w2 hbox hb; have n0_ := Aside0.mk (below_step (by repeat (first | (with_reducible first | exact HB.out | apply below_alloc | apply pw_below_drewN | apply below_drew1) | exact HB.out)) hb); have n1_ := Aside0.mk (hbox); have n2_ := Aside0.mk ((by rw [hg]; exact (below_size (by repeat (first | (with_reducible first | exact HB.out | apply below_alloc | apply pw_below_drewN | apply below_drew1) | exact HB.out))) : w.heap.size ≤ gb164)); have n3_ := Aside0.mk ((by rw [hg]; exact (below_size (by repeat (first | (with_reducible first | exact HB.out | apply below_alloc | apply pw_below_drewN | apply below_drew1) | exact HB.out))) : w.heap.size ≤ gb164)); clear HB; have HB := n0_; have BK164 := n1_; have GW164 := n2_; have GE164 := n3_; clear n0_ n1_ n2_ n3_; clear hb hbox hg) | ((with_reducible refine gate_dst (N := 1) rfl ?_); refine Kd.R_make (Kd.int .i64) _ 3 rfl (N := 1) rfl 29 _ _ rfl 256 rfl rfl Try.underlying29 (.int .i64 0) 8 info3 rfl (by decide) (by omega) 0 (ok := fun _ => True) (okp := fun _ => True) rfl (fun _ hk => hk) trivial (by omega) (by omega) (Below.refl _ _) (Nat.le_refl _) ?_; intro v166 w3 ho4 hb hg_ hnew_; clear hg_ hnew_; (first | rw [← Ny165.out] at ho4 | (simp only [Int.reduceToNat] at ho4; rw [← Ny165.out] at ho4)); have n0_ := Aside0.mk (Kd.R_lower ho4 (below_size (by repeat (first | (with_reducible first | exact HB.out | apply below_alloc | apply pw_below_drewN | apply below_drew1 | refine below_set ?_ GE164.out) | exact HB.out)))); have n1_ := Aside0.mk (blk_below (g := gb164) (o := .cells #[.slice none 0 0, .int .u8 0, .int .u8 0] 31 (0, 0)) (by (with_reducible repeat (first | refine blk_drewN ?_ _ | refine blk_drew ?_ | refine blk_alloc ?_ _)); exact BK164.out) hb); have n2_ := Aside0.mk (below_step (by repeat (first | (with_reducible first | exact HB.out | apply below_alloc | apply pw_below_drewN | apply below_drew1 | refine below_set ?_ GE164.out) | exact HB.out)) hb); clear BK164; clear HB; have HO167 := n0_; have BK164 := n1_; have HB := n2_; clear n0_ n1_ n2_; clear hb ho4; obtain ⟨Ao5, co5, eo5⟩ := Kd.R_slice HO167.out; subst eo5; have hcz6_0 : w3.cell? ⟨gb164, 0, none⟩ = some (.slice none 0 0) := (blk_cell BK164.out 0).trans rfl; have hcz6_1 : w3.cell? ⟨gb164, 1, none⟩ = some (.int .u8 0) := (blk_cell BK164.out 1).trans rfl; have hcz6_2 : w3.cell? ⟨gb164, 2, none⟩ = some (.int .u8 0) := (blk_cell BK164.out 2).trans rfl; have hfz6_0 := blk_frozen BK164.out 0; have hfz6_1 := blk_frozen BK164.out 1; have hfz6_2 := blk_frozen BK164.out 2))
  refine bodyPost_ret (results_cell_row rfl _ _ gb164 31 #[.slice Ao5 y165.length co5, .int .u8 0, .int .u8 0] (0, 0) _ rfl (by (with_reducible repeat (first | refine blk_drewN ?_ _ | refine blk_drew ?_ | refine blk_alloc ?_ _)); refine blk_put (cs := #[.slice Ao5 y165.length co5, .int .u8 0, .int .u8 0]) ?_ 2 _ rfl; (with_reducible repeat (first | refine blk_drewN ?_ _ | refine blk_drew ?_ | refine blk_alloc ?_ _)); refine blk_put (cs := #[.slice Ao5 y165.length co5, .int .u8 0, .int .u8 0]) ?_ 1 _ rfl; (with_reducible repeat (first | refine blk_drewN ?_ _ | refine blk_drew ?_ | refine blk_alloc ?_ _)); refine blk_put (cs := #[.slice none 0 0, .int .u8 0, .int .u8 0]) ?_ 0 _ rfl; (with_reducible repeat (first | refine blk_drewN ?_ _ | refine blk_drew ?_ | refine blk_alloc ?_ _)); exact BK164.out) Try.underlying31 rfl (by kernel_rfl)) rfl ?_
  exact ⟨_, by first | rfl | (simp [errW_none, errW_some] <;> rfl) | (simp [*, errW_none, errW_some] <;> rfl), by (with_reducible repeat (first | apply Kd.R_alloc | apply Kd.R_drewN | apply Kd.R_drew)); exact Kd.R_mono (Kd.R_far (p := ⟨gb164, 2, none⟩) (Kd.R_far (p := ⟨gb164, 1, none⟩) (Kd.R_far (p := ⟨gb164, 0, none⟩) (Kd.R_types HO167.out BK164.out (by decide)) (fun _ hk => hk.2) (.slice Ao5 y165.length co5)) (fun _ hk => hk.2) (.int .u8 0)) (fun _ hk => hk.2) (.int .u8 0)) (fun _ hk => trivial), by repeat (first | (with_reducible first | exact HB.out | apply below_alloc | apply pw_below_drewN | apply below_drew1 | refine below_set ?_ GE164.out) | exact HB.out)⟩
 ·rw [if_neg c1] at H
  exact absurd H (by simp)

end Go.Proofs.Ytpoppdaaodmicaa.Q

-- Written by a program of this session's (wip/mk.py, over the kit's print.py); Lean checks it.
namespace Go.Proofs.Ytpoppdaaodmicaa.Q
open Go.RowKit Go.Proofs.YtpoppdaaodmicaaW.PrintWords Go.Proofs.YtpoppdaaodmicaaW.PrintLast Go.Proofs.YtpoppdaaodmicaaW.PrintMore
attribute [local go_sem] max2_int min2_int max_two min_two max_three min_three max_four min_four   -- for this text's walks alone
set_option linter.unusedVariables false
set_option linter.unusedSimpArgs false

end Go.Proofs.Ytpoppdaaodmicaa.Q

/- Plain facts on lap.Check and lap.Next: which errors, and whose samples. -/
namespace Go.Proofs.Ytpoppdaaodmicaa.Q
open Go.RowKit Go.Proofs.YtpoppdaaodmicaaW.PrintWords Go.Proofs.YtpoppdaaodmicaaW.PrintLast Go.Proofs.YtpoppdaaodmicaaW.PrintMore

theorem clip16 (x : Int) : fix_Clip.f x 16 = some (mn (mx x (-32768)) 32767, 0) := by
  unfold fix_Clip.f
  rw [if_neg (by decide), if_neg (by decide), if_pos (by decide +kernel), show wrap64 ((shl .i64 1 (wrap64 (16 - 1))) - 1) = 32767 by decide +kernel, show wrap64 (wrap64 (-32767) - 1) = -32768 by decide +kernel]
theorem pcmL_map (out : Nat → Int) : ∀ n, pcmL out n = (List.range n).map out
  | 0 => rfl
  | n + 1 => by rw [pcmL, pcmL_map out n, List.range_succ, List.map_append]; rfl
def smp (x : Int) : Int := mn (mx (rnd 4 x) (-32768)) 32767
theorem sampleOf_is {x : Int} (h : -4611686018427387904 ≤ x ∧ x ≤ 4611686018427387904) : sampleOf x = some (smp x) := by
  unfold sampleOf
  rw [show (4 : Int) = ((4 : Nat) : Int) from rfl, round_is h.1 h.2 (by omega) (by omega) (by omega), Option.bind_some, clip16]
  rfl
theorem farB_is : farB = oddB 1099511627776 := rfl
theorem check_cases (l : List Int) (s k : Int) : lap_Check.f l s k = some 8 ∨ (lap_Check.f l s k = some 0 ∧ l.length = 256 ∧ AllIn 1099511627776 l ∧ s ≤ 3 ∧ k ≤ 1) := by
  unfold lap_Check.f
  by_cases hl : l.length = 256
  · rw [if_pos hl]
    by_cases ha : l.any farB = true
    · rw [if_pos ha]; exact .inl rfl
    · rw [if_neg ha]
      by_cases hs : s > 3
      · rw [if_pos hs]; exact .inl rfl
      · rw [if_neg hs]
        by_cases hk : k > 1
        · rw [if_pos hk]; exact .inl rfl
        · rw [if_neg hk]
          exact .inr ⟨rfl, hl, allIn_of_any (by rw [← farB_is]; exact Bool.eq_false_iff.mpr ha), by omega, by omega⟩
  · rw [if_neg hl]; exact .inl rfl
theorem check_yes {l : List Int} {s k : Int} (hl : l.length = 256) (ha : AllIn 1099511627776 l) (hs : s ≤ 3) (hk : k ≤ 1) : lap_Check.f l s k = some 0 := by
  unfold lap_Check.f
  rw [if_pos hl, if_neg (by rw [farB_is, any_of_allIn ha]; decide), if_neg (by omega), if_neg (by omega)]
theorem check_no {l : List Int} {s k : Int} (h : ¬ (l.length = 256 ∧ AllIn 1099511627776 l ∧ s ≤ 3 ∧ k ≤ 1)) : lap_Check.f l s k = some 8 := by
  rcases check_cases l s k with h1 | ⟨_, h1⟩
  · exact h1
  · exact absurd h1 h
def lapAt (l : List Int) (a1 k a2 : Int) (x : List Int) (i : Nat) : Int := smp (rd l (i : Int) + rd (snL a1 k a2 x) (i : Int))
theorem rd_in {X : Int} (hX : 0 ≤ X) {l : List Int} (h : AllIn X l) (n : Nat) : -X ≤ rd l (n : Int) ∧ rd l (n : Int) ≤ X := by
  unfold rd
  rw [show ((n : Int)).toNat = n by omega, List.getD_eq_getElem?_getD]
  by_cases hn : n < l.length
  · rw [List.getElem?_eq_getElem hn]
    exact h _ (List.getElem_mem hn)
  · rw [List.getElem?_eq_none (by omega)]
    exact ⟨by show -X ≤ 0; omega, hX⟩
theorem lap_next_yes {l x : List Int} {s k a1 a2 : Int} (hck : lap_Check.f l s k = some 0) (h1 : 0 ≤ a1 ∧ a1 ≤ 3) (hk : k = 0 ∨ k = 1) (h2 : a2 = 0 ∨ a2 = 1) (hx : x.length = 256) (hb : AllIn 268435455 x) :
    lap_Next.f l s k a1 a2 x = some ((snL a1 k a2 x).drop 256, a1, a2, (List.range 256).map (lapAt l a1 k a2 x), 0) := by
  obtain ⟨hl, ha⟩ : l.length = 256 ∧ AllIn 1099511627776 l := by
    rcases check_cases l s k with h | ⟨_, h, h', _⟩
    · rw [hck] at h; cases h
    · exact ⟨h, h'⟩
  have hs := synth_yes h1 hk h2 hx hb
  have hlen := snL_length a1 k a2 x
  have hat : ∀ i : Nat, sampleAt l (snL a1 k a2 x) i = some (lapAt l a1 k a2 x i) := fun i => by
    have i1 := rd_in (by decide) ha i
    have i2 := snL_bound hk h2 hx hb (a0 := a1) i
    unfold sampleAt
    rw [wrap_in (by omega) (by omega), sampleOf_is (by omega)]
    rfl
  unfold lap_Next.f
  rw [hck, Option.bind_some, if_pos rfl, hs, Option.bind_some, if_pos rfl]
  dsimp only
  rw [if_pos (by omega), if_pos (by rw [List.all_eq_true]; intro i _; rw [hat]; rfl), pcmL_map, hl]
  congr 5
  refine List.map_congr_left fun i _ => ?_
  rw [hat]; rfl
theorem lap_next_bad {l x : List Int} {s k a1 a2 e : Int} (hck : lap_Check.f l s k = some e) (he : e ≠ 0) : lap_Next.f l s k a1 a2 x = some ([], 0, 0, [], e) := by
  unfold lap_Next.f
  rw [hck, Option.bind_some, if_neg he]
theorem lap_next_err {l x : List Int} {s k a1 a2 e : Int} {y : List Int} (hck : lap_Check.f l s k = some 0) (hs : block_Synth.f a1 k a2 x = some (y, e)) (he : e ≠ 0) : lap_Next.f l s k a1 a2 x = some ([], 0, 0, [], e) := by
  unfold lap_Next.f
  rw [hck, Option.bind_some, if_pos rfl, hs, Option.bind_some, if_neg he]
def LapMay (l : List Int) (s k a1 a2 : Int) (x : List Int) : Prop := (l.length = 256 ∧ AllIn 1099511627776 l ∧ s ≤ 3 ∧ k ≤ 1) ∧ MayBe a1 k a2 ∧ x.length = 256 ∧ AllIn 268435455 x
theorem lap_next_cases (l x : List Int) (s k a1 a2 : Int) : (∃ e, e ≠ 0 ∧ lap_Next.f l s k a1 a2 x = some ([], 0, 0, [], e)) ∨ (lap_Check.f l s k = some 0 ∧ LapMay l s k a1 a2 x) := by
  rcases check_cases l s k with h | ⟨h, h'⟩
  · exact .inl ⟨8, by decide, lap_next_bad h (by decide)⟩
  · rcases synth_no (a0 := a1) (a1 := k) (a2 := a2) (l := x) with ⟨e, he, hs, _⟩ | hm
    · exact .inl ⟨e, he, lap_next_err h hs he⟩
    · exact .inr ⟨h, h', hm⟩
theorem tail_length (a0 a1 a2 : Int) (x : List Int) : ((snL a0 a1 a2 x).drop 256).length = 256 := by rw [List.length_drop, snL_length]
theorem new_is : lap_New.f = some (List.replicate 256 0, 0, 0) := by
  unfold lap_New.f
  rw [if_pos (by decide)]
end Go.Proofs.Ytpoppdaaodmicaa.Q
