-- LapQuiet (9): the walk, by hand.
import Derived.Test.YtpoppdaaodmicaaK7
namespace Go.Proofs.Ytpoppdaaodmicaa.Q
open Go.RowKit Go.Shelf Go.Proofs.YtpoppdaaodmicaaW.PrintWords Go.Proofs.YtpoppdaaodmicaaW.PrintLast Go.Proofs.YtpoppdaaodmicaaW.PrintMore
theorem max2_mx (k k' : IntKind) (x y : Int) : Builtin.max2 (.int k x) (.int k' y) = pure (.int k (mx x y)) := max2_int k k' x y
theorem min2_mn (k k' : IntKind) (x y : Int) : Builtin.min2 (.int k x) (.int k' y) = pure (.int k (mn x y)) := min2_int k k' x y
attribute [local go_sem] Oper.semAt_some max2_mx min2_mn max_two min_two
set_option linter.unusedVariables false
set_option linter.unusedSimpArgs false


set_option maxRecDepth 100000 in
set_option maxHeartbeats 2000000 in
theorem quiet_many (A0 : Option Addr) (c0 : Nat) (l0 : List Int) (s0 k0 a1 a2 a3 : Int) (w : World) (hl : (1000 : Int) < (l0.length : Int)) :
    Calls Try.prog 9 #[.agg #[.slice A0 l0.length c0, .int .u8 s0, .int .u8 k0], .int .u8 a1, .int .u8 a2, .int .u8 a3] w fun e w' => e = .returned (.bool true) ∧ Below w.heap.size w w' := by
  have hb0 : Below w.heap.size w (w.alloc (.cells #[.slice A0 l0.length c0, .int .u8 s0, .int .u8 k0] 31)) := (Below.refl _ w).alloc (Nat.le_refl _) _
  have HA := Lib.hid (reedpipelaw13_alive.calls 300 true (w.alloc (.cells #[.slice A0 l0.length c0, .int .u8 s0, .int .u8 k0] 31)) (alive13 (Nat.le_refl _)))
  have HB0 := Lib.hid hb0
  have b1 := Boxed3.new w (.slice A0 l0.length c0) (.int .u8 s0) (.int .u8 k0)
  have B1 := Lib.hid b1
  have hlb : decide (1000 < (l0.length : Int)) = true := decide_eq_true hl
  clear b1 hb0 hl
  go_enter Try.func9, Try.ntmps9
  go_wp2_with fail
  refine HA.out.mono ?_
  rintro e w1 ⟨rfl, hb1⟩
  obtain ⟨d1, d2, d3⟩ := (B1.out.below hb1).cells
  have HB1 := Lib.hid (HB0.out.trans (hb1.mono HB0.out.size))
  clear hb1 B1 HA
  go_wp2_with fail
  go_ret
  exact ⟨rfl, HB1.out⟩


theorem Boxed3.alloc {W : World} {B : Nat} {v1 v2 v3 : Value} (h : Boxed3 W B v1 v2 v3) (o : Obj) : Boxed3 (W.alloc o) B v1 v2 v3 := h.below ((Below.refl _ _).alloc (Nat.le_refl _) o)
theorem Boxed3.new' (w : World) (B : Nat) (v1 v2 v3 : Value) (h : B = w.heap.size) : Boxed3 (w.alloc (.cells #[v1, v2, v3] 31)) B v1 v2 v3 := by rw [h]; exact Boxed3.new w v1 v2 v3
theorem bx_k {W w2 : World} {B : Nat} {P : Prop} (hb : Below W.heap.size W w2) (h : Boxed3 W B (.slice none 0 0) (.int .u8 0) (.int .u8 0)) (k : Boxed3 w2 B (.slice none 0 0) (.int .u8 0) (.int .u8 0) → P) : P := k (h.below hb)
theorem Boxed3.drew {W : World} {B : Nat} {v1 v2 v3 : Value} (h : Boxed3 W B v1 v2 v3) : Boxed3 W.drew B v1 v2 v3 := h
theorem box_new_facts (W : World) : ((W.alloc (.cells #[.slice none 0 0, .int .u8 0, .int .u8 0] 31)).frozen? ⟨W.heap.size, 0, none⟩ = false ∧ (W.alloc (.cells #[.slice none 0 0, .int .u8 0, .int .u8 0] 31)).frozen? ⟨W.heap.size, 1, none⟩ = false ∧ (W.alloc (.cells #[.slice none 0 0, .int .u8 0, .int .u8 0] 31)).frozen? ⟨W.heap.size, 2, none⟩ = false) ∧
    ((W.alloc (.cells #[.slice none 0 0, .int .u8 0, .int .u8 0] 31)).cell? ⟨W.heap.size, 0, none⟩ = some (.slice none 0 0) ∧ (W.alloc (.cells #[.slice none 0 0, .int .u8 0, .int .u8 0] 31)).cell? ⟨W.heap.size, 1, none⟩ = some (.int .u8 0) ∧ (W.alloc (.cells #[.slice none 0 0, .int .u8 0, .int .u8 0] 31)).cell? ⟨W.heap.size, 2, none⟩ = some (.int .u8 0)) ∧
    (∀ u, (((W.alloc (.cells #[.slice none 0 0, .int .u8 0, .int .u8 0] 31)).setCell ⟨W.heap.size, 0, none⟩ u).frozen? ⟨W.heap.size, 1, none⟩ = false) ∧ (((W.alloc (.cells #[.slice none 0 0, .int .u8 0, .int .u8 0] 31)).setCell ⟨W.heap.size, 0, none⟩ u).frozen? ⟨W.heap.size, 2, none⟩ = false)) ∧
    (∀ u u', ((((W.alloc (.cells #[.slice none 0 0, .int .u8 0, .int .u8 0] 31)).setCell ⟨W.heap.size, 0, none⟩ u).setCell ⟨W.heap.size, 1, none⟩ u').frozen? ⟨W.heap.size, 2, none⟩ = false)) := by
  have bx := Boxed3.new W (.slice none 0 0) (.int .u8 0) (.int .u8 0)
  have f1 := fun u => Boxed3.frozen (heap_set1 _ _ 0 u _ _ bx : Boxed3 _ _ u (.int .u8 0) (.int .u8 0))
  have f2 := fun u u' => Boxed3.frozen (heap_set1 _ _ 1 u' _ _ (heap_set1 _ _ 0 u _ _ bx) : Boxed3 _ _ u u' (.int .u8 0))
  exact ⟨bx.frozen, bx.cells, fun u => ⟨(f1 u).2.1, (f1 u).2.2⟩, fun u u' => (f2 u u').2.2⟩
theorem C_made (W : World) (M : Nat) (hM : Hid (M = 256)) : Kd.C (Kd.int .i64) (W.alloc (.cells (madeCells #[.int .i64 0] M) 3)) (some ⟨W.heap.size, 0, none⟩) M (List.replicate M 0) := by
  have hM' := hM.out
  have h := own_made_of (enc := Value.int .i64) (d := (0 : Int)) W W.heap.size 3 M (Nat.le_refl _) (by omega)
  have h2 : Kd.R (Kd.int .i64) 3 (W.alloc (.cells (madeCells #[.int .i64 0] M) 3)) W.heap.size (fun k => k = W.heap.size) (.slice (some ⟨W.heap.size, 0, none⟩) M M) (List.replicate M 0) := by
    refine Kd.R_of_own (enc := Value.int .i64) ?_ (fun k hk => by simpa [Value.ownBlock] using hk.symm)
    rw [List.length_replicate]
    exact h
  have h3 := (Kd.R_reads' h2).2.2
  rw [List.length_replicate] at h3
  exact h3
theorem C_made' (W : World) (B M : Nat) (hM : Hid (M = 256)) (h : B = W.heap.size) : Kd.C (Kd.int .i64) (W.alloc (.cells (madeCells #[.int .i64 0] M) 3)) (some ⟨B, 0, none⟩) M (List.replicate M 0) := by rw [h]; exact C_made W M hM

theorem drew_size (W : World) : W.drew.heap.size = W.heap.size := rfl
/-- What lies behind a call of lap.Next whose answer is kept. -/
def AfterNext (w1 wF : World) (g : Nat) (A5 : Option Addr) (c5 : Nat) (T : List Int) (s m : Int) (A6 : Option Addr) (c6 : Nat) (p : List Int) : Prop :=
  Below w1.heap.size w1 wF ∧ Boxed3 wF g (.slice A5 T.length c5) (.int .u8 s) (.int .u8 m) ∧ (Kd.C (Kd.int .i64) wF A5 T.length T ∧ T.length ≤ c5) ∧ (Kd.C (Kd.int .i64) wF A6 p.length p ∧ p.length ≤ c6)
theorem C_set3 {W : World} {base g : Nat} {ok : Nat → Prop} {A : Option Addr} {n c : Nat} {xs : List Int} (h : Kd.R (Kd.int .i64) 3 W base ok (.slice A n c) xs) (hg : ∀ k, base ≤ k → k < W.heap.size → k ≠ g) (u1 u2 u3 : Value) : Kd.C (Kd.int .i64) (set3 W g u1 u2 u3) A xs.length xs ∧ xs.length ≤ c := by
  have e0 := Kd.R_bound h
  have e1 := Kd.R_far (p := ⟨g, 0, none⟩) e0 (fun k hk => hg k hk.2.1 hk.2.2.1) u1
  have e2 := Kd.R_far (p := ⟨g, 1, none⟩) e1 (fun k hk => hg k hk.2.1 hk.2.2.1) u2
  have e3 := Kd.R_far (p := ⟨g, 2, none⟩) e2 (fun k hk => hg k hk.2.1 hk.2.2.1) u3
  have e4 := Kd.R_reads' e3
  exact ⟨e4.2.2, by rw [← e4.1]; exact e4.2.1⟩
theorem leafA {w1 W w2 : World} {g : Nat} {A5 A6 : Option Addr} {c5 c6 : Nat} {T p : List Int} {ok0 ok3 : Nat → Prop} {s m : Int} (h1 : Below w1.heap.size w1 W) (hbx : Boxed3 w2 g (.slice none 0 0) (.int .u8 0) (.int .u8 0)) (hge : w1.heap.size ≤ g) (hlt : g < W.heap.size) (hb2 : Below W.heap.size W w2)
    (hv0 : Kd.R (Kd.int .i64) 3 w2 W.heap.size ok0 (.slice A5 T.length c5) T) (hv3 : Kd.R (Kd.int .i64) 3 w2 W.heap.size ok3 (.slice A6 p.length c6) p) : AfterNext w1 (set3 w2 g (.slice A5 T.length c5) (.int .u8 s) (.int .u8 m)) g A5 c5 T s m A6 c6 p :=
  ⟨below_set3 (h1.trans (hb2.mono h1.size)) hge _ _ _, hbx.set3 _ _ _, C_set3 hv0 (fun k hk _ => by omega) _ _ _, C_set3 hv3 (fun k hk _ => by omega) _ _ _⟩
theorem leafC {w1 W w2 : World} {A5 A6 : Option Addr} {c5 c6 : Nat} {T p : List Int} {ok0 ok3 : Nat → Prop} {s m : Int} (h1 : Below w1.heap.size w1 W) (hb2 : Below W.heap.size W w2)
    (hv0 : Kd.R (Kd.int .i64) 3 w2 W.heap.size ok0 (.slice A5 T.length c5) T) (hv3 : Kd.R (Kd.int .i64) 3 w2 W.heap.size ok3 (.slice A6 p.length c6) p) :
    AfterNext w1 (w2.alloc (.cells #[.slice A5 T.length c5, .int .u8 s, .int .u8 m] 31)) w2.heap.size A5 c5 T s m A6 c6 p := by
  have hs := hb2.size
  have hw := h1.size
  have g0 := Kd.R_reads' (Kd.R_alloc hv0 (.cells #[.slice A5 T.length c5, .int .u8 s, .int .u8 m] 31))
  have g3 := Kd.R_reads' (Kd.R_alloc hv3 (.cells #[.slice A5 T.length c5, .int .u8 s, .int .u8 m] 31))
  exact ⟨(h1.trans (hb2.mono h1.size)).alloc (by omega) _, Boxed3.new w2 _ _ _, ⟨g0.2.2, g0.2.1⟩, ⟨g3.2.2, g3.2.1⟩⟩

set_option maxRecDepth 100000 in
set_option maxHeartbeats 4000000 in
theorem quiet_walk (A0 : Option Addr) (c0 : Nat) (l0 : List Int) (s0 k0 a1 a2 a3 : Int) (w : World) (hr : Kd.C (Kd.int .i64) w A0 l0.length l0) (hc : l0.length ≤ c0) (hl : ¬ (1000 : Int) < (l0.length : Int)) (M : Nat) (hM : Hid (M = 256)) (T p : List Int) (s1 m1 e : Int)
    (hn : lap_Next.f l0 s0 k0 a1 a3 (List.replicate M 0) = some (T, s1, m1, p, e)) (hpe : e ≠ 0 → p = []) (T2 q : List Int) (s2 m2 f : Int)
    (hn2 : e = 0 → lap_Next.f T s1 m1 a2 a3 (List.replicate M 0) = some (T2, s2, m2, q, f)) (hf3 : f ≠ 0 → 3 < a2) (hall : e = 0 → f = 0 → (l0.length = 256 ∧ T.length = 256 ∧ T2.length = 256 ∧ p.length = 256 ∧ q.length = 256) ∧
      ∀ n : Nat, n < 256 → rd T (n : Int) = 0 ∧ rd T2 (n : Int) = 0 ∧ rd q (n : Int) = 0 ∧ rd p (n : Int) = mx (mn (wrap64 (rd l0 (n : Int) + 8) / 16) 32767) (-32768)) :
    Calls Try.prog 9 #[.agg #[.slice A0 l0.length c0, .int .u8 s0, .int .u8 k0], .int .u8 a1, .int .u8 a2, .int .u8 a3] w fun e w' => e = .returned (.bool true) ∧ Below w.heap.size w w' := by
  have hb0 : Below w.heap.size w (w.alloc (.cells #[.slice A0 l0.length c0, .int .u8 s0, .int .u8 k0] 31)) := (Below.refl _ w).alloc (Nat.le_refl _) _
  have HA := Lib.hid (reedpipelaw13_alive.calls 300 true (w.alloc (.cells #[.slice A0 l0.length c0, .int .u8 s0, .int .u8 k0] 31)) (alive13 (Nat.le_refl _)))
  have HB0 := Lib.hid hb0
  have b1 := Boxed3.new w (.slice A0 l0.length c0) (.int .u8 s0) (.int .u8 k0)
  have B1 := Lib.hid b1
  have hlb : decide (1000 < (l0.length : Int)) = false := decide_eq_false hl
  have hmk : ∀ W : World, (Instr.makeSlice 29 (.int .i64 256) (.int .i64 256)).run Try.prog W = .ok (.slice (some ⟨W.heap.size, 0, none⟩) M M) (W.alloc (.cells (madeCells #[.int .i64 0] M) 3)) := by
    rw [hM.out]
    exact print_make_of 29 3 (.int .i64 0) 8 Try.underlying29 info3 rfl (by omega) 256 (by omega)
  have HN := Lib.hid (fun W (h : Below w.heap.size w W) (B : Nat) (hC : Kd.C (Kd.int .i64) W (some ⟨B, 0, none⟩) (List.replicate M (0 : Int)).length (List.replicate M 0)) =>
    lap_Next.calls A0 c0 l0 s0 k0 a1 a3 (some ⟨B, 0, none⟩) M (List.replicate M 0) _ _ _ _ _ W (Kd.C_below hr h) hc hC (by rw [List.length_replicate]; exact Nat.le_refl _) hn)
  rw [List.length_replicate] at HN
  have HP := Lib.hid hpe
  have x1 := fun W => (box_new_facts W).1.1
  have x2 := fun W => (box_new_facts W).1.2.1
  have x3 := fun W => (box_new_facts W).1.2.2
  have x4 := fun W => (box_new_facts W).2.1.1
  have x5 := fun W => (box_new_facts W).2.1.2.1
  have x6 := fun W => (box_new_facts W).2.1.2.2
  have x7 := fun W u => ((box_new_facts W).2.2.1 u).1
  have x8 := fun W u => ((box_new_facts W).2.2.1 u).2
  have x9 := fun W u u' => (box_new_facts W).2.2.2 u u'
  have HR := Lib.hid hr
  have HN2' := Lib.hid hn2
  have HF3 := Lib.hid hf3
  have HALL := Lib.hid hall
  clear b1 hb0 hl hr hn hpe hn2 hf3 hall
  go_enter Try.func9, Try.ntmps9
  go_wp2_with fail
  refine HA.out.mono ?_
  rintro e w1 ⟨rfl, hb1⟩
  have B2 := Lib.hid (B1.out.below hb1)
  obtain ⟨d1, d2, d3⟩ := B2.out.cells
  have HB1 := Lib.hid (HB0.out.trans (hb1.mono HB0.out.size))
  clear hb1 B1 HA
  go_wp2_with fail
  have y1 := fun o => ((B2.out.alloc o).cells).1
  have y2 := fun o => ((B2.out.alloc o).cells).2.1
  have y3 := fun o => ((B2.out.alloc o).cells).2.2
  have y4 := fun o o' => (((B2.out.alloc o).alloc o').cells).1
  have y5 := fun o o' => (((B2.out.alloc o).alloc o').cells).2.1
  have y6 := fun o o' => (((B2.out.alloc o).alloc o').cells).2.2
  go_cut [10, 11, 12] (fun v10 v11 v12 wc => ∃ (g : Nat) (A5 : Option Addr) (c5 : Nat) (A6 : Option Addr) (c6 : Nat), v10 = .pointer (some ⟨g, 0, none⟩) ∧ v11 = .slice A6 p.length c6 ∧ v12 = .int .i64 e ∧ Hid (AfterNext w1 wc g A5 c5 T s1 m1 A6 c6 p))
  case first => as_aux_lemma =>
    go_region_with (refine (HN.out _ (by repeat (with_reducible first | exact HB1.out | apply below_drew1 | apply below_alloc)) _ ?_).mono ?_; (· ((repeat (with_reducible first | refine C_made' _ _ _ hM ?_ | refine Kd.C_drew ?_ | refine Kd.C_alloc ?_ _)); (first | rfl | (simp only [World.size_alloc]; done)))); rintro e' w2 ⟨v0, v3, rfl, hv0, hv3, hb2⟩; obtain ⟨A5, c5, rfl⟩ := Kd.R_slice hv0; obtain ⟨A6, c6, rfl⟩ := Kd.R_slice hv3; (first | (refine bx_k (B := w1.heap.size) hb2 ?_ (fun bx => ?_); (· ((repeat (with_reducible first | refine Boxed3.drew ?_ | refine Boxed3.new' _ _ _ _ _ ?_ | refine Boxed3.alloc ?_ _)); (first | rfl | (simp only [World.size_alloc]; done)))); obtain ⟨f21, f22, f23⟩ := bx.frozen; obtain ⟨c21, c22, c23⟩ := bx.cells; have f32 := fun u => Boxed3.frozen (heap_set1 _ _ 0 u _ _ bx : Boxed3 _ _ u (.int .u8 0) (.int .u8 0)); have f33 := fun u u' => Boxed3.frozen (heap_set1 _ _ 1 u' _ _ (heap_set1 _ _ 0 u _ _ bx) : Boxed3 _ _ u u' (.int .u8 0)); have HL := Lib.hid (leafA (w1 := w1) (s := s1) (m := m1) (by repeat (with_reducible first | exact Below.refl _ _ | apply below_drew1 | apply below_alloc)) bx (by omega) (by (repeat (with_reducible first | simp only [drew_size] | simp only [World.size_alloc])); omega) hb2 hv0 hv3); clear bx) | (refine bx_k (B := w1.heap.size + 1) hb2 ?_ (fun bx => ?_); (· ((repeat (with_reducible first | refine Boxed3.drew ?_ | refine Boxed3.new' _ _ _ _ _ ?_ | refine Boxed3.alloc ?_ _)); (first | rfl | (simp only [World.size_alloc]; done)))); obtain ⟨f21, f22, f23⟩ := bx.frozen; obtain ⟨c21, c22, c23⟩ := bx.cells; have f32 := fun u => Boxed3.frozen (heap_set1 _ _ 0 u _ _ bx : Boxed3 _ _ u (.int .u8 0) (.int .u8 0)); have f33 := fun u u' => Boxed3.frozen (heap_set1 _ _ 1 u' _ _ (heap_set1 _ _ 0 u _ _ bx) : Boxed3 _ _ u u' (.int .u8 0)); have HL := Lib.hid (leafA (w1 := w1) (s := s1) (m := m1) (by repeat (with_reducible first | exact Below.refl _ _ | apply below_drew1 | apply below_alloc)) bx (by omega) (by (repeat (with_reducible first | simp only [drew_size] | simp only [World.size_alloc])); omega) hb2 hv0 hv3); clear bx) | (have HL := Lib.hid (leafC (w1 := w1) (s := s1) (m := m1) (by repeat (with_reducible first | exact Below.refl _ _ | apply below_drew1 | apply below_alloc)) hb2 hv0 hv3))); clear hv0 hv3 hb2)
    all_goals
      go_wp2_with fail
      go_meet
      case rel => exact ⟨_, _, _, _, _, rfl, rfl, rfl, HL⟩
  case rest =>
    clear y1 y2 y3 y4 y5 y6 HN d1 d2 d3
    obtain ⟨g, A5, c5, A6, c6, rfl, rfl, rfl, HF⟩ := hcut
    by_cases he : e = 0
    · subst he
      have HBC := Lib.hid (HB1.out.trans (HF.out.1.mono HB1.out.size))
      have HN2 := Lib.hid (fun W (h : Below wc.heap.size wc W) (B : Nat) (hC : Kd.C (Kd.int .i64) W (some ⟨B, 0, none⟩) (List.replicate M (0 : Int)).length (List.replicate M 0)) =>
        lap_Next.calls A5 c5 T s1 m1 a2 a3 (some ⟨B, 0, none⟩) M (List.replicate M 0) _ _ _ _ _ W (Kd.C_below HF.out.2.2.1.1 h) HF.out.2.2.1.2 hC (by rw [List.length_replicate]; exact Nat.le_refl _) (HN2'.out rfl))
      rw [List.length_replicate] at HN2
      obtain ⟨d1, d2, d3⟩ := HF.out.2.1.cells
      go_wp2_with fail
      have y1 := fun o => ((HF.out.2.1.alloc o).cells).1
      have y2 := fun o => ((HF.out.2.1.alloc o).cells).2.1
      have y3 := fun o => ((HF.out.2.1.alloc o).cells).2.2
      have y4 := fun o o' => (((HF.out.2.1.alloc o).alloc o').cells).1
      have y5 := fun o o' => (((HF.out.2.1.alloc o).alloc o').cells).2.1
      have y6 := fun o o' => (((HF.out.2.1.alloc o).alloc o').cells).2.2
      have HBR := Lib.hid (Below.refl wc.heap.size wc)
      go_cut [13, 14, 15] (fun v13 v14 v15 wc' => ∃ (h : Nat) (A7 : Option Addr) (c7 : Nat) (A8 : Option Addr) (c8 : Nat), v13 = .pointer (some ⟨h, 0, none⟩) ∧ v14 = .slice A8 q.length c8 ∧ v15 = .int .i64 f ∧ Hid (AfterNext wc wc' h A7 c7 T2 s2 m2 A8 c8 q))
      case first => as_aux_lemma =>
        go_region_with (refine (HN2.out _ (by repeat (with_reducible first | exact HBR.out | apply below_drew1 | apply below_alloc)) _ ?_).mono ?_; (· ((repeat (with_reducible first | refine C_made' _ _ _ hM ?_ | refine Kd.C_drew ?_ | refine Kd.C_alloc ?_ _)); (first | rfl | (simp only [World.size_alloc]; done)))); rintro e' w2 ⟨v0, v3, rfl, hv0, hv3, hb2⟩; obtain ⟨A7, c7, rfl⟩ := Kd.R_slice hv0; obtain ⟨A8, c8, rfl⟩ := Kd.R_slice hv3; (first | (refine bx_k (B := wc.heap.size) hb2 ?_ (fun bx => ?_); (· ((repeat (with_reducible first | refine Boxed3.drew ?_ | refine Boxed3.new' _ _ _ _ _ ?_ | refine Boxed3.alloc ?_ _)); (first | rfl | (simp only [World.size_alloc]; done)))); obtain ⟨f21, f22, f23⟩ := bx.frozen; obtain ⟨c21, c22, c23⟩ := bx.cells; have f32 := fun u => Boxed3.frozen (heap_set1 _ _ 0 u _ _ bx : Boxed3 _ _ u (.int .u8 0) (.int .u8 0)); have f33 := fun u u' => Boxed3.frozen (heap_set1 _ _ 1 u' _ _ (heap_set1 _ _ 0 u _ _ bx) : Boxed3 _ _ u u' (.int .u8 0)); have HL := Lib.hid (leafA (w1 := wc) (s := s2) (m := m2) (by repeat (with_reducible first | exact Below.refl _ _ | apply below_drew1 | apply below_alloc)) bx (by omega) (by (repeat (with_reducible first | simp only [drew_size] | simp only [World.size_alloc])); omega) hb2 hv0 hv3); clear bx) | (refine bx_k (B := wc.heap.size + 1) hb2 ?_ (fun bx => ?_); (· ((repeat (with_reducible first | refine Boxed3.drew ?_ | refine Boxed3.new' _ _ _ _ _ ?_ | refine Boxed3.alloc ?_ _)); (first | rfl | (simp only [World.size_alloc]; done)))); obtain ⟨f21, f22, f23⟩ := bx.frozen; obtain ⟨c21, c22, c23⟩ := bx.cells; have f32 := fun u => Boxed3.frozen (heap_set1 _ _ 0 u _ _ bx : Boxed3 _ _ u (.int .u8 0) (.int .u8 0)); have f33 := fun u u' => Boxed3.frozen (heap_set1 _ _ 1 u' _ _ (heap_set1 _ _ 0 u _ _ bx) : Boxed3 _ _ u u' (.int .u8 0)); have HL := Lib.hid (leafA (w1 := wc) (s := s2) (m := m2) (by repeat (with_reducible first | exact Below.refl _ _ | apply below_drew1 | apply below_alloc)) bx (by omega) (by (repeat (with_reducible first | simp only [drew_size] | simp only [World.size_alloc])); omega) hb2 hv0 hv3); clear bx) | (have HL := Lib.hid (leafC (w1 := wc) (s := s2) (m := m2) (by repeat (with_reducible first | exact Below.refl _ _ | apply below_drew1 | apply below_alloc)) hb2 hv0 hv3))); clear hv0 hv3 hb2)
        all_goals
          go_wp2_with fail
          go_meet
          case rel => exact ⟨_, _, _, _, _, rfl, rfl, rfl, HL⟩
      case rest =>
        clear y1 y2 y3 y4 y5 y6 HN2 d1 d2 d3 HN2' x1 x2 x3 x4 x5 x6 x7 x8 x9 hmk
        obtain ⟨h, A7, c7, A8, c8, rfl, rfl, rfl, HG⟩ := hcut
        by_cases hf : f = 0
        · subst hf
          obtain ⟨⟨n0, n1, n2, n3, n4⟩, hrd⟩ := HALL.out (by trivial) (by trivial)
          have HRD := Lib.hid hrd
          have z1 : ((T.length : Int) != 256) = false := by rw [bne_eq_false_iff_eq]; omega
          have z2 : ((T2.length : Int) != 256) = false := by rw [bne_eq_false_iff_eq]; omega
          have z3 : ((p.length : Int) != 256) = false := by rw [bne_eq_false_iff_eq]; omega
          have z4 : ((q.length : Int) != 256) = false := by rw [bne_eq_false_iff_eq]; omega
          have HNN := Lib.hid (⟨n0, n1, n2, n3, n4⟩ : _ ∧ _ ∧ _ ∧ _ ∧ _)
          have HBD := Lib.hid (HBC.out.trans (HG.out.1.mono HBC.out.size))
          have L1 := Lib.hid ((B2.out.below HF.out.1).below HG.out.1)
          have L2 := Lib.hid (HF.out.2.1.below HG.out.1)
          have L3 := Lib.hid HG.out.2.1
          have R0 := Lib.hid (Kd.C_below HR.out HBD.out)
          have R1 := Lib.hid (Kd.C_below HF.out.2.2.1.1 HG.out.1)
          have R2 := Lib.hid (Kd.C_below HF.out.2.2.2.1 HG.out.1)
          have R3 := Lib.hid HG.out.2.2.1.1
          have R4 := Lib.hid HG.out.2.2.2.1
          obtain ⟨d1, d2, d3⟩ := L1.out.cells
          obtain ⟨d4, d5, d6⟩ := L2.out.cells
          obtain ⟨d7, d8, d9⟩ := L3.out.cells
          clear HF HG hrd n0 n1 n2 n3 n4 HALL HF3 HR B2 HBC HBR HB0 HB1 HP
          go_wp2_with fail
          go_loop [16] (fun v16 => ∃ n : Nat, n ≤ 256 ∧ v16 = .int .i64 (n : Int)) (fun v16 => (256 - intOf v16).toNat)
          case atStart => exact ⟨0, by omega, rfl⟩
          case round =>
            obtain ⟨n, hn, rfl⟩ := hrel
            by_cases hlt : n < 256
            · obtain ⟨g0, g1, g2, g3, g4⟩ := HNN.out
              obtain ⟨ad0, rfl, hc0⟩ := Kd.at_int R0.out (n : Int) (by omega) (by omega)
              obtain ⟨ad1, rfl, hc1⟩ := Kd.at_int R1.out (n : Int) (by omega) (by omega)
              obtain ⟨ad2, rfl, hc2⟩ := Kd.at_int R2.out (n : Int) (by omega) (by omega)
              obtain ⟨ad3, rfl, hc3⟩ := Kd.at_int R3.out (n : Int) (by omega) (by omega)
              obtain ⟨ad4, rfl, hc4⟩ := Kd.at_int R4.out (n : Int) (by omega) (by omega)
              obtain ⟨r1, r2, r3, r4⟩ := HRD.out n hlt
              have k0 : (n : Int) < (l0.length : Int) := by omega
              have k1 : (n : Int) < (T.length : Int) := by omega
              have k2 : (n : Int) < (T2.length : Int) := by omega
              have k3 : (n : Int) < (p.length : Int) := by omega
              have k4 : (n : Int) < (q.length : Int) := by omega
              have k5 : (0 : Int) ≤ (n : Int) := by omega
              have k6 : decide ((n : Int) < 256) = true := decide_eq_true (by omega)
              have hjk : (n : Int).toNat = n := by omega
              simp only [hjk] at hc0 hc1 hc2 hc3 hc4
              rw [r1] at hc1
              rw [r4] at hc2
              rw [r2] at hc3
              rw [r3] at hc4
              clear hjk g0 g1 g2 g3 g4 r1 r2 r3 r4
              go_wp2_with fail
              go_round
              case rel => exact ⟨n + 1, by omega, by go_num⟩
              case measure => simp [intOf]; omega
            · obtain rfl : n = 256 := by omega
              go_wp2_with fail
              go_ret
              exact ⟨rfl, HBD.out⟩
        · have hne : (f != 0) = true := bne_iff_ne.mpr hf
          have h3 : decide (3 < a2) = true := decide_eq_true (HF3.out hf)
          go_wp2_with fail
          go_ret
          exact ⟨rfl, HBC.out.trans (HG.out.1.mono HBC.out.size)⟩
    · have hne : (e != 0) = true := bne_iff_ne.mpr he
      have hp := HP.out he
      subst hp
      go_wp2_with fail
      go_ret
      exact ⟨rfl, HB1.out.trans (HF.out.1.mono HB1.out.size)⟩

end Go.Proofs.Ytpoppdaaodmicaa.Q
