/- LapBack: samples that are analysed frame by frame, by any sequences that may follow one another, with any shapes, and lapped, come out a frame later, to 2 at most: any samples and path. No condition. -/
import Derived.Test.YtpoppdaaodmicaaK6
import Derived.Test.YtpoppdaaodmicaaK7
import Derived.Test.YtpoppdaaodmicaaK8
import Derived.Test.YtpoppdaaodmicaaQ12
namespace Go.Proofs.Ytpoppdaaodmicaa.Pure
open Go.RowKit Go.Proofs.Ytpoppdaaodmicaa.Q Go.Proofs.YtpoppdaaodmicaaW.PrintWords Go.Proofs.YtpoppdaaodmicaaW.PrintLast

theorem smp_near {v s : Int} (hs : -32768 ≤ s ∧ s ≤ 32767) (h : -36 ≤ v - 16 * s ∧ v - 16 * s ≤ 36) : -2 ≤ smp v - s ∧ smp v - s ≤ 2 := by
  unfold smp mn mx
  rw [rnd4]
  split <;> split <;> omega
/-! ### a frame's samples -/
def cutF (x : List Int) (i : Nat) : List Int := (x.take (256 * i + 512)).drop (256 * i)
theorem cutF_length {x : List Int} {i : Nat} (h : 256 * i + 512 ≤ x.length) : (cutF x i).length = 512 := by
  unfold cutF
  rw [List.length_drop, List.length_take]
  omega
theorem rd_cutF {x : List Int} {i n : Nat} (hn : n < 512) : rd (cutF x i) (n : Int) = rd x ((256 * i + n : Nat) : Int) := by
  unfold rd cutF
  rw [show ((n : Int)).toNat = n by omega, show (((256 * i + n : Nat) : Int)).toNat = 256 * i + n by omega, List.getD_eq_getElem?_getD, List.getD_eq_getElem?_getD, List.getElem?_drop, List.getElem?_take_of_lt (by omega)]
theorem cutF_in {x : List Int} {i : Nat} (h : 256 * i + 512 ≤ x.length) (hb : Between (-32768) 32767 x) : Between (-32768) 32767 (cutF x i) := by
  intro n hn
  rw [cutF_length h] at hn
  rw [rd_cutF hn]
  exact hb _ (by omega)
/-! ### the state behind a frame -/
/-- Nothing yet, or a frame i - 1 with what overlaps behind it. -/
def Behind (x : List Int) (i : Nat) (was : Int) (T : List Int) (s m : Int) : Prop :=
  lap_Check.f T s m = some 0 ∧ (m = 0 ∨ m = 1) ∧ 0 ≤ was ∧ (0 < i → ∃ w1, (w1 = 0 ∨ w1 = 1) ∧ was ≤ 3 ∧ T = (snL was w1 m (anL was w1 m (cutF x (i - 1)))).drop 256)
theorem behind_off {x : List Int} (hb : Between (-32768) 32767 x) {i : Nat} (hi : 0 < i) (hx : 256 * i + 512 ≤ x.length) {was s m a sh : Int} {T : List Int} (h : Behind x i was T s m) (ha : 0 ≤ a ∧ a ≤ 3) (hsh : sh = 0 ∨ sh = 1) (hf : (was = 0 ∨ was = 3) ↔ (a = 0 ∨ a = 1)) {n : Nat} (hn : n < 256) :
    -2 ≤ lapAt T a m sh (anL a m sh (cutF x i)) n - rd x ((256 * i + n : Nat) : Int) ∧ lapAt T a m sh (anL a m sh (cutF x i)) n - rd x ((256 * i + n : Nat) : Int) ≤ 2 := by
  obtain ⟨_, hm, hw0, h⟩ := h
  obtain ⟨w1, hw1, hwas, rfl⟩ := h hi
  have hprev : 256 * (i - 1) + 512 ≤ x.length := by omega
  have e1 : ∀ k : Nat, k < 256 → rd (cutF x (i - 1)) ((256 + k : Nat) : Int) = rd (cutF x i) (k : Int) := fun k hk => by
    rw [rd_cutF (by omega), rd_cutF (by omega), show 256 * (i - 1) + (256 + k) = 256 * i + k by omega]
  have ho := overlap hw1 hm hsh (a := was) (b := a) (by omega) (by omega) hf (cutF_length hprev) (cutF_length hx) (cutF_in hprev hb) (cutF_in hx hb) e1 hn
  rw [rd_cutF (by omega)] at ho
  unfold lapAt
  rw [tail_rd]
  exact smp_near (hb _ (by omega)) ho
/-! ### the loops -/
theorem lw256 {i : Nat} (hi : i < 10) : wrap64 (256 * (i : Int)) = ((256 * i : Nat) : Int) := by rw [wrap_in (by omega) (by omega)]; omega
theorem lw512 {i : Nat} (hi : i < 10) : wrap64 (((256 * i : Nat) : Int) + 512) = ((256 * i + 512 : Nat) : Int) := by rw [wrap_in (by omega) (by omega)]; omega
theorem lwn {i n : Nat} (hi : i < 10) (hn : n < 512) : wrap64 (((256 * i : Nat) : Int) + (n : Int)) = ((256 * i + n : Nat) : Int) := by rw [wrap_in (by omega) (by omega)]; omega
theorem lw1 {n : Nat} (hn : n < 5000) : wrap64 ((n : Int) + 1) = ((n + 1 : Nat) : Int) := by rw [wrap_in (by omega) (by omega)]; omega
theorem off_ok {u v : Int} (h : -2 ≤ u - v ∧ u - v ≤ 2) : ¬ wrap64 (u - v) > 2 ∧ ¬ wrap64 (u - v) < -2 := by
  rw [wrap_in (by omega) (by omega)]
  omega
theorem back_l2 {x : List Int} {p : List S44} {i : Nat} (hi : i < 10) (hip : i < p.length) (hx : 256 * i + 512 ≤ x.length) {out T : List Int} (ho : out.length = 256) {s m : Int}
    (hoff : 0 < i → ∀ n : Nat, n < 256 → -2 ≤ rd out (n : Int) - rd x ((256 * i + n : Nat) : Int) ∧ rd out (n : Int) - rd x ((256 * i + n : Nat) : Int) ≤ 2) {K : Nat}
    (hnext : ∀ k, K ≤ k → reedpipelaw13_LapBack.l1 k p true x (rd_T44 p (i : Int)).f0 ((i + 1 : Nat) : Int) T s m = some true) (d : Nat) : ∀ (k n : Nat), n + d = 256 → 2 * d + 2 + K ≤ k →
    reedpipelaw13_LapBack.l2 k p true x (i : Int) out (n : Int) T s m = some true := by
  have hend : ∀ k (n : Int), K + 1 ≤ k → reedpipelaw13_LapBack.j8 k p true x (i : Int) out n false T s m = some true := fun k n hk => by
    obtain ⟨k, rfl⟩ : ∃ j, k = j + 1 := ⟨k - 1, by omega⟩
    have g1 : (0 : Int) ≤ (i : Int) := by omega
    have g2 : (i : Int) < (p.length : Int) := by omega
    have e := hnext k (by omega)
    rw [reedpipelaw13_LapBack.j8.eq_2, if_neg (by decide), if_pos g1, if_pos g2, lw1 (by omega)]
    exact e
  by_cases h0 : 0 < i
  · have g0 : (i : Int) > 0 := by omega
    have hoff' := hoff h0
    induction d with
    | zero =>
      intro k n hn hk
      obtain ⟨k, rfl⟩ : ∃ j, k = j + 1 := ⟨k - 1, by omega⟩
      have g1 : ¬ (n : Int) < 256 := by omega
      have e := hend k (n : Int) (by omega)
      rw [reedpipelaw13_LapBack.l2.eq_2, if_pos g0, decide_eq_false g1]
      exact e
    | succ d ih =>
      intro k n hn hk
      obtain ⟨k, rfl⟩ : ∃ j, k = j + 1 + 1 := ⟨k - 2, by omega⟩
      have g1 : (n : Int) < 256 := by omega
      have g2 : (0 : Int) ≤ (n : Int) := by omega
      have g3 : (n : Int) < (out.length : Int) := by omega
      have g4 : (0 : Int) ≤ ((256 * i + n : Nat) : Int) := by omega
      have g5 : ((256 * i + n : Nat) : Int) < (x.length : Int) := by omega
      have e := ih k (n + 1) (by omega) (by omega)
      have n1 : n < 256 := by omega
      have n2 : n < 512 := by omega
      have n3 : n < 5000 := by omega
      have g6 := off_ok (hoff' n n1)
      have q1 := lw256 hi
      have q2 := lwn hi n2
      have q3 := lw1 n3
      rw [reedpipelaw13_LapBack.l2.eq_2, if_pos g0, decide_eq_true g1, reedpipelaw13_LapBack.j8.eq_2, if_pos rfl, if_pos g2, if_pos g3, q1, q2, if_pos g4, if_pos g5, if_neg g6.1, if_neg g6.2, q3]
      exact e
  · have g0 : ¬ (i : Int) > 0 := by omega
    intro k n hn hk
    obtain ⟨k, rfl⟩ : ∃ j, k = j + 1 := ⟨k - 1, by omega⟩
    have e := hend k (n : Int) (by omega)
    rw [reedpipelaw13_LapBack.l2.eq_2, if_neg g0]
    exact e
theorem follows_is {a b : Int} (h : reedpipelaw13_follows.f a b = some true) : a ≤ 3 ∧ b ≤ 3 ∧ ((a = 0 ∨ a = 3) ↔ (b = 0 ∨ b = 1)) := by
  unfold reedpipelaw13_follows.f at h
  by_cases h3 : b ≤ 3
  · by_cases h2 : a ≤ 3
    · refine ⟨h2, h3, ?_⟩
      by_cases h1 : a = 0
      · rw [if_pos h1, if_pos h3, if_pos h2] at h
        by_cases h4 : b = 0
        · exact ⟨fun _ => .inl h4, fun _ => .inl h1⟩
        · rw [if_neg h4] at h
          have : b = 1 := by simpa using h
          exact ⟨fun _ => .inr this, fun _ => .inl h1⟩
      · rw [if_neg h1, if_pos h3, if_pos h2] at h
        by_cases h4 : b = 0
        · rw [if_pos h4] at h
          have : a = 3 := by simpa using h
          exact ⟨fun _ => .inl h4, fun _ => .inr this⟩
        · rw [if_neg h4] at h
          have h5 : (a == 3) = (b == 1) := eq_of_beq (Option.some.inj h)
          have h6 : a = 3 → b = 1 := fun e => by
            rw [beq_iff_eq.mpr e] at h5
            exact beq_iff_eq.mp h5.symm
          have h7 : b = 1 → a = 3 := fun e => by
            rw [beq_iff_eq.mpr e] at h5
            exact beq_iff_eq.mp h5
          clear h5 h
          omega
    · exfalso
      by_cases h1 : a = 0
      · omega
      · rw [if_neg h1, if_pos h3, if_neg h2] at h
        cases h
  · exfalso
    by_cases h1 : a = 0
    · rw [if_pos h1, if_neg h3] at h; cases h
    · rw [if_neg h1, if_neg h3] at h; cases h
theorem follows_some (a b : Int) : ∃ t, reedpipelaw13_follows.f a b = some t := by
  unfold reedpipelaw13_follows.f
  repeat' split
  all_goals exact ⟨_, rfl⟩
theorem back_l1 {x : List Int} {p : List S44} (hp : p.length ≤ 6) (hx : 256 * (p.length + 1) ≤ x.length) (hb : Between (-32768) 32767 x) (hpa : ∀ i : Nat, 0 ≤ (rd_T44 p (i : Int)).f0 ∧ 0 ≤ (rd_T44 p (i : Int)).f1) (d : Nat) : ∀ (k i : Nat) (was s m : Int) (T : List Int), i + d = p.length → d * 600 + 1 ≤ k → Behind x i was T s m →
    reedpipelaw13_LapBack.l1 k p true x was (i : Int) T s m = some true := by
  induction d with
  | zero =>
    intro k i was s m T hi hk hB
    obtain ⟨k, rfl⟩ : ∃ j, k = j + 1 := ⟨k - 1, by omega⟩
    have g1 : ¬ (i : Int) < (p.length : Int) := by omega
    rw [reedpipelaw13_LapBack.l1.eq_2, if_neg g1]
  | succ d ih =>
    intro k i was s m T hi hk hB
    obtain ⟨k, rfl⟩ : ∃ j, k = j + 1 + 1 + 1 := ⟨k - 3, by omega⟩
    have g1 : (i : Int) < (p.length : Int) := by omega
    have g2 : (0 : Int) ≤ (i : Int) := by omega
    have hi10 : i < 10 := by omega
    have hxi : 256 * i + 512 ≤ x.length := by omega
    have ht : reedpipelaw13_LapBack.j5 (k + 1 + 1) p true x (i : Int) true T s m = some true := by rw [reedpipelaw13_LapBack.j5.eq_2, if_pos rfl]
    obtain ⟨w0, w1⟩ := hpa i
    obtain ⟨t, hf⟩ := follows_some was (rd_T44 p (i : Int)).f0
    rw [reedpipelaw13_LapBack.l1.eq_2, if_pos g1, if_pos g2, hf, Option.bind_some]
    cases t with
    | false => rw [if_neg (by decide)]; exact ht
    | true =>
      rw [if_pos rfl]
      obtain ⟨f1, f2, f3⟩ := follows_is hf
      by_cases hsh : (rd_T44 p (i : Int)).f1 > 1
      · rw [decide_eq_true hsh]; exact ht
      · rw [decide_eq_false hsh]
        obtain ⟨a, ha⟩ : ∃ a, a = (rd_T44 p (i : Int)).f0 := ⟨_, rfl⟩
        obtain ⟨sh, hs⟩ : ∃ sh, sh = (rd_T44 p (i : Int)).f1 := ⟨_, rfl⟩
        rw [← ha] at f2 f3 w0
        rw [← hs] at hsh w1
        have hsh' : sh = 0 ∨ sh = 1 := by omega
        have hm := hB.2.1
        have hck := hB.1
        have hcl := cutF_length hxi
        have hcb := cutF_in hxi hb
        have hA := analyse_yes ⟨w0, f2⟩ hm hsh' hcl hcb
        have hAl := anL_length a m sh (cutF x i)
        have hAi := anL_in hm hsh' hcl hcb (a0 := a)
        have hN := lap_next_yes hck ⟨w0, f2⟩ hm hsh' hAl hAi
        have hck2 := tail_check hm hsh' hAl hAi (a0 := a) (s := a) (k := sh) f2 (by omega)
        have hoff : 0 < i → ∀ n : Nat, n < 256 → -2 ≤ rd ((List.range 256).map (lapAt T a m sh (anL a m sh (cutF x i)))) (n : Int) - rd x ((256 * i + n : Nat) : Int) ∧ rd ((List.range 256).map (lapAt T a m sh (anL a m sh (cutF x i)))) (n : Int) - rd x ((256 * i + n : Nat) : Int) ≤ 2 := fun h0 n hn => by
          rw [rd_map_range hn]
          exact behind_off hb h0 hxi hB ⟨w0, f2⟩ hsh' f3 hn
        have hol : ((List.range 256).map (lapAt T a m sh (anL a m sh (cutF x i)))).length = 256 := by rw [List.length_map, List.length_range]
        have hB2 : Behind x (i + 1) a ((snL a m sh (anL a m sh (cutF x i))).drop 256) a sh := ⟨hck2, hsh', w0, fun _ => ⟨m, hm, f2, by rw [Nat.add_sub_cancel]⟩⟩
        have hnext : ∀ k', d * 600 + 1 ≤ k' → reedpipelaw13_LapBack.l1 k' p true x (rd_T44 p (i : Int)).f0 ((i + 1 : Nat) : Int) ((snL a m sh (anL a m sh (cutF x i))).drop 256) a sh = some true := fun k' hk' => by
          rw [← ha]
          exact ih k' (i + 1) a a sh _ (by omega) hk' hB2
        have hl2 := back_l2 hi10 (by omega) hxi hol hoff hnext 256 k 0 (by omega) (by omega)
        have g3 : (0 : Int) ≤ ((256 * i : Nat) : Int) := by omega
        have g4 : ((256 * i : Nat) : Int) ≤ ((256 * i + 512 : Nat) : Int) := by omega
        have g5 : ((256 * i + 512 : Nat) : Int) ≤ (x.length : Int) := by omega
        have q1 := lw256 hi10
        have q2 := lw512 hi10
        rw [reedpipelaw13_LapBack.j5.eq_2, if_neg (by decide), if_pos g2, if_pos g1, q1, q2, if_pos g3, if_pos g4, if_pos g5, Int.toNat_natCast, Int.toNat_natCast, ← ha, ← hs]
        rw [show (x.take (256 * i + 512)).drop (256 * i) = cutF x i from rfl, hA, Option.bind_some]
        dsimp only
        rw [hN, Option.bind_some, if_pos rfl]
        dsimp only
        rw [if_pos rfl, if_pos (by rw [hol]; rfl), hck2, Option.bind_some, reedpipelaw13_LapBack.j6.eq_2, if_neg (by decide)]
        exact hl2
theorem elem_rd {x : List Int} {n : Nat} (h : n < x.length) : x[n] = rd x (n : Int) := by
  unfold rd
  rw [show ((n : Int)).toNat = n by omega, List.getD_eq_getElem?_getD, List.getElem?_eq_getElem h]; rfl
theorem wrap_i16 {v : Int} (h : -32768 ≤ v ∧ v ≤ 32767) : wrap64 v = v := wrap_in (by omega) (by omega)
theorem back_l0 {x : List Int} {p : List S44} (hp : 1 ≤ p.length ∧ p.length ≤ 6) (hx : 256 * (p.length + 1) ≤ x.length ∧ x.length ≤ 4000) (hb : Between (-32768) 32767 x) (hpa : ∀ i : Nat, 0 ≤ (rd_T44 p (i : Int)).f0 ∧ 0 ≤ (rd_T44 p (i : Int)).f1) (d : Nat) : ∀ (k i : Nat), i + d = x.length → d + 4000 ≤ k →
    reedpipelaw13_LapBack.l0 k x p true (cpL x.length x 0 i) (i : Int) = some true := by
  induction d with
  | zero =>
    intro k i hi hk
    obtain ⟨k, rfl⟩ : ∃ j, k = j + 1 + 1 + 1 := ⟨k - 3, by omega⟩
    obtain rfl : i = x.length := by omega
    have hcp : cpL x.length x 0 x.length = x := by
      apply List.ext_getElem
      · rw [cpL_length]
      · intro n h1 h2
        rw [elem_rd h1, elem_rd h2, rd_cpL x h2, if_pos (by omega)]
    obtain ⟨n, hn⟩ : ∃ n : Nat, n = 256 := ⟨256, rfl⟩
    have hB : ∀ was : Int, 0 ≤ was → Behind x 0 was (List.replicate n 0) 0 0 := fun was hw => ⟨new_check hn (by decide) (by decide), .inl rfl, hw, fun h => absurd h (Nat.lt_irrefl 0)⟩
    have h1 : ∀ was : Int, 0 ≤ was → reedpipelaw13_LapBack.j3 (k + 1) p true x was (List.replicate n 0) 0 0 = some true := fun was hw => by
      rw [reedpipelaw13_LapBack.j3.eq_2]
      exact back_l1 hp.2 hx.1 hb hpa p.length k 0 was 0 0 _ (by omega) (by omega) (hB was hw)
    have h2 : ∀ b : Bool, reedpipelaw13_LapBack.j2 (k + 1 + 1) p true x 0 b (List.replicate n 0) 0 0 = some true := fun b => by
      rw [reedpipelaw13_LapBack.j2.eq_2]
      cases b with
      | true => rw [if_pos rfl]; exact h1 1 (by decide)
      | false => rw [if_neg (by decide)]; exact h1 0 (by decide)
    have g1 : ¬ (x.length : Int) < (x.length : Int) := by omega
    have g2 : (0 : Int) < (p.length : Int) := by omega
    rw [hcp, reedpipelaw13_LapBack.l0.eq_2, if_neg g1, new_is, Option.bind_some, if_pos g2, ← hn]
    dsimp only
    by_cases h : (rd_T44 p 0).f0 = 2
    · rw [if_pos h]; exact h2 true
    · rw [if_neg h]; exact h2 _
  | succ d ih =>
    intro k i hi hk
    obtain ⟨k, rfl⟩ : ∃ j, k = j + 1 := ⟨k - 1, by omega⟩
    have e := ih k (i + 1) (by omega) (by omega)
    have hl := cpL_length x.length x 0 i
    have hset := cpL_set (N := x.length) (p := 0) (j := i) x
    rw [Nat.zero_add] at hset
    have hbi := wrap_i16 (hb i (by omega))
    have g1 : (i : Int) < (x.length : Int) := by omega
    have g2 : (0 : Int) ≤ (i : Int) := by omega
    have g3 : (i : Int) < ((cpL x.length x 0 i).length : Int) := by omega
    have q1 := lw1 (n := i) (by omega)
    rw [reedpipelaw13_LapBack.l0.eq_2, if_pos g1, if_pos g2, if_pos g3, hbi, Int.toNat_natCast, hset, q1]
    exact e
theorem back_all {x : List Int} {p : List S44} (hb : Between (-32768) 32767 x) (hpa : ∀ i : Nat, 0 ≤ (rd_T44 p (i : Int)).f0 ∧ 0 ≤ (rd_T44 p (i : Int)).f1) {k : Nat} (hk : 9000 ≤ k) : reedpipelaw13_LapBack.f k x p = some true := by
  obtain ⟨k, rfl⟩ : ∃ j, k = j + 1 := ⟨k - 1, by omega⟩
  have ht : reedpipelaw13_LapBack.j0 (k + 1) x p true true = some true := by rw [reedpipelaw13_LapBack.j0.eq_2, if_pos rfl]
  unfold reedpipelaw13_LapBack.f
  rw [alive13 (by omega), Option.bind_some]
  by_cases g1 : (p.length : Int) < 1
  · rw [if_pos g1, ht]
  rw [if_neg g1]
  by_cases g2 : (p.length : Int) > 6
  · rw [if_pos g2, ht]
  rw [if_neg g2]
  have q : wrap64 (256 * wrap64 ((p.length : Int) + 1)) = ((256 * (p.length + 1) : Nat) : Int) := by
    rw [wrap_in (n := (p.length : Int) + 1) (by omega) (by omega), wrap_in (by omega) (by omega)]
    omega
  by_cases g3 : (x.length : Int) < ((256 * (p.length + 1) : Nat) : Int)
  · rw [q, if_pos g3, ht]
  rw [q, if_neg g3]
  by_cases g4 : (x.length : Int) > 4000
  · rw [if_pos g4, ht]
  clear q
  have g5 : (0 : Int) ≤ (x.length : Int) := by omega
  have g6 : x.length ≤ 35184372088832 := by omega
  have e := back_l0 (x := x) (p := p) ⟨by omega, by omega⟩ ⟨by omega, by omega⟩ hb hpa x.length k 0 (by omega) (by omega)
  rw [cpL_zero] at e
  rw [if_neg g4, show (!true) = false from rfl, reedpipelaw13_LapBack.j0.eq_2, if_neg (by decide), if_pos g5, Int.toNat_natCast, if_pos g6]
  exact e

end Go.Proofs.Ytpoppdaaodmicaa.Pure
