/- LapForgets: what overlaps behind a frame hangs on that frame, and the shape ahead of it, alone: any two states, frames, and their lines. No condition. -/
import Derived.Test.YtpoppdaaodmicaaK7
import Derived.Test.YtpoppdaaodmicaaQ28
namespace Go.Proofs.Ytpoppdaaodmicaa.Pure
open Go.RowKit Go.Proofs.Ytpoppdaaodmicaa.Q Go.Proofs.YtpoppdaaodmicaaW.PrintWords Go.Proofs.YtpoppdaaodmicaaW.PrintLast

theorem forgets_l1 {p : List Int} (hp : p.length ≤ 1000) (hb : ∀ n : Nat, -32768 ≤ rd p (n : Int) ∧ rd p (n : Int) ≤ 32767) (d : Nat) : ∀ (k i : Nat), i + d = p.length → d + 1 ≤ k → reedpipelaw13_LapForgets.l1 k true p p (i : Int) = some true := by
  induction d with
  | zero =>
    intro k i hi hk
    obtain ⟨k, rfl⟩ : ∃ j, k = j + 1 := ⟨k - 1, by omega⟩
    have g1 : ¬ (i : Int) < (p.length : Int) := by omega
    rw [reedpipelaw13_LapForgets.l1.eq_2, if_neg g1]
  | succ d ih =>
    intro k i hi hk
    obtain ⟨k, rfl⟩ : ∃ j, k = j + 1 := ⟨k - 1, by omega⟩
    have e := ih k (i + 1) (by omega) (by omega)
    have g1 : (i : Int) < (p.length : Int) := by omega
    have g2 : (0 : Int) ≤ (i : Int) := by omega
    have q : wrap64 ((i : Int) + 1) = ((i + 1 : Nat) : Int) := by rw [wrap_in (by omega) (by omega)]; omega
    have b := hb i
    have g3 : ¬ rd p (i : Int) < -32768 := Int.not_lt.mpr b.1
    have g4 : ¬ rd p (i : Int) > 32767 := Int.not_lt.mpr b.2
    rw [reedpipelaw13_LapForgets.l1.eq_2, if_pos g1, if_pos g2, if_pos g1, if_pos rfl, if_neg g3, if_neg g4, q]
    exact e
theorem forgets_l0 {T p : List Int} (hT : T.length ≤ 1000) (hp : p.length ≤ 1000) (hb : ∀ n : Nat, -32768 ≤ rd p (n : Int) ∧ rd p (n : Int) ≤ 32767) (s m s' m' : Int) (d : Nat) : ∀ (k i : Nat), i + d = T.length → d + 1002 ≤ k →
    reedpipelaw13_LapForgets.l0 k true p p (i : Int) T s m T s' m' = some true := by
  induction d with
  | zero =>
    intro k i hi hk
    obtain ⟨k, rfl⟩ : ∃ j, k = j + 1 := ⟨k - 1, by omega⟩
    have g1 : ¬ (i : Int) < (T.length : Int) := by omega
    rw [reedpipelaw13_LapForgets.l0.eq_2, if_neg g1]
    exact forgets_l1 hp hb p.length k 0 (by omega) (by omega)
  | succ d ih =>
    intro k i hi hk
    obtain ⟨k, rfl⟩ : ∃ j, k = j + 1 := ⟨k - 1, by omega⟩
    have e := ih k (i + 1) (by omega) (by omega)
    have g1 : (i : Int) < (T.length : Int) := by omega
    have g2 : (0 : Int) ≤ (i : Int) := by omega
    have q : wrap64 ((i : Int) + 1) = ((i + 1 : Nat) : Int) := by rw [wrap_in (by omega) (by omega)]; omega
    rw [reedpipelaw13_LapForgets.l0.eq_2, if_pos g1, if_pos g2, if_pos g1, if_pos rfl, q]
    exact e
theorem lapAt_in (T : List Int) (a m sh : Int) (y : List Int) (n : Nat) : -32768 ≤ rd ((List.range 256).map (lapAt T a m sh y)) (n : Int) ∧ rd ((List.range 256).map (lapAt T a m sh y)) (n : Int) ≤ 32767 := by
  by_cases hn : n < 256
  · rw [rd_map_range hn]; exact smp_in _
  · unfold rd
    rw [show ((n : Int)).toNat = n by omega, List.getD_eq_getElem?_getD, List.getElem?_eq_none (by rw [List.length_map, List.length_range]; omega)]
    exact ⟨by decide, by decide⟩
/-- Any call's answer: its samples are samples, of at most 256. -/
theorem next_told (l x : List Int) (s k a1 a2 : Int) (w1 : 0 ≤ a1) (wk : 0 ≤ k) (w2 : 0 ≤ a2) : ∃ T s' m' p e, lap_Next.f l s k a1 a2 x = some (T, s', m', p, e) ∧ p.length ≤ 1000 ∧ ∀ n : Nat, -32768 ≤ rd p (n : Int) ∧ rd p (n : Int) ≤ 32767 := by
  rcases lap_next_cases l x s k a1 a2 with ⟨e, _, h⟩ | ⟨hck, ⟨_, _, _, hk1⟩, ⟨m1, m2, m3⟩, hx, hb⟩
  · refine ⟨_, _, _, _, _, h, by decide, fun n => ?_⟩
    have : rd [] (n : Int) = 0 := by unfold rd; rfl
    rw [this]
    exact ⟨by decide, by decide⟩
  · refine ⟨_, _, _, _, _, lap_next_yes hck ⟨w1, m1⟩ (by omega) (by omega) hx hb, by rw [List.length_map, List.length_range]; omega, fun n => lapAt_in _ _ _ _ _ n⟩
theorem forgets_j1_bad {a2 a3 : Int} {l5 : List Int} {e f : Int} {X Y : List Int} {s m s' m' : Int} (h : e ≠ 0 → X = []) (h' : f ≠ 0 → Y = []) {k : Nat} (hk : 1 ≤ k) : reedpipelaw13_LapForgets.j1 k a2 a3 l5 true e f true X s m Y s' m' = some true := by
  obtain ⟨k, rfl⟩ : ∃ j, k = j + 1 := ⟨k - 1, by omega⟩
  have hY : f ≠ 0 → (some ((Y.length : Int) == 0) : Option Bool) = some true := fun hf => by rw [h' hf]; rfl
  rw [reedpipelaw13_LapForgets.j1.eq_2, if_pos rfl, if_pos rfl]
  by_cases he : e = 0
  · rw [if_pos he]
    by_cases hf : f = 0
    · rw [if_pos hf]
    · rw [if_neg hf, hY hf]
  · have g : (X.length : Int) = 0 := by rw [h he]; rfl
    rw [if_neg he, if_pos g]
    by_cases hf : f = 0
    · rw [if_pos hf]
    · rw [if_neg hf, hY hf]
theorem forgets_all {la lb l4 l5 : List Int} {sa ka sb kb a2 a3 : Int} (wa : 0 ≤ ka) (w2 : 0 ≤ a2) (w3 : 0 ≤ a3) {k : Nat} (hk : 3000 ≤ k) : reedpipelaw13_LapForgets.f k la sa ka lb sb kb a2 a3 l4 l5 = some true := by
  obtain ⟨k, rfl⟩ : ∃ j, k = j + 1 + 1 + 1 := ⟨k - 3, by omega⟩
  have ht : reedpipelaw13_LapForgets.j0 (k + 1 + 1 + 1) a2 a3 l4 l5 true true la sa ka lb sb kb = some true := by rw [reedpipelaw13_LapForgets.j0.eq_2, if_pos rfl]
  unfold reedpipelaw13_LapForgets.f
  rw [alive13 (by omega), Option.bind_some]
  by_cases g1 : (la.length : Int) > 1000
  · rw [if_pos g1, ht]
  rw [if_neg g1]
  by_cases g2 : (lb.length : Int) > 1000
  · rw [if_pos g2, ht]
  rw [if_neg g2]
  by_cases g3 : (l4.length : Int) > 1000
  · rw [if_pos g3, ht]
  rw [if_neg g3]
  by_cases g4 : (l5.length : Int) > 1000
  · rw [if_pos g4, ht]
  rw [if_neg g4, if_pos rfl]
  by_cases g5 : ka = kb
  · subst g5
    rw [show (ka != ka) = false from bne_self_eq_false ka, reedpipelaw13_LapForgets.j0.eq_2, if_neg (by decide)]
    rcases lap_next_cases la l4 sa ka a2 a3 with ⟨e, he, h1⟩ | ⟨hck, ⟨_, _, _, hk1⟩, ⟨m1, m2, m3⟩, hx, hb⟩
    · rcases lap_next_cases lb l4 sb ka a2 a3 with ⟨f, hf, h2⟩ | ⟨hck2, _⟩
      · rw [h1, Option.bind_some, h2, Option.bind_some]
        dsimp only
        rw [if_neg he]
        exact forgets_j1_bad (fun _ => rfl) (fun _ => rfl) (by omega)
      · obtain ⟨T, s', m', p, f, h2, _⟩ := next_told lb l4 sb ka a2 a3 w2 wa w3
        have hT : f ≠ 0 → T = [] := fun hf => by
          rcases lap_next_cases lb l4 sb ka a2 a3 with ⟨f', hf', h3⟩ | ⟨hc3, ⟨_, _, _, hk3⟩, ⟨n1, n2, n3⟩, hx3, hb3⟩
          · rw [h3] at h2
            simp only [Option.some.injEq, Prod.mk.injEq] at h2
            exact h2.1.symm
          · rw [lap_next_yes hc3 ⟨w2, n1⟩ (by omega) (by omega) hx3 hb3] at h2
            simp only [Option.some.injEq, Prod.mk.injEq] at h2
            exact absurd h2.2.2.2.2.symm hf
        rw [h1, Option.bind_some, h2, Option.bind_some]
        dsimp only
        rw [if_neg he]
        exact forgets_j1_bad (fun _ => rfl) hT (by omega)
    · have c1 : ka = 0 ∨ ka = 1 := by omega
      have c2 : a3 = 0 ∨ a3 = 1 := by omega
      have h1 := lap_next_yes hck ⟨w2, m1⟩ c1 c2 hx hb
      have hTl := tail_length a2 ka a3 l4
      rcases lap_next_cases lb l4 sb ka a2 a3 with ⟨f, hf, h2⟩ | ⟨hck2, _⟩
      · rw [h1, Option.bind_some, h2, Option.bind_some]
        dsimp only
        rw [if_pos rfl, show (f != 0) = true from bne_iff_ne.mpr hf]
        exact forgets_j1_bad (fun h => absurd rfl h) (fun _ => rfl) (by omega)
      · have h2 := lap_next_yes hck2 ⟨w2, m1⟩ c1 c2 hx hb
        rw [h1, Option.bind_some, h2, Option.bind_some]
        dsimp only
        generalize (snL a2 ka a3 l4).drop 256 = T at hTl
        have w4 : 0 ≤ Int.tmod a2 2 := Int.tmod_nonneg _ w2
        obtain ⟨U, s', m', p, e, h3, hp, hpb⟩ := next_told T l5 a2 a3 a3 (Int.tmod a2 2) w3 w3 w4
        rw [if_pos rfl, show ((0 : Int) != 0) = false from rfl, reedpipelaw13_LapForgets.j1.eq_2, if_neg (by decide), h3, Option.bind_some, Option.bind_some]
        dsimp only
        rw [if_pos rfl, if_pos rfl, if_pos rfl, if_pos rfl, if_pos rfl, show (a3 != a3) = false from bne_self_eq_false a3, reedpipelaw13_LapForgets.j2.eq_2, if_neg (by decide)]
        exact forgets_l0 (by omega) hp hpb a2 a3 a2 a3 T.length k 0 (by omega) (by omega)
  · rw [show (ka != kb) = true from bne_iff_ne.mpr g5]
    exact ht

end Go.Proofs.Ytpoppdaaodmicaa.Pure
