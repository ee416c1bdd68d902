/- LapDoes: frames overlap as the document says; they stay, and what is answered is new memory: any state, sequence, shape and lines. No condition. -/
import Derived.Test.YtpoppdaaodmicaaN3
import Derived.Test.YtpoppdaaodmicaaQ27
namespace Go.Proofs.Ytpoppdaaodmicaa.Pure
open Go.RowKit Go.Proofs.Ytpoppdaaodmicaa.Q Go.Proofs.YtpoppdaaodmicaaW.PrintWords Go.Proofs.YtpoppdaaodmicaaW.PrintLast

theorem ld_l1 {x l : List Int} (hx : x.length ≤ 1000) (hl : l.length ≤ 1000) (s m : Int) (d : Nat) : ∀ (k i : Nat) (p : List Int), p.length ≤ 1000 → i + d = p.length → d + 1100 ≤ k →
    reedpipelaw13_LapDoes.l1 k x x p (i : Int) l s m l s m = some true := by
  induction d with
  | zero =>
    intro k i p hp hi hk
    obtain ⟨k, rfl⟩ : ∃ j, k = j + 1 := ⟨k - 1, by omega⟩
    have g1 : ¬ (i : Int) < (p.length : Int) := by omega
    rw [reedpipelaw13_LapDoes.l1.eq_2, if_neg g1, same13 (by omega) s m (by omega), Option.bind_some, if_pos rfl, same11 (by omega) (by omega), Option.bind_some]
  | succ d ih =>
    intro k i p hp hi hk
    obtain ⟨k, rfl⟩ : ∃ j, k = j + 1 := ⟨k - 1, by omega⟩
    have g1 : (i : Int) < (p.length : Int) := by omega
    have g2 : (0 : Int) ≤ (i : Int) := by omega
    have e := fun y : Int => ih k (i + 1) (p.set ((i : Int)).toNat y) (by rw [List.length_set]; exact hp) (by rw [List.length_set]; omega) (by omega)
    rw [reedpipelaw13_LapDoes.l1.eq_2, if_pos g1, if_pos g2, wsucc (by omega)]
    exact e _
theorem ld_l0 {x l p : List Int} (hx : x.length ≤ 1000) (hl : l.length ≤ 1000) (hp : p.length ≤ 1000) (s m s' m' : Int) (d : Nat) : ∀ (k i : Nat) (T : List Int), T.length ≤ 1000 → i + d = T.length → d + 2200 ≤ k →
    reedpipelaw13_LapDoes.l0 k x x p (i : Int) l s m l s m T s' m' = some true := by
  induction d with
  | zero =>
    intro k i T hT hi hk
    obtain ⟨k, rfl⟩ : ∃ j, k = j + 1 := ⟨k - 1, by omega⟩
    have g1 : ¬ (i : Int) < (T.length : Int) := by omega
    rw [reedpipelaw13_LapDoes.l0.eq_2, if_neg g1]
    exact ld_l1 hx hl s m p.length k 0 p hp (by omega) (by omega)
  | succ d ih =>
    intro k i T hT hi hk
    obtain ⟨k, rfl⟩ : ∃ j, k = j + 1 := ⟨k - 1, by omega⟩
    have g1 : (i : Int) < (T.length : Int) := by omega
    have g2 : (0 : Int) ≤ (i : Int) := by omega
    have e := fun y : Int => ih k (i + 1) (T.set ((i : Int)).toNat y) (by rw [List.length_set]; exact hT) (by rw [List.length_set]; omega) (by omega)
    rw [reedpipelaw13_LapDoes.l0.eq_2, if_pos g1, if_pos g2, wsucc (by omega)]
    exact e _
theorem next_told (l x : List Int) (s k a1 a2 : Int) (w1 : 0 ≤ a1) (wk : 0 ≤ k) (w2 : 0 ≤ a2) : ∃ T s' m' p e, lap_Next.f l s k a1 a2 x = some (T, s', m', p, e) ∧ T.length ≤ 1000 ∧ p.length ≤ 1000 := by
  rcases lap_next_cases l x s k a1 a2 with ⟨e, _, h⟩ | ⟨hck, ⟨_, _, _, hk1⟩, ⟨m1, m2, m3⟩, hx, hb⟩
  · exact ⟨_, _, _, _, _, h, by decide, by decide⟩
  · exact ⟨_, _, _, _, _, lap_next_yes hck ⟨w1, m1⟩ (by omega) (by omega) hx hb, by rw [tail_length]; omega, by rw [List.length_map, List.length_range]; omega⟩
theorem check_some (l : List Int) (s m : Int) : ∃ c, lap_Check.f l s m = some c := by
  rcases check_cases l s m with h | ⟨h, _⟩
  · exact ⟨_, h⟩
  · exact ⟨_, h⟩
theorem lapDoes_all {a1 a2 m : Int} (wm : 0 ≤ m) (w1 : 0 ≤ a1) (w2 : 0 ≤ a2) (l x : List Int) (s : Int) {k : Nat} (hk : 210000 ≤ k) : reedpipelaw13_LapDoes.f k l s m a1 a2 x = some true := by
  obtain ⟨k, rfl⟩ : ∃ j, k = j + 1 + 1 := ⟨k - 2, by omega⟩
  unfold reedpipelaw13_LapDoes.f
  by_cases h1 : (l.length : Int) > 1000
  · rw [if_pos h1, reedpipelaw13_LapDoes.j0.eq_2, if_pos rfl]
  by_cases h2 : (x.length : Int) > 1000
  · rw [if_neg h1, decide_eq_true h2, reedpipelaw13_LapDoes.j0.eq_2, if_pos rfl]
  obtain ⟨T, s', m', p, e, hn, hT, hp⟩ := next_told l x s m a1 a2 w1 wm w2
  have hr : reedpiperef13_Next.f (k + 1) l s m a1 a2 x = some (T, s', m', p, e) := (refnext w1 wm w2 (by omega)).trans hn
  obtain ⟨c, hc⟩ := check_some l s m
  have hrc : reedpiperef13_Check.f (k + 1) l s m = some c := (refcheck_is l s m (by omega)).trans hc
  have s1 : reedpiperef13_Same.f (k + 1) T s' m' T s' m' = some true := same13 (by omega) s' m' (by omega)
  have s2 : reedpiperef11_Same.f (k + 1) p p = some true := same11 (by omega) (by omega)
  obtain ⟨n, hn256⟩ : ∃ n : Nat, n = 256 := ⟨256, rfl⟩
  have s3 : reedpiperef13_Same.f (k + 1) (List.replicate n 0) 0 0 (List.replicate n 0) 0 0 = some true := same13 (by rw [List.length_replicate]; omega) 0 0 (by rw [List.length_replicate]; omega)
  have n1 : ([] : List Int).length + l.length < 17592186044416 := by rw [List.length_nil]; omega
  have n2 : ([] : List Int).length + x.length < 17592186044416 := by rw [List.length_nil]; omega
  have hfin := ld_l0 (x := x) (l := l) (p := p) (by omega) (by omega) hp s m s' m' T.length k 0 T hT (by omega) (by omega)
  rw [if_neg h1, decide_eq_false h2, reedpipelaw13_LapDoes.j0.eq_2, if_neg (by simp), if_pos n1, Option.bind_some, if_pos n2, Option.bind_some, List.nil_append, List.nil_append, hn, Option.bind_some, hr, Option.bind_some]
  dsimp only
  rw [s1, Option.bind_some, if_pos rfl, s2, Option.bind_some, if_pos rfl, if_pos rfl, hc, Option.bind_some, hrc, Option.bind_some, if_pos rfl, new_is, Option.bind_some, refnew_is, Option.bind_some, ← hn256]
  dsimp only
  rw [s3, Option.bind_some, show (!true) = false from rfl, reedpipelaw13_LapDoes.j1.eq_2, if_neg (by simp)]
  exact hfin

end Go.Proofs.Ytpoppdaaodmicaa.Pure
