/- Plain facts on block.Analyse: which errors, and whose lines. -/
import Derived.Test.YtpoppdaaodmicaaK1
import Derived.Test.YtpoppdaaodmicaaM6a
import Derived.Test.YtpoppdaaodmicaaBRange
namespace Go.Proofs.Ytpoppdaaodmicaa.Q
open Go.RowKit Go.Proofs.YtpoppdaaodmicaaW.PrintWords Go.Proofs.YtpoppdaaodmicaaW.PrintLast Go.Proofs.YtpoppdaaodmicaaW.PrintMore

/-! ### what is asked -/
theorem mn_lt (a b t : Int) : mn a b < t ↔ a < t ∨ b < t := by unfold mn; split <;> omega
theorem mx_gt (a b t : Int) : mx a b > t ↔ a > t ∨ b > t := by unfold mx; split <;> omega
theorem fold_mn_lt {l : List Int} {t : Int} : ∀ {j : Nat}, 1 ≤ j → j ≤ l.length → (foldAt mn l j < t ↔ ∃ i : Nat, i < j ∧ rd l (i : Int) < t)
  | 0, h, _ => by omega
  | 1, _, _ => by
    rw [foldAt_one]
    exact ⟨fun h => ⟨0, by omega, h⟩, fun ⟨i, h1, h2⟩ => by obtain rfl : i = 0 := by omega
                                                            exact h2⟩
  | j + 2, _, h => by
    rw [foldAt_snoc mn (by omega) (by omega), mn_lt, fold_mn_lt (j := j + 1) (by omega) (by omega)]
    constructor
    · rintro (⟨i, h1, h2⟩ | h2)
      · exact ⟨i, by omega, h2⟩
      · exact ⟨j + 1, by omega, h2⟩
    · rintro ⟨i, h1, h2⟩
      by_cases e : i = j + 1
      · subst e; exact .inr h2
      · exact .inl ⟨i, by omega, h2⟩
theorem fold_mx_gt {l : List Int} {t : Int} : ∀ {j : Nat}, 1 ≤ j → j ≤ l.length → (foldAt mx l j > t ↔ ∃ i : Nat, i < j ∧ rd l (i : Int) > t)
  | 0, h, _ => by omega
  | 1, _, _ => by
    rw [foldAt_one]
    exact ⟨fun h => ⟨0, by omega, h⟩, fun ⟨i, h1, h2⟩ => by obtain rfl : i = 0 := by omega
                                                            exact h2⟩
  | j + 2, _, h => by
    rw [foldAt_snoc mx (by omega) (by omega), mx_gt, fold_mx_gt (j := j + 1) (by omega) (by omega)]
    constructor
    · rintro (⟨i, h1, h2⟩ | h2)
      · exact ⟨i, by omega, h2⟩
      · exact ⟨j + 1, by omega, h2⟩
    · rintro ⟨i, h1, h2⟩
      by_cases e : i = j + 1
      · subst e; exact .inr h2
      · exact .inl ⟨i, by omega, h2⟩
/-- May a sequence and shapes be? -/
def MayBe (a0 a1 a2 : Int) : Prop := a0 ≤ 3 ∧ a1 ≤ 1 ∧ a2 ≤ 1
/-- Are all numbers of a list from low to high? -/
def Between (low high : Int) (l : List Int) : Prop := ∀ i : Nat, i < l.length → low ≤ rd l (i : Int) ∧ rd l (i : Int) ≤ high
theorem asked_cases (a0 a1 a2 : Int) (l : List Int) {many : Nat} {low high : Int} (hm : 0 < many) {k : Nat} (hk : 1 ≤ k) :
    (block_asked.f k a0 a1 a2 l (many : Int) low high = some 2 ∧ (¬ MayBe a0 a1 a2 ∨ (l.length = many ∧ ¬ Between low high l))) ∨ (block_asked.f k a0 a1 a2 l (many : Int) low high = some 4 ∧ MayBe a0 a1 a2 ∧ l.length ≠ many) ∨
    (block_asked.f k a0 a1 a2 l (many : Int) low high = some 0 ∧ MayBe a0 a1 a2 ∧ l.length = many ∧ Between low high l) := by
  obtain ⟨k, rfl⟩ : ∃ j, k = j + 1 := ⟨k - 1, by omega⟩
  have ht : block_asked.j0 (k + 1) l (many : Int) low high true = some 2 := by rw [block_asked.j0.eq_2, if_pos rfl]
  unfold block_asked.f
  by_cases h0 : a0 > 3
  · rw [if_pos h0, ht]
    exact .inl ⟨rfl, .inl (fun h => by unfold MayBe at h; omega)⟩
  · rw [if_neg h0]
    unfold block_shaped.f
    by_cases h1 : a1 ≤ 1
    · rw [if_pos h1, Option.bind_some]
      by_cases h2 : a2 ≤ 1
      · have hmay : MayBe a0 a1 a2 := ⟨by omega, h1, h2⟩
        rw [decide_eq_true h2, show (!true) = false from rfl, block_asked.j0.eq_2, if_neg (by simp)]
        by_cases hl : (l.length : Int) = (many : Int)
        · have hl' : l.length = many := by omega
          rw [if_pos hl]
          unfold slices_Min_int_int.f slices_Max_int_int.f
          rw [if_neg (by omega), Option.bind_some]
          by_cases h3 : foldAt mn l l.length < low
          · rw [if_pos h3]
            obtain ⟨i, hi, hlt⟩ := (fold_mn_lt (by omega) (Nat.le_refl _)).1 h3
            exact .inl ⟨rfl, .inr ⟨hl', fun hb => by have := hb i hi; omega⟩⟩
          · rw [if_neg h3, if_neg (by omega), Option.bind_some]
            by_cases h4 : foldAt mx l l.length > high
            · rw [if_pos h4]
              obtain ⟨i, hi, hlt⟩ := (fold_mx_gt (by omega) (Nat.le_refl _)).1 h4
              exact .inl ⟨rfl, .inr ⟨hl', fun hb => by have := hb i hi; omega⟩⟩
            · rw [if_neg h4]
              refine .inr (.inr ⟨rfl, hmay, hl', fun i hi => ⟨?_, ?_⟩⟩)
              · by_cases h : low ≤ rd l (i : Int)
                · exact h
                · exact absurd ((fold_mn_lt (by omega) (Nat.le_refl _)).2 ⟨i, hi, by omega⟩) h3
              · by_cases h : rd l (i : Int) ≤ high
                · exact h
                · exact absurd ((fold_mx_gt (by omega) (Nat.le_refl _)).2 ⟨i, hi, by omega⟩) h4
        · rw [if_neg hl]
          exact .inr (.inl ⟨rfl, hmay, by omega⟩)
      · rw [decide_eq_false h2, show (!false) = true from rfl, ht]
        exact .inl ⟨rfl, .inl (fun h => by unfold MayBe at h; omega)⟩
    · rw [if_neg h1, Option.bind_some, show (!false) = true from rfl, ht]
      exact .inl ⟨rfl, .inl (fun h => by unfold MayBe at h; omega)⟩
/-! ### each number times a value -/
def timesL (b : Nat) (l v : List Int) : List Int := (List.range l.length).map fun i : Nat => rnd b (rd l (i : Int) * rd v (i : Int))
theorem times_l0 {b : Nat} (hb : 1 ≤ b ∧ b ≤ 62) {l v : List Int} (hl : l.length ≤ 1000) (hv : l.length ≤ v.length) (hx : ∀ i : Nat, i < l.length → -4611686018427387904 ≤ rd l (i : Int) * rd v (i : Int) ∧ rd l (i : Int) * rd v (i : Int) ≤ 4611686018427387904) (d : Nat) : ∀ (k i : Nat), i + d = l.length → d + 5 ≤ k →
    block_times.l0 k v (b : Int) ((timesL b l v).take i ++ List.replicate (l.length - i) 0) l (l.length : Int) (i : Int) = some (timesL b l v) := by
  have hT : (timesL b l v).length = l.length := by unfold timesL; rw [List.length_map, List.length_range]
  induction d with
  | zero =>
    intro k i hi hk
    obtain ⟨k, rfl⟩ : ∃ j, k = j + 1 := ⟨k - 1, by omega⟩
    obtain rfl : i = l.length := by omega
    rw [block_times.l0.eq_2, if_neg (by omega), Nat.sub_self, List.replicate_zero, List.append_nil, List.take_of_length_le (by omega)]
  | succ d ih =>
    intro k i hi hk
    obtain ⟨k, rfl⟩ : ∃ j, k = j + 1 := ⟨k - 1, by omega⟩
    have him : i < l.length := by omega
    have e := ih k (i + 1) (by omega) (by omega)
    rw [show (((i + 1 : Nat)) : Int) = (i : Int) + 1 by omega] at e
    have hv1 : (timesL b l v)[i]? = some (rnd b (rd l (i : Int) * rd v (i : Int))) := by
      unfold timesL
      rw [List.getElem?_map, List.getElem?_range him]; rfl
    have f1 := fillM_set him hv1
    have g1 := fillM_length (n := l.length) (i := i) (t := timesL b l v) (by omega) hT
    have c0 : (i : Int) < (l.length : Int) := by omega
    have c1 : (0 : Int) ≤ (i : Int) := by omega
    have c2 : (i : Int) < (v.length : Int) := by omega
    have c3 : (i : Int) < ((((timesL b l v).take i ++ List.replicate (l.length - i) 0).length : Nat) : Int) := by omega
    have c4 : wrap64 ((i : Int) + 1) = (i : Int) + 1 := wrap_in (by omega) (by omega)
    have hxi := hx i him
    have c5 : wrap64 (rd l (i : Int) * rd v (i : Int)) = rd l (i : Int) * rd v (i : Int) := wrap_in (by omega) (by omega)
    have hr := round_is (n := rd l (i : Int) * rd v (i : Int)) (b := b) (k := k) hxi.1 hxi.2 hb.1 hb.2 (by omega)
    rw [block_times.l0.eq_2, if_pos c0, if_pos c1, if_pos c0, if_pos c2, c5, hr, Option.bind_some, if_pos c3, c4, show ((i : Int)).toNat = i by omega]
    dsimp only
    rw [f1]
    exact e
theorem times_is {b : Nat} (hb : 1 ≤ b ∧ b ≤ 62) {l v : List Int} (hl : l.length ≤ 1000) (hv : l.length ≤ v.length) (hx : ∀ i : Nat, i < l.length → -4611686018427387904 ≤ rd l (i : Int) * rd v (i : Int) ∧ rd l (i : Int) * rd v (i : Int) ≤ 4611686018427387904) {k : Nat} (hk : 1100 ≤ k) : block_times.f k l v (b : Int) = some (timesL b l v) := by
  have h := times_l0 hb hl hv hx l.length k 0 (by omega) (by omega)
  rw [List.take_zero, List.nil_append, Nat.sub_zero] at h
  unfold block_times.f
  rw [if_pos (by omega), if_pos (by omega), Int.toNat_natCast]
  exact h

/-! ### one window's lines -/
theorem mul_in' {X Y x y : Int} (hx : -X ≤ x ∧ x ≤ X) (hy : -Y ≤ y ∧ y ≤ Y) : -(X * Y) ≤ x * y ∧ x * y ≤ X * Y := by
  have h := Int.natAbs_mul x y
  have h1 : x.natAbs * y.natAbs ≤ X.natAbs * Y.natAbs := Nat.mul_le_mul (by omega) (by omega)
  have h2 := Int.natAbs_mul X Y
  have h3 : 0 ≤ X * Y := Int.mul_nonneg (by omega) (by omega)
  omega
/-- A window's values are from 0 to one. -/
def WinIn (X : List Int) : Prop := ∀ n : Nat, 0 ≤ rd X (n : Int) ∧ rd X (n : Int) ≤ 4194304
/-! ### the windows of a frame -/
def litL (i : Nat) (a1 a2 : Int) : List Int := (if i = 0 then halfL a1 true else halfL a2 true) ++ (halfL a2 true).reverse
def anWin (a0 a1 a2 : Int) (i : Nat) : List Int := if a0 = 2 then litL i a1 a2 else winL a0 a1 a2
def anPos (a0 : Int) (i : Nat) : Nat := if a0 = 2 then 112 + 32 * i else 0
def anN (a0 : Int) : Nat := if a0 = 2 then 8 else 1
def anM (a0 : Int) : Nat := if a0 = 2 then 32 else 256
def anS (a0 : Int) : Int := if a0 = 2 then 8 else 1
def anB (a0 : Int) : Nat := if a0 = 2 then 23 else 26
theorem an_sized (a0 : Int) : Sized (anM a0) (anS a0) (anB a0) := by
  unfold anM anS anB
  by_cases h : a0 = 2
  · rw [if_pos h, if_pos h, if_pos h]; exact .inr ⟨rfl, rfl, rfl⟩
  · rw [if_neg h, if_neg h, if_neg h]; exact .inl ⟨rfl, rfl, rfl⟩
theorem litL_length (i : Nat) (a1 a2 : Int) : (litL i a1 a2).length = 64 := by
  unfold litL
  rw [List.length_append, List.length_reverse, halfL_length]
  split <;> rw [halfL_length] <;> rfl
theorem anWin_length (a0 a1 a2 : Int) (i : Nat) : (anWin a0 a1 a2 i).length = 2 * anM a0 := by
  unfold anWin anM
  by_cases h : a0 = 2
  · rw [if_pos h, if_pos h, litL_length]
  · rw [if_neg h, if_neg h, winL_length]
theorem halfL_in {a0 : Int} (h : a0 = 0 ∨ a0 = 1) (a1 : Bool) : ∀ x ∈ halfL a0 a1, 0 ≤ x ∧ x ≤ 4194304 := by
  intro x hx
  obtain ⟨n, hn, rfl⟩ := List.getElem_of_mem hx
  obtain ⟨h1, h2, _⟩ := power_at (half_power h a1) hn
  rw [List.getD_eq_getElem?_getD, List.getElem?_eq_getElem hn] at h1 h2
  exact ⟨Int.le_of_lt h1, h2⟩
theorem winIn_of {X : List Int} (h : ∀ x ∈ X, 0 ≤ x ∧ x ≤ 4194304) : WinIn X := by
  intro n
  unfold rd
  rw [show ((n : Int)).toNat = n by omega, List.getD_eq_getElem?_getD]
  by_cases hn : n < X.length
  · rw [List.getElem?_eq_getElem hn]
    exact h _ (List.getElem_mem hn)
  · rw [List.getElem?_eq_none (by omega)]
    exact ⟨Int.le_refl _, by decide⟩
theorem anWin_in {a0 a1 a2 : Int} (h1 : a1 = 0 ∨ a1 = 1) (h2 : a2 = 0 ∨ a2 = 1) (i : Nat) : WinIn (anWin a0 a1 a2 i) := by
  refine winIn_of fun x hx => ?_
  have hr : ∀ v n, x ∈ List.replicate n v → 0 ≤ v ∧ v ≤ 4194304 → 0 ≤ x ∧ x ≤ 4194304 := fun v n h hv => by rw [(List.mem_replicate.1 h).2]; exact hv
  unfold anWin litL winL firstL secondL at hx
  split at hx
  · rcases List.mem_append.1 hx with h | h
    · split at h
      · exact halfL_in h1 _ x h
      · exact halfL_in h2 _ x h
    · exact halfL_in h2 _ x (List.mem_reverse.1 h)
  · rcases List.mem_append.1 hx with h | h
    · split at h
      · rcases List.mem_append.1 h with h | h
        · exact hr 0 112 h (by decide)
        · rcases List.mem_append.1 h with h | h
          · exact halfL_in h1 _ x h
          · exact hr 4194304 112 h (by decide)
      · exact halfL_in h1 _ x h
    · split at h
      · rcases List.mem_append.1 h with h | h
        · exact hr 4194304 112 h (by decide)
        · rcases List.mem_append.1 h with h | h
          · exact halfL_in h2 _ x (List.mem_reverse.1 h)
          · exact hr 0 112 h (by decide)
      · exact halfL_in h2 _ x (List.mem_reverse.1 h)
theorem an_pos_le {a0 : Int} {i : Nat} (hi : i < anN a0) : anPos a0 i + 2 * anM a0 ≤ 512 := by
  unfold anN at hi
  unfold anPos anM
  by_cases h : a0 = 2
  · rw [if_pos h] at hi ⊢
    rw [if_pos h]
    omega
  · rw [if_neg h, if_neg h]
    omega
end Go.Proofs.Ytpoppdaaodmicaa.Q
