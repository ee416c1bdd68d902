/- MdctSums: what comes back of two lines' sum is the sum of what comes back, to 1: any lines, any parts. No condition. -/
import Derived.Test.YtpoppdaaodmicaaM6
import Derived.Test.YtpoppdaaodmicaaQ20
namespace Go.Proofs.Ytpoppdaaodmicaa.Pure
open Go.RowKit Go.Proofs.Ytpoppdaaodmicaa.Q Go.Proofs.YtpoppdaaodmicaaW.PrintWords Go.Proofs.YtpoppdaaodmicaaW.PrintLast

/-- The last loop: three lists of one length, the sum within 1. -/
theorem sums_l1 {a u v : List Int} (ha : a.length ≤ 512) (hu : u.length = a.length) (hv : v.length = a.length) (hB : ∀ i : Nat, i < a.length → (-4398046511104 ≤ rd u i ∧ rd u i ≤ 4398046511104) ∧ (-4398046511104 ≤ rd v i ∧ rd v i ≤ 4398046511104) ∧ -1 ≤ rd u i + rd v i - rd a i ∧ rd u i + rd v i - rd a i ≤ 1) (d : Nat) : ∀ (k i : Nat), i + d = a.length → 2 * d + 2 ≤ k →
    reedpipelaw11_MdctSums.l1 k true a u v (i : Int) = some true := by
  induction d with
  | zero =>
    intro k i hi hk
    obtain ⟨k, rfl⟩ : ∃ j, k = j + 1 + 1 := ⟨k - 2, by omega⟩
    rw [reedpipelaw11_MdctSums.l1.eq_2, if_neg (by omega), reedpipelaw11_MdctSums.j4.eq_2, if_neg (by simp), if_pos rfl, if_pos (by omega), hv]
    simp
  | succ d ih =>
    intro k i hi hk
    obtain ⟨k, rfl⟩ : ∃ j, k = j + 1 + 1 := ⟨k - 2, by omega⟩
    obtain ⟨h1, h2, h3⟩ := hB i (by omega)
    have e := ih k (i + 1) (by omega) (by omega)
    rw [show (((i + 1 : Nat)) : Int) = (i : Int) + 1 by omega] at e
    rw [reedpipelaw11_MdctSums.l1.eq_2, if_pos (by omega), if_pos (by omega), decide_eq_true (by omega), reedpipelaw11_MdctSums.j4.eq_2, if_pos rfl, if_pos (by omega), if_pos (by omega), if_pos (by omega), if_pos (by omega), wrap_in (n := rd u i + rd v i) (by omega) (by omega), wrap_in (n := rd u i + rd v i - rd a i) (by omega) (by omega), if_neg (by omega), if_neg (by omega), wrap_in (by omega) (by omega)]
    exact e
/-- A part of line i. -/
def partAt (x y : List Int) (i : Nat) : Int := Int.tdiv (rd x i) 2 + (if i < y.length then rd y i else 0)
def restAt (x y : List Int) (i : Nat) : Int := rd x (i : Int) - partAt x y i
theorem half_le {n X : Int} (h : -X ≤ n ∧ n ≤ X) : -X ≤ Int.tdiv n 2 ∧ Int.tdiv n 2 ≤ X := by
  rw [Int.tdiv_eq_ediv]
  have e : (2 : Int).sign = 1 := rfl
  rw [e]
  split <;> omega
theorem rd_set_self {l : List Int} {i : Nat} {v : Int} (h : i < l.length) : rd (l.set i v) (i : Int) = v := by
  unfold rd
  rw [show ((i : Int)).toNat = i by omega, List.getD_eq_getElem?_getD, List.getElem?_set_self h]; rfl
/-- The first loop fills both parts. -/
theorem sums_l0 {m : Nat} (hm : m ≤ 256) {x y a : List Int} (hl : x.length = m) (hx : ∀ i : Nat, i < m → -268435455 ≤ rd x i ∧ rd x i ≤ 268435455) (hy : ∀ i : Nat, i < y.length → -128 ≤ rd y i ∧ rd y i ≤ 127) (d : Nat) : ∀ (k i : Nat), i + d = m →
    reedpipelaw11_MdctSums.l0 (k + d + 1) x y true a (((List.range m).map (partAt x y)).take i ++ List.replicate (m - i) 0) (((List.range m).map (restAt x y)).take i ++ List.replicate (m - i) 0) (i : Int)
      = reedpipelaw11_MdctSums.l0 (k + 1) x y true a ((List.range m).map (partAt x y)) ((List.range m).map (restAt x y)) (m : Int) := by
  induction d with
  | zero =>
    intro k i hi
    obtain rfl : i = m := by omega
    rw [Nat.sub_self, List.replicate_zero, List.append_nil, List.append_nil, List.take_of_length_le (by rw [List.length_map, List.length_range]; exact Nat.le_refl _), List.take_of_length_le (by rw [List.length_map, List.length_range]; exact Nat.le_refl _)]
  | succ d ih =>
    intro k i hi
    have him : i < m := by omega
    have e := ih k (i + 1) (by omega)
    rw [show (((i + 1 : Nat)) : Int) = (i : Int) + 1 by omega] at e
    have v1 : ((List.range m).map (partAt x y))[i]? = some (partAt x y i) := by rw [List.getElem?_map, List.getElem?_range him]; rfl
    have v2 : ((List.range m).map (restAt x y))[i]? = some (restAt x y i) := by rw [List.getElem?_map, List.getElem?_range him]; rfl
    have f1 := fillM_set him v1
    have f2 := fillM_set him v2
    have g1 := fillM_length (n := m) (i := i) (t := (List.range m).map (partAt x y)) (by omega) (by rw [List.length_map, List.length_range])
    have g2 := fillM_length (n := m) (i := i) (t := (List.range m).map (restAt x y)) (by omega) (by rw [List.length_map, List.length_range])
    rw [← f1, ← f2] at e
    clear f1 f2 v1 v2 ih
    generalize ((List.range m).map (partAt x y)).take i ++ List.replicate (m - i) 0 = A at e g1 ⊢
    generalize ((List.range m).map (restAt x y)).take i ++ List.replicate (m - i) 0 = B at e g2 ⊢
    have c1 : (i : Int) < (x.length : Int) := by omega
    have c2 : (0 : Int) ≤ (i : Int) := by omega
    have c3 : (i : Int) < (A.length : Int) := by omega
    have c4 : (i : Int) < (B.length : Int) := by omega
    have c6 : ((i : Int)).toNat = i := by omega
    have c7 : i < A.length := by omega
    have c9 : k + (d + 1) + 1 = (k + d + 1) + 1 := by omega
    have c5 : wrap64 ((i : Int) + 1) = (i : Int) + 1 := wrap_in (by omega) (by omega)
    have hxi := hx i him
    have hy' : i < y.length → -128 ≤ rd y (i : Int) ∧ rd y (i : Int) ≤ 127 := hy i
    have hc : i < y.length ↔ (i : Int) < (y.length : Int) := by omega
    have q0 : rd x (i : Int) - partAt x y i = restAt x y i := rfl
    have p1 : partAt x y i = Int.tdiv (rd x (i : Int)) 2 + (if i < y.length then rd y (i : Int) else 0) := rfl
    have c8 : ∀ v, rd (A.set i v) (i : Int) = v := fun v => rd_set_self c7
    clear hx hy g1 g2 hl hm hi c7 him
    rw [c9, reedpipelaw11_MdctSums.l0.eq_2, if_pos c1, if_pos c2, if_pos c3, Option.bind_some, c5, c6, c8]
    clear c1 c2 c3 c5 c6 c9
    generalize rd x (i : Int) = xi at *
    generalize partAt x y i = pi at *
    generalize restAt x y i = ri at *
    have hxh := half_le hxi
    have t0 : wrap64 (Int.tdiv xi 2) = Int.tdiv xi 2 := wrap_in (by omega) (by omega)
    rw [t0]
    generalize Int.tdiv xi 2 = hf at *
    clear t0
    by_cases hiy : i < y.length
    · have hyi := hy' hiy
      rw [if_pos hiy] at p1
      rw [if_pos (hc.1 hiy), Option.bind_some]
      generalize rd y (i : Int) = yi at *
      have u1 : wrap64 yi = yi := wrap_in (by omega) (by omega)
      have u2 : wrap64 (hf + yi) = pi := by rw [wrap_in (by omega) (by omega)]; omega
      have u3 : wrap64 (xi - pi) = ri := by rw [wrap_in (by omega) (by omega)]; omega
      rw [u1, u2, List.set_set, c8, if_pos c4, u3]
      exact e
    · rw [if_neg hiy] at p1
      have u2 : hf = pi := by omega
      have u3 : wrap64 (xi - pi) = ri := by rw [wrap_in (by omega) (by omega)]; omega
      rw [if_neg (fun h => hiy (hc.2 h)), u2, if_pos c4, u3]
      exact e
theorem parts_sum {m : Nat} {x y : List Int} (hl : x.length = m) : List.zipWith (· + ·) ((List.range m).map (partAt x y)) ((List.range m).map (restAt x y)) = x := by
  apply List.ext_getElem
  · rw [List.length_zipWith, List.length_map, List.length_map, List.length_range]; omega
  · intro i h1 h2
    have hr : rd x (i : Int) = x[i] := by
      unfold rd
      rw [show ((i : Int)).toNat = i by omega, List.getD_eq_getElem?_getD, List.getElem?_eq_getElem h2]; rfl
    rw [List.getElem_zipWith, List.getElem_map, List.getElem_map, List.getElem_range]
    show partAt x y i + (rd x (i : Int) - partAt x y i) = x[i]
    rw [← hr]
    omega
theorem back_parts {m b : Nat} {s : Int} (hb : 1 ≤ b) {x y : List Int} (hl : x.length = m) (n : Nat) :
    -1 ≤ backAt m s b ((List.range m).map (partAt x y)) n + backAt m s b ((List.range m).map (restAt x y)) n - backAt m s b x n ∧ backAt m s b ((List.range m).map (partAt x y)) n + backAt m s b ((List.range m).map (restAt x y)) n - backAt m s b x n ≤ 1 := by
  have e : ∀ c a, dot c x a = dot c ((List.range m).map (partAt x y)) a + dot c ((List.range m).map (restAt x y)) a := by
    intro c a
    rw [← dot_add _ _ _ _ (by rw [List.length_map, List.length_map]), parts_sum hl]
  unfold backAt
  rw [e]
  exact rnd_add hb _ _
theorem inv_or {m b : Nat} {s : Int} (hs : Sized m s b) {z : List Int} (hl : z.length = m) : (∃ l c, mdct_Inverse.f z = some (l, c) ∧ c ≠ 0) ∨ (AllIn 268435455 z ∧ mdct_Inverse.f z = some ((List.range (2 * m)).map (backAt m s b z), 0)) := by
  rcases inverse_cases z with ⟨h, _⟩ | ⟨h, _⟩ | ⟨_, _, _, _, _, hx, _⟩
  · exact .inl ⟨_, _, h, by decide⟩
  · exact .inl ⟨_, _, h, by decide⟩
  · exact .inr ⟨hx, inverse_yes hs hl hx⟩
theorem rd_all {X : Int} {x : List Int} (h : AllIn X x) {i : Nat} (hi : i < x.length) : -X ≤ rd x (i : Int) ∧ rd x (i : Int) ≤ X := by
  refine h _ ?_
  unfold rd
  rw [show ((i : Int)).toNat = i by omega, List.getD_eq_getElem?_getD, List.getElem?_eq_getElem hi]
  exact List.getElem_mem hi
theorem sums_tail {m b : Nat} {s : Int} (hs : Sized m s b) {x y : List Int} (hl : x.length = m) {k : Nat} (hk : 1500 ≤ k) :
    reedpipelaw11_MdctSums.l0 (k + 1) x y true ((List.range (2 * m)).map (backAt m s b x)) ((List.range m).map (partAt x y)) ((List.range m).map (restAt x y)) (m : Int) = some true := by
  have hm : m ≤ 256 ∧ 1 ≤ b := by rcases hs with ⟨rfl, _, rfl⟩ | ⟨rfl, _, rfl⟩ <;> omega
  have hlt : ¬ (m : Int) < (x.length : Int) := by omega
  obtain ⟨k, rfl⟩ : ∃ j, k = j + 1 := ⟨k - 1, by omega⟩
  rw [reedpipelaw11_MdctSums.l0.eq_2, if_neg hlt]
  rcases inv_or hs (z := (List.range m).map (partAt x y)) (by rw [List.length_map, List.length_range]) with ⟨l1, c1, e1, n1⟩ | ⟨a1, e1⟩
  · rcases inv_or hs (z := (List.range m).map (restAt x y)) (by rw [List.length_map, List.length_range]) with ⟨l2, c2, e2, n2⟩ | ⟨a2, e2⟩
    · rw [e1, Option.bind_some, e2, Option.bind_some, if_neg n1, reedpipelaw11_MdctSums.j2.eq_2, if_pos rfl]
    · rw [e1, Option.bind_some, e2, Option.bind_some, if_neg n1, reedpipelaw11_MdctSums.j2.eq_2, if_pos rfl]
  · rcases inv_or hs (z := (List.range m).map (restAt x y)) (by rw [List.length_map, List.length_range]) with ⟨l2, c2, e2, n2⟩ | ⟨a2, e2⟩
    · have n3 : (c2 != 0) = true := by simpa using n2
      rw [e1, Option.bind_some, e2, Option.bind_some, if_pos rfl, reedpipelaw11_MdctSums.j2.eq_2, if_pos n3]
    · have h0 := fun n => back_parts (s := s) (y := y) hm.2 hl n
      have b1 := fun n => back_bound hs (by rw [List.length_map, List.length_range]) a1 n
      have b2 := fun n => back_bound hs (by rw [List.length_map, List.length_range]) a2 n
      rw [e1, Option.bind_some, e2, Option.bind_some, if_pos rfl, reedpipelaw11_MdctSums.j2.eq_2, if_neg (by rw [show ((0 : Int) != 0) = false from rfl]; simp)]
      clear e1 e2 a1 a2
      generalize (List.range m).map (partAt x y) = o at *
      generalize (List.range m).map (restAt x y) = t at *
      refine sums_l1 (by rw [List.length_map, List.length_range]; omega) (by rw [List.length_map, List.length_map]) (by rw [List.length_map, List.length_map]) (fun i hi => ?_) (2 * m) k 0 (by rw [List.length_map, List.length_range]; omega) (by omega)
      rw [List.length_map, List.length_range] at hi
      rw [rd_map_range hi, rd_map_range hi, rd_map_range hi]
      have h0 := h0 i
      have b1 := b1 i
      have b2 := b2 i
      generalize backAt m s b o i = u at *
      generalize backAt m s b t i = v at *
      generalize backAt m s b x i = w at *
      exact ⟨⟨by omega, by omega⟩, ⟨by omega, by omega⟩, h0⟩
theorem sums_all (x y : List Int) (hy : ∀ i : Nat, i < y.length → -128 ≤ rd y i ∧ rd y i ≤ 127) {k : Nat} (hk : 3000 ≤ k) : reedpipelaw11_MdctSums.f k x y = some true := by
  unfold reedpipelaw11_MdctSums.f
  rw [alive11 (by omega), Option.bind_some]
  obtain ⟨k, rfl⟩ : ∃ j, k = j + 1 := ⟨k - 1, by omega⟩
  by_cases h : (x.length : Int) > 1000
  · rw [if_pos h, reedpipelaw11_MdctSums.j0.eq_2, if_pos rfl]
  by_cases h' : (y.length : Int) > 1000
  · rw [if_neg h, if_pos h', reedpipelaw11_MdctSums.j0.eq_2, if_pos rfl]
  rw [if_neg h, if_neg h', show (!true) = false from rfl, reedpipelaw11_MdctSums.j0.eq_2, if_neg (by simp)]
  rcases inverse_cases x with ⟨h1, _⟩ | ⟨h1, _⟩ | ⟨m, s, b, hs, hl, hx, h1⟩
  · rw [h1, Option.bind_some, if_neg (by decide)]
  · rw [h1, Option.bind_some, if_neg (by decide)]
  · have hm : m ≤ 256 := by rcases hs with ⟨rfl, _⟩ | ⟨rfl, _⟩ <;> omega
    have ht := sums_tail (y := y) hs hl (k := k - m - 1) (by omega)
    have c1 : (0 : Int) ≤ (x.length : Int) := by omega
    have c2 : ((x.length : Int)).toNat ≤ 35184372088832 := by omega
    have c3 : ((x.length : Int)).toNat = m := by omega
    have ek : k - m - 1 + m + 1 = k := by omega
    have hg := sums_l0 hm hl (fun i hi => rd_all hx (by omega)) hy (a := (List.range (2 * m)).map (backAt m s b x)) m (k - m - 1) 0 (by omega)
    rw [ek, ht, List.take_zero, List.take_zero, List.nil_append] at hg
    rw [h1, Option.bind_some, if_pos rfl, if_pos c1, if_pos c2, c3]
    exact hg
theorem i8_bounds {y : List Int} (h : ∀ x ∈ y, (Lit.int .i8 x).wf = true) : ∀ i : Nat, i < y.length → -128 ≤ rd y i ∧ rd y i ≤ 127 := by
  intro i hi
  have hw := h (rd y (i : Int)) (by
    unfold rd
    rw [show ((i : Int)).toNat = i by omega, List.getD_eq_getElem?_getD, List.getElem?_eq_getElem hi]
    exact List.getElem_mem hi)
  have e1 : IntKind.i8.min = -128 := by decide
  have e2 : IntKind.i8.max = 127 := by decide
  simp only [Lit.wf, e1, e2, Bool.and_eq_true, decide_eq_true_eq] at hw
  exact hw
theorem MdctSums : reedpipelaw11_MdctSums.Pure := fun l0 l1 _ _ _ _ _ h => ⟨3000, sums_all l0 l1 (i8_bounds h) (Nat.le_refl _)⟩

end Go.Proofs.Ytpoppdaaodmicaa.Pure
