/- What window.Half answers: four halves, told as lists. -/
import Derived.Test.YtpoppdaaodmicaaR1
import Derived.Test.YtpoppdaaodmicaaBWindow
namespace Go.Proofs.Ytpoppdaaodmicaa.Q
open Go.RowKit Go.Proofs.YtpoppdaaodmicaaW.PrintWords Go.Proofs.YtpoppdaaodmicaaW.PrintLast Go.Proofs.YtpoppdaaodmicaaW.PrintMore
namespace Win
def s256 : List Int := [12868, 38603, 64337, 90069, 115797, 141521, 167239, 192951, 218656, 244353, 270040, 295718, 321384, 347038, 372679, 398306, 423918, 449514, 475093, 500654, 526196, 551719, 577221, 602701, 628158, 653592, 679001, 704384, 729741, 755071, 780372, 805644, 830885, 856095, 881273, 906418, 931528, 956604, 981643, 1006646, 1031610, 1056536, 1081422, 1106267, 1131071, 1155832, 1180550, 1205223, 1229850, 1254432, 1278966, 1303452, 1327889, 1352276, 1376612, 1400896, 1425128, 1449305, 1473429, 1497496, 1521508, 1545462, 1569358, 1593195, 1616972, 1640688, 1664342, 1687933, 1711461, 1734925, 1758323, 1781655, 1804920, 1828117, 1851245, 1874304, 1897292, 1920208, 1943052, 1965823, 1988520, 2011143, 2033689, 2056159, 2078551, 2100866, 2123101, 2145256, 2167330, 2189323, 2211233, 2233061, 2254804, 2276462, 2298034, 2319520, 2340919, 2362229, 2383451, 2404583, 2425624, 2446574, 2467432, 2488197, 2508868, 2529445, 2549926, 2570312, 2590601, 2610792, 2630885, 2650879, 2670773, 2690566, 2710259, 2729849, 2749336, 2768720, 2788000, 2807175, 2826244, 2845206, 2864062, 2882810, 2901449, 2919979, 2938399, 2956708, 2974906, 2992992, 3010965, 3028825, 3046571, 3064202, 3081718, 3099118, 3116401, 3133567, 3150615, 3167544, 3184354, 3201044, 3217614, 3234062, 3250389, 3266593, 3282675, 3298632, 3314466, 3330175, 3345758, 3361215, 3376546, 3391750, 3406826, 3421774, 3436593, 3451282, 3465842, 3480271, 3494569, 3508736, 3522770, 3536672, 3550440, 3564075, 3577576, 3590942, 3604173, 3617268, 3630227, 3643050, 3655735, 3668282, 3680692, 3692963, 3705094, 3717087, 3728939, 3740651, 3752222, 3763652, 3774940, 3786086, 3797090, 3807950, 3818668, 3829241, 3839670, 3849955, 3860095, 3870089, 3879938, 3889640, 3899197, 3908606, 3917868, 3926983, 3935950, 3944768, 3953439, 3961960, 3970332, 3978555, 3986628, 3994550, 4002323, 4009944, 4017415, 4024735, 4031903, 4038919, 4045783, 4052495, 4059054, 4065460, 4071714, 4077814, 4083760, 4089553, 4095192, 4100676, 4106006, 4111182, 4116203, 4121069, 4125779, 4130335, 4134734, 4138979, 4143067, 4146999, 4150776, 4154396, 4157859, 4161166, 4164316, 4167310, 4170147, 4172826, 4175349, 4177714, 4179922, 4181973, 4183866, 4185602, 4187180, 4188601, 4189863, 4190969, 4191916, 4192705, 4193337, 4193811, 4194126, 4194284]
def s32 : List Int := [102933, 308552, 513428, 717066, 918977, 1118674, 1315677, 1509509, 1699705, 1885807, 2067365, 2243943, 2415115, 2580468, 2739606, 2892143, 3037712, 3175964, 3306565, 3429199, 3543573, 3649409, 3746454, 3834474, 3913255, 3982610, 4042370, 4092391, 4132554, 4162761, 4182939, 4193041]
def k256 : List Int := [2454, 4044, 5686, 7453, 9375, 11468, 13745, 16220, 18901, 21799, 24924, 28286, 31893, 35756, 39885, 44287, 48974, 53954, 59237, 64832, 70749, 76995, 83582, 90517, 97810, 105470, 113505, 121924, 130735, 139946, 149567, 159604, 170065, 180958, 192290, 204069, 216300, 228990, 242147, 255774, 269879, 284467, 299542, 315109, 331173, 347737, 364806, 382381, 400467, 419065, 438178, 457807, 477954, 498618, 519801, 541503, 563722, 586458, 609709, 633474, 657749, 682533, 707821, 733611, 759897, 786675, 813940, 841687, 869908, 898597, 927748, 957353, 987403, 1017891, 1048807, 1080143, 1111888, 1144032, 1176564, 1209475, 1242751, 1276382, 1310355, 1344658, 1379278, 1414201, 1449414, 1484903, 1520654, 1556653, 1592884, 1629333, 1665984, 1702822, 1739831, 1776995, 1814298, 1851724, 1889256, 1926878, 1964574, 2002325, 2040116, 2077930, 2115750, 2153558, 2191339, 2229074, 2266747, 2304342, 2341841, 2379228, 2416486, 2453599, 2490551, 2527325, 2563906, 2600277, 2636425, 2672332, 2707984, 2743367, 2778466, 2813267, 2847756, 2881920, 2915745, 2949219, 2982329, 3015064, 3047412, 3079361, 3110902, 3142023, 3172714, 3202968, 3232773, 3262123, 3291009, 3319423, 3347358, 3374809, 3401769, 3428232, 3454194, 3479650, 3504595, 3529028, 3552944, 3576341, 3599218, 3621572, 3643403, 3664711, 3685495, 3705756, 3725496, 3744715, 3763416, 3781601, 3799272, 3816434, 3833090, 3849244, 3864900, 3880065, 3894742, 3908937, 3922658, 3935909, 3948698, 3961032, 3972918, 3984363, 3995376, 4005964, 4016136, 4025901, 4035266, 4044241, 4052835, 4061057, 4068916, 4076422, 4083584, 4090411, 4096914, 4103101, 4108983, 4114569, 4119869, 4124892, 4129648, 4134147, 4138397, 4142408, 4146190, 4149751, 4153101, 4156248, 4159201, 4161969, 4164560, 4166982, 4169244, 4171352, 4173316, 4175142, 4176837, 4178409, 4179864, 4181209, 4182450, 4183594, 4184646, 4185612, 4186497, 4187308, 4188048, 4188722, 4189336, 4189893, 4190398, 4190854, 4191266, 4191636, 4191968, 4192266, 4192531, 4192767, 4192977, 4193163, 4193327, 4193471, 4193597, 4193707, 4193802, 4193885, 4193956, 4194018, 4194070, 4194114, 4194151, 4194182, 4194208, 4194229, 4194247, 4194261, 4194272, 4194281, 4194288, 4194293, 4194297, 4194300, 4194302, 4194303]
def k32 : List Int := [367, 3909, 13469, 33978, 71823, 134520, 229977, 365476, 546487, 775509, 1051162, 1367711, 1715184, 2080129, 2446932, 2799531, 3123269, 3406568, 3642148, 3827574, 3965041, 4060448, 4121986, 4158549, 4178350, 4187994, 4192146, 4193688, 4194166, 4194282, 4194302, 4194303]
def sm256 : List Int := [16384, 44489, 87963, 151134, 239086, 357744, 513970, 715648, 971797, 1292668, 1689855, 2176408, 2766972, 3477879, 4327311, 5335396, 6524384, 7918754, 9545366, 11433625, 13615595, 16126159, 19003183, 22287623, 26023737, 30259178, 35045153, 40436605, 46492245, 53274796, 60851072, 69292115, 78673326, 89074517, 100580038, 113278960, 127264957, 142636599, 159497192, 177955012, 198123277, 220120016, 244068325, 270096125, 298336255, 328926437, 362008912, 397730941, 436244156, 477704674, 522273045, 570113596, 621394860, 676288982, 734971629, 797621786, 864421169, 935554434, 1011208593, 1091572347, 1176836402, 1267192380, 1362833175, 1463952148, 1570742280, 1683396614, 1802107074, 1927064243, 2058457157, 2196471655, 2341291867, 2493097971, 2652066243, 2818369145, 2992172920, 3173639272, 3362923476, 3560174214, 3765533360, 3979134393, 4201103367, 4431557607, 4670604329, 4918341913, 5174857568, 5440228777, 5714521910, 5997790827, 6290078261, 6591414253, 6901815988, 7221288261, 7549820694, 7887391669, 8233964492, 8589488419, 8953899728, 9327117686, 9709049140, 10099585575, 10498603958, 10905967259, 11321522626, 11745104234, 12176531760, 12615609464, 13062129053, 13515866957, 13976587827, 14444043296, 14917970680, 15398096397, 15884134334, 16375786956, 16872746710, 17374692988, 17881298875, 18392226641, 18907129768, 19425655799, 19947441313, 20472119277, 20999315719, 21528651661, 22059744610, 22592206920, 23125649924, 23659682757, 24193911818, 24727944651, 25261387655, 25793849965, 26324942914, 26854278856, 27381475298, 27906153262, 28427938776, 28946464807, 29461367934, 29972295700, 30478901587, 30980847865, 31477807619, 31969460241, 32455498178, 32935623895, 33409551279, 33877006748, 34337727618, 34791465522, 35237985111, 35677062815, 36108490341, 36532071949, 36947627316, 37354990617, 37754009000, 38144545435, 38526476889, 38899694847, 39264106156, 39619630083, 39966202906, 40303773881, 40632306314, 40951778587, 41262180322, 41563516314, 41855803748, 42139072665, 42413365798, 42678737007, 42935252662, 43182990246, 43422036968, 43652491208, 43874460182, 44088061215, 44293420361, 44490671099, 44679955303, 44861421655, 45035225430, 45201528332, 45360496604, 45512302708, 45657122920, 45795137418, 45926530332, 46051487501, 46170197961, 46282852295, 46389642427, 46490761400, 46586402195, 46676758173, 46762022228, 46842385982, 46918040141, 46989173406, 47055972789, 47118622946, 47177305593, 47232199715, 47283480979, 47331321530, 47375889901, 47417350419, 47455863634, 47491585663, 47524668138, 47555258320, 47583498450, 47609526250, 47633474559, 47655471298, 47675639563, 47694097383, 47710957976, 47726329618, 47740315615, 47753014537, 47764520058, 47774921249, 47784302460, 47792743503, 47800319779, 47807102330, 47813157970, 47818549422, 47823335397, 47827570838, 47831306952, 47834591392, 47837468416, 47839978980, 47842160950, 47844049209, 47845675821, 47847070191, 47848259179, 47849267264, 47850116696, 47850827603, 47851418167, 47851904720, 47852301907, 47852622778, 47852878927, 47853080605, 47853236831, 47853355489, 47853443441, 47853506612, 47853550086, 47853578191, 47853594575]
def sm32 : List Int := [16384, 1855592, 22023857, 140140269, 626178206, 2196540976, 6419974372, 16213650298, 36251063033, 73002077870, 134122180098, 227064763999, 357094293538, 525220869630, 726783276173, 951330907186, 1184076957637, 1408624588650, 1610186995193, 1778313571285, 1908343100824, 2001285684725, 2062405786953, 2099156801790, 2119194214525, 2128987890451, 2133211323847, 2134781686617, 2135267724554, 2135385840966, 2135406009231, 2135407848439, 2135407864823]
end Win

/-- A list that is filled from the left. -/
theorem fill_set {n i : Nat} {t : List Int} (hi : i < n) {v : Int} (hv : t[i]? = some v) : (t.take i ++ List.replicate (n - i) 0).set i v = t.take (i + 1) ++ List.replicate (n - (i + 1)) 0 := by
  have hl : i < t.length := (List.getElem?_eq_some_iff.1 hv).1
  have e : n - i = (n - (i + 1)) + 1 := by omega
  rw [e, List.replicate_succ, List.set_append_right _ _ (by rw [List.length_take]; omega), List.length_take, Nat.min_eq_left (by omega), Nat.sub_self, List.set_cons_zero, List.take_add_one, hv]
  simp
theorem fill_length {n i : Nat} {t : List Int} (hi : i ≤ n) (ht : t.length = n) : (t.take i ++ List.replicate (n - i) 0).length = n := by
  rw [List.length_append, List.length_take, List.length_replicate]; omega

/-! ### Sine -/
def sineChk (step : Int) : Int → List Int → Bool
  | _, [] => true
  | i, v :: r => decide (rnd 4 (Tab.S ((2 * i + 1) * step)) = v) && sineChk step (i + 1) r
theorem sineChk_at {step : Int} : ∀ {l : List Int} {i : Int}, sineChk step i l = true → ∀ (j : Nat) (v : Int), l[j]? = some v → rnd 4 (Tab.S ((2 * (i + j) + 1) * step)) = v
  | [], _, _, j, v, h => by simp at h
  | x :: l, i, h, j, v, hv => by
    simp only [sineChk, Bool.and_eq_true, decide_eq_true_eq] at h
    cases j with
    | zero =>
      simp only [List.getElem?_cons_zero, Option.some.injEq] at hv
      subst hv
      rw [show i + ((0 : Nat) : Int) = i by omega]
      exact h.1
    | succ j =>
      have := sineChk_at h.2 j v (by simpa using hv)
      rw [show i + ((j + 1 : Nat) : Int) = i + 1 + (j : Int) by omega]
      exact this
theorem s256_chk : sineChk 1 0 Win.s256 = true := by decide +kernel
theorem s32_chk : sineChk 8 0 Win.s32 = true := by decide +kernel
theorem half_l0 {step : Int} {t : List Int} (hs : step = 1 ∨ step = 8) (hn : t.length ≤ 256) (hc : sineChk step 0 t = true) (d : Nat) : ∀ (k i : Nat), i + d = t.length → d + 5 ≤ k →
    window_Half.l0 k step (t.take i ++ List.replicate (t.length - i) 0) (t.length : Int) (i : Int) = some (t, 0) := by
  induction d with
  | zero =>
    intro k i hi hk
    obtain ⟨k, rfl⟩ : ∃ j, k = j + 1 := ⟨k - 1, by omega⟩
    simp only [window_Half.l0]
    obtain rfl : i = t.length := by omega
    rw [if_neg (by omega), List.take_length, Nat.sub_self]; simp
  | succ d ih =>
    intro k i hi hk
    obtain ⟨k, rfl⟩ : ∃ j, k = j + 1 := ⟨k - 1, by omega⟩
    have hv : t[i]? = some (t[i]'(by omega)) := List.getElem?_eq_getElem (by omega)
    have hr := sineChk_at hc i _ hv
    rw [Int.zero_add] at hr
    have hb := Tab.C_max ((2 * (i : Int) + 1) * step - 512)
    simp only [window_Half.l0]
    rw [if_pos (by omega), wrap_in (n := 2 * (i : Int)) (by omega) (by omega), wrap_in (n := 2 * (i : Int) + 1) (by omega) (by omega), wrap_in (n := (2 * (i : Int) + 1) * step) (by rcases hs with rfl | rfl <;> omega) (by rcases hs with rfl | rfl <;> omega), sin_is _ (by omega)]
    simp only [Option.bind_some]
    have e := round_is (n := Tab.S ((2 * (i : Int) + 1) * step)) (b := 4) (k := k) (by unfold Tab.S; omega) (by unfold Tab.S; omega) (by omega) (by omega) (by omega)
    rw [show ((4 : Nat) : Int) = 4 from rfl] at e
    rw [e]
    simp only [Option.bind_some]
    rw [hr, if_pos (by omega), if_pos (by rw [fill_length (by omega) rfl]; omega), wrap_in (by omega) (by omega), show ((i : Int)).toNat = i by omega, fill_set (by omega) hv]
    exact ih k (i + 1) (by omega) (by omega)
theorem half_sine {m step by_ : Int} {t : List Int} (hs : step = 1 ∨ step = 8) (hn : t.length ≤ 256) (hm : m = t.length) (hc : sineChk step 0 t = true) {k : Nat} (hk : t.length + 10 ≤ k) : window_Half.j0 k 0 m step by_ = some (t, 0) := by
  obtain ⟨k, rfl⟩ : ∃ j, k = j + 1 := ⟨k - 1, by omega⟩
  subst hm
  simp only [window_Half.j0]
  rw [if_pos trivial, if_pos (by omega), if_pos (by omega)]
  simp only [Option.bind_some, Int.toNat_natCast, List.length_replicate]
  have := half_l0 hs hn hc t.length k 0 (by omega) (by omega)
  simpa using this

/-! ### Kbd -/
def kbdArg (m b j : Int) : Int := wrap64 (Int.tdiv (wrap64 ((wrap64 ((wrap64 ((wrap64 (42389456769 * b)) * b)) * j)) * (wrap64 (m - j)))) (wrap64 ((wrap64 (m * m)) * 65536)))
def sumsChk (m b : Int) : Int → Int → List Int → Bool
  | _, _, [] => true
  | j, s, v :: r => (match window_bessel.f 70 (kbdArg m b j) with | some x => decide (wrap64 (s + x) = v) | none => false) && sumsChk m b (j + 1) v r
theorem sumsChk_at {m b : Int} : ∀ {l : List Int} {j s : Int}, sumsChk m b j s l = true → ∀ (i : Nat) (v : Int), l[i]? = some v →
    ∃ x, window_bessel.f 70 (kbdArg m b (j + i)) = some x ∧ wrap64 ((if i = 0 then s else l.getD (i - 1) 0) + x) = v
  | [], _, _, _, i, v, h => by simp at h
  | y :: l, j, s, h, i, v, hv => by
    simp only [sumsChk, Bool.and_eq_true] at h
    cases i with
    | zero =>
      simp only [List.getElem?_cons_zero, Option.some.injEq] at hv
      subst hv
      rw [show j + ((0 : Nat) : Int) = j by omega]
      have h1 := h.1
      cases e : window_bessel.f 70 (kbdArg m b j) with
      | none => rw [e] at h1; simp at h1
      | some x => rw [e] at h1; simp at h1; exact ⟨x, rfl, by simpa using h1⟩
    | succ i =>
      obtain ⟨x, h1, h2⟩ := sumsChk_at h.2 i v (by simpa using hv)
      rw [show j + ((i + 1 : Nat) : Int) = j + 1 + (i : Int) by omega]
      refine ⟨x, h1, ?_⟩
      rw [if_neg (by omega)]
      cases i with
      | zero => simpa using h2
      | succ i => simpa using h2
theorem sm256_chk : sumsChk 256 4 0 0 Win.sm256 = true := by decide +kernel
theorem sm32_chk : sumsChk 32 6 0 0 Win.sm32 = true := by decide +kernel
def rootChk (all : Int) : List Int → List Int → Bool
  | _, [] => true
  | [], _ :: _ => false
  | s :: ss, v :: vs => (match window_over.f s all with | some x => (match fix_Sqrt.f x with | some y => decide (y.1 = v) | none => false) | none => false) && rootChk all ss vs
theorem rootChk_at {all : Int} : ∀ {ss vs : List Int}, rootChk all ss vs = true → ∀ (i : Nat) (v : Int), vs[i]? = some v → ∃ s x y, ss[i]? = some s ∧ window_over.f s all = some x ∧ fix_Sqrt.f x = some y ∧ y.1 = v
  | _, [], _, i, v, h => by simp at h
  | [], _ :: _, h, i, v, _ => by simp [rootChk] at h
  | s :: ss, w :: vs, h, i, v, hv => by
    simp only [rootChk, Bool.and_eq_true] at h
    cases i with
    | zero =>
      simp only [List.getElem?_cons_zero, Option.some.injEq] at hv
      subst hv
      have h1 := h.1
      cases e : window_over.f s all with
      | none => rw [e] at h1; simp at h1
      | some x =>
        rw [e] at h1
        simp only at h1
        cases e2 : fix_Sqrt.f x with
        | none => rw [e2] at h1; simp at h1
        | some y => rw [e2] at h1; simp at h1; exact ⟨s, x, y, by simp, e, e2, h1⟩
    | succ i =>
      obtain ⟨a, x, y, h1, h2⟩ := rootChk_at h.2 i v (by simpa using hv)
      exact ⟨a, x, y, by simpa using h1, h2⟩
theorem k256_chk : rootChk (Win.sm256.getD 256 0) Win.sm256 Win.k256 = true := by decide +kernel
theorem k32_chk : rootChk (Win.sm32.getD 32 0) Win.sm32 Win.k32 = true := by decide +kernel
theorem kbd_l1 {all : Int} {sm t : List Int} (hn : t.length ≤ 256) (hsm : t.length ≤ sm.length) (hc : rootChk all sm t = true) (d : Nat) : ∀ (k i : Nat), i + d = t.length → d + 1 ≤ k →
    window_kbd.l1 k sm all (t.take i ++ List.replicate (t.length - i) 0) (t.length : Int) (i : Int) = some t := by
  induction d with
  | zero =>
    intro k i hi hk
    obtain ⟨k, rfl⟩ : ∃ j, k = j + 1 := ⟨k - 1, by omega⟩
    simp only [window_kbd.l1]
    obtain rfl : i = t.length := by omega
    rw [if_neg (by omega), List.take_length, Nat.sub_self]; simp
  | succ d ih =>
    intro k i hi hk
    obtain ⟨k, rfl⟩ : ∃ j, k = j + 1 := ⟨k - 1, by omega⟩
    have hv : t[i]? = some (t[i]'(by omega)) := List.getElem?_eq_getElem (by omega)
    obtain ⟨s, x, y, h1, h2, h3, h4⟩ := rootChk_at hc i _ hv
    have hrd : rd sm (i : Int) = s := by unfold rd; rw [show ((i : Int)).toNat = i by omega, List.getD_eq_getElem?_getD, h1]; rfl
    simp only [window_kbd.l1]
    rw [if_pos (by omega), if_pos (by omega), if_pos (by omega), hrd, h2]
    simp only [Option.bind_some]
    rw [h3]
    simp only [Option.bind_some]
    rw [h4, if_pos (by rw [fill_length (by omega) rfl]; omega), wrap_in (by omega) (by omega), show ((i : Int)).toNat = i by omega, fill_set (by omega) hv]
    exact ih k (i + 1) (by omega) (by omega)
theorem kbd_l0 {m b all : Int} {sm t : List Int} (hm : m = t.length) (hn : t.length ≤ 256) (hl : sm.length = t.length + 1) (hall : sm.getD t.length 0 = all) (hc0 : sumsChk m b 0 0 sm = true) (hc : rootChk all sm t = true)
    (hm0 : wrap64 (wrap64 (m * m) * 65536) ≠ 0) (d : Nat) : ∀ (k i : Nat) (s : Int), i + d = sm.length → d + t.length + 80 ≤ k → s = (if i = 0 then 0 else sm.getD (i - 1) 0) →
    window_kbd.l0 k m b (sm.take i ++ List.replicate (sm.length - i) 0) s (sm.length : Int) (i : Int) = some t := by
  induction d with
  | zero =>
    intro k i s hi hk hs
    obtain ⟨k, rfl⟩ : ∃ j, k = j + 1 := ⟨k - 1, by omega⟩
    simp only [window_kbd.l0]
    obtain rfl : i = sm.length := by omega
    rw [if_neg (by omega), List.take_length, Nat.sub_self, if_pos (by omega), if_pos (by omega)]
    simp only [Option.bind_some, List.replicate_zero, List.append_nil, List.length_replicate]
    rw [if_neg (by omega), hl, show t.length + 1 - 1 = t.length by omega, hall] at hs
    subst hs hm
    have := kbd_l1 hn (by omega) hc t.length k 0 (by omega) (by omega)
    simpa using this
  | succ d ih =>
    intro k i s hi hk hs
    obtain ⟨k, rfl⟩ : ∃ j, k = j + 1 := ⟨k - 1, by omega⟩
    have hv : sm[i]? = some (sm[i]'(by omega)) := List.getElem?_eq_getElem (by omega)
    obtain ⟨x, h1, h2⟩ := sumsChk_at hc0 i _ hv
    rw [Int.zero_add] at h1
    rw [← hs] at h2
    have h3 := at_rounds (window_bessel.mono (kbdArg m b i)) (show 70 ≤ k by omega) h1
    unfold kbdArg at h3
    simp only [window_kbd.l0]
    rw [if_pos (by omega), if_neg hm0, h3]
    simp only [Option.bind_some]
    rw [h2, if_pos (by omega), if_pos (by rw [fill_length (by omega) rfl]; omega), wrap_in (n := (i : Int) + 1) (by omega) (by omega), show ((i : Int)).toNat = i by omega, fill_set (by omega) hv]
    refine ih k (i + 1) _ (by omega) (by omega) ?_
    rw [if_neg (by omega), show i + 1 - 1 = i by omega, List.getD_eq_getElem?_getD, hv]; rfl
theorem kbd_is {m b all : Int} {sm t : List Int} (hm : m = t.length) (hn : t.length ≤ 256) (hl : sm.length = t.length + 1) (hall : sm.getD t.length 0 = all) (hc0 : sumsChk m b 0 0 sm = true) (hc : rootChk all sm t = true)
    (hm0 : wrap64 (wrap64 (m * m) * 65536) ≠ 0) {k : Nat} (hk : 2 * t.length + 100 ≤ k) : window_kbd.f k m b = some t := by
  unfold window_kbd.f
  rw [wrap_in (by omega) (by omega), if_pos (by omega), if_pos (by omega)]
  simp only [Option.bind_some, List.length_replicate]
  have := kbd_l0 hm hn hl hall hc0 hc hm0 sm.length k 0 0 (by omega) (by omega) (by simp)
  rw [show (m + 1).toNat = sm.length by omega]
  simpa using this

theorem win_lens : Win.s256.length = 256 ∧ Win.s32.length = 32 ∧ Win.k256.length = 256 ∧ Win.k32.length = 32 ∧ Win.sm256.length = 257 ∧ Win.sm32.length = 33 := by decide +kernel
/-- The rising half of a window. -/
def halfL (shape : Int) (short : Bool) : List Int := if shape = 0 then (if short then Win.s32 else Win.s256) else (if short then Win.k32 else Win.k256)
theorem half_yes {a0 : Int} {a1 : Bool} (h : a0 = 0 ∨ a0 = 1) {k : Nat} (hk : 700 ≤ k) : window_Half.f k a0 a1 = some (halfL a0 a1, 0) := by
  obtain ⟨l1, l2, l3, l4, l5, l6⟩ := win_lens
  unfold window_Half.f halfL
  rcases h with rfl | rfl
  · cases a1
    · rw [if_neg (by simp), if_pos rfl, if_neg (by simp)]
      exact half_sine (.inl rfl) (by omega) (by omega) s256_chk (by omega)
    · rw [if_pos rfl, if_pos rfl, if_pos rfl]
      exact half_sine (.inr rfl) (by omega) (by omega) s32_chk (by omega)
  · obtain ⟨k, rfl⟩ : ∃ j, k = j + 1 := ⟨k - 1, by omega⟩
    cases a1
    · rw [if_neg (by simp), if_neg (by decide), if_neg (by simp)]
      simp only [window_Half.j0]
      rw [if_neg (by decide), if_pos trivial, kbd_is (t := Win.k256) (by omega) (by omega) (by omega) (by rw [l3]) sm256_chk k256_chk (by decide +kernel) (by omega)]
      rfl
    · rw [if_pos rfl, if_neg (by decide), if_pos rfl]
      simp only [window_Half.j0]
      rw [if_neg (by decide), if_pos trivial, kbd_is (t := Win.k32) (by omega) (by omega) (by omega) (by rw [l4]) sm32_chk k32_chk (by decide +kernel) (by omega)]
      rfl
theorem halfL_length (a0 : Int) (a1 : Bool) : (halfL a0 a1).length = if a1 then 32 else 256 := by
  obtain ⟨l1, l2, l3, l4, l5, l6⟩ := win_lens
  unfold halfL
  cases a1 <;> split <;> simp [*]

end Go.Proofs.Ytpoppdaaodmicaa.Q
