-- Several texts of this claim in one.
import Derived.Test.YtpoppdaaodmicaaR1
import Derived.Test.YtpoppdaaodmicaaBWindow
import Derived.Test.YtpoppdaaodmicaaBBlock
import Derived.Test.YtpoppdaaodmicaaBMdct
import Derived.Test.YtpoppdaaodmicaaBRange
import Derived.Test.YtpoppdaaodmicaaBSynth
import Derived.Test.YtpoppdaaodmicaaQ0
import Derived.Test.YtpoppdaaodmicaaT3
import Derived.Test.YtpoppdaaodmicaaBRefTrig
import Derived.Test.YtpoppdaaodmicaaQ83
import Derived.Test.YtpoppdaaodmicaaQ84
import Derived.Test.YtpoppdaaodmicaaQ50
import Derived.Test.YtpoppdaaodmicaaBRefWindow
/- What window.Half answers: four halves, told as lists. -/
namespace Go.Proofs.Ytpoppdaaodmicaa.Q
open Go.RowKit Go.Proofs.YtpoppdaaodmicaaW.PrintWords Go.Proofs.YtpoppdaaodmicaaW.PrintLast Go.Proofs.YtpoppdaaodmicaaW.PrintMore
namespace Win
def s256 : List Int := [12868, 38603, 64337, 90069, 115797, 141521, 167239, 192951, 218656, 244353, 270040, 295718, 321384, 347038, 372679, 398306, 423918, 449514, 475093, 500654, 526196, 551719, 577221, 602701, 628158, 653592, 679001, 704384, 729741, 755071, 780372, 805644, 830885, 856095, 881273, 906418, 931528, 956604, 981643, 1006646, 1031610, 1056536, 1081422, 1106267, 1131071, 1155832, 1180550, 1205223, 1229850, 1254432, 1278966, 1303452, 1327889, 1352276, 1376612, 1400896, 1425128, 1449305, 1473429, 1497496, 1521508, 1545462, 1569358, 1593195, 1616972, 1640688, 1664342, 1687933, 1711461, 1734925, 1758323, 1781655, 1804920, 1828117, 1851245, 1874304, 1897292, 1920208, 1943052, 1965823, 1988520, 2011143, 2033689, 2056159, 2078551, 2100866, 2123101, 2145256, 2167330, 2189323, 2211233, 2233061, 2254804, 2276462, 2298034, 2319520, 2340919, 2362229, 2383451, 2404583, 2425624, 2446574, 2467432, 2488197, 2508868, 2529445, 2549926, 2570312, 2590601, 2610792, 2630885, 2650879, 2670773, 2690566, 2710259, 2729849, 2749336, 2768720, 2788000, 2807175, 2826244, 2845206, 2864062, 2882810, 2901449, 2919979, 2938399, 2956708, 2974906, 2992992, 3010965, 3028825, 3046571, 3064202, 3081718, 3099118, 3116401, 3133567, 3150615, 3167544, 3184354, 3201044, 3217614, 3234062, 3250389, 3266593, 3282675, 3298632, 3314466, 3330175, 3345758, 3361215, 3376546, 3391750, 3406826, 3421774, 3436593, 3451282, 3465842, 3480271, 3494569, 3508736, 3522770, 3536672, 3550440, 3564075, 3577576, 3590942, 3604173, 3617268, 3630227, 3643050, 3655735, 3668282, 3680692, 3692963, 3705094, 3717087, 3728939, 3740651, 3752222, 3763652, 3774940, 3786086, 3797090, 3807950, 3818668, 3829241, 3839670, 3849955, 3860095, 3870089, 3879938, 3889640, 3899197, 3908606, 3917868, 3926983, 3935950, 3944768, 3953439, 3961960, 3970332, 3978555, 3986628, 3994550, 4002323, 4009944, 4017415, 4024735, 4031903, 4038919, 4045783, 4052495, 4059054, 4065460, 4071714, 4077814, 4083760, 4089553, 4095192, 4100676, 4106006, 4111182, 4116203, 4121069, 4125779, 4130335, 4134734, 4138979, 4143067, 4146999, 4150776, 4154396, 4157859, 4161166, 4164316, 4167310, 4170147, 4172826, 4175349, 4177714, 4179922, 4181973, 4183866, 4185602, 4187180, 4188601, 4189863, 4190969, 4191916, 4192705, 4193337, 4193811, 4194126, 4194284]
def s32 : List Int := [102933, 308552, 513428, 717066, 918977, 1118674, 1315677, 1509509, 1699705, 1885807, 2067365, 2243943, 2415115, 2580468, 2739606, 2892143, 3037712, 3175964, 3306565, 3429199, 3543573, 3649409, 3746454, 3834474, 3913255, 3982610, 4042370, 4092391, 4132554, 4162761, 4182939, 4193041]
def k256 : List Int := [2454, 4044, 5686, 7453, 9375, 11468, 13745, 16220, 18901, 21799, 24924, 28286, 31893, 35756, 39885, 44287, 48974, 53954, 59237, 64832, 70749, 76995, 83582, 90517, 97810, 105470, 113505, 121924, 130735, 139946, 149567, 159604, 170065, 180958, 192290, 204069, 216300, 228990, 242147, 255774, 269879, 284467, 299542, 315109, 331173, 347737, 364806, 382381, 400467, 419065, 438178, 457807, 477954, 498618, 519801, 541503, 563722, 586458, 609709, 633474, 657749, 682533, 707821, 733611, 759897, 786675, 813940, 841687, 869908, 898597, 927748, 957353, 987403, 1017891, 1048807, 1080143, 1111888, 1144032, 1176564, 1209475, 1242751, 1276382, 1310355, 1344658, 1379278, 1414201, 1449414, 1484903, 1520654, 1556653, 1592884, 1629333, 1665984, 1702822, 1739831, 1776995, 1814298, 1851724, 1889256, 1926878, 1964574, 2002325, 2040116, 2077930, 2115750, 2153558, 2191339, 2229074, 2266747, 2304342, 2341841, 2379228, 2416486, 2453599, 2490551, 2527325, 2563906, 2600277, 2636425, 2672332, 2707984, 2743367, 2778466, 2813267, 2847756, 2881920, 2915745, 2949219, 2982329, 3015064, 3047412, 3079361, 3110902, 3142023, 3172714, 3202968, 3232773, 3262123, 3291009, 3319423, 3347358, 3374809, 3401769, 3428232, 3454194, 3479650, 3504595, 3529028, 3552944, 3576341, 3599218, 3621572, 3643403, 3664711, 3685495, 3705756, 3725496, 3744715, 3763416, 3781601, 3799272, 3816434, 3833090, 3849244, 3864900, 3880065, 3894742, 3908937, 3922658, 3935909, 3948698, 3961032, 3972918, 3984363, 3995376, 4005964, 4016136, 4025901, 4035266, 4044241, 4052835, 4061057, 4068916, 4076422, 4083584, 4090411, 4096914, 4103101, 4108983, 4114569, 4119869, 4124892, 4129648, 4134147, 4138397, 4142408, 4146190, 4149751, 4153101, 4156248, 4159201, 4161969, 4164560, 4166982, 4169244, 4171352, 4173316, 4175142, 4176837, 4178409, 4179864, 4181209, 4182450, 4183594, 4184646, 4185612, 4186497, 4187308, 4188048, 4188722, 4189336, 4189893, 4190398, 4190854, 4191266, 4191636, 4191968, 4192266, 4192531, 4192767, 4192977, 4193163, 4193327, 4193471, 4193597, 4193707, 4193802, 4193885, 4193956, 4194018, 4194070, 4194114, 4194151, 4194182, 4194208, 4194229, 4194247, 4194261, 4194272, 4194281, 4194288, 4194293, 4194297, 4194300, 4194302, 4194303]
def k32 : List Int := [367, 3909, 13469, 33978, 71823, 134520, 229977, 365476, 546487, 775509, 1051162, 1367711, 1715184, 2080129, 2446932, 2799531, 3123269, 3406568, 3642148, 3827574, 3965041, 4060448, 4121986, 4158549, 4178350, 4187994, 4192146, 4193688, 4194166, 4194282, 4194302, 4194303]
def sm256 : List Int := [16384, 44489, 87963, 151134, 239086, 357744, 513970, 715648, 971797, 1292668, 1689855, 2176408, 2766972, 3477879, 4327311, 5335396, 6524384, 7918754, 9545366, 11433625, 13615595, 16126159, 19003183, 22287623, 26023737, 30259178, 35045153, 40436605, 46492245, 53274796, 60851072, 69292115, 78673326, 89074517, 100580038, 113278960, 127264957, 142636599, 159497192, 177955012, 198123277, 220120016, 244068325, 270096125, 298336255, 328926437, 362008912, 397730941, 436244156, 477704674, 522273045, 570113596, 621394860, 676288982, 734971629, 797621786, 864421169, 935554434, 1011208593, 1091572347, 1176836402, 1267192380, 1362833175, 1463952148, 1570742280, 1683396614, 1802107074, 1927064243, 2058457157, 2196471655, 2341291867, 2493097971, 2652066243, 2818369145, 2992172920, 3173639272, 3362923476, 3560174214, 3765533360, 3979134393, 4201103367, 4431557607, 4670604329, 4918341913, 5174857568, 5440228777, 5714521910, 5997790827, 6290078261, 6591414253, 6901815988, 7221288261, 7549820694, 7887391669, 8233964492, 8589488419, 8953899728, 9327117686, 9709049140, 10099585575, 10498603958, 10905967259, 11321522626, 11745104234, 12176531760, 12615609464, 13062129053, 13515866957, 13976587827, 14444043296, 14917970680, 15398096397, 15884134334, 16375786956, 16872746710, 17374692988, 17881298875, 18392226641, 18907129768, 19425655799, 19947441313, 20472119277, 20999315719, 21528651661, 22059744610, 22592206920, 23125649924, 23659682757, 24193911818, 24727944651, 25261387655, 25793849965, 26324942914, 26854278856, 27381475298, 27906153262, 28427938776, 28946464807, 29461367934, 29972295700, 30478901587, 30980847865, 31477807619, 31969460241, 32455498178, 32935623895, 33409551279, 33877006748, 34337727618, 34791465522, 35237985111, 35677062815, 36108490341, 36532071949, 36947627316, 37354990617, 37754009000, 38144545435, 38526476889, 38899694847, 39264106156, 39619630083, 39966202906, 40303773881, 40632306314, 40951778587, 41262180322, 41563516314, 41855803748, 42139072665, 42413365798, 42678737007, 42935252662, 43182990246, 43422036968, 43652491208, 43874460182, 44088061215, 44293420361, 44490671099, 44679955303, 44861421655, 45035225430, 45201528332, 45360496604, 45512302708, 45657122920, 45795137418, 45926530332, 46051487501, 46170197961, 46282852295, 46389642427, 46490761400, 46586402195, 46676758173, 46762022228, 46842385982, 46918040141, 46989173406, 47055972789, 47118622946, 47177305593, 47232199715, 47283480979, 47331321530, 47375889901, 47417350419, 47455863634, 47491585663, 47524668138, 47555258320, 47583498450, 47609526250, 47633474559, 47655471298, 47675639563, 47694097383, 47710957976, 47726329618, 47740315615, 47753014537, 47764520058, 47774921249, 47784302460, 47792743503, 47800319779, 47807102330, 47813157970, 47818549422, 47823335397, 47827570838, 47831306952, 47834591392, 47837468416, 47839978980, 47842160950, 47844049209, 47845675821, 47847070191, 47848259179, 47849267264, 47850116696, 47850827603, 47851418167, 47851904720, 47852301907, 47852622778, 47852878927, 47853080605, 47853236831, 47853355489, 47853443441, 47853506612, 47853550086, 47853578191, 47853594575]
def sm32 : List Int := [16384, 1855592, 22023857, 140140269, 626178206, 2196540976, 6419974372, 16213650298, 36251063033, 73002077870, 134122180098, 227064763999, 357094293538, 525220869630, 726783276173, 951330907186, 1184076957637, 1408624588650, 1610186995193, 1778313571285, 1908343100824, 2001285684725, 2062405786953, 2099156801790, 2119194214525, 2128987890451, 2133211323847, 2134781686617, 2135267724554, 2135385840966, 2135406009231, 2135407848439, 2135407864823]
end Win

/-- A list that is filled from the left. -/
theorem fill_set {n i : Nat} {t : List Int} (hi : i < n) {v : Int} (hv : t[i]? = some v) : (t.take i ++ List.replicate (n - i) 0).set i v = t.take (i + 1) ++ List.replicate (n - (i + 1)) 0 := by
  have hl : i < t.length := (List.getElem?_eq_some_iff.1 hv).1
  have e : n - i = (n - (i + 1)) + 1 := by omega
  rw [e, List.replicate_succ, List.set_append_right _ _ (by rw [List.length_take]; omega), List.length_take, Nat.min_eq_left (by omega), Nat.sub_self, List.set_cons_zero, List.take_add_one, hv]
  simp
theorem fill_length {n i : Nat} {t : List Int} (hi : i ≤ n) (ht : t.length = n) : (t.take i ++ List.replicate (n - i) 0).length = n := by
  rw [List.length_append, List.length_take, List.length_replicate]; omega

/-! ### Sine -/
def sineChk (step : Int) : Int → List Int → Bool
  | _, [] => true
  | i, v :: r => decide (rnd 4 (Tab.S ((2 * i + 1) * step)) = v) && sineChk step (i + 1) r
theorem sineChk_at {step : Int} : ∀ {l : List Int} {i : Int}, sineChk step i l = true → ∀ (j : Nat) (v : Int), l[j]? = some v → rnd 4 (Tab.S ((2 * (i + j) + 1) * step)) = v
  | [], _, _, j, v, h => by simp at h
  | x :: l, i, h, j, v, hv => by
    simp only [sineChk, Bool.and_eq_true, decide_eq_true_eq] at h
    cases j with
    | zero =>
      simp only [List.getElem?_cons_zero, Option.some.injEq] at hv
      subst hv
      rw [show i + ((0 : Nat) : Int) = i by omega]
      exact h.1
    | succ j =>
      have := sineChk_at h.2 j v (by simpa using hv)
      rw [show i + ((j + 1 : Nat) : Int) = i + 1 + (j : Int) by omega]
      exact this
theorem s256_chk : sineChk 1 0 Win.s256 = true := by decide +kernel
theorem s32_chk : sineChk 8 0 Win.s32 = true := by decide +kernel
theorem half_l0 {step : Int} {t : List Int} (hs : step = 1 ∨ step = 8) (hn : t.length ≤ 256) (hc : sineChk step 0 t = true) (d : Nat) : ∀ (k i : Nat), i + d = t.length → d + 5 ≤ k →
    window_Half.l0 k step (t.take i ++ List.replicate (t.length - i) 0) (t.length : Int) (i : Int) = some (t, 0) := by
  induction d with
  | zero =>
    intro k i hi hk
    obtain ⟨k, rfl⟩ : ∃ j, k = j + 1 := ⟨k - 1, by omega⟩
    simp only [window_Half.l0]
    obtain rfl : i = t.length := by omega
    rw [if_neg (by omega), List.take_length, Nat.sub_self]; simp
  | succ d ih =>
    intro k i hi hk
    obtain ⟨k, rfl⟩ : ∃ j, k = j + 1 := ⟨k - 1, by omega⟩
    have hv : t[i]? = some (t[i]'(by omega)) := List.getElem?_eq_getElem (by omega)
    have hr := sineChk_at hc i _ hv
    rw [Int.zero_add] at hr
    have hb := Tab.C_max ((2 * (i : Int) + 1) * step - 512)
    simp only [window_Half.l0]
    rw [if_pos (by omega), wrap_in (n := 2 * (i : Int)) (by omega) (by omega), wrap_in (n := 2 * (i : Int) + 1) (by omega) (by omega), wrap_in (n := (2 * (i : Int) + 1) * step) (by rcases hs with rfl | rfl <;> omega) (by rcases hs with rfl | rfl <;> omega), sin_is _ (by omega)]
    simp only [Option.bind_some]
    have e := round_is (n := Tab.S ((2 * (i : Int) + 1) * step)) (b := 4) (k := k) (by unfold Tab.S; omega) (by unfold Tab.S; omega) (by omega) (by omega) (by omega)
    rw [show ((4 : Nat) : Int) = 4 from rfl] at e
    rw [e]
    simp only [Option.bind_some]
    rw [hr, if_pos (by omega), if_pos (by rw [fill_length (by omega) rfl]; omega), wrap_in (by omega) (by omega), show ((i : Int)).toNat = i by omega, fill_set (by omega) hv]
    exact ih k (i + 1) (by omega) (by omega)
theorem half_sine {m step by_ : Int} {t : List Int} (hs : step = 1 ∨ step = 8) (hn : t.length ≤ 256) (hm : m = t.length) (hc : sineChk step 0 t = true) {k : Nat} (hk : t.length + 10 ≤ k) : window_Half.j0 k 0 m step by_ = some (t, 0) := by
  obtain ⟨k, rfl⟩ : ∃ j, k = j + 1 := ⟨k - 1, by omega⟩
  subst hm
  simp only [window_Half.j0]
  rw [if_pos trivial, if_pos (by omega), if_pos (by omega)]
  simp only [Option.bind_some, Int.toNat_natCast, List.length_replicate]
  have := half_l0 hs hn hc t.length k 0 (by omega) (by omega)
  simpa using this

/-! ### Kbd -/
def kbdArg (m b j : Int) : Int := wrap64 (Int.tdiv (wrap64 ((wrap64 ((wrap64 ((wrap64 (42389456769 * b)) * b)) * j)) * (wrap64 (m - j)))) (wrap64 ((wrap64 (m * m)) * 65536)))
def sumsChk (m b : Int) : Int → Int → List Int → Bool
  | _, _, [] => true
  | j, s, v :: r => (match window_bessel.f 70 (kbdArg m b j) with | some x => decide (wrap64 (s + x) = v) | none => false) && sumsChk m b (j + 1) v r
theorem sumsChk_at {m b : Int} : ∀ {l : List Int} {j s : Int}, sumsChk m b j s l = true → ∀ (i : Nat) (v : Int), l[i]? = some v →
    ∃ x, window_bessel.f 70 (kbdArg m b (j + i)) = some x ∧ wrap64 ((if i = 0 then s else l.getD (i - 1) 0) + x) = v
  | [], _, _, _, i, v, h => by simp at h
  | y :: l, j, s, h, i, v, hv => by
    simp only [sumsChk, Bool.and_eq_true] at h
    cases i with
    | zero =>
      simp only [List.getElem?_cons_zero, Option.some.injEq] at hv
      subst hv
      rw [show j + ((0 : Nat) : Int) = j by omega]
      have h1 := h.1
      cases e : window_bessel.f 70 (kbdArg m b j) with
      | none => rw [e] at h1; simp at h1
      | some x => rw [e] at h1; simp at h1; exact ⟨x, rfl, by simpa using h1⟩
    | succ i =>
      obtain ⟨x, h1, h2⟩ := sumsChk_at h.2 i v (by simpa using hv)
      rw [show j + ((i + 1 : Nat) : Int) = j + 1 + (i : Int) by omega]
      refine ⟨x, h1, ?_⟩
      rw [if_neg (by omega)]
      cases i with
      | zero => simpa using h2
      | succ i => simpa using h2
theorem sm256_chk : sumsChk 256 4 0 0 Win.sm256 = true := by decide +kernel
theorem sm32_chk : sumsChk 32 6 0 0 Win.sm32 = true := by decide +kernel
def rootChk (all : Int) : List Int → List Int → Bool
  | _, [] => true
  | [], _ :: _ => false
  | s :: ss, v :: vs => (match window_over.f s all with | some x => (match fix_Sqrt.f x with | some y => decide (y.1 = v) | none => false) | none => false) && rootChk all ss vs
theorem rootChk_at {all : Int} : ∀ {ss vs : List Int}, rootChk all ss vs = true → ∀ (i : Nat) (v : Int), vs[i]? = some v → ∃ s x y, ss[i]? = some s ∧ window_over.f s all = some x ∧ fix_Sqrt.f x = some y ∧ y.1 = v
  | _, [], _, i, v, h => by simp at h
  | [], _ :: _, h, i, v, _ => by simp [rootChk] at h
  | s :: ss, w :: vs, h, i, v, hv => by
    simp only [rootChk, Bool.and_eq_true] at h
    cases i with
    | zero =>
      simp only [List.getElem?_cons_zero, Option.some.injEq] at hv
      subst hv
      have h1 := h.1
      cases e : window_over.f s all with
      | none => rw [e] at h1; simp at h1
      | some x =>
        rw [e] at h1
        simp only at h1
        cases e2 : fix_Sqrt.f x with
        | none => rw [e2] at h1; simp at h1
        | some y => rw [e2] at h1; simp at h1; exact ⟨s, x, y, by simp, e, e2, h1⟩
    | succ i =>
      obtain ⟨a, x, y, h1, h2⟩ := rootChk_at h.2 i v (by simpa using hv)
      exact ⟨a, x, y, by simpa using h1, h2⟩
theorem k256_chk : rootChk (Win.sm256.getD 256 0) Win.sm256 Win.k256 = true := by decide +kernel
theorem k32_chk : rootChk (Win.sm32.getD 32 0) Win.sm32 Win.k32 = true := by decide +kernel
theorem kbd_l1 {all : Int} {sm t : List Int} (hn : t.length ≤ 256) (hsm : t.length ≤ sm.length) (hc : rootChk all sm t = true) (d : Nat) : ∀ (k i : Nat), i + d = t.length → d + 1 ≤ k →
    window_kbd.l1 k sm all (t.take i ++ List.replicate (t.length - i) 0) (t.length : Int) (i : Int) = some t := by
  induction d with
  | zero =>
    intro k i hi hk
    obtain ⟨k, rfl⟩ : ∃ j, k = j + 1 := ⟨k - 1, by omega⟩
    simp only [window_kbd.l1]
    obtain rfl : i = t.length := by omega
    rw [if_neg (by omega), List.take_length, Nat.sub_self]; simp
  | succ d ih =>
    intro k i hi hk
    obtain ⟨k, rfl⟩ : ∃ j, k = j + 1 := ⟨k - 1, by omega⟩
    have hv : t[i]? = some (t[i]'(by omega)) := List.getElem?_eq_getElem (by omega)
    obtain ⟨s, x, y, h1, h2, h3, h4⟩ := rootChk_at hc i _ hv
    have hrd : rd sm (i : Int) = s := by unfold rd; rw [show ((i : Int)).toNat = i by omega, List.getD_eq_getElem?_getD, h1]; rfl
    simp only [window_kbd.l1]
    rw [if_pos (by omega), if_pos (by omega), if_pos (by omega), hrd, h2]
    simp only [Option.bind_some]
    rw [h3]
    simp only [Option.bind_some]
    rw [h4, if_pos (by rw [fill_length (by omega) rfl]; omega), wrap_in (by omega) (by omega), show ((i : Int)).toNat = i by omega, fill_set (by omega) hv]
    exact ih k (i + 1) (by omega) (by omega)
theorem kbd_l0 {m b all : Int} {sm t : List Int} (hm : m = t.length) (hn : t.length ≤ 256) (hl : sm.length = t.length + 1) (hall : sm.getD t.length 0 = all) (hc0 : sumsChk m b 0 0 sm = true) (hc : rootChk all sm t = true)
    (hm0 : wrap64 (wrap64 (m * m) * 65536) ≠ 0) (d : Nat) : ∀ (k i : Nat) (s : Int), i + d = sm.length → d + t.length + 80 ≤ k → s = (if i = 0 then 0 else sm.getD (i - 1) 0) →
    window_kbd.l0 k m b (sm.take i ++ List.replicate (sm.length - i) 0) s (sm.length : Int) (i : Int) = some t := by
  induction d with
  | zero =>
    intro k i s hi hk hs
    obtain ⟨k, rfl⟩ : ∃ j, k = j + 1 := ⟨k - 1, by omega⟩
    simp only [window_kbd.l0]
    obtain rfl : i = sm.length := by omega
    rw [if_neg (by omega), List.take_length, Nat.sub_self, if_pos (by omega), if_pos (by omega)]
    simp only [Option.bind_some, List.replicate_zero, List.append_nil, List.length_replicate]
    rw [if_neg (by omega), hl, show t.length + 1 - 1 = t.length by omega, hall] at hs
    subst hs hm
    have := kbd_l1 hn (by omega) hc t.length k 0 (by omega) (by omega)
    simpa using this
  | succ d ih =>
    intro k i s hi hk hs
    obtain ⟨k, rfl⟩ : ∃ j, k = j + 1 := ⟨k - 1, by omega⟩
    have hv : sm[i]? = some (sm[i]'(by omega)) := List.getElem?_eq_getElem (by omega)
    obtain ⟨x, h1, h2⟩ := sumsChk_at hc0 i _ hv
    rw [Int.zero_add] at h1
    rw [← hs] at h2
    have h3 := at_rounds (window_bessel.mono (kbdArg m b i)) (show 70 ≤ k by omega) h1
    unfold kbdArg at h3
    simp only [window_kbd.l0]
    rw [if_pos (by omega), if_neg hm0, h3]
    simp only [Option.bind_some]
    rw [h2, if_pos (by omega), if_pos (by rw [fill_length (by omega) rfl]; omega), wrap_in (n := (i : Int) + 1) (by omega) (by omega), show ((i : Int)).toNat = i by omega, fill_set (by omega) hv]
    refine ih k (i + 1) _ (by omega) (by omega) ?_
    rw [if_neg (by omega), show i + 1 - 1 = i by omega, List.getD_eq_getElem?_getD, hv]; rfl
theorem kbd_is {m b all : Int} {sm t : List Int} (hm : m = t.length) (hn : t.length ≤ 256) (hl : sm.length = t.length + 1) (hall : sm.getD t.length 0 = all) (hc0 : sumsChk m b 0 0 sm = true) (hc : rootChk all sm t = true)
    (hm0 : wrap64 (wrap64 (m * m) * 65536) ≠ 0) {k : Nat} (hk : 2 * t.length + 100 ≤ k) : window_kbd.f k m b = some t := by
  unfold window_kbd.f
  rw [wrap_in (by omega) (by omega), if_pos (by omega), if_pos (by omega)]
  simp only [Option.bind_some, List.length_replicate]
  have := kbd_l0 hm hn hl hall hc0 hc hm0 sm.length k 0 0 (by omega) (by omega) (by simp)
  rw [show (m + 1).toNat = sm.length by omega]
  simpa using this

theorem win_lens : Win.s256.length = 256 ∧ Win.s32.length = 32 ∧ Win.k256.length = 256 ∧ Win.k32.length = 32 ∧ Win.sm256.length = 257 ∧ Win.sm32.length = 33 := by decide +kernel
/-- The rising half of a window. -/
def halfL (shape : Int) (short : Bool) : List Int := if shape = 0 then (if short then Win.s32 else Win.s256) else (if short then Win.k32 else Win.k256)
theorem half_yes {a0 : Int} {a1 : Bool} (h : a0 = 0 ∨ a0 = 1) {k : Nat} (hk : 700 ≤ k) : window_Half.f k a0 a1 = some (halfL a0 a1, 0) := by
  obtain ⟨l1, l2, l3, l4, l5, l6⟩ := win_lens
  unfold window_Half.f halfL
  rcases h with rfl | rfl
  · cases a1
    · rw [if_neg (by simp), if_pos rfl, if_neg (by simp)]
      exact half_sine (.inl rfl) (by omega) (by omega) s256_chk (by omega)
    · rw [if_pos rfl, if_pos rfl, if_pos rfl]
      exact half_sine (.inr rfl) (by omega) (by omega) s32_chk (by omega)
  · obtain ⟨k, rfl⟩ : ∃ j, k = j + 1 := ⟨k - 1, by omega⟩
    cases a1
    · rw [if_neg (by simp), if_neg (by decide), if_neg (by simp)]
      simp only [window_Half.j0]
      rw [if_neg (by decide), if_pos trivial, kbd_is (t := Win.k256) (by omega) (by omega) (by omega) (by rw [l3]) sm256_chk k256_chk (by decide +kernel) (by omega)]
      rfl
    · rw [if_pos rfl, if_neg (by decide), if_pos rfl]
      simp only [window_Half.j0]
      rw [if_neg (by decide), if_pos trivial, kbd_is (t := Win.k32) (by omega) (by omega) (by omega) (by rw [l4]) sm32_chk k32_chk (by decide +kernel) (by omega)]
      rfl
theorem halfL_length (a0 : Int) (a1 : Bool) : (halfL a0 a1).length = if a1 then 32 else 256 := by
  obtain ⟨l1, l2, l3, l4, l5, l6⟩ := win_lens
  unfold halfL
  cases a1 <;> split <;> simp [*]

end Go.Proofs.Ytpoppdaaodmicaa.Q

/- Plain facts on the four halves: they rise, from above 0 to at most 2^22; squares of values as far from both ends are together 2^44, but for 2^25 at most. -/
namespace Go.Proofs.Ytpoppdaaodmicaa.Q
open Go.RowKit Go.Proofs.YtpoppdaaodmicaaW.PrintWords Go.Proofs.YtpoppdaaodmicaaW.PrintLast Go.Proofs.YtpoppdaaodmicaaW.PrintMore

def powerAt (t : List Int) (n : Nat) : Bool :=
  decide (0 < t.getD n 0) && decide (t.getD n 0 ≤ 4194304) && decide (t.getD (n - 1) 0 ≤ t.getD n 0) &&
  decide (-33554432 ≤ t.getD n 0 * t.getD n 0 + t.getD (t.length - 1 - n) 0 * t.getD (t.length - 1 - n) 0 - 17592186044416) &&
  decide (t.getD n 0 * t.getD n 0 + t.getD (t.length - 1 - n) 0 * t.getD (t.length - 1 - n) 0 - 17592186044416 ≤ 33554432)
def powerAll (t : List Int) : Bool := (List.range t.length).all (powerAt t)
theorem power_chk : powerAll Win.s256 = true ∧ powerAll Win.s32 = true ∧ powerAll Win.k256 = true ∧ powerAll Win.k32 = true := by decide +kernel
theorem power_at {t : List Int} (h : powerAll t = true) {n : Nat} (hn : n < t.length) : 0 < t.getD n 0 ∧ t.getD n 0 ≤ 4194304 ∧ t.getD (n - 1) 0 ≤ t.getD n 0 ∧
    -33554432 ≤ t.getD n 0 * t.getD n 0 + t.getD (t.length - 1 - n) 0 * t.getD (t.length - 1 - n) 0 - 17592186044416 ∧
    t.getD n 0 * t.getD n 0 + t.getD (t.length - 1 - n) 0 * t.getD (t.length - 1 - n) 0 - 17592186044416 ≤ 33554432 := by
  unfold powerAll at h
  rw [List.all_eq_true] at h
  have := h n (by simpa using hn)
  unfold powerAt at this
  simp only [Bool.and_eq_true, decide_eq_true_eq] at this
  obtain ⟨⟨⟨⟨a, b⟩, c⟩, d⟩, e⟩ := this
  exact ⟨a, b, c, d, e⟩
theorem half_power {a0 : Int} (h : a0 = 0 ∨ a0 = 1) (a1 : Bool) : powerAll (halfL a0 a1) = true := by
  obtain ⟨h1, h2, h3, h4⟩ := power_chk
  unfold halfL
  rcases h with rfl | rfl <;> cases a1 <;> simp [*]

end Go.Proofs.Ytpoppdaaodmicaa.Q

/- Plain facts on block's windows: halves, falling halves, whole windows, told as lists. -/
namespace Go.Proofs.Ytpoppdaaodmicaa.Q
open Go.RowKit Go.Proofs.YtpoppdaaodmicaaW.PrintWords Go.Proofs.YtpoppdaaodmicaaW.PrintLast Go.Proofs.YtpoppdaaodmicaaW.PrintMore

theorem bhalf_yes {a0 : Int} {a1 : Bool} (h : a0 = 0 ∨ a0 = 1) : block_half.f a0 a1 = some (halfL a0 a1) := by
  unfold block_half.f
  rw [half_yes h (Nat.le_refl 700)]
  rfl
def revChk (t : List Int) : Bool := slices_Reverse_int_int.f 300 t == some t.reverse
theorem rev_chk : revChk Win.s256 = true ∧ revChk Win.s32 = true ∧ revChk Win.k256 = true ∧ revChk Win.k32 = true := by decide +kernel
theorem half_rev {a0 : Int} (h : a0 = 0 ∨ a0 = 1) (a1 : Bool) : slices_Reverse_int_int.f 300 (halfL a0 a1) = some (halfL a0 a1).reverse := by
  have hc : revChk (halfL a0 a1) = true := by
    obtain ⟨h1, h2, h3, h4⟩ := rev_chk
    unfold halfL
    rcases h with rfl | rfl <;> cases a1 <;> simp [*]
  unfold revChk at hc
  exact eq_of_beq hc
theorem fall_yes {a0 : Int} {a1 : Bool} (h : a0 = 0 ∨ a0 = 1) {k : Nat} (hk : 300 ≤ k) : block_fall.f k a0 a1 = some (halfL a0 a1).reverse := by
  unfold block_fall.f
  rw [bhalf_yes h, Option.bind_some, at_rounds (slices_Reverse_int_int.mono _) hk (half_rev h a1), Option.bind_some]
/-! ### whole windows -/
def firstL (a0 a1 : Int) : List Int := if a0 = 3 then List.replicate 112 0 ++ (halfL a1 true ++ List.replicate 112 4194304) else halfL a1 false
def secondL (a0 a2 : Int) : List Int := if a0 = 1 then List.replicate 112 4194304 ++ ((halfL a2 true).reverse ++ List.replicate 112 0) else (halfL a2 false).reverse
def winL (a0 a1 a2 : Int) : List Int := firstL a0 a1 ++ secondL a0 a2
theorem firstL_length (a0 a1 : Int) : (firstL a0 a1).length = 256 := by
  unfold firstL
  split
  · rw [List.length_append, List.length_append, List.length_replicate, List.length_replicate, halfL_length]; rfl
  · rw [halfL_length]; rfl
theorem secondL_length (a0 a2 : Int) : (secondL a0 a2).length = 256 := by
  unfold secondL
  split
  · rw [List.length_append, List.length_append, List.length_replicate, List.length_replicate, List.length_reverse, halfL_length]; rfl
  · rw [List.length_reverse, halfL_length]; rfl
theorem winL_length (a0 a1 a2 : Int) : (winL a0 a1 a2).length = 512 := by unfold winL; rw [List.length_append, firstL_length, secondL_length]
section
variable {k : Nat} {a1 a2 n i : Int} {acc ps : List Int}
theorem win_rise {p : Int} {b : Bool} (hp : (p = 0 ∧ b = false) ∨ (p = 1 ∧ b = true)) (h : a1 = 0 ∨ a1 = 1) (hi : 0 ≤ i ∧ i < n ∧ i < (ps.length : Int) ∧ i < 1000) (hr : rd ps i = p) (hl : acc.length ≤ 1000) :
    block_Window.l0 (k + 2) a1 a2 acc ps n i = block_Window.l0 k a1 a2 (acc ++ halfL a1 b) ps n (i + 1) := by
  have hh := halfL_length a1 b
  have hw : wrap64 (i + 1) = i + 1 := by unfold wrap64; omega
  rw [block_Window.l0.eq_2, if_pos hi.2.1, if_pos hi.1, if_pos hi.2.2.1, hr]
  have e : ∀ x, block_Window.j2 (k + 1) a1 a2 acc p [] ps n i p x = if x = true then block_Window.l0 k a1 a2 (acc ++ halfL a1 b) ps n (i + 1) else block_Window.j2 (k + 1) a1 a2 acc p [] ps n i p x := by
    intro x
    by_cases hx : x = true
    · rw [if_pos hx, block_Window.j2.eq_2, if_pos hx]
      have hb : (p == 1) = b := by rcases hp with ⟨rfl, rfl⟩ | ⟨rfl, rfl⟩ <;> rfl
      rw [hb, bhalf_yes h, Option.bind_some, if_pos (by rw [hh]; split <;> omega), hw]
    · rw [if_neg hx]
  rcases hp with ⟨rfl, rfl⟩ | ⟨rfl, rfl⟩
  · rw [if_pos rfl, e, if_pos (show ((0 : Int) == 0) = true from rfl)]
  · rw [if_neg (by decide), e, if_pos (show ((1 : Int) == 1) = true from rfl)]
theorem win_fall {p : Int} {b : Bool} (hp : (p = 4 ∧ b = false) ∨ (p = 3 ∧ b = true)) (h : a2 = 0 ∨ a2 = 1) (hk : 300 ≤ k) (hi : 0 ≤ i ∧ i < n ∧ i < (ps.length : Int) ∧ i < 1000) (hr : rd ps i = p) (hl : acc.length ≤ 1000) :
    block_Window.l0 (k + 3) a1 a2 acc ps n i = block_Window.l0 k a1 a2 (acc ++ (halfL a2 b).reverse) ps n (i + 1) := by
  have hh := halfL_length a2 b
  have hw : wrap64 (i + 1) = i + 1 := by unfold wrap64; omega
  rw [block_Window.l0.eq_2, if_pos hi.2.1, if_pos hi.1, if_pos hi.2.2.1, hr]
  have hne : p ≠ 0 ∧ (p == 1) = false := by rcases hp with ⟨rfl, _⟩ | ⟨rfl, _⟩ <;> decide
  have hb : (p == 3) = b := by rcases hp with ⟨rfl, rfl⟩ | ⟨rfl, rfl⟩ <;> rfl
  have e : block_Window.j3 (k + 1) a1 a2 acc p [] ps n i p true = block_Window.l0 k a1 a2 (acc ++ (halfL a2 b).reverse) ps n (i + 1) := by
    rw [block_Window.j3.eq_2, if_pos rfl, hb, fall_yes h hk, Option.bind_some, if_pos (by rw [List.length_reverse, hh]; split <;> omega), hw]
  rw [if_neg hne.1, hne.2, block_Window.j2.eq_2, if_neg (by simp)]
  rcases hp with ⟨rfl, rfl⟩ | ⟨rfl, rfl⟩
  · rw [if_pos rfl]; exact e
  · rw [if_neg (by decide)]; exact e
theorem win_flat {p v : Int} (hp : (p = 2 ∧ v = 4194304) ∨ (p = 5 ∧ v = 0)) (hi : 0 ≤ i ∧ i < n ∧ i < (ps.length : Int) ∧ i < 1000) (hr : rd ps i = p) (hl : acc.length ≤ 1000) :
    block_Window.l0 (k + 3) a1 a2 acc ps n i = block_Window.l0 k a1 a2 (acc ++ List.replicate 112 v) ps n (i + 1) := by
  have hw : wrap64 (i + 1) = i + 1 := by unfold wrap64; omega
  have hlen : ∀ N : Nat, N = 112 → (acc.length + (List.replicate N v).length < 17592186044416) := by intro N hN; rw [List.length_replicate]; omega
  rw [block_Window.l0.eq_2, if_pos hi.2.1, if_pos hi.1, if_pos hi.2.2.1, hr]
  have hne : p ≠ 0 ∧ (p == 1) = false ∧ p ≠ 4 ∧ (p == 3) = false := by rcases hp with ⟨rfl, _⟩ | ⟨rfl, _⟩ <;> decide
  rw [if_neg hne.1, hne.2.1, block_Window.j2.eq_2, if_neg (by simp), if_neg hne.2.2.1, hne.2.2.2, block_Window.j3.eq_2, if_neg (by simp)]
  rcases hp with ⟨rfl, rfl⟩ | ⟨rfl, rfl⟩
  · rw [if_pos rfl, show slices_Repeat_int_int.f [4194304] 112 = some (List.replicate 112 4194304) from rfl, Option.bind_some, if_pos (hlen 112 rfl), hw]
  · rw [if_neg (by decide), if_pos rfl, if_pos (by decide), Option.bind_some, if_pos (hlen 112 rfl), hw]
end
theorem window_yes {a0 a1 a2 : Int} (h0 : a0 = 0 ∨ a0 = 1 ∨ a0 = 3) (h1 : a1 = 0 ∨ a1 = 1) (h2 : a2 = 0 ∨ a2 = 1) {k : Nat} (hk : 400 ≤ k) : block_Window.f k a0 a1 a2 = some (winL a0 a1 a2, 0) := by
  obtain ⟨k, rfl⟩ : ∃ j, k = j + 20 := ⟨k - 20, by omega⟩
  have l1 := halfL_length a1 false
  have l2 := halfL_length a1 true
  have l3 := halfL_length a2 true
  have hs : block_shaped.f a1 a2 = some true := by
    unfold block_shaped.f
    rw [if_pos (by omega), decide_eq_true (by omega)]
  unfold block_Window.f
  rw [hs, Option.bind_some, if_pos rfl, if_neg (by omega)]
  have hj : (a0 == 2) = false := beq_eq_false_iff_ne.mpr (by omega)
  rw [hj, block_Window.j0.eq_2, if_neg (by simp)]
  rcases h0 with rfl | rfl | rfl
  · rw [show block_pieces.f 0 = some [0, 4] from rfl, Option.bind_some, show ((([0, 4] : List Int).length : Nat) : Int) = 2 from rfl,
      show k + 19 = (k + 14 + 3) + 2 by omega, win_rise (p := 0) (b := false) (.inl ⟨rfl, rfl⟩) h1 (by decide) rfl (by simp), win_fall (p := 4) (b := false) (.inl ⟨rfl, rfl⟩) h2 (by omega) (by decide) rfl (by simp [l1]),
      show k + 14 = k + 13 + 1 by omega, block_Window.l0.eq_2, if_neg (by decide)]
    unfold winL firstL secondL
    rw [if_neg (by decide), if_neg (by decide), List.nil_append]
  · rw [show block_pieces.f 1 = some [0, 2, 3, 5] from rfl, Option.bind_some, show ((([0, 2, 3, 5] : List Int).length : Nat) : Int) = 4 from rfl,
      show k + 19 = (k + 8 + 3 + 3 + 3) + 2 by omega, win_rise (p := 0) (b := false) (.inl ⟨rfl, rfl⟩) h1 (by decide) rfl (by simp), win_flat (p := 2) (.inl ⟨rfl, rfl⟩) (by decide) rfl (by rw [List.nil_append, l1]; simp),
      win_fall (p := 3) (b := true) (.inr ⟨rfl, rfl⟩) h2 (by omega) (by decide) rfl (by rw [List.nil_append, List.length_append, l1, List.length_replicate]; simp), win_flat (p := 5) (.inr ⟨rfl, rfl⟩) (by decide) rfl (by rw [List.nil_append, List.length_append, List.length_append, List.length_reverse, l1, l3, List.length_replicate]; simp),
      show k + 8 = k + 7 + 1 by omega, block_Window.l0.eq_2, if_neg (by decide)]
    unfold winL firstL secondL
    rw [if_neg (by decide), if_pos rfl, List.nil_append, List.append_assoc, List.append_assoc]
  · rw [show block_pieces.f 3 = some [5, 1, 2, 4] from rfl, Option.bind_some, show ((([5, 1, 2, 4] : List Int).length : Nat) : Int) = 4 from rfl,
      show k + 19 = (k + 8 + 3 + 3 + 2) + 3 by omega, win_flat (p := 5) (.inr ⟨rfl, rfl⟩) (by decide) rfl (by simp), win_rise (p := 1) (b := true) (.inr ⟨rfl, rfl⟩) h1 (by decide) rfl (by rw [List.nil_append, List.length_replicate]; decide),
      win_flat (p := 2) (.inl ⟨rfl, rfl⟩) (by decide) rfl (by rw [List.nil_append, List.length_append, l2, List.length_replicate]; simp), win_fall (p := 4) (b := false) (.inl ⟨rfl, rfl⟩) h2 (by omega) (by decide) rfl (by rw [List.nil_append, List.length_append, List.length_append, l2, List.length_replicate, List.length_replicate]; simp),
      show k + 8 = k + 7 + 1 by omega, block_Window.l0.eq_2, if_neg (by decide)]
    unfold winL firstL secondL
    rw [if_pos rfl, if_neg (by decide), List.nil_append, List.append_assoc, List.append_assoc, List.append_assoc, List.append_assoc]
theorem window_no {a0 a1 a2 : Int} (h : a0 > 3 ∨ a0 = 2 ∨ a1 > 1 ∨ a2 > 1) {k : Nat} (hk : 1 ≤ k) : block_Window.f k a0 a1 a2 = some ([], 2) := by
  obtain ⟨k, rfl⟩ : ∃ j, k = j + 1 := ⟨k - 1, by omega⟩
  have e : block_Window.j0 (k + 1) a0 a1 a2 true = some ([], 2) := by rw [block_Window.j0.eq_2, if_pos rfl]
  unfold block_Window.f block_shaped.f
  by_cases h1 : a1 ≤ 1
  · rw [if_pos h1, Option.bind_some]
    by_cases h2 : a2 ≤ 1
    · rw [decide_eq_true h2, if_pos rfl]
      by_cases h3 : a0 > 3
      · rw [if_pos h3, e]
      · rw [if_neg h3]
        have : a0 = 2 := by omega
        rw [this] at e ⊢
        exact e
    · rw [decide_eq_false h2, if_neg (by simp), e]
  · rw [if_neg h1, Option.bind_some, if_neg (by simp), e]
/-! ### power -/
end Go.Proofs.Ytpoppdaaodmicaa.Q

/- Plain facts on sums of numbers times cosines: what Forward and Inverse answer, without wraps; sums of two; folding; noughts. -/
namespace Go.Proofs.Ytpoppdaaodmicaa.Q
open Go.RowKit Go.Proofs.YtpoppdaaodmicaaW.PrintWords Go.Proofs.YtpoppdaaodmicaaW.PrintLast Go.Proofs.YtpoppdaaodmicaaW.PrintMore

set_option linter.unusedSimpArgs false
/-- A sum of numbers times cosines, from an arc on, each by so much. -/
def dot (b : Int) : List Int → Int → Int
  | [], _ => 0
  | x :: r, a => x * Tab.C a + dot b r (a + b)
/-- All numbers of a list are so great at most. -/
def AllIn (X : Int) (l : List Int) : Prop := ∀ x ∈ l, -X ≤ x ∧ x ≤ X

theorem mul_C {X x : Int} (hX : -X ≤ x ∧ x ≤ X) (a : Int) : -(X * 67108864) ≤ x * Tab.C a ∧ x * Tab.C a ≤ X * 67108864 := by
  have hC := Tab.C_max a
  have h := Int.natAbs_mul x (Tab.C a)
  have h1 : x.natAbs * (Tab.C a).natAbs ≤ X.natAbs * 67108864 := Nat.mul_le_mul (by omega) (by omega)
  omega
theorem dot_bound {X : Int} (b : Int) : ∀ {l : List Int}, AllIn X l → ∀ a, -((l.length : Int) * (X * 67108864)) ≤ dot b l a ∧ dot b l a ≤ (l.length : Int) * (X * 67108864)
  | [], _, a => by simp [dot]
  | x :: r, h, a => by
    have h1 := mul_C (h x (by simp)) a
    have h2 := dot_bound b (l := r) (fun y hy => h y (by simp [hy])) (a + b)
    have e : ((x :: r).length : Int) * (X * 67108864) = (r.length : Int) * (X * 67108864) + X * 67108864 := by
      rw [List.length_cons, show (((r.length + 1 : Nat)) : Int) = (r.length : Int) + 1 by omega, Int.add_mul, Int.one_mul]
    rw [e, dot]
    generalize (r.length : Int) * (X * 67108864) = z at *
    omega
theorem dotW_eq {X : Int} (hX : 0 ≤ X) {b : Int} (hb : -1048576 ≤ b ∧ b ≤ 1048576) {l : List Int} (a s : Int) (h : AllIn X l) (ha0 : -1152921504606846976 + (l.length : Int) * 1048576 ≤ a) (ha1 : a + (l.length : Int) * 1048576 ≤ 1152921504606846976)
    (hs0 : -4611686018427387904 + (l.length : Int) * (X * 67108864) ≤ s) (hs1 : s + (l.length : Int) * (X * 67108864) ≤ 4611686018427387904) : dotW b l a s = s + dot b l a := by
  induction l generalizing a s with
  | nil => simp [dot, dotW]
  | cons x r ih =>
    have h1 := mul_C (h x (by simp)) a
    have e : ((x :: r).length : Int) * (X * 67108864) = (r.length : Int) * (X * 67108864) + X * 67108864 := by
      rw [List.length_cons, show (((r.length + 1 : Nat)) : Int) = (r.length : Int) + 1 by omega, Int.add_mul, Int.one_mul]
    have e2 : ((x :: r).length : Int) = (r.length : Int) + 1 := by simp
    rw [e] at hs0 hs1
    rw [e2] at ha0 ha1
    have hz : 0 ≤ (r.length : Int) * (X * 67108864) := Int.mul_nonneg (by omega) (by omega)
    rw [dotW, dot]
    replace ih := fun a s => ih a s (fun y hy => h y (by simp [hy]))
    generalize (r.length : Int) * (X * 67108864) = z at *
    rw [wrap_in (n := x * Tab.C a) (by omega) (by omega), wrap_in (n := s + x * Tab.C a) (by omega) (by omega), wrap_in (n := a + b) (by omega) (by omega), ih (a + b) (s + x * Tab.C a) (by omega) (by omega) (by omega) (by omega)]
    omega
theorem rndV_is {s : Int} {b : Nat} (h0 : -4611686018427387904 ≤ s) (h1 : s ≤ 4611686018427387904) (hb : 1 ≤ b) (hb2 : b ≤ 62) : rndV s (b : Int) = rnd b s := by
  unfold rndV
  rw [round_is h0 h1 hb hb2 (Nat.le_refl 1)]
  rfl

/-! ### the same sums by other arcs; sums of lists -/
/-! ### Inverse's numbers, Forward's lines -/
/-- One of what lines come back to. -/
def backAt (m : Nat) (s : Int) (b : Nat) (x : List Int) (n : Nat) : Int := rnd b (dot (2 * ((2 * (n : Int) + 1 + (m : Int)) * s)) x ((2 * (n : Int) + 1 + (m : Int)) * s))
def lineAt (m : Nat) (s : Int) (z : List Int) (k : Nat) : Int := rnd 33 (dot (2 * ((2 * (k : Int) + 1) * s)) z ((1 + (m : Int)) * ((2 * (k : Int) + 1) * s)))
theorem allIn_of_any {X : Int} {l : List Int} (h : l.any (oddB X) = false) : AllIn X l := by
  intro x hx
  rw [List.any_eq_false] at h
  have := h x hx
  unfold oddB at this
  simp only [Bool.or_eq_true, decide_eq_true_eq] at this
  omega
theorem any_of_allIn {X : Int} {l : List Int} (h : AllIn X l) : l.any (oddB X) = false := by
  rw [List.any_eq_false]
  intro x hx
  have := h x hx
  unfold oddB
  simp only [Bool.or_eq_true, decide_eq_true_eq]
  omega
/-- How a window may be: 256 lines, or 32. -/
def Sized (m : Nat) (s : Int) (b : Nat) : Prop := (m = 256 ∧ s = 1 ∧ b = 26) ∨ (m = 32 ∧ s = 8 ∧ b = 23)
theorem dot_le {b a : Int} {l : List Int} (h : AllIn 268435455 l) (hl : l.length ≤ 256) : -4611686018427387904 ≤ dot b l a ∧ dot b l a ≤ 4611686018427387904 := by
  have := dot_bound b h a
  omega
theorem back_is {m b : Nat} {s : Int} (hs : Sized m s b) {x : List Int} (hl : x.length = m) (hx : AllIn 268435455 x) : backW m s b x = (List.range (2 * m)).map (backAt m s b x) := by
  unfold backW
  refine List.map_congr_left fun n hn => ?_
  have hn' : n < 2 * m := by simpa using hn
  unfold backAt
  have hd := dot_le (b := 2 * ((2 * (n : Int) + 1 + (m : Int)) * s)) (a := (2 * (n : Int) + 1 + (m : Int)) * s) hx (by rcases hs with ⟨rfl, _⟩ | ⟨rfl, _⟩ <;> omega)
  have e : dotW (2 * ((2 * (n : Int) + 1 + (m : Int)) * s)) x ((2 * (n : Int) + 1 + (m : Int)) * s) 0 = 0 + dot (2 * ((2 * (n : Int) + 1 + (m : Int)) * s)) x ((2 * (n : Int) + 1 + (m : Int)) * s) := by
    rcases hs with ⟨rfl, rfl, rfl⟩ | ⟨rfl, rfl, rfl⟩
    · exact dotW_eq (X := 268435455) (by omega) (by omega) _ _ hx (by omega) (by omega) (by omega) (by omega)
    · exact dotW_eq (X := 268435455) (by omega) (by omega) _ _ hx (by omega) (by omega) (by omega) (by omega)
  rw [e, Int.zero_add]
  rcases hs with ⟨rfl, rfl, rfl⟩ | ⟨rfl, rfl, rfl⟩ <;> exact rndV_is hd.1 hd.2 (by omega) (by omega)
theorem lines_is {m b : Nat} {s : Int} (hs : Sized m s b) {z : List Int} (hl : z.length = 2 * m) (hz : AllIn 8388608 z) : linesW m s z = (List.range m).map (lineAt m s z) := by
  unfold linesW
  refine List.map_congr_left fun k hk => ?_
  have hk' : k < m := by simpa using hk
  unfold lineAt
  have hd := dot_bound (2 * ((2 * (k : Int) + 1) * s)) hz ((1 + (m : Int)) * ((2 * (k : Int) + 1) * s))
  have e : dotW (2 * ((2 * (k : Int) + 1) * s)) z ((1 + (m : Int)) * ((2 * (k : Int) + 1) * s)) 0 = 0 + dot (2 * ((2 * (k : Int) + 1) * s)) z ((1 + (m : Int)) * ((2 * (k : Int) + 1) * s)) := by
    rcases hs with ⟨rfl, rfl, rfl⟩ | ⟨rfl, rfl, rfl⟩
    · exact dotW_eq (X := 8388608) (by omega) (by omega) _ _ hz (by omega) (by omega) (by omega) (by omega)
    · exact dotW_eq (X := 8388608) (by omega) (by omega) _ _ hz (by omega) (by omega) (by omega) (by omega)
  rw [e, Int.zero_add]
  rcases hs with ⟨rfl, rfl, rfl⟩ | ⟨rfl, rfl, rfl⟩ <;> exact rndV_is (b := 33) (by omega) (by omega) (by omega) (by omega)
theorem inverse_cases (x : List Int) : (mdct_Inverse.f x = some ([], 4) ∧ x.length ≠ 256 ∧ x.length ≠ 32) ∨ (mdct_Inverse.f x = some ([], 2) ∧ (x.length = 256 ∨ x.length = 32) ∧ ¬ AllIn 268435455 x) ∨
    ∃ m s b, Sized m s b ∧ x.length = m ∧ AllIn 268435455 x ∧ mdct_Inverse.f x = some ((List.range (2 * m)).map (backAt m s b x), 0) := by
  unfold mdct_Inverse.f
  by_cases h1 : x.length = 256
  · rw [if_pos h1]
    by_cases h2 : x.any (oddB 268435455) = true
    · rw [if_pos h2]
      exact .inr (.inl ⟨rfl, .inl h1, fun h => by rw [any_of_allIn h] at h2; cases h2⟩)
    · rw [if_neg h2]
      have hx := allIn_of_any (Bool.eq_false_iff.mpr h2)
      exact .inr (.inr ⟨256, 1, 26, .inl ⟨rfl, rfl, rfl⟩, h1, hx, by rw [show (26 : Int) = ((26 : Nat) : Int) from rfl, back_is (.inl ⟨rfl, rfl, rfl⟩) h1 hx]⟩)
  · rw [if_neg h1]
    by_cases h3 : x.length = 32
    · rw [if_pos h3]
      by_cases h2 : x.any (oddB 268435455) = true
      · rw [if_pos h2]
        exact .inr (.inl ⟨rfl, .inr h3, fun h => by rw [any_of_allIn h] at h2; cases h2⟩)
      · rw [if_neg h2]
        have hx := allIn_of_any (Bool.eq_false_iff.mpr h2)
        exact .inr (.inr ⟨32, 8, 23, .inr ⟨rfl, rfl, rfl⟩, h3, hx, by rw [show (23 : Int) = ((23 : Nat) : Int) from rfl, back_is (.inr ⟨rfl, rfl, rfl⟩) h3 hx]⟩)
    · rw [if_neg h3]
      exact .inl ⟨rfl, h1, h3⟩
theorem inverse_yes {m b : Nat} {s : Int} (hs : Sized m s b) {x : List Int} (hl : x.length = m) (hx : AllIn 268435455 x) : mdct_Inverse.f x = some ((List.range (2 * m)).map (backAt m s b x), 0) := by
  rcases inverse_cases x with ⟨_, h1, h2⟩ | ⟨_, _, h⟩ | ⟨m', s', b', hs', hl', hx', h⟩
  · rcases hs with ⟨rfl, _⟩ | ⟨rfl, _⟩
    · exact absurd hl h1
    · exact absurd hl h2
  · exact absurd hx h
  · obtain rfl : m' = m := by omega
    rcases hs with ⟨rfl, rfl, rfl⟩ | ⟨rfl, rfl, rfl⟩ <;> rcases hs' with ⟨h1, rfl, rfl⟩ | ⟨h1, rfl, rfl⟩
    · exact h
    · omega
    · omega
    · exact h
theorem forward_cases (z : List Int) : (mdct_Forward.f z = some ([], 4) ∧ z.length ≠ 512 ∧ z.length ≠ 64) ∨ (mdct_Forward.f z = some ([], 2) ∧ (z.length = 512 ∨ z.length = 64) ∧ ¬ AllIn 8388608 z) ∨
    ∃ m s b, Sized m s b ∧ z.length = 2 * m ∧ AllIn 8388608 z ∧ mdct_Forward.f z = some ((List.range m).map (lineAt m s z), 0) := by
  unfold mdct_Forward.f
  by_cases h1 : z.length = 512
  · rw [if_pos h1]
    by_cases h2 : z.any (oddB 8388608) = true
    · rw [if_pos h2]
      exact .inr (.inl ⟨rfl, .inl h1, fun h => by rw [any_of_allIn h] at h2; cases h2⟩)
    · rw [if_neg h2]
      have hx := allIn_of_any (Bool.eq_false_iff.mpr h2)
      exact .inr (.inr ⟨256, 1, 26, .inl ⟨rfl, rfl, rfl⟩, h1, hx, by rw [lines_is (m := 256) (.inl ⟨rfl, rfl, rfl⟩) h1 hx]⟩)
  · rw [if_neg h1]
    by_cases h3 : z.length = 64
    · rw [if_pos h3]
      by_cases h2 : z.any (oddB 8388608) = true
      · rw [if_pos h2]
        exact .inr (.inl ⟨rfl, .inr h3, fun h => by rw [any_of_allIn h] at h2; cases h2⟩)
      · rw [if_neg h2]
        have hx := allIn_of_any (Bool.eq_false_iff.mpr h2)
        exact .inr (.inr ⟨32, 8, 23, .inr ⟨rfl, rfl, rfl⟩, h3, hx, by rw [lines_is (m := 32) (.inr ⟨rfl, rfl, rfl⟩) h3 hx]⟩)
    · rw [if_neg h3]
      exact .inl ⟨rfl, h1, h3⟩
theorem forward_yes {m b : Nat} {s : Int} (hs : Sized m s b) {z : List Int} (hl : z.length = 2 * m) (hz : AllIn 8388608 z) : mdct_Forward.f z = some ((List.range m).map (lineAt m s z), 0) := by
  rcases forward_cases z with ⟨_, h1, h2⟩ | ⟨_, _, h⟩ | ⟨m', s', b', hs', hl', hx', h⟩
  · rcases hs with ⟨rfl, _⟩ | ⟨rfl, _⟩
    · exact absurd hl h1
    · exact absurd hl h2
  · exact absurd hz h
  · obtain rfl : m' = m := by omega
    rcases hs with ⟨rfl, rfl, rfl⟩ | ⟨rfl, rfl, rfl⟩ <;> rcases hs' with ⟨h1, rfl, rfl⟩ | ⟨h1, rfl, rfl⟩
    · exact h
    · omega
    · omega
    · exact h
theorem rd_map_range {f : Nat → Int} {n i : Nat} (h : i < n) : rd ((List.range n).map f) (i : Int) = f i := by
  unfold rd
  rw [show ((i : Int)).toNat = i by omega, List.getD_eq_getElem?_getD, List.getElem?_map, List.getElem?_range h]; rfl

/-! ### folding -/
end Go.Proofs.Ytpoppdaaodmicaa.Q

/- Plain facts on lines and numbers: noughts; bounds. -/
namespace Go.Proofs.Ytpoppdaaodmicaa.Q
open Go.RowKit Go.Proofs.YtpoppdaaodmicaaW.PrintWords Go.Proofs.YtpoppdaaodmicaaW.PrintLast Go.Proofs.YtpoppdaaodmicaaW.PrintMore

/-- Bounds. -/
theorem back_bound {m b : Nat} {s : Int} (hs : Sized m s b) {x : List Int} (hl : x.length = m) (hx : AllIn 268435455 x) (n : Nat) : -1099511627776 ≤ backAt m s b x n ∧ backAt m s b x n ≤ 1099511627776 := by
  unfold backAt rnd
  have hd := dot_le (b := 2 * ((2 * (n : Int) + 1 + (m : Int)) * s)) (a := (2 * (n : Int) + 1 + (m : Int)) * s) hx (by rcases hs with ⟨rfl, _⟩ | ⟨rfl, _⟩ <;> omega)
  generalize dot (2 * ((2 * (n : Int) + 1 + (m : Int)) * s)) x ((2 * (n : Int) + 1 + (m : Int)) * s) = d at *
  rcases hs with ⟨rfl, rfl, rfl⟩ | ⟨rfl, rfl, rfl⟩ <;> omega
end Go.Proofs.Ytpoppdaaodmicaa.Q

/- Plain facts on block.Analyse: which errors, and whose lines. -/
namespace Go.Proofs.Ytpoppdaaodmicaa.Q
open Go.RowKit Go.Proofs.YtpoppdaaodmicaaW.PrintWords Go.Proofs.YtpoppdaaodmicaaW.PrintLast Go.Proofs.YtpoppdaaodmicaaW.PrintMore

/-! ### what is asked -/
theorem mn_lt (a b t : Int) : mn a b < t ↔ a < t ∨ b < t := by unfold mn; split <;> omega
theorem mx_gt (a b t : Int) : mx a b > t ↔ a > t ∨ b > t := by unfold mx; split <;> omega
theorem fold_mn_lt {l : List Int} {t : Int} : ∀ {j : Nat}, 1 ≤ j → j ≤ l.length → (foldAt mn l j < t ↔ ∃ i : Nat, i < j ∧ rd l (i : Int) < t)
  | 0, h, _ => by omega
  | 1, _, _ => by
    rw [foldAt_one]
    exact ⟨fun h => ⟨0, by omega, h⟩, fun ⟨i, h1, h2⟩ => by obtain rfl : i = 0 := by omega
                                                            exact h2⟩
  | j + 2, _, h => by
    rw [foldAt_snoc mn (by omega) (by omega), mn_lt, fold_mn_lt (j := j + 1) (by omega) (by omega)]
    constructor
    · rintro (⟨i, h1, h2⟩ | h2)
      · exact ⟨i, by omega, h2⟩
      · exact ⟨j + 1, by omega, h2⟩
    · rintro ⟨i, h1, h2⟩
      by_cases e : i = j + 1
      · subst e; exact .inr h2
      · exact .inl ⟨i, by omega, h2⟩
theorem fold_mx_gt {l : List Int} {t : Int} : ∀ {j : Nat}, 1 ≤ j → j ≤ l.length → (foldAt mx l j > t ↔ ∃ i : Nat, i < j ∧ rd l (i : Int) > t)
  | 0, h, _ => by omega
  | 1, _, _ => by
    rw [foldAt_one]
    exact ⟨fun h => ⟨0, by omega, h⟩, fun ⟨i, h1, h2⟩ => by obtain rfl : i = 0 := by omega
                                                            exact h2⟩
  | j + 2, _, h => by
    rw [foldAt_snoc mx (by omega) (by omega), mx_gt, fold_mx_gt (j := j + 1) (by omega) (by omega)]
    constructor
    · rintro (⟨i, h1, h2⟩ | h2)
      · exact ⟨i, by omega, h2⟩
      · exact ⟨j + 1, by omega, h2⟩
    · rintro ⟨i, h1, h2⟩
      by_cases e : i = j + 1
      · subst e; exact .inr h2
      · exact .inl ⟨i, by omega, h2⟩
/-- May a sequence and shapes be? -/
def MayBe (a0 a1 a2 : Int) : Prop := a0 ≤ 3 ∧ a1 ≤ 1 ∧ a2 ≤ 1
/-- Are all numbers of a list from low to high? -/
def Between (low high : Int) (l : List Int) : Prop := ∀ i : Nat, i < l.length → low ≤ rd l (i : Int) ∧ rd l (i : Int) ≤ high
theorem asked_cases (a0 a1 a2 : Int) (l : List Int) {many : Nat} {low high : Int} (hm : 0 < many) {k : Nat} (hk : 1 ≤ k) :
    (block_asked.f k a0 a1 a2 l (many : Int) low high = some 2 ∧ (¬ MayBe a0 a1 a2 ∨ (l.length = many ∧ ¬ Between low high l))) ∨ (block_asked.f k a0 a1 a2 l (many : Int) low high = some 4 ∧ MayBe a0 a1 a2 ∧ l.length ≠ many) ∨
    (block_asked.f k a0 a1 a2 l (many : Int) low high = some 0 ∧ MayBe a0 a1 a2 ∧ l.length = many ∧ Between low high l) := by
  obtain ⟨k, rfl⟩ : ∃ j, k = j + 1 := ⟨k - 1, by omega⟩
  have ht : block_asked.j0 (k + 1) l (many : Int) low high true = some 2 := by rw [block_asked.j0.eq_2, if_pos rfl]
  unfold block_asked.f
  by_cases h0 : a0 > 3
  · rw [if_pos h0, ht]
    exact .inl ⟨rfl, .inl (fun h => by unfold MayBe at h; omega)⟩
  · rw [if_neg h0]
    unfold block_shaped.f
    by_cases h1 : a1 ≤ 1
    · rw [if_pos h1, Option.bind_some]
      by_cases h2 : a2 ≤ 1
      · have hmay : MayBe a0 a1 a2 := ⟨by omega, h1, h2⟩
        rw [decide_eq_true h2, show (!true) = false from rfl, block_asked.j0.eq_2, if_neg (by simp)]
        by_cases hl : (l.length : Int) = (many : Int)
        · have hl' : l.length = many := by omega
          rw [if_pos hl]
          unfold slices_Min_int_int.f slices_Max_int_int.f
          rw [if_neg (by omega), Option.bind_some]
          by_cases h3 : foldAt mn l l.length < low
          · rw [if_pos h3]
            obtain ⟨i, hi, hlt⟩ := (fold_mn_lt (by omega) (Nat.le_refl _)).1 h3
            exact .inl ⟨rfl, .inr ⟨hl', fun hb => by have := hb i hi; omega⟩⟩
          · rw [if_neg h3, if_neg (by omega), Option.bind_some]
            by_cases h4 : foldAt mx l l.length > high
            · rw [if_pos h4]
              obtain ⟨i, hi, hlt⟩ := (fold_mx_gt (by omega) (Nat.le_refl _)).1 h4
              exact .inl ⟨rfl, .inr ⟨hl', fun hb => by have := hb i hi; omega⟩⟩
            · rw [if_neg h4]
              refine .inr (.inr ⟨rfl, hmay, hl', fun i hi => ⟨?_, ?_⟩⟩)
              · by_cases h : low ≤ rd l (i : Int)
                · exact h
                · exact absurd ((fold_mn_lt (by omega) (Nat.le_refl _)).2 ⟨i, hi, by omega⟩) h3
              · by_cases h : rd l (i : Int) ≤ high
                · exact h
                · exact absurd ((fold_mx_gt (by omega) (Nat.le_refl _)).2 ⟨i, hi, by omega⟩) h4
        · rw [if_neg hl]
          exact .inr (.inl ⟨rfl, hmay, by omega⟩)
      · rw [decide_eq_false h2, show (!false) = true from rfl, ht]
        exact .inl ⟨rfl, .inl (fun h => by unfold MayBe at h; omega)⟩
    · rw [if_neg h1, Option.bind_some, show (!false) = true from rfl, ht]
      exact .inl ⟨rfl, .inl (fun h => by unfold MayBe at h; omega)⟩
/-! ### each number times a value -/
def timesL (b : Nat) (l v : List Int) : List Int := (List.range l.length).map fun i : Nat => rnd b (rd l (i : Int) * rd v (i : Int))
theorem times_l0 {b : Nat} (hb : 1 ≤ b ∧ b ≤ 62) {l v : List Int} (hl : l.length ≤ 1000) (hv : l.length ≤ v.length) (hx : ∀ i : Nat, i < l.length → -4611686018427387904 ≤ rd l (i : Int) * rd v (i : Int) ∧ rd l (i : Int) * rd v (i : Int) ≤ 4611686018427387904) (d : Nat) : ∀ (k i : Nat), i + d = l.length → d + 5 ≤ k →
    block_times.l0 k v (b : Int) ((timesL b l v).take i ++ List.replicate (l.length - i) 0) l (l.length : Int) (i : Int) = some (timesL b l v) := by
  have hT : (timesL b l v).length = l.length := by unfold timesL; rw [List.length_map, List.length_range]
  induction d with
  | zero =>
    intro k i hi hk
    obtain ⟨k, rfl⟩ : ∃ j, k = j + 1 := ⟨k - 1, by omega⟩
    obtain rfl : i = l.length := by omega
    rw [block_times.l0.eq_2, if_neg (by omega), Nat.sub_self, List.replicate_zero, List.append_nil, List.take_of_length_le (by omega)]
  | succ d ih =>
    intro k i hi hk
    obtain ⟨k, rfl⟩ : ∃ j, k = j + 1 := ⟨k - 1, by omega⟩
    have him : i < l.length := by omega
    have e := ih k (i + 1) (by omega) (by omega)
    rw [show (((i + 1 : Nat)) : Int) = (i : Int) + 1 by omega] at e
    have hv1 : (timesL b l v)[i]? = some (rnd b (rd l (i : Int) * rd v (i : Int))) := by
      unfold timesL
      rw [List.getElem?_map, List.getElem?_range him]; rfl
    have f1 := fillM_set him hv1
    have g1 := fillM_length (n := l.length) (i := i) (t := timesL b l v) (by omega) hT
    have c0 : (i : Int) < (l.length : Int) := by omega
    have c1 : (0 : Int) ≤ (i : Int) := by omega
    have c2 : (i : Int) < (v.length : Int) := by omega
    have c3 : (i : Int) < ((((timesL b l v).take i ++ List.replicate (l.length - i) 0).length : Nat) : Int) := by omega
    have c4 : wrap64 ((i : Int) + 1) = (i : Int) + 1 := wrap_in (by omega) (by omega)
    have hxi := hx i him
    have c5 : wrap64 (rd l (i : Int) * rd v (i : Int)) = rd l (i : Int) * rd v (i : Int) := wrap_in (by omega) (by omega)
    have hr := round_is (n := rd l (i : Int) * rd v (i : Int)) (b := b) (k := k) hxi.1 hxi.2 hb.1 hb.2 (by omega)
    rw [block_times.l0.eq_2, if_pos c0, if_pos c1, if_pos c0, if_pos c2, c5, hr, Option.bind_some, if_pos c3, c4, show ((i : Int)).toNat = i by omega]
    dsimp only
    rw [f1]
    exact e
theorem times_is {b : Nat} (hb : 1 ≤ b ∧ b ≤ 62) {l v : List Int} (hl : l.length ≤ 1000) (hv : l.length ≤ v.length) (hx : ∀ i : Nat, i < l.length → -4611686018427387904 ≤ rd l (i : Int) * rd v (i : Int) ∧ rd l (i : Int) * rd v (i : Int) ≤ 4611686018427387904) {k : Nat} (hk : 1100 ≤ k) : block_times.f k l v (b : Int) = some (timesL b l v) := by
  have h := times_l0 hb hl hv hx l.length k 0 (by omega) (by omega)
  rw [List.take_zero, List.nil_append, Nat.sub_zero] at h
  unfold block_times.f
  rw [if_pos (by omega), if_pos (by omega), Int.toNat_natCast]
  exact h

/-! ### one window's lines -/
theorem mul_in' {X Y x y : Int} (hx : -X ≤ x ∧ x ≤ X) (hy : -Y ≤ y ∧ y ≤ Y) : -(X * Y) ≤ x * y ∧ x * y ≤ X * Y := by
  have h := Int.natAbs_mul x y
  have h1 : x.natAbs * y.natAbs ≤ X.natAbs * Y.natAbs := Nat.mul_le_mul (by omega) (by omega)
  have h2 := Int.natAbs_mul X Y
  have h3 : 0 ≤ X * Y := Int.mul_nonneg (by omega) (by omega)
  omega
/-- A sample under a window's value. -/
def zAt (l : List Int) (p : Nat) (X : List Int) (n : Nat) : Int := rnd 14 (rd l ((p + n : Nat) : Int) * rd X (n : Int))
def zL (l : List Int) (p : Nat) (X : List Int) : List Int := (List.range X.length).map (zAt l p X)
/-- A window's values are from 0 to one. -/
def WinIn (X : List Int) : Prop := ∀ n : Nat, 0 ≤ rd X (n : Int) ∧ rd X (n : Int) ≤ 4194304
theorem rd_cut {l : List Int} {p m i : Nat} (hi : i < m) : rd ((l.drop p).take m) (i : Int) = rd l ((p + i : Nat) : Int) := by
  unfold rd
  rw [show ((i : Int)).toNat = i by omega, show (((p + i : Nat) : Int)).toNat = p + i by omega, List.getD_eq_getElem?_getD, List.getD_eq_getElem?_getD, List.getElem?_take_of_lt hi, List.getElem?_drop]
theorem prod_in {x y : Int} (hx : -32768 ≤ x ∧ x ≤ 32767) (hy : 0 ≤ y ∧ y ≤ 4194304) : -137438953472 ≤ x * y ∧ x * y ≤ 137438953472 := by
  have := mul_in' (X := 32768) (Y := 4194304) (x := x) (y := y) (by omega) (by omega)
  omega
theorem zAt_bound {l X : List Int} (hl : Between (-32768) 32767 l) (hX : WinIn X) {p n : Nat} (h : p + n < l.length) : -8388608 ≤ zAt l p X n ∧ zAt l p X n ≤ 8388608 := by
  have := prod_in (hl (p + n) h) (hX n)
  unfold zAt rnd
  rw [show (2 : Int) ^ (14 - 1) = 8192 from rfl, show (2 : Int) ^ 14 = 16384 from rfl]
  omega
theorem zL_in {l X : List Int} (hl : Between (-32768) 32767 l) (hX : WinIn X) {p : Nat} (h : p + X.length ≤ l.length) : AllIn 8388608 (zL l p X) := by
  intro x hx
  obtain ⟨n, hn, rfl⟩ := List.mem_map.1 hx
  have hn' : n < X.length := by simpa using hn
  exact zAt_bound hl hX (by omega)
theorem step_is {m b : Nat} {s : Int} (hs : Sized m s b) {l X : List Int} (hl : Between (-32768) 32767 l) (hll : l.length ≤ 1000) (hX : WinIn X) (hXl : X.length = 2 * m) {p : Nat} (h : p + 2 * m ≤ l.length) :
    stepOf l p X = some ((List.range m).map (lineAt m s (zL l p X))) := by
  have hm : 1 ≤ m ∧ m ≤ 256 := by rcases hs with ⟨rfl, _⟩ | ⟨rfl, _⟩ <;> omega
  have hcl : ((l.drop p).take X.length).length = X.length := by rw [List.length_take, List.length_drop]; omega
  have hT : block_times.f 3000 ((l.drop p).take X.length) X 14 = some (zL l p X) := by
    have h1 := times_is (b := 14) (by omega) (l := (l.drop p).take X.length) (v := X) (by omega) (by omega) (fun i hi => by
      rw [hcl] at hi
      rw [rd_cut hi]
      have := prod_in (hl (p + i) (by omega)) (hX i)
      omega) (k := 3000) (by omega)
    rw [show ((14 : Nat) : Int) = 14 from rfl] at h1
    rw [h1]
    unfold timesL zL
    rw [hcl]
    congr 1
    refine List.map_congr_left fun i hi => ?_
    have hi' : i < X.length := by simpa using hi
    unfold zAt
    rw [rd_cut hi']
  have hz : (zL l p X).length = 2 * m := by unfold zL; rw [List.length_map, List.length_range, hXl]
  have hF := forward_yes hs hz (zL_in hl hX (by omega))
  have hll2 : ((List.range m).map (lineAt m s (zL l p X))).length = m := by rw [List.length_map, List.length_range]
  unfold stepOf
  rw [if_pos (by omega), hT]
  unfold lineStep
  rw [Option.bind_some, hF, Option.bind_some, if_pos rfl, if_pos (by dsimp only; rw [hll2]; omega)]
/-! ### the windows of a frame -/
def litL (i : Nat) (a1 a2 : Int) : List Int := (if i = 0 then halfL a1 true else halfL a2 true) ++ (halfL a2 true).reverse
def anWin (a0 a1 a2 : Int) (i : Nat) : List Int := if a0 = 2 then litL i a1 a2 else winL a0 a1 a2
def anPos (a0 : Int) (i : Nat) : Nat := if a0 = 2 then 112 + 32 * i else 0
def anN (a0 : Int) : Nat := if a0 = 2 then 8 else 1
def anM (a0 : Int) : Nat := if a0 = 2 then 32 else 256
def anS (a0 : Int) : Int := if a0 = 2 then 8 else 1
def anB (a0 : Int) : Nat := if a0 = 2 then 23 else 26
theorem an_sized (a0 : Int) : Sized (anM a0) (anS a0) (anB a0) := by
  unfold anM anS anB
  by_cases h : a0 = 2
  · rw [if_pos h, if_pos h, if_pos h]; exact .inr ⟨rfl, rfl, rfl⟩
  · rw [if_neg h, if_neg h, if_neg h]; exact .inl ⟨rfl, rfl, rfl⟩
theorem litL_length (i : Nat) (a1 a2 : Int) : (litL i a1 a2).length = 64 := by
  unfold litL
  rw [List.length_append, List.length_reverse, halfL_length]
  split <;> rw [halfL_length] <;> rfl
theorem anWin_length (a0 a1 a2 : Int) (i : Nat) : (anWin a0 a1 a2 i).length = 2 * anM a0 := by
  unfold anWin anM
  by_cases h : a0 = 2
  · rw [if_pos h, if_pos h, litL_length]
  · rw [if_neg h, if_neg h, winL_length]
theorem halfL_in {a0 : Int} (h : a0 = 0 ∨ a0 = 1) (a1 : Bool) : ∀ x ∈ halfL a0 a1, 0 ≤ x ∧ x ≤ 4194304 := by
  intro x hx
  obtain ⟨n, hn, rfl⟩ := List.getElem_of_mem hx
  obtain ⟨h1, h2, _⟩ := power_at (half_power h a1) hn
  rw [List.getD_eq_getElem?_getD, List.getElem?_eq_getElem hn] at h1 h2
  exact ⟨Int.le_of_lt h1, h2⟩
theorem winIn_of {X : List Int} (h : ∀ x ∈ X, 0 ≤ x ∧ x ≤ 4194304) : WinIn X := by
  intro n
  unfold rd
  rw [show ((n : Int)).toNat = n by omega, List.getD_eq_getElem?_getD]
  by_cases hn : n < X.length
  · rw [List.getElem?_eq_getElem hn]
    exact h _ (List.getElem_mem hn)
  · rw [List.getElem?_eq_none (by omega)]
    exact ⟨Int.le_refl _, by decide⟩
theorem anWin_in {a0 a1 a2 : Int} (h1 : a1 = 0 ∨ a1 = 1) (h2 : a2 = 0 ∨ a2 = 1) (i : Nat) : WinIn (anWin a0 a1 a2 i) := by
  refine winIn_of fun x hx => ?_
  have hr : ∀ v n, x ∈ List.replicate n v → 0 ≤ v ∧ v ≤ 4194304 → 0 ≤ x ∧ x ≤ 4194304 := fun v n h hv => by rw [(List.mem_replicate.1 h).2]; exact hv
  unfold anWin litL winL firstL secondL at hx
  split at hx
  · rcases List.mem_append.1 hx with h | h
    · split at h
      · exact halfL_in h1 _ x h
      · exact halfL_in h2 _ x h
    · exact halfL_in h2 _ x (List.mem_reverse.1 h)
  · rcases List.mem_append.1 hx with h | h
    · split at h
      · rcases List.mem_append.1 h with h | h
        · exact hr 0 112 h (by decide)
        · rcases List.mem_append.1 h with h | h
          · exact halfL_in h1 _ x h
          · exact hr 4194304 112 h (by decide)
      · exact halfL_in h1 _ x h
    · split at h
      · rcases List.mem_append.1 h with h | h
        · exact hr 4194304 112 h (by decide)
        · rcases List.mem_append.1 h with h | h
          · exact halfL_in h2 _ x (List.mem_reverse.1 h)
          · exact hr 0 112 h (by decide)
      · exact halfL_in h2 _ x (List.mem_reverse.1 h)
/-- A window's lines. -/
def anLine (a0 a1 a2 : Int) (l : List Int) (i : Nat) : List Int := (List.range (anM a0)).map (lineAt (anM a0) (anS a0) (zL l (anPos a0 i) (anWin a0 a1 a2 i)))
def anL (a0 a1 a2 : Int) (l : List Int) : List Int := gather (anLine a0 a1 a2 l) (anN a0)
theorem anLine_length (a0 a1 a2 : Int) (l : List Int) (i : Nat) : (anLine a0 a1 a2 l i).length = anM a0 := by unfold anLine; rw [List.length_map, List.length_range]
theorem gather_length {out : Nat → List Int} {m : Nat} (h : ∀ i, (out i).length = m) : ∀ n, (gather out n).length = n * m
  | 0 => by rw [gather, Nat.zero_mul]; rfl
  | n + 1 => by rw [gather, List.length_append, gather_length h n, h, Nat.add_mul, Nat.one_mul]
theorem anL_length (a0 a1 a2 : Int) (l : List Int) : (anL a0 a1 a2 l).length = 256 := by
  unfold anL
  rw [gather_length (anLine_length a0 a1 a2 l)]
  unfold anN anM
  split <;> rfl
theorem gatherO_is {step : Nat → Option (List Int)} {out : Nat → List Int} : ∀ {n : Nat}, (∀ i, i < n → step i = some (out i)) → (∀ i, i < n → (gather out i).length ≤ 256) → gatherO step n = some (gather out n)
  | 0, _, _ => rfl
  | n + 1, h, hg => by
    rw [gatherO, gatherO_is (fun i hi => h i (by omega)) (fun i hi => hg i (by omega)), Option.bind_some, h n (by omega), Option.bind_some, if_pos (hg n (by omega)), gather]
theorem an_pos_le {a0 : Int} {i : Nat} (hi : i < anN a0) : anPos a0 i + 2 * anM a0 ≤ 512 := by
  unfold anN at hi
  unfold anPos anM
  by_cases h : a0 = 2
  · rw [if_pos h] at hi ⊢
    rw [if_pos h]
    omega
  · rw [if_neg h, if_neg h]
    omega
theorem analyse_yes {a0 a1 a2 : Int} (h0 : 0 ≤ a0 ∧ a0 ≤ 3) (h1 : a1 = 0 ∨ a1 = 1) (h2 : a2 = 0 ∨ a2 = 1) {l : List Int} (hl : l.length = 512) (hb : Between (-32768) 32767 l) : block_Analyse.f a0 a1 a2 l = some (anL a0 a1 a2 l, 0) := by
  have hask : block_asked.f 3000 a0 a1 a2 l 512 (-32768) 32767 = some 0 := by
    rcases asked_cases a0 a1 a2 l (many := 512) (low := -32768) (high := 32767) (by omega) (k := 3000) (by omega) with ⟨_, h | ⟨_, h⟩⟩ | ⟨_, _, h⟩ | ⟨h, _⟩
    · exact absurd (show MayBe a0 a1 a2 by unfold MayBe; omega) h
    · exact absurd hb h
    · exact absurd hl h
    · exact h
  have hg : ∀ i, i < anN a0 → (gather (anLine a0 a1 a2 l) i).length ≤ 256 := by
    intro i hi
    rw [gather_length (anLine_length a0 a1 a2 l)]
    unfold anN at hi
    unfold anM
    by_cases h : a0 = 2
    · rw [if_pos h] at hi ⊢
      omega
    · rw [if_neg h] at hi ⊢
      omega
  have hst : ∀ i, i < anN a0 → stepOf l (anPos a0 i) (anWin a0 a1 a2 i) = some (anLine a0 a1 a2 l i) := fun i hi =>
    step_is (an_sized a0) hb (by omega) (anWin_in h1 h2 i) (anWin_length a0 a1 a2 i) (by have := an_pos_le hi; omega)
  unfold block_Analyse.f
  rw [hask, Option.bind_some, if_pos rfl, if_pos hl]
  by_cases h : a0 = 2
  · have e1 : anN a0 = 8 := by unfold anN; rw [if_pos h]
    rw [if_pos h, bhalf_yes h1, Option.bind_some, bhalf_yes h2, Option.bind_some, fall_yes h2 (by omega), Option.bind_some, if_pos (by rw [List.length_reverse, halfL_length, halfL_length]; decide)]
    rw [e1] at hst hg
    rw [gatherO_is (out := anLine a0 a1 a2 l) (fun i hi => ?_) hg]
    · unfold anL; rw [e1]; rfl
    · have := hst i hi
      unfold anPos anWin litL at this
      rw [if_pos h, if_pos h] at this
      exact this
  · have e1 : anN a0 = 1 := by unfold anN; rw [if_neg h]
    rw [if_neg h, window_yes (by omega) h1 h2 (by omega), Option.bind_some, if_pos rfl]
    rw [e1] at hst hg
    rw [gatherO_is (out := anLine a0 a1 a2 l) (fun i hi => ?_) hg]
    · unfold anL; rw [e1]; rfl
    · have := hst i hi
      unfold anPos anWin at this
      rw [if_neg h, if_neg h] at this
      exact this
theorem analyse_no {a0 a1 a2 : Int} {l : List Int} : (∃ e, e ≠ 0 ∧ block_Analyse.f a0 a1 a2 l = some ([], e)) ∨ (MayBe a0 a1 a2 ∧ l.length = 512 ∧ Between (-32768) 32767 l) := by
  unfold block_Analyse.f
  rcases asked_cases a0 a1 a2 l (many := 512) (low := -32768) (high := 32767) (by omega) (k := 3000) (by omega) with ⟨h, _⟩ | ⟨h, _⟩ | ⟨_, h⟩
  · refine .inl ⟨2, by decide, ?_⟩
    rw [show ((512 : Nat) : Int) = 512 from rfl] at h
    rw [h, Option.bind_some, if_neg (by decide)]
  · refine .inl ⟨4, by decide, ?_⟩
    rw [show ((512 : Nat) : Int) = 512 from rfl] at h
    rw [h, Option.bind_some, if_neg (by decide)]
  · exact .inr h

end Go.Proofs.Ytpoppdaaodmicaa.Q

/- Plain facts on block.Synth: which errors, and whose numbers. -/
namespace Go.Proofs.Ytpoppdaaodmicaa.Q
open Go.RowKit Go.Proofs.YtpoppdaaodmicaaW.PrintWords Go.Proofs.YtpoppdaaodmicaaW.PrintLast Go.Proofs.YtpoppdaaodmicaaW.PrintMore

theorem between_all {X : Int} {l : List Int} (h : Between (-X) X l) : AllIn X l := by
  intro x hx
  obtain ⟨n, hn, rfl⟩ := List.getElem_of_mem hx
  have := h n hn
  unfold rd at this
  rw [show ((n : Int)).toNat = n by omega, List.getD_eq_getElem?_getD, List.getElem?_eq_getElem hn] at this
  exact this
theorem all_between {X : Int} {l : List Int} (h : AllIn X l) : Between (-X) X l := by
  intro n hn
  unfold rd
  rw [show ((n : Int)).toNat = n by omega, List.getD_eq_getElem?_getD, List.getElem?_eq_getElem hn]
  exact h _ (List.getElem_mem hn)
theorem all_cut {X : Int} {l : List Int} (h : AllIn X l) (o m : Nat) : AllIn X ((l.drop o).take m) := fun x hx => h x (List.mem_of_mem_drop (List.mem_of_mem_take hx))
/-- A window's numbers ahead of their window. -/
def bkL (a0 : Int) (l : List Int) (i : Nat) : List Int := (List.range (2 * anM a0)).map (backAt (anM a0) (anS a0) (anB a0) ((l.drop (anM a0 * i)).take (anM a0)))
/-- A window's numbers. -/
def snOut (a0 a1 a2 : Int) (l : List Int) (i : Nat) : List Int := timesL 26 (bkL a0 l i) (anWin a0 a1 a2 i)
theorem bkL_length (a0 : Int) (l : List Int) (i : Nat) : (bkL a0 l i).length = 2 * anM a0 := by unfold bkL; rw [List.length_map, List.length_range]
theorem snOut_length (a0 a1 a2 : Int) (l : List Int) (i : Nat) : (snOut a0 a1 a2 l i).length = 2 * anM a0 := by unfold snOut timesL; rw [List.length_map, List.length_range, bkL_length]
theorem an_len {a0 : Int} {l : List Int} (hl : l.length = 256) {i : Nat} (hi : i < anN a0) : ((l.drop (anM a0 * i)).take (anM a0)).length = anM a0 := by
  rw [List.length_take, List.length_drop]
  unfold anN at hi
  unfold anM
  by_cases h : a0 = 2
  · rw [if_pos h] at hi ⊢; omega
  · rw [if_neg h] at hi ⊢; omega
theorem prod_big {x y : Int} (hx : -1099511627776 ≤ x ∧ x ≤ 1099511627776) (hy : 0 ≤ y ∧ y ≤ 4194304) : -4611686018427387904 ≤ x * y ∧ x * y ≤ 4611686018427387904 := by
  have := mul_in' (X := 1099511627776) (Y := 4194304) (x := x) (y := y) (by omega) (by omega)
  omega
theorem anM_le (a0 : Int) : 32 ≤ anM a0 ∧ anM a0 ≤ 256 := by unfold anM; split <;> omega
theorem synOut_is {a0 a1 a2 : Int} (h1 : a1 = 0 ∨ a1 = 1) (h2 : a2 = 0 ∨ a2 = 1) {l : List Int} (hl : l.length = 256) (hb : AllIn 268435455 l) {i : Nat} (hi : i < anN a0) : synOut l (anM a0 * i) (anWin a0 a1 a2 i) = some (snOut a0 a1 a2 l i) := by
  have hm := anM_le a0
  have hX := anWin_length a0 a1 a2 i
  have hcl := an_len (a0 := a0) hl hi
  have h2m : (anWin a0 a1 a2 i).length / 2 = anM a0 := by omega
  have hpos : anM a0 * i + anM a0 ≤ l.length := by
    unfold anN at hi
    unfold anM
    by_cases h : a0 = 2
    · rw [if_pos h] at hi ⊢; omega
    · rw [if_neg h] at hi ⊢; omega
  have hI := inverse_yes (an_sized a0) hcl (all_cut hb _ _)
  have hlen : ((List.range (2 * anM a0)).map (backAt (anM a0) (anS a0) (anB a0) ((l.drop (anM a0 * i)).take (anM a0)))).length = 2 * anM a0 := by rw [List.length_map, List.length_range]
  have hT := times_is (b := 26) (by omega) (l := bkL a0 l i) (v := anWin a0 a1 a2 i) (by rw [bkL_length]; omega) (by rw [bkL_length]; omega) (fun n hn => by
    rw [bkL_length] at hn
    unfold bkL
    rw [rd_map_range hn]
    exact prod_big (back_bound (an_sized a0) hcl (all_cut hb _ _) n) (anWin_in (a0 := a0) h1 h2 i n)) (k := 3000) (by omega)
  rw [show ((26 : Nat) : Int) = 26 from rfl] at hT
  unfold synOut
  rw [if_pos (by omega), h2m, hI]
  unfold synOf
  rw [Option.bind_some, if_pos rfl]
  exact hT
def snL (a0 a1 a2 : Int) (l : List Int) : List Int := accL (anPos a0) (snOut a0 a1 a2 l) (anN a0)
theorem gatherS_is {pos : Nat → Nat} {step : Nat → Option (List Int)} {out : Nat → List Int} : ∀ {n : Nat}, (∀ i, i < n → step i = some (out i)) → (∀ i, i < n → pos i + (out i).length ≤ 512) → gatherS pos step n = some (accL pos out n)
  | 0, _, _ => rfl
  | n + 1, h, hg => by
    rw [gatherS, gatherS_is (fun i hi => h i (by omega)) (fun i hi => hg i (by omega)), Option.bind_some, h n (by omega), Option.bind_some, if_pos (hg n (by omega)), accL]
theorem synth_yes {a0 a1 a2 : Int} (h0 : 0 ≤ a0 ∧ a0 ≤ 3) (h1 : a1 = 0 ∨ a1 = 1) (h2 : a2 = 0 ∨ a2 = 1) {l : List Int} (hl : l.length = 256) (hb : AllIn 268435455 l) : block_Synth.f a0 a1 a2 l = some (snL a0 a1 a2 l, 0) := by
  have hask : block_asked.f 3000 a0 a1 a2 l 256 (-268435455) 268435455 = some 0 := by
    rcases asked_cases a0 a1 a2 l (many := 256) (low := -268435455) (high := 268435455) (by omega) (k := 3000) (by omega) with ⟨_, h | ⟨_, h⟩⟩ | ⟨_, _, h⟩ | ⟨h, _⟩
    · exact absurd (show MayBe a0 a1 a2 by unfold MayBe; omega) h
    · exact absurd (all_between hb) h
    · exact absurd hl h
    · exact h
  have hg : ∀ i, i < anN a0 → anPos a0 i + (snOut a0 a1 a2 l i).length ≤ 512 := fun i hi => by rw [snOut_length]; exact an_pos_le hi
  have hst : ∀ i, i < anN a0 → synOut l (anM a0 * i) (anWin a0 a1 a2 i) = some (snOut a0 a1 a2 l i) := fun i hi => synOut_is h1 h2 hl hb hi
  unfold block_Synth.f
  rw [hask, Option.bind_some, if_pos rfl, if_pos hl]
  by_cases h : a0 = 2
  · have e1 : anN a0 = 8 := by unfold anN; rw [if_pos h]
    have e2 : anM a0 = 32 := by unfold anM; rw [if_pos h]
    have e3 : anPos a0 = fun i => 112 + 32 * i := by funext i; unfold anPos; rw [if_pos h]
    rw [if_pos h, bhalf_yes h1, Option.bind_some, bhalf_yes h2, Option.bind_some, fall_yes h2 (by omega), Option.bind_some, if_pos (by rw [List.length_reverse, halfL_length, halfL_length]; decide)]
    rw [e1] at hst hg
    rw [e3] at hg
    rw [gatherS_is (out := snOut a0 a1 a2 l) (fun i hi => ?_) hg]
    · unfold snL; rw [e1, e3]; rfl
    · have := hst i hi
      rw [e2] at this
      unfold anWin litL at this
      rw [if_pos h] at this
      exact this
  · have e1 : anN a0 = 1 := by unfold anN; rw [if_neg h]
    have e3 : anPos a0 = fun _ => 0 := by funext i; unfold anPos; rw [if_neg h]
    rw [if_neg h, window_yes (by omega) h1 h2 (by omega), Option.bind_some, if_pos rfl]
    rw [e1] at hst hg
    rw [e3] at hg
    rw [gatherS_is (out := snOut a0 a1 a2 l) (fun i hi => ?_) hg]
    · unfold snL; rw [e1, e3]; rfl
    · have := hst i hi
      obtain rfl : i = 0 := by omega
      unfold anWin at this
      rw [Nat.mul_zero, if_neg h] at this
      exact this
theorem synth_no {a0 a1 a2 : Int} {l : List Int} : (∃ e, e ≠ 0 ∧ block_Synth.f a0 a1 a2 l = some ([], e) ∧ (¬ MayBe a0 a1 a2 → e = 2) ∧ (MayBe a0 a1 a2 → l.length ≠ 256 → e = 4)) ∨ (MayBe a0 a1 a2 ∧ l.length = 256 ∧ AllIn 268435455 l) := by
  unfold block_Synth.f
  rcases asked_cases a0 a1 a2 l (many := 256) (low := -268435455) (high := 268435455) (by omega) (k := 3000) (by omega) with ⟨h, h'⟩ | ⟨h, h', h''⟩ | ⟨_, h, h', h''⟩
  · refine .inl ⟨2, by decide, ?_, fun _ => rfl, fun g1 g2 => ?_⟩
    · rw [show ((256 : Nat) : Int) = 256 from rfl] at h
      rw [h, Option.bind_some, if_neg (by decide)]
    · rcases h' with h' | ⟨h', _⟩
      · exact absurd g1 h'
      · exact absurd h' g2
  · refine .inl ⟨4, by decide, ?_, fun g => absurd h' g, fun _ _ => rfl⟩
    rw [show ((256 : Nat) : Int) = 256 from rfl] at h
    rw [h, Option.bind_some, if_neg (by decide)]
  · exact .inr ⟨h, h', between_all h''⟩
/-! ### the numbers, one by one -/
end Go.Proofs.Ytpoppdaaodmicaa.Q

-- Written by a program of this session's (wip/mk.py, over the kit's print.py); Lean checks it.
namespace Go.Proofs.Ytpoppdaaodmicaa.Q
open Go.RowKit Go.Proofs.YtpoppdaaodmicaaW.PrintWords Go.Proofs.YtpoppdaaodmicaaW.PrintLast Go.Proofs.YtpoppdaaodmicaaW.PrintMore
attribute [local go_sem] max2_int min2_int max_two min_two max_three min_three max_four min_four   -- for this text's walks alone
set_option linter.unusedVariables false
set_option linter.unusedSimpArgs false

/-! ### reedpipelaw12_noughts: function 54 -/
end Go.Proofs.Ytpoppdaaodmicaa.Q

-- Written by a program of this session's (wip/mk.py, over the kit's print.py); Lean checks it.
namespace Go.Proofs.Ytpoppdaaodmicaa.Q
open Go.RowKit Go.Proofs.YtpoppdaaodmicaaW.PrintWords Go.Proofs.YtpoppdaaodmicaaW.PrintLast Go.Proofs.YtpoppdaaodmicaaW.PrintMore
attribute [local go_sem] max2_int min2_int max_two min_two max_three min_three max_four min_four   -- for this text's walks alone
set_option linter.unusedVariables false
set_option linter.unusedSimpArgs false

/-! ### reedpipelaw12_alive: function 51 -/
end Go.Proofs.Ytpoppdaaodmicaa.Q

/- The laws of layer 12: what they all begin with. -/
namespace Go.Proofs.Ytpoppdaaodmicaa.Q
open Go.RowKit Go.Proofs.YtpoppdaaodmicaaW.PrintWords Go.Proofs.YtpoppdaaodmicaaW.PrintLast Go.Proofs.YtpoppdaaodmicaaW.PrintMore

end Go.Proofs.Ytpoppdaaodmicaa.Q

/- Plain facts on sums: forward and back, samples come to themselves, less or and their mirror. -/
namespace Go.Proofs.Ytpoppdaaodmicaa.Q
open Go.RowKit Go.Proofs.YtpoppdaaodmicaaW.PrintWords Go.Proofs.YtpoppdaaodmicaaW.PrintLast Go.Proofs.YtpoppdaaodmicaaW.PrintMore

/-! ### finite sums -/
def sm : Nat → (Nat → Int) → Int
  | 0, _ => 0
  | n + 1, f => sm n f + f n
theorem sm_congr {f g : Nat → Int} : ∀ {n : Nat}, (∀ i, i < n → f i = g i) → sm n f = sm n g
  | 0, _ => rfl
  | n + 1, h => by rw [sm, sm, sm_congr (fun i hi => h i (by omega)), h n (by omega)]
theorem sm_head (f : Nat → Int) : ∀ n : Nat, sm (n + 1) f = f 0 + sm n (fun i => f (i + 1))
  | 0 => by simp [sm]
  | n + 1 => by rw [sm, sm_head f n, sm]; omega
theorem sm_bound {f : Nat → Int} {B : Int} : ∀ {n : Nat}, (∀ i, i < n → -B ≤ f i ∧ f i ≤ B) → -((n : Int) * B) ≤ sm n f ∧ sm n f ≤ (n : Int) * B
  | 0, _ => by simp [sm]
  | n + 1, h => by
    have h1 := sm_bound (n := n) (fun i hi => h i (by omega))
    have h2 := h n (by omega)
    rw [sm, show (((n + 1 : Nat)) : Int) = (n : Int) + 1 by omega, Int.add_mul, Int.one_mul]
    generalize (n : Int) * B = z at *
    omega
theorem dot_sm (b : Int) : ∀ (l : List Int) (a : Int), dot b l a = sm l.length (fun i => rd l (i : Int) * Tab.C (a + i * b))
  | [], _ => rfl
  | x :: r, a => by
    rw [dot, dot_sm b r, List.length_cons, sm_head]
    congr 1
    · rw [show ((0 : Nat) : Int) * b = 0 by simp, Int.add_zero]; rfl
    · refine sm_congr fun i _ => ?_
      rw [show a + b + (i : Int) * b = a + ((i + 1 : Nat) : Int) * b by rw [show (((i + 1 : Nat)) : Int) = (i : Int) + 1 by omega, Int.add_mul]; omega]
      rfl

/-! ### cosines of one line over all lines -/
/-- The arc of place n and line k. -/
def arcAt (m : Nat) (s : Int) (n k : Nat) : Int := (2 * (n : Int) + 1 + (m : Int)) * ((2 * (k : Int) + 1) * s)
/-- A sum of cosines of odd multiples. -/
def zs (m : Nat) (s j : Int) : Int := sm m (fun k => Tab.C (2 * j * ((2 * (k : Int) + 1) * s)))
/-! ### two cosines multiplied -/
/-! ### forward and back -/
/-- A line's sum ahead of rounding. -/
def lineSum (m : Nat) (s : Int) (z : List Int) (k : Nat) : Int := sm (2 * m) (fun i => rd z (i : Int) * Tab.C (arcAt m s i k))
theorem lineAt_sum {m : Nat} {s : Int} {z : List Int} (hl : z.length = 2 * m) (k : Nat) : lineAt m s z k = rnd 33 (lineSum m s z k) := by
  unfold lineAt lineSum
  rw [dot_sm, hl]
  congr 1
  refine sm_congr fun i _ => ?_
  congr 2
  unfold arcAt
  rw [← Int.mul_assoc (i : Int) 2, ← Int.add_mul]
  congr 1
  omega
theorem backAt_sum {m b : Nat} {s : Int} {x : List Int} (hl : x.length = m) (n : Nat) : backAt m s b x n = rnd b (sm m (fun k => rd x (k : Int) * Tab.C (arcAt m s n k))) := by
  unfold backAt
  rw [dot_sm, hl]
  congr 1
  refine sm_congr fun k _ => ?_
  congr 2
  unfold arcAt
  generalize 2 * (n : Int) + 1 + (m : Int) = a
  rw [← Int.mul_assoc 2 a s, Int.mul_comm 2 a, Int.mul_assoc a 2 s, ← Int.mul_assoc (k : Int) a, Int.mul_comm (k : Int) a, Int.mul_assoc a (k : Int), ← Int.mul_add, ← Int.mul_assoc (k : Int) 2 s, Int.mul_comm (k : Int) 2, Int.add_mul, Int.one_mul, Int.add_comm s]
end Go.Proofs.Ytpoppdaaodmicaa.Q

/- Plain facts on block.Synth, one by one: each number is a sum of what its windows bear; noughts; what hangs on what. -/
namespace Go.Proofs.Ytpoppdaaodmicaa.Q
open Go.RowKit Go.Proofs.YtpoppdaaodmicaaW.PrintWords Go.Proofs.YtpoppdaaodmicaaW.PrintLast Go.Proofs.YtpoppdaaodmicaaW.PrintMore

theorem snL_length (a0 a1 a2 : Int) (l : List Int) : (snL a0 a1 a2 l).length = 512 := accL_length _ _ _
/-! ### noughts -/
/-! ### what Analyse answers may be synthesised -/
end Go.Proofs.Ytpoppdaaodmicaa.Q

/- What the document's own Cos and Sin answer: the same cosines, of any number of parts that is an int. -/
namespace Go.Proofs.Ytpoppdaaodmicaa.Q
open Go.RowKit Go.Proofs.YtpoppdaaodmicaaW.PrintWords Go.Proofs.YtpoppdaaodmicaaW.PrintLast Go.Proofs.YtpoppdaaodmicaaW.PrintMore

def refq (k : Nat) (i : Int) : Option Int :=
  if i ≤ 256 then (reedpiperef04_cosine.f k i).bind fun t => (reedpiperef03_Down.f t 4).bind fun u => some u
  else (reedpiperef04_sine.f k (wrap64 (512 - i))).bind fun t => (reedpiperef03_Down.f t 4).bind fun u => some u
def refqChk : Int → List Nat → Bool
  | _, [] => true
  | i, v :: r => (match refq 9 i with | some x => decide (x = (v : Int)) | none => false) && refqChk (i + 1) r
theorem refqChk_all : refqChk 0 Tab.qtab = true := by decide +kernel
theorem refqChk_at : ∀ {l : List Nat} {i : Int}, refqChk i l = true → ∀ (j v : Nat), l[j]? = some v → refq 9 (i + j) = some (v : Int)
  | [], _, _, j, v, h => by simp at h
  | x :: l, i, h, j, v, hv => by
    simp only [refqChk, Bool.and_eq_true] at h
    cases j with
    | zero =>
      simp only [List.getElem?_cons_zero, Option.some.injEq] at hv
      subst hv
      have h1 := h.1
      rw [show i + ((0 : Nat) : Int) = i by omega]
      cases e : refq 9 i with
      | none => rw [e] at h1; simp at h1
      | some y => rw [e] at h1; simp at h1; rw [h1]
    | succ j =>
      have := refqChk_at h.2 j v (by simpa using hv)
      rw [show i + ((j + 1 : Nat) : Int) = i + 1 + (j : Int) by omega]
      exact this
theorem refq_mono (i : Int) (k : Nat) : LeO (refq k i) (refq (k + 1) i) := by
  unfold refq
  refine LeO.ite (LeO.bind (reedpiperef04_cosine.mono _ _) (fun _ => LeO.refl _)) (LeO.bind (reedpiperef04_sine.mono _ _) (fun _ => LeO.refl _))
theorem refq_is {m k : Nat} (h : m ≤ 512) (hk : 9 ≤ k) : refq k (m : Int) = some (Tab.q m) := by
  have := refqChk_at refqChk_all m _ (Tab.get_q h)
  rw [show (0 : Int) + (m : Int) = (m : Int) by omega] at this
  exact at_rounds (refq_mono _) hk this
theorem ref_j1 {m k : Nat} (h : m ≤ 512) (hk : 10 ≤ k) : reedpiperef04_Cos.j1 k (m : Int) = some (Tab.q m) := by
  obtain ⟨k, rfl⟩ : ∃ j, k = j + 1 := ⟨k - 1, by omega⟩
  have := refq_is h (show 9 ≤ k by omega)
  unfold refq at this
  simp only [reedpiperef04_Cos.j1]
  rw [if_neg (by omega)]
  exact this
theorem ref_j0 {m k : Nat} (h : m ≤ 512) (hk : 11 ≤ k) : reedpiperef04_Cos.j0 k (m : Int) = some (Tab.q m) := by
  obtain ⟨k, rfl⟩ : ∃ j, k = j + 1 := ⟨k - 1, by omega⟩
  simp only [reedpiperef04_Cos.j0]
  rw [if_neg (by omega)]
  exact ref_j1 h (by omega)
theorem ref_small {m k : Nat} (h : m ≤ 512) (hk : 12 ≤ k) : reedpiperef04_Cos.f k (m : Int) = some (Tab.q m) := by
  obtain ⟨k, rfl⟩ : ∃ j, k = j + 1 := ⟨k - 1, by omega⟩
  simp only [reedpiperef04_Cos.f]
  rw [show Int.tmod (m : Int) 2048 = (m : Int) from Int.tmod_eq_of_lt (by omega) (by omega), if_neg (by omega)]
  exact ref_j0 h (by omega)
theorem ref_j1' {m k : Nat} (h : m ≤ 1024) (hk : 13 ≤ k) : reedpiperef04_Cos.j1 k (m : Int) = some (Tab.cosN m) := by
  unfold Tab.cosN
  by_cases hm : m ≤ 512
  · rw [if_pos hm]; exact ref_j1 hm (by omega)
  · obtain ⟨k, rfl⟩ : ∃ j, k = j + 1 := ⟨k - 1, by omega⟩
    rw [if_neg hm]
    simp only [reedpiperef04_Cos.j1]
    have := Tab.q_max (i := 1024 - m) (by omega)
    have := Tab.q_nonneg (1024 - m)
    rw [if_pos (by omega), wrap_in (by omega) (by omega), show (1024 - (m : Int)) = ((1024 - m : Nat) : Int) by omega, ref_small (by omega) (by omega)]
    simp only [Option.bind_some]
    rw [wrap_in (by omega) (by omega)]
theorem ref_j0' {n : Int} {k : Nat} (h0 : 0 ≤ n) (h1 : n < 2048) (hk : 14 ≤ k) : reedpiperef04_Cos.j0 k n = some (Tab.C n) := by
  obtain ⟨k, rfl⟩ : ∃ j, k = j + 1 := ⟨k - 1, by omega⟩
  simp only [reedpiperef04_Cos.j0]
  unfold Tab.C
  by_cases h : n > 1024
  · rw [if_pos h, wrap_in (by omega) (by omega), show 2048 - n = ((2048 - (n % 2048).toNat : Nat) : Int) by omega, ref_j1' (by omega) (by omega), if_pos (by omega)]
  · have e := ref_j1' (k := k) (m := (n % 2048).toNat) (by omega) (by omega)
    rw [show (((n % 2048).toNat : Nat) : Int) = n by omega] at e
    rw [if_neg h, e, if_neg (by omega)]
/-- THE DOCUMENT's COSINES: the table's. -/
theorem refcos_is (n : Int) {k : Nat} (hk : 15 ≤ k) : reedpiperef04_Cos.f k n = some (Tab.C n) := by
  obtain ⟨k, rfl⟩ : ∃ j, k = j + 1 := ⟨k - 1, by omega⟩
  simp only [reedpiperef04_Cos.f]
  have h1 := Int.tmod_lt_of_pos n (b := 2048) (by decide)
  have h2 := Int.lt_tmod_of_pos n (b := 2048) (by decide)
  have h3 : n - Int.tmod n 2048 = 2048 * Int.tdiv n 2048 := by have := Int.mul_tdiv_add_tmod n 2048; omega
  generalize Int.tmod n 2048 = r at *
  generalize Int.tdiv n 2048 = d at *
  by_cases h : r < 0
  · rw [if_pos h, wrap_in (by omega) (by omega), ref_j0' (by omega) (by omega) (by omega), Tab.C_same (n := r + 2048) (n' := n) (by omega)]
  · rw [if_neg h, ref_j0' (by omega) (by omega) (by omega), Tab.C_same (n := r) (n' := n) (by omega)]
theorem refsin_is (n : Int) {k : Nat} (hk : 15 ≤ k) : reedpiperef04_Sin.f k n = some (Tab.S n) := by
  unfold reedpiperef04_Sin.f
  have h1 := Int.tmod_lt_of_pos n (b := 2048) (by decide)
  have h2 := Int.lt_tmod_of_pos n (b := 2048) (by decide)
  have h3 : n - Int.tmod n 2048 = 2048 * Int.tdiv n 2048 := by have := Int.mul_tdiv_add_tmod n 2048; omega
  generalize Int.tmod n 2048 = r at *
  generalize Int.tdiv n 2048 = d at *
  rw [wrap_in (by omega) (by omega), refcos_is _ hk]
  show some _ = some _
  rw [Option.some.injEq]
  unfold Tab.S
  exact Tab.C_same (by omega)

end Go.Proofs.Ytpoppdaaodmicaa.Q

/- What the document's rounding answers: rnd, of numbers up to 2^62. -/
namespace Go.Proofs.Ytpoppdaaodmicaa.Q
open Go.RowKit Go.Proofs.YtpoppdaaodmicaaW.PrintWords Go.Proofs.YtpoppdaaodmicaaW.PrintLast Go.Proofs.YtpoppdaaodmicaaW.PrintMore

/-- The document's rounding. -/
theorem down_is {n : Int} {b : Nat} (h0 : -4611686018427387904 ≤ n) (h1 : n ≤ 4611686018427387904) (hb : 1 ≤ b) (hb2 : b ≤ 62) : reedpiperef03_Down.f n (b : Int) = some (rnd b n) := by
  unfold reedpiperef03_Down.f
  have hp := pow_pos2 (b - 1)
  have hq := pow_pos2 b
  have hs := pow_succ2 hb
  have hl := pow_le62 (b := b - 1) (by omega)
  have hl2 := pow_le62 hb2
  have e1 : shl .i64 1 ((b : Int) - 1) = 2 ^ (b - 1) := by
    unfold shl
    rw [show min (((b : Int) - 1).toNat) IntKind.i64.bits = b - 1 from by simp [IntKind.bits]; omega, Int.one_mul, i64_w, wrap_in (by omega) (by omega)]
  have hd := div_small hq h0 h1
  have hm := Int.emod_add_mul_ediv n (2 ^ b)
  have hm0 := Int.emod_nonneg n (b := 2 ^ b) (by omega)
  have hm1 := Int.emod_lt_of_pos n hq
  have e2 : shl .i64 (n / 2 ^ b) (b : Int) = n / 2 ^ b * 2 ^ b := by
    unfold shl
    rw [show min ((b : Int).toNat) IntKind.i64.bits = b from by simp [IntKind.bits]; omega, i64_w, wrap_in]
    all_goals
      rw [Int.mul_comm]
      generalize 2 ^ b * (n / 2 ^ b) = z at *
      omega
  rw [if_neg (by omega), wrap_in (n := (b : Int) - 1) (by omega) (by omega), if_pos (by omega), if_pos (by omega), shr_nat _ (by omega), e1, e2]
  rw [wrap_in (n := n / 2 ^ b + 1) (by omega) (by omega), rnd_is hb]
  have e3 : n - n / 2 ^ b * 2 ^ b = n % 2 ^ b := by rw [Int.mul_comm]; omega
  rw [e3, wrap_in (by omega) (by omega)]
  have e4 : n / 2 ^ b = n / 2 ^ (b - 1) / 2 := by rw [hs, ← Int.ediv_ediv_of_nonneg (Int.le_of_lt hp)]
  have hm' := Int.emod_add_mul_ediv n (2 ^ (b - 1))
  have hm0' := Int.emod_nonneg n (b := 2 ^ (b - 1)) (by omega)
  have hm1' := Int.emod_lt_of_pos n hp
  have e5 : n % 2 ^ b = n % 2 ^ (b - 1) + 2 ^ (b - 1) * (n / 2 ^ (b - 1) % 2) := by
    have : 2 ^ b * (n / 2 ^ b) = 2 ^ (b - 1) * (2 * (n / 2 ^ (b - 1) / 2)) := by rw [e4, hs, Int.mul_assoc]
    have h2 : n / 2 ^ (b - 1) = 2 * (n / 2 ^ (b - 1) / 2) + n / 2 ^ (b - 1) % 2 := by omega
    have h3 : 2 ^ (b - 1) * (n / 2 ^ (b - 1)) = 2 ^ (b - 1) * (2 * (n / 2 ^ (b - 1) / 2)) + 2 ^ (b - 1) * (n / 2 ^ (b - 1) % 2) := by rw [← Int.mul_add, ← h2]
    omega
  have h01 : n / 2 ^ (b - 1) % 2 = 0 ∨ n / 2 ^ (b - 1) % 2 = 1 := by omega
  rcases h01 with h | h
  · rw [h, Int.mul_zero] at e5
    rw [if_neg (by omega), h]; simp
  · rw [h, Int.mul_one] at e5
    rw [if_pos (by omega), h]

end Go.Proofs.Ytpoppdaaodmicaa.Q

-- Written by a program of this session's (wip/mk.py, over the kit's print.py); Lean checks it.
namespace Go.Proofs.Ytpoppdaaodmicaa.Q
open Go.RowKit Go.Proofs.YtpoppdaaodmicaaW.PrintWords Go.Proofs.YtpoppdaaodmicaaW.PrintLast Go.Proofs.YtpoppdaaodmicaaW.PrintMore
attribute [local go_sem] max2_int min2_int max_two min_two max_three min_three max_four min_four   -- for this text's walks alone
set_option linter.unusedVariables false
set_option linter.unusedSimpArgs false

/-! ### reedpiperef11_in: function 82 -/
end Go.Proofs.Ytpoppdaaodmicaa.Q

-- Written by a program of this session's (wip/mk.py, over the kit's print.py); Lean checks it.
namespace Go.Proofs.Ytpoppdaaodmicaa.Q
open Go.RowKit Go.Proofs.YtpoppdaaodmicaaW.PrintWords Go.Proofs.YtpoppdaaodmicaaW.PrintLast Go.Proofs.YtpoppdaaodmicaaW.PrintMore
attribute [local go_sem] max2_int min2_int max_two min_two max_three min_three max_four min_four   -- for this text's walks alone
set_option linter.unusedVariables false
set_option linter.unusedSimpArgs false

/-! ### reedpiperef11_Forward: function 48 -/
end Go.Proofs.Ytpoppdaaodmicaa.Q

-- Written by a program of this session's (wip/mk.py, over the kit's print.py); Lean checks it.
namespace Go.Proofs.Ytpoppdaaodmicaa.Q
open Go.RowKit Go.Proofs.YtpoppdaaodmicaaW.PrintWords Go.Proofs.YtpoppdaaodmicaaW.PrintLast Go.Proofs.YtpoppdaaodmicaaW.PrintMore
attribute [local go_sem] max2_int min2_int max_two min_two max_three min_three max_four min_four   -- for this text's walks alone
set_option linter.unusedVariables false
set_option linter.unusedSimpArgs false

/-! ### reedpiperef11_Inverse: function 49 -/
end Go.Proofs.Ytpoppdaaodmicaa.Q

/- The document's own transform, and back: the same lists as the program's. -/
namespace Go.Proofs.Ytpoppdaaodmicaa.Q
open Go.RowKit Go.Proofs.YtpoppdaaodmicaaW.PrintWords Go.Proofs.YtpoppdaaodmicaaW.PrintLast Go.Proofs.YtpoppdaaodmicaaW.PrintMore

theorem sized_ms {m b : Nat} {s : Int} (hs : Sized m s b) : (m = 256 ∧ s = 1) ∨ (m = 32 ∧ s = 8) := by
  rcases hs with ⟨h1, h2, _⟩ | ⟨h1, h2, _⟩
  · exact .inl ⟨h1, h2⟩
  · exact .inr ⟨h1, h2⟩
/-! ### two lists that are one -/
theorem same11_from {l : List Int} (hl : l.length ≤ 2000) (d : Nat) : ∀ (k i : Nat), i + d = l.length → d + 1 ≤ k → reedpiperef11_Same.l0 k l l (i : Int) = some true := by
  induction d with
  | zero =>
    intro k i hi hk
    obtain ⟨k, rfl⟩ : ∃ j, k = j + 1 := ⟨k - 1, by omega⟩
    rw [reedpiperef11_Same.l0.eq_2, if_neg (by omega)]
  | succ d ih =>
    intro k i hi hk
    obtain ⟨k, rfl⟩ : ∃ j, k = j + 1 := ⟨k - 1, by omega⟩
    rw [reedpiperef11_Same.l0.eq_2, if_pos (by omega), if_pos (by omega), if_pos (by omega), if_pos rfl, wrap_in (by omega) (by omega)]
    exact ih k (i + 1) (by omega) (by omega)
theorem same11 {l : List Int} (hl : l.length ≤ 2000) {k : Nat} (hk : l.length + 1 ≤ k) : reedpiperef11_Same.f k l l = some true := by
  unfold reedpiperef11_Same.f
  rw [if_pos rfl]
  exact same11_from hl l.length k 0 (by omega) hk
/-! ### are all so great at most -/
theorem rd_mem {l : List Int} {j : Nat} (h : j < l.length) : rd l (j : Int) ∈ l := by
  unfold rd
  rw [show ((j : Int)).toNat = j by omega, List.getD_eq_getElem?_getD, List.getElem?_eq_getElem h]
  exact List.getElem_mem h
/-! ### the table of cosines -/
def tableL : List Int := (List.range 2048).map (fun n : Nat => Tab.C (n : Int))
theorem tableL_length : tableL.length = 2048 := by unfold tableL; rw [List.length_map, List.length_range]
theorem rd_table {t : Int} (h0 : 0 ≤ t) (h1 : t < 2048) : rd tableL t = Tab.C t := by
  obtain ⟨n, rfl⟩ : ∃ n : Nat, t = n := ⟨t.toNat, by omega⟩
  exact rd_map_range (f := fun n : Nat => Tab.C (n : Int)) (by omega)
theorem table_l0 (d : Nat) : ∀ (k i : Nat), i + d = 2048 → d + 20 ≤ k → reedpiperef04_Table.l0 k ((List.range i).map (fun n : Nat => Tab.C (n : Int))) (i : Int) = some tableL := by
  induction d with
  | zero =>
    intro k i hi hk
    obtain ⟨k, rfl⟩ : ∃ j, k = j + 1 := ⟨k - 1, by omega⟩
    obtain rfl : i = 2048 := by omega
    rw [reedpiperef04_Table.l0.eq_2, if_neg (by omega)]
    rfl
  | succ d ih =>
    intro k i hi hk
    obtain ⟨k, rfl⟩ : ∃ j, k = j + 1 := ⟨k - 1, by omega⟩
    have e := ih k (i + 1) (by omega) (by omega)
    rw [show (((i + 1 : Nat)) : Int) = (i : Int) + 1 by omega, List.range_succ, List.map_append] at e
    rw [reedpiperef04_Table.l0.eq_2, if_pos (by omega), refcos_is _ (by omega), Option.bind_some, if_pos (by rw [List.length_map, List.length_range]; omega), wrap_in (by omega) (by omega)]
    exact e
theorem table_is {k : Nat} (hk : 2100 ≤ k) : reedpiperef04_Table.f k = some tableL := by
  unfold reedpiperef04_Table.f
  exact table_l0 2048 k 0 (by omega) (by omega)
/-! ### the arc -/
theorem arc_bound {m n k : Nat} {s : Int} (hs : (m = 256 ∧ s = 1) ∨ (m = 32 ∧ s = 8)) (hn : n < 2 * m) (hk : k < m) : 0 ≤ (2 * (n : Int) + 1 + (m : Int)) * (2 * (k : Int) + 1) ∧ (2 * (n : Int) + 1 + (m : Int)) * (2 * (k : Int) + 1) ≤ 1280 * 512 := by
  refine ⟨Int.mul_nonneg (by omega) (by omega), Int.mul_le_mul ?_ ?_ (by omega) (by omega)⟩ <;> rcases hs with ⟨rfl, _⟩ | ⟨rfl, _⟩ <;> omega
theorem arc_is {m n k : Nat} {s : Int} (hs : (m = 256 ∧ s = 1) ∨ (m = 32 ∧ s = 8)) (hn : n < 2 * m) (hk : k < m) : reedpiperef11_arc.f (n : Int) (k : Int) (m : Int) = some (arcAt m s n k % 2048) := by
  have hb := arc_bound hs hn hk
  have hm : m ≤ 256 := by rcases hs with ⟨rfl, _⟩ | ⟨rfl, _⟩ <;> omega
  have ea : arcAt m s n k = (2 * (n : Int) + 1 + (m : Int)) * (2 * (k : Int) + 1) * s := by unfold arcAt; rw [Int.mul_assoc]
  have e1 : wrap64 (2 * (n : Int)) = 2 * (n : Int) := wrap_in (by omega) (by omega)
  have e2 : wrap64 (2 * (n : Int) + 1) = 2 * (n : Int) + 1 := wrap_in (by omega) (by omega)
  have e3 : wrap64 (2 * (n : Int) + 1 + (m : Int)) = 2 * (n : Int) + 1 + (m : Int) := wrap_in (by omega) (by omega)
  have e4 : wrap64 (2 * (k : Int)) = 2 * (k : Int) := wrap_in (by omega) (by omega)
  have e5 : wrap64 (2 * (k : Int) + 1) = 2 * (k : Int) + 1 := wrap_in (by omega) (by omega)
  unfold reedpiperef11_arc.f
  rw [e1, e2, e3, e4, e5, ea]
  clear e1 e2 e3 e4 e5 ea
  generalize (2 * (n : Int) + 1 + (m : Int)) * (2 * (k : Int) + 1) = p at *
  have e6 : wrap64 p = p := wrap_in (by omega) (by omega)
  rw [e6]
  rcases hs with ⟨rfl, rfl⟩ | ⟨rfl, rfl⟩
  · rw [if_neg (by decide), wrap_in (n := p * 1) (by omega) (by omega), Int.tmod_eq_emod_of_nonneg (by omega)]
  · rw [if_pos (by decide), wrap_in (n := p * 8) (by omega) (by omega), Int.tmod_eq_emod_of_nonneg (by omega)]
/-! ### lines -/
theorem sm_le {z : List Int} {X : Int} (hz : AllIn X z) (g : Nat → Int) {i : Nat} (hi : i ≤ z.length) : -((i : Int) * (X * 67108864)) ≤ sm i (fun i => rd z (i : Int) * Tab.C (g i)) ∧ sm i (fun i => rd z (i : Int) * Tab.C (g i)) ≤ (i : Int) * (X * 67108864) :=
  sm_bound fun j hj => mul_C (hz _ (rd_mem (by omega))) _
theorem reflines_l1 {m : Nat} {s : Int} (hs : (m = 256 ∧ s = 1) ∨ (m = 32 ∧ s = 8)) {z : List Int} (hl : z.length = 2 * m) (hz : AllIn 8388608 z) {t : Nat} (ht : t < m) {acc : List Int} (hacc : acc.length ≤ 1000) (d : Nat) : ∀ (k i : Nat), i + d = 2 * m →
    reedpiperef11_Lines.l1 (k + d + 1) z (m : Int) tableL acc (t : Int) (sm i (fun i => rd z (i : Int) * Tab.C (arcAt m s i t))) (i : Int) = reedpiperef11_Lines.l0 k z (m : Int) tableL (acc ++ [lineAt m s z t]) ((t : Int) + 1) := by
  have hm : m ≤ 256 := by rcases hs with ⟨rfl, _⟩ | ⟨rfl, _⟩ <;> omega
  induction d with
  | zero =>
    intro k i hi
    have c0 : ¬ (i : Int) < 2 * (m : Int) := by omega
    have c1 : wrap64 (2 * (m : Int)) = 2 * (m : Int) := wrap_in (by omega) (by omega)
    have c2 : wrap64 ((t : Int) + 1) = (t : Int) + 1 := wrap_in (by omega) (by omega)
    obtain rfl : i = 2 * m := by omega
    have hb := sm_le hz (fun i => arcAt m s i t) (i := 2 * m) (by omega)
    have hd := down_is (n := sm (2 * m) (fun i => rd z (i : Int) * Tab.C (arcAt m s i t))) (b := 33) (by omega) (by omega) (by omega) (by omega)
    rw [show ((33 : Nat) : Int) = 33 from rfl] at hd
    rw [lineAt_sum hl, show k + 0 + 1 = k + 1 by omega, reedpiperef11_Lines.l1.eq_2, c1, if_neg c0, hd, Option.bind_some, if_pos (by omega), c2]
    rfl
  | succ d ih =>
    intro k i hi
    have e := ih k (i + 1) (by omega)
    have c0 : (i : Int) < 2 * (m : Int) := by omega
    have c3 : (0 : Int) ≤ (i : Int) := by omega
    have c4 : (i : Int) < (z.length : Int) := by omega
    have c1 : wrap64 (2 * (m : Int)) = 2 * (m : Int) := wrap_in (by omega) (by omega)
    have c2 : wrap64 ((i : Int) + 1) = (i : Int) + 1 := wrap_in (by omega) (by omega)
    have ha := arc_is hs (n := i) (k := t) (by omega) ht
    have hb := sm_le hz (fun i => arcAt m s i t) (i := i) (by omega)
    have hx := mul_C (hz _ (rd_mem (l := z) (j := i) (by omega))) (arcAt m s i t)
    have hT : rd tableL (arcAt m s i t % 2048) = Tab.C (arcAt m s i t) := by
      rw [rd_table (by omega) (by omega)]
      exact Tab.C_same (by omega)
    rw [show (((i + 1 : Nat)) : Int) = (i : Int) + 1 by omega, sm] at e
    rw [show k + (d + 1) + 1 = (k + d + 1) + 1 by omega, reedpiperef11_Lines.l1.eq_2, c1, if_pos c0, if_pos c3, if_pos c4, ha, Option.bind_some, if_pos (by omega), if_pos (by rw [tableL_length]; omega), hT, c2]
    clear ha hT c0 c1 c2 c3 c4 ih
    generalize sm i (fun i => rd z (i : Int) * Tab.C (arcAt m s i t)) = u at *
    generalize rd z (i : Int) * Tab.C (arcAt m s i t) = v at *
    have w1 : wrap64 v = v := wrap_in (by omega) (by omega)
    have w2 : wrap64 (u + v) = u + v := wrap_in (by omega) (by omega)
    rw [w1, w2]
    exact e
theorem reflines_l0 {m : Nat} {s : Int} (hs : (m = 256 ∧ s = 1) ∨ (m = 32 ∧ s = 8)) {z : List Int} (hl : z.length = 2 * m) (hz : AllIn 8388608 z) (d : Nat) : ∀ (k t : Nat), t + d = m → d * (2 * m + 2) + 1 ≤ k →
    reedpiperef11_Lines.l0 k z (m : Int) tableL ((List.range t).map (lineAt m s z)) (t : Int) = some ((List.range m).map (lineAt m s z)) := by
  have hm : m ≤ 256 := by rcases hs with ⟨rfl, _⟩ | ⟨rfl, _⟩ <;> omega
  induction d with
  | zero =>
    intro k t ht hk
    obtain ⟨k, rfl⟩ : ∃ j, k = j + 1 := ⟨k - 1, by omega⟩
    obtain rfl : t = m := by omega
    rw [reedpiperef11_Lines.l0.eq_2, if_neg (by omega)]
  | succ d ih =>
    intro k t ht hk
    rw [Nat.add_mul, Nat.one_mul] at hk
    obtain ⟨k, rfl⟩ : ∃ j, k = j + 2 * m + 1 + 1 := ⟨k - 2 * m - 2, by omega⟩
    have e := ih k (t + 1) (by omega) (by omega)
    have h1 := reflines_l1 hs hl hz (t := t) (by omega) (acc := (List.range t).map (lineAt m s z)) (by rw [List.length_map, List.length_range]; omega) (2 * m) k 0 (by omega)
    rw [show (((t + 1 : Nat)) : Int) = (t : Int) + 1 by omega, List.range_succ, List.map_append] at e
    rw [reedpiperef11_Lines.l0.eq_2, if_pos (by omega)]
    exact h1.trans e
theorem reflines_is {m b : Nat} {s : Int} (hs : Sized m s b) {z : List Int} (hl : z.length = 2 * m) (hz : AllIn 8388608 z) {k : Nat} (hk : 200000 ≤ k) : reedpiperef11_Lines.f k z = some ((List.range m).map (lineAt m s z)) := by
  have hm : m ≤ 256 := by rcases hs with ⟨rfl, _⟩ | ⟨rfl, _⟩ <;> omega
  have hs' : (m = 256 ∧ s = 1) ∨ (m = 32 ∧ s = 8) := sized_ms hs
  have hw : wrap64 ((z.length : Int) / 2) = (m : Int) := by rw [wrap_in (by omega) (by omega)]; omega
  unfold reedpiperef11_Lines.f
  rw [table_is (by omega), Option.bind_some, hw]
  refine reflines_l0 hs' hl hz m k 0 (by omega) ?_
  have := Nat.mul_le_mul hm (show 2 * m + 2 ≤ 514 by omega)
  omega
/-! ### back -/
theorem refback_l1 {m b : Nat} {s : Int} (hs : Sized m s b) {x : List Int} (hl : x.length = m) (hx : AllIn 268435455 x) {n : Nat} (hn : n < 2 * m) {acc : List Int} (hacc : acc.length ≤ 1000) (d : Nat) : ∀ (k i : Nat), i + d = m →
    reedpiperef11_Back.l1 (k + d + 1) x (m : Int) (b : Int) tableL acc (n : Int) (sm i (fun i => rd x (i : Int) * Tab.C (arcAt m s n i))) (i : Int) = reedpiperef11_Back.l0 k x (m : Int) (b : Int) tableL (acc ++ [backAt m s b x n]) ((n : Int) + 1) := by
  have hm : m ≤ 256 ∧ 1 ≤ b ∧ b ≤ 62 := by rcases hs with ⟨rfl, _, rfl⟩ | ⟨rfl, _, rfl⟩ <;> omega
  have hs' : (m = 256 ∧ s = 1) ∨ (m = 32 ∧ s = 8) := sized_ms hs
  induction d with
  | zero =>
    intro k i hi
    have c0 : ¬ (i : Int) < (m : Int) := by omega
    have c2 : wrap64 ((n : Int) + 1) = (n : Int) + 1 := wrap_in (by omega) (by omega)
    obtain rfl : i = m := by omega
    have hb := sm_le hx (fun k => arcAt i s n k) (i := i) (by omega)
    have hd := down_is (n := sm i (fun k => rd x (k : Int) * Tab.C (arcAt i s n k))) (b := b) (by omega) (by omega) hm.2.1 hm.2.2
    rw [backAt_sum hl, show k + 0 + 1 = k + 1 by omega, reedpiperef11_Back.l1.eq_2, if_neg c0, hd, Option.bind_some, if_pos (by omega), c2]
  | succ d ih =>
    intro k i hi
    have e := ih k (i + 1) (by omega)
    have c0 : (i : Int) < (m : Int) := by omega
    have c3 : (0 : Int) ≤ (i : Int) := by omega
    have c4 : (i : Int) < (x.length : Int) := by omega
    have c2 : wrap64 ((i : Int) + 1) = (i : Int) + 1 := wrap_in (by omega) (by omega)
    have ha := arc_is hs' (n := n) (k := i) hn (by omega)
    have hb := sm_le hx (fun k => arcAt m s n k) (i := i) (by omega)
    have hv := mul_C (hx _ (rd_mem (l := x) (j := i) (by omega))) (arcAt m s n i)
    have hT : rd tableL (arcAt m s n i % 2048) = Tab.C (arcAt m s n i) := by
      rw [rd_table (by omega) (by omega)]
      exact Tab.C_same (by omega)
    rw [show (((i + 1 : Nat)) : Int) = (i : Int) + 1 by omega, sm] at e
    rw [show k + (d + 1) + 1 = (k + d + 1) + 1 by omega, reedpiperef11_Back.l1.eq_2, if_pos c0, if_pos c3, if_pos c4, ha, Option.bind_some, if_pos (by omega), if_pos (by rw [tableL_length]; omega), hT, c2]
    clear ha hT c0 c2 c3 c4 ih
    generalize sm i (fun i => rd x (i : Int) * Tab.C (arcAt m s n i)) = u at *
    generalize rd x (i : Int) * Tab.C (arcAt m s n i) = v at *
    have w1 : wrap64 v = v := wrap_in (by omega) (by omega)
    have w2 : wrap64 (u + v) = u + v := wrap_in (by omega) (by omega)
    rw [w1, w2]
    exact e
theorem refback_l0 {m b : Nat} {s : Int} (hs : Sized m s b) {x : List Int} (hl : x.length = m) (hx : AllIn 268435455 x) (d : Nat) : ∀ (k n : Nat), n + d = 2 * m → d * (m + 2) + 1 ≤ k →
    reedpiperef11_Back.l0 k x (m : Int) (b : Int) tableL ((List.range n).map (backAt m s b x)) (n : Int) = some ((List.range (2 * m)).map (backAt m s b x)) := by
  have hm : m ≤ 256 := by rcases hs with ⟨rfl, _⟩ | ⟨rfl, _⟩ <;> omega
  have c1 : wrap64 (2 * (m : Int)) = 2 * (m : Int) := wrap_in (by omega) (by omega)
  induction d with
  | zero =>
    intro k n hn hk
    obtain ⟨k, rfl⟩ : ∃ j, k = j + 1 := ⟨k - 1, by omega⟩
    obtain rfl : n = 2 * m := by omega
    rw [reedpiperef11_Back.l0.eq_2, c1, if_neg (by omega)]
  | succ d ih =>
    intro k n hn hk
    rw [Nat.add_mul, Nat.one_mul] at hk
    obtain ⟨k, rfl⟩ : ∃ j, k = j + m + 1 + 1 := ⟨k - m - 2, by omega⟩
    have e := ih k (n + 1) (by omega) (by omega)
    have h1 := refback_l1 hs hl hx (n := n) (by omega) (acc := (List.range n).map (backAt m s b x)) (by rw [List.length_map, List.length_range]; omega) m k 0 (by omega)
    rw [show (((n + 1 : Nat)) : Int) = (n : Int) + 1 by omega, List.range_succ, List.map_append] at e
    rw [reedpiperef11_Back.l0.eq_2, c1, if_pos (by omega)]
    exact h1.trans e
theorem refback_is {m b : Nat} {s : Int} (hs : Sized m s b) {x : List Int} (hl : x.length = m) (hx : AllIn 268435455 x) {k : Nat} (hk : 200000 ≤ k) : reedpiperef11_Back.f k x = some ((List.range (2 * m)).map (backAt m s b x)) := by
  have hm : m ≤ 256 := by rcases hs with ⟨rfl, _⟩ | ⟨rfl, _⟩ <;> omega
  have hk2 : 2 * m * (m + 2) ≤ 512 * 258 := Nat.mul_le_mul (by omega) (by omega)
  have h0 := refback_l0 hs hl hx (2 * m) (k - 1) 0 (by omega) (by omega)
  obtain ⟨k, rfl⟩ : ∃ j, k = j + 1 := ⟨k - 1, by omega⟩
  rw [show k + 1 - 1 = k by omega] at h0
  unfold reedpiperef11_Back.f
  rw [hl]
  rcases hs with ⟨rfl, rfl, rfl⟩ | ⟨rfl, rfl, rfl⟩
  · rw [if_neg (by decide), reedpiperef11_Back.j0.eq_2, table_is (by omega), Option.bind_some]
    exact h0
  · rw [if_pos (by decide), reedpiperef11_Back.j0.eq_2, table_is (by omega), Option.bind_some]
    exact h0
end Go.Proofs.Ytpoppdaaodmicaa.Q

/- What the document's own halves are: the same four lists. -/
namespace Go.Proofs.Ytpoppdaaodmicaa.Q
open Go.RowKit Go.Proofs.YtpoppdaaodmicaaW.PrintWords Go.Proofs.YtpoppdaaodmicaaW.PrintLast Go.Proofs.YtpoppdaaodmicaaW.PrintMore

theorem take_add {t : List Int} {i : Nat} {v : Int} (hv : t[i]? = some v) : t.take i ++ [v] = t.take (i + 1) := by
  rw [List.take_add_one, hv]; rfl
theorem values_l0 {step : Int} {t : List Int} (hs : step = 1 ∨ step = 8) (hn : t.length ≤ 256) (hc : sineChk step 0 t = true) (d : Nat) : ∀ (k i : Nat), i + d = t.length → d + 20 ≤ k →
    reedpiperef05_Values.l0 k (t.length : Int) step (t.take i) (i : Int) = some t := by
  induction d with
  | zero =>
    intro k i hi hk
    obtain ⟨k, rfl⟩ : ∃ j, k = j + 1 := ⟨k - 1, by omega⟩
    simp only [reedpiperef05_Values.l0]
    obtain rfl : i = t.length := by omega
    rw [if_neg (by omega), List.take_length]
  | succ d ih =>
    intro k i hi hk
    obtain ⟨k, rfl⟩ : ∃ j, k = j + 1 := ⟨k - 1, by omega⟩
    have hv : t[i]? = some (t[i]'(by omega)) := List.getElem?_eq_getElem (by omega)
    have hr := sineChk_at hc i _ hv
    rw [Int.zero_add] at hr
    have hb := Tab.C_max ((2 * (i : Int) + 1) * step - 512)
    rw [reedpiperef05_Values.l0.eq_2, if_pos (by omega), wrap_in (n := 2 * (i : Int)) (by omega) (by omega), wrap_in (n := 2 * (i : Int) + 1) (by omega) (by omega), wrap_in (n := (2 * (i : Int) + 1) * step) (by rcases hs with rfl | rfl <;> omega) (by rcases hs with rfl | rfl <;> omega), refsin_is _ (by omega)]
    simp only [Option.bind_some]
    have e := down_is (n := Tab.S ((2 * (i : Int) + 1) * step)) (b := 4) (by unfold Tab.S; omega) (by unfold Tab.S; omega) (by omega) (by omega)
    rw [show ((4 : Nat) : Int) = 4 from rfl] at e
    rw [e]
    simp only [Option.bind_some]
    rw [hr, if_pos (by rw [List.length_take]; omega), wrap_in (by omega) (by omega), take_add hv]
    exact ih k (i + 1) (by omega) (by omega)
def weightChk (m b : Int) : Int → Int → List Int → Bool
  | _, _, [] => true
  | j, s, v :: r => (match reedpiperef05_weight.f 70 j m b with | some x => decide (wrap64 (s + x) = v) | none => false) && weightChk m b (j + 1) v r
theorem weightChk_at {m b : Int} : ∀ {l : List Int} {j s : Int}, weightChk m b j s l = true → ∀ (i : Nat) (v : Int), l[i]? = some v →
    ∃ x, reedpiperef05_weight.f 70 (j + i) m b = some x ∧ wrap64 ((if i = 0 then s else l.getD (i - 1) 0) + x) = v
  | [], _, _, _, i, v, h => by simp at h
  | y :: l, j, s, h, i, v, hv => by
    simp only [weightChk, Bool.and_eq_true] at h
    cases i with
    | zero =>
      simp only [List.getElem?_cons_zero, Option.some.injEq] at hv
      subst hv
      rw [show j + ((0 : Nat) : Int) = j by omega]
      have h1 := h.1
      cases e : reedpiperef05_weight.f 70 j m b with
      | none => rw [e] at h1; simp at h1
      | some x => rw [e] at h1; simp at h1; exact ⟨x, rfl, by simpa using h1⟩
    | succ i =>
      obtain ⟨x, h1, h2⟩ := weightChk_at h.2 i v (by simpa using hv)
      rw [show j + ((i + 1 : Nat) : Int) = j + 1 + (i : Int) by omega]
      refine ⟨x, h1, ?_⟩
      rw [if_neg (by omega)]
      cases i with
      | zero => simpa using h2
      | succ i => simpa using h2
theorem w256_chk : weightChk 256 4 0 0 Win.sm256 = true := by decide +kernel
theorem w32_chk : weightChk 32 6 0 0 Win.sm32 = true := by decide +kernel
def refRootChk (all : Int) : List Int → List Int → Bool
  | _, [] => true
  | [], _ :: _ => false
  | s :: ss, v :: vs => (match reedpiperef05_part.f 50 s all with | some x => (match reedpiperef03_Root.f 40 x with | some y => decide (y = v) | none => false) | none => false) && refRootChk all ss vs
theorem refRootChk_at {all : Int} : ∀ {ss vs : List Int}, refRootChk all ss vs = true → ∀ (i : Nat) (v : Int), vs[i]? = some v → ∃ s x, ss[i]? = some s ∧ reedpiperef05_part.f 50 s all = some x ∧ reedpiperef03_Root.f 40 x = some v
  | _, [], _, i, v, h => by simp at h
  | [], _ :: _, h, i, v, _ => by simp [refRootChk] at h
  | s :: ss, w :: vs, h, i, v, hv => by
    simp only [refRootChk, Bool.and_eq_true] at h
    cases i with
    | zero =>
      simp only [List.getElem?_cons_zero, Option.some.injEq] at hv
      subst hv
      have h1 := h.1
      cases e : reedpiperef05_part.f 50 s all with
      | none => rw [e] at h1; simp at h1
      | some x =>
        rw [e] at h1
        simp only at h1
        cases e2 : reedpiperef03_Root.f 40 x with
        | none => rw [e2] at h1; simp at h1
        | some y => rw [e2] at h1; simp at h1; exact ⟨s, x, by simp, e, by rw [e2, h1]⟩
    | succ i =>
      obtain ⟨a, x, h1, h2⟩ := refRootChk_at h.2 i v (by simpa using hv)
      exact ⟨a, x, by simpa using h1, h2⟩
theorem rk256_chk : refRootChk (Win.sm256.getD 256 0) Win.sm256 Win.k256 = true := by decide +kernel
theorem rk32_chk : refRootChk (Win.sm32.getD 32 0) Win.sm32 Win.k32 = true := by decide +kernel
theorem refkbd_l1 {m b all : Int} {sm t : List Int} (hm : m = t.length) (hn : t.length ≤ 256) (hl : sm.length = t.length + 1) (hc0 : weightChk m b 0 0 sm = true) (hc : refRootChk all sm t = true) (d : Nat) : ∀ (k i : Nat) (s : Int), i + d = t.length → d + 80 ≤ k → s = (if i = 0 then 0 else sm.getD (i - 1) 0) →
    reedpiperef05_Kbd.l1 k m b all (t.take i) s (i : Int) = some t := by
  induction d with
  | zero =>
    intro k i s hi hk hs
    obtain ⟨k, rfl⟩ : ∃ j, k = j + 1 := ⟨k - 1, by omega⟩
    obtain rfl : i = t.length := by omega
    rw [reedpiperef05_Kbd.l1.eq_2, if_neg (by omega), List.take_length]
  | succ d ih =>
    intro k i s hi hk hs
    obtain ⟨k, rfl⟩ : ∃ j, k = j + 1 := ⟨k - 1, by omega⟩
    have hv : t[i]? = some (t[i]'(by omega)) := List.getElem?_eq_getElem (by omega)
    have hv0 : sm[i]? = some (sm[i]'(by omega)) := List.getElem?_eq_getElem (by omega)
    obtain ⟨x, h1, h2⟩ := weightChk_at hc0 i _ hv0
    rw [Int.zero_add] at h1
    rw [← hs] at h2
    obtain ⟨s', y, g1, g2, g3⟩ := refRootChk_at hc i _ hv
    rw [hv0, Option.some.injEq] at g1
    have h3 := at_rounds (reedpiperef05_weight.mono (i : Int) m b) (show 70 ≤ k by omega) h1
    have h4 := at_rounds (reedpiperef05_part.mono s' all) (show 50 ≤ k by omega) g2
    have h5 := at_rounds (reedpiperef03_Root.mono y) (show 40 ≤ k by omega) g3
    rw [reedpiperef05_Kbd.l1.eq_2, if_pos (by omega), h3]
    simp only [Option.bind_some]
    rw [h2, g1, h4]
    simp only [Option.bind_some]
    rw [h5]
    simp only [Option.bind_some]
    rw [if_pos (by rw [List.length_take]; omega), wrap_in (by omega) (by omega), take_add hv]
    refine ih k (i + 1) _ (by omega) (by omega) ?_
    rw [if_neg (by omega), show i + 1 - 1 = i by omega, List.getD_eq_getElem?_getD, hv0, ← g1]; rfl
theorem refkbd_l0 {m b all : Int} {sm t : List Int} (hm : m = t.length) (hn : t.length ≤ 256) (hl : sm.length = t.length + 1) (hall : sm.getD t.length 0 = all) (hc0 : weightChk m b 0 0 sm = true) (hc : refRootChk all sm t = true) (d : Nat) : ∀ (k i : Nat) (s : Int), i + d = sm.length → d + t.length + 90 ≤ k → s = (if i = 0 then 0 else sm.getD (i - 1) 0) →
    reedpiperef05_Kbd.l0 k m b s (i : Int) = some t := by
  induction d with
  | zero =>
    intro k i s hi hk hs
    obtain ⟨k, rfl⟩ : ∃ j, k = j + 1 := ⟨k - 1, by omega⟩
    obtain rfl : i = sm.length := by omega
    rw [reedpiperef05_Kbd.l0.eq_2, if_neg (by omega)]
    rw [if_neg (by omega), hl, show t.length + 1 - 1 = t.length by omega, hall] at hs
    subst hs
    have := refkbd_l1 hm hn hl hc0 hc t.length k 0 0 (by omega) (by omega) (by simp)
    simpa using this
  | succ d ih =>
    intro k i s hi hk hs
    obtain ⟨k, rfl⟩ : ∃ j, k = j + 1 := ⟨k - 1, by omega⟩
    have hv0 : sm[i]? = some (sm[i]'(by omega)) := List.getElem?_eq_getElem (by omega)
    obtain ⟨x, h1, h2⟩ := weightChk_at hc0 i _ hv0
    rw [Int.zero_add] at h1
    rw [← hs] at h2
    have h3 := at_rounds (reedpiperef05_weight.mono (i : Int) m b) (show 70 ≤ k by omega) h1
    rw [reedpiperef05_Kbd.l0.eq_2, if_pos (by omega), h3]
    simp only [Option.bind_some]
    rw [h2, wrap_in (by omega) (by omega)]
    refine ih k (i + 1) _ (by omega) (by omega) ?_
    rw [if_neg (by omega), show i + 1 - 1 = i by omega, List.getD_eq_getElem?_getD, hv0]; rfl
theorem refkbd_is {m b : Int} {sm t : List Int} (hm : m = t.length) (hn : t.length ≤ 256) (hl : sm.length = t.length + 1) (hc0 : weightChk m b 0 0 sm = true) (hc : refRootChk (sm.getD t.length 0) sm t = true) {k : Nat} (hk : 2 * t.length + 100 ≤ k) : reedpiperef05_Kbd.f k m b = some t := by
  unfold reedpiperef05_Kbd.f
  exact refkbd_l0 hm hn hl rfl hc0 hc sm.length k 0 0 (by omega) (by omega) (by simp)
/-- THE DOCUMENT's HALVES: the same. -/
theorem values_is {a0 : Int} {a1 : Bool} (h : a0 = 0 ∨ a0 = 1) {k : Nat} (hk : 700 ≤ k) : reedpiperef05_Values.f k a0 a1 = some (halfL a0 a1) := by
  obtain ⟨l1, l2, l3, l4, l5, l6⟩ := win_lens
  obtain ⟨k, rfl⟩ : ∃ j, k = j + 1 := ⟨k - 1, by omega⟩
  unfold reedpiperef05_Values.f halfL
  rcases h with rfl | rfl <;> cases a1
  · rw [if_neg (by simp), if_pos rfl, if_neg (by simp), reedpiperef05_Values.j0.eq_2, if_neg (by decide)]
    have := values_l0 (.inl rfl) (by omega) s256_chk 256 k 0 (by omega) (by omega)
    rw [l1] at this
    simpa using this
  · rw [if_pos rfl, if_pos rfl, if_pos rfl, reedpiperef05_Values.j0.eq_2, if_neg (by decide)]
    have := values_l0 (.inr rfl) (by omega) s32_chk 32 k 0 (by omega) (by omega)
    rw [l2] at this
    simpa using this
  · rw [if_neg (by simp), if_neg (by decide), if_neg (by simp), reedpiperef05_Values.j0.eq_2, if_pos rfl, refkbd_is (t := Win.k256) (by omega) (by omega) (by omega) w256_chk (by rw [l3]; exact rk256_chk) (by omega)]
    rfl
  · rw [if_pos rfl, if_neg (by decide), if_pos rfl, reedpiperef05_Values.j0.eq_2, if_pos rfl, refkbd_is (t := Win.k32) (by omega) (by omega) (by omega) w32_chk (by rw [l4]; exact rk32_chk) (by omega)]
    rfl

end Go.Proofs.Ytpoppdaaodmicaa.Q
