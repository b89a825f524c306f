-- Written by a program of this session (wip/mkprint.py over the kit's print), out of the translation. Not trusted: Lean checks it.
import Derived.Test.YtpmbffchkcemoaaFx0
namespace Go.Proofs.Ytpmbffchkcemoaa.P
open Go.RowKit Go.Proofs.YtpmbffchkcemoaaW.PrintWords Go.Proofs.YtpmbffchkcemoaaW.PrintLast Go.Proofs.YtpmbffchkcemoaaW.PrintMore
attribute [local go_sem] max2_int min2_int max_two min_two max_three min_three max_four min_four   -- for this text's walks alone
set_option linter.unusedVariables false
set_option linter.unusedSimpArgs false

/-! ### impl_multiplyFour: function 70 -/
def impl_multiplyFour.f (l0 : List Int) (l1 : List Int) : Option (List Int) := if 0 < (l0.length : Int) then (if 0 < (l1.length : Int) then (if 1 < (l0.length : Int) then (if 1 < (l1.length : Int) then (if 2 < (l0.length : Int) then (if 2 < (l1.length : Int) then (if 3 < (l0.length : Int) then (if 3 < (l1.length : Int) then (some (([wrap64 ((wrap64 ((wrap64 ((wrap64 ((rd l0 0) * (rd l1 0))) + (wrap64 ((rd l0 1) * (rd l1 1))))) + (wrap64 ((rd l0 2) * (rd l1 2))))) + (wrap64 ((rd l0 3) * (rd l1 3)))), wrap64 ((wrap64 ((wrap64 ((wrap64 ((rd l0 0) * (rd l1 1))) - (wrap64 ((rd l0 1) * (rd l1 0))))) + (wrap64 ((rd l0 2) * (rd l1 3))))) - (wrap64 ((rd l0 3) * (rd l1 2)))), wrap64 ((wrap64 ((wrap64 ((wrap64 ((rd l0 0) * (rd l1 2))) - (wrap64 ((rd l0 2) * (rd l1 0))))) + (wrap64 ((rd l0 3) * (rd l1 1))))) - (wrap64 ((rd l0 1) * (rd l1 3)))), wrap64 ((wrap64 ((wrap64 ((wrap64 ((rd l0 0) * (rd l1 3))) - (wrap64 ((rd l0 3) * (rd l1 0))))) + (wrap64 ((rd l0 1) * (rd l1 2))))) - (wrap64 ((rd l0 2) * (rd l1 1))))] : List Int))) else (none)) else (none)) else (none)) else (none)) else (none)) else (none)) else (none)) else (none)
def impl_multiplyFour.T1 : Bool × List (List Nat × List Nat) := (true, [([], []), ([0], [0]), ([1], [1]), ([], []), ([3], [3]), ([4], [4]), ([2, 5], [2, 5]), ([], []), ([7], [7]), ([8], [8]), ([], []), ([10], [10]), ([11], [11]), ([9, 12], [9, 12]), ([6, 13], [6, 13]), ([], []), ([15], [15]), ([16], [16]), ([], []), ([18], [18]), ([19], [19]), ([17, 20], [17, 20]), ([14, 21], [14, 21]), ([], []), ([23], [23]), ([24], [24]), ([], []), ([26], [26]), ([27], [27]), ([25, 28], [25, 28]), ([22, 29], [22, 29]), ([], []), ([31], [31]), ([32], [32]), ([], []), ([34], [34]), ([35], [35]), ([33, 36], [33, 36]), ([], []), ([38], [38]), ([39], [39]), ([], []), ([41], [41]), ([42], [42]), ([40, 43], [40, 43]), ([37, 44], [37, 44]), ([], []), ([46], [46]), ([47], [47]), ([], []), ([49], [49]), ([50], [50]), ([48, 51], [48, 51]), ([45, 52], [45, 52]), ([], []), ([54], [54]), ([55], [55]), ([], []), ([57], [57]), ([58], [58]), ([56, 59], [56, 59]), ([53, 60], [53, 60]), ([], []), ([62], [62]), ([63], [63]), ([], []), ([65], [65]), ([66], [66]), ([64, 67], [64, 67]), ([], []), ([69], [69]), ([70], [70]), ([], []), ([72], [72]), ([73], [73]), ([71, 74], [71, 74]), ([68, 75], [68, 75]), ([], []), ([77], [77]), ([78], [78]), ([], []), ([80], [80]), ([81], [81]), ([79, 82], [79, 82]), ([76, 83], [76, 83]), ([], []), ([85], [85]), ([86], [86]), ([], []), ([88], [88]), ([89], [89]), ([87, 90], [87, 90]), ([84, 91], [84, 91]), ([], []), ([93], [93]), ([94], [94]), ([], []), ([96], [96]), ([97], [97]), ([95, 98], [95, 98]), ([], []), ([100], [100]), ([101], [101]), ([], []), ([103], [103]), ([104], [104]), ([102, 105], [102, 105]), ([99, 106], [99, 106]), ([], []), ([108], [108]), ([109], [109]), ([], []), ([111], [111]), ([112], [112]), ([110, 113], [110, 113]), ([107, 114], [107, 114]), ([], []), ([116], [116]), ([117], [117]), ([], []), ([119], [119]), ([120], [120]), ([118, 121], [118, 121]), ([115, 122], [115, 122]), ([30, 61, 92, 123], [30, 61, 92, 123]), ([124, 0, 1, 2, 3, 4, 5, 6, 7, 8, 9, 10, 11, 12, 13, 14, 15, 16, 17, 18, 19, 20, 21, 22, 23, 24, 25, 26, 27, 28, 29, 30, 31, 32, 33, 34, 35, 36, 37, 38, 39, 40, 41, 42, 43, 44, 45, 46, 47, 48, 49, 50, 51, 52, 53, 54, 55, 56, 57, 58, 59, 60, 61, 62, 63, 64, 65, 66, 67, 68, 69, 70, 71, 72, 73, 74, 75, 76, 77, 78, 79, 80, 81, 82, 83, 84, 85, 86, 87, 88, 89, 90, 91, 92, 93, 94, 95, 96, 97, 98, 99, 100, 101, 102, 103, 104, 105, 106, 107, 108, 109, 110, 111, 112, 113, 114, 115, 116, 117, 118, 119, 120, 121, 122, 123, 124], [124])])
def impl_multiplyFour.B1 : List Nat := [0, 1, 3, 0, 8, 24, 63, 0, 128, 384, 0, 1024, 3072, 8064, 16383, 0, 32768, 98304, 0, 262144, 786432, 2064384, 4194303, 0, 8388608, 25165824, 0, 67108864, 201326592, 528482304, 1073741823, 0, 2147483648, 6442450944, 0, 17179869184, 51539607552, 135291469824, 0, 274877906944, 824633720832, 0, 2199023255552, 6597069766656, 17317308137472, 35182224605184, 0, 70368744177664, 211106232532992, 0, 562949953421312, 1688849860263936, 4433230883192832, 9007197107257344, 0, 18014398509481984, 54043195528445952, 0, 144115188075855872, 432345564227567616, 1134907106097364992, 2305843007066210304, 0, 4611686018427387904, 13835058055282163712, 0, 36893488147419103232, 110680464442257309696, 290536219160925437952, 0, 590295810358705651712, 1770887431076116955136, 0, 4722366482869645213696, 14167099448608935641088, 37188636052598456057856, 75553252039895896031232, 0, 151115727451828646838272, 453347182355485940514816, 0, 1208925819614629174706176, 3626777458843887524118528, 9520290829465204750811136, 19342808502148048367910912, 0, 38685626227668133590597632, 116056878683004400771792896, 0, 309485009821345068724781056, 928455029464035206174343168, 2437194452343092416207650816, 4951760152529835081169108992, 0, 9903520314283042199192993792, 29710560942849126597578981376, 0, 79228162514264337593543950336, 237684487542793012780631851008, 623921779799831658549158608896, 0, 1267650600228229401496703205376, 3802951800684688204490109616128, 0, 10141204801825835211973625643008, 30423614405477505635920876929024, 79861987814378452294292301938688, 162249373308899080349378817294336, 0, 324518553658426726783156020576256, 973555660975280180349468061728768, 0, 2596148429267413814265248164610048, 7788445287802241442795744493830144, 20444668880480883787338829296304128, 41538364964758306745201771440766976, 0, 83076749736557242056487941267521536, 249230249209671726169463823802564608, 0, 664613997892457936451903530140172288, 1993841993677373809355710590420516864, 5233835233403106249558740299853856768, 10633823956375806668947414283049762816, 21267647932558653966460912964485513215, 42535295865117307932921825928971026431]
theorem impl_multiplyFour.tab1 : rtab .any (opsOf Try.f70 1) = impl_multiplyFour.T1 := by kernel_rfl
theorem impl_multiplyFour.bits1 : waitsOk impl_multiplyFour.T1.2 impl_multiplyFour.B1 = true := by kernel_rfl
set_option maxHeartbeats 8000000 in
set_option maxRecDepth 100000 in
theorem impl_multiplyFour.calls (A0 : Option Addr) (c0 : Nat) (l0 : List Int) (A1 : Option Addr) (c1 : Nat) (l1 : List Int) (r : List Int) (w : World) (hr0 : Kd.C (Kd.int .i64) w A0 l0.length l0) (hc0 : l0.length ≤ c0) (hr1 : Kd.C (Kd.int .i64) w A1 l1.length l1) (hc1 : l1.length ≤ c1) (h : impl_multiplyFour.f l0 l1 = some r) :
 Calls Try.prog 70 #[.slice A0 l0.length c0, .slice A1 l1.length c1] w fun e w' => ∃ v0_ : Value, e = .returned (v0_) ∧ Kd.R (Kd.int .i64) 3 w' w.heap.size (fun _ => True) v0_ r ∧ Below w.heap.size w w' := by
 have HR0 := Aside0.mk hr0
 have HC0 := Aside0.mk hc0
 clear hr0 hc0
 have HR1 := Aside0.mk hr1
 have HC1 := Aside0.mk hc1
 clear hr1 hc1
 have HB := Aside0.mk (Below.refl w.heap.size w)
 have H : (if 0 < (l0.length : Int) then (if 0 < (l1.length : Int) then (if 1 < (l0.length : Int) then (if 1 < (l1.length : Int) then (if 2 < (l0.length : Int) then (if 2 < (l1.length : Int) then (if 3 < (l0.length : Int) then (if 3 < (l1.length : Int) then (some (([wrap64 ((wrap64 ((wrap64 ((wrap64 ((rd l0 0) * (rd l1 0))) + (wrap64 ((rd l0 1) * (rd l1 1))))) + (wrap64 ((rd l0 2) * (rd l1 2))))) + (wrap64 ((rd l0 3) * (rd l1 3)))), wrap64 ((wrap64 ((wrap64 ((wrap64 ((rd l0 0) * (rd l1 1))) - (wrap64 ((rd l0 1) * (rd l1 0))))) + (wrap64 ((rd l0 2) * (rd l1 3))))) - (wrap64 ((rd l0 3) * (rd l1 2)))), wrap64 ((wrap64 ((wrap64 ((wrap64 ((rd l0 0) * (rd l1 2))) - (wrap64 ((rd l0 2) * (rd l1 0))))) + (wrap64 ((rd l0 3) * (rd l1 1))))) - (wrap64 ((rd l0 1) * (rd l1 3)))), wrap64 ((wrap64 ((wrap64 ((wrap64 ((rd l0 0) * (rd l1 3))) - (wrap64 ((rd l0 3) * (rd l1 0))))) + (wrap64 ((rd l0 1) * (rd l1 2))))) - (wrap64 ((rd l0 2) * (rd l1 1))))] : List Int))) else (none)) else (none)) else (none)) else (none)) else (none)) else (none)) else (none)) else (none)) = some r := h
 clear h
 by_cases c3 : 0 < (l0.length : Int)
 ·
  rw [if_pos c3] at H
  have c3b0 : decide (0 < (l0.length : Int)) = true := decide_eq_true c3
  have c3b1 : decide (0 < l0.length) = true := decide_eq_true (by omega)
  clear c3
  by_cases c4 : 0 < (l1.length : Int)
  ·
   rw [if_pos c4] at H
   have c4b0 : decide (0 < (l1.length : Int)) = true := decide_eq_true c4
   have c4b1 : decide (0 < l1.length) = true := decide_eq_true (by omega)
   clear c4
   by_cases c5 : 1 < (l0.length : Int)
   ·
    rw [if_pos c5] at H
    have c5b0 : decide (1 < (l0.length : Int)) = true := decide_eq_true c5
    have c5b1 : decide (1 < l0.length) = true := decide_eq_true (by omega)
    clear c5
    by_cases c6 : 1 < (l1.length : Int)
    ·
     rw [if_pos c6] at H
     have c6b0 : decide (1 < (l1.length : Int)) = true := decide_eq_true c6
     have c6b1 : decide (1 < l1.length) = true := decide_eq_true (by omega)
     clear c6
     by_cases c7 : 2 < (l0.length : Int)
     ·
      rw [if_pos c7] at H
      have c7b0 : decide (2 < (l0.length : Int)) = true := decide_eq_true c7
      have c7b1 : decide (2 < l0.length) = true := decide_eq_true (by omega)
      clear c7
      by_cases c8 : 2 < (l1.length : Int)
      ·
       rw [if_pos c8] at H
       have c8b0 : decide (2 < (l1.length : Int)) = true := decide_eq_true c8
       have c8b1 : decide (2 < l1.length) = true := decide_eq_true (by omega)
       clear c8
       by_cases c9 : 3 < (l0.length : Int)
       ·
        rw [if_pos c9] at H
        have c9b0 : decide (3 < (l0.length : Int)) = true := decide_eq_true c9
        have c9b1 : decide (3 < l0.length) = true := decide_eq_true (by omega)
        clear c9
        by_cases c10 : 3 < (l1.length : Int)
        ·
         rw [if_pos c10] at H
         have c10b0 : decide (3 < (l1.length : Int)) = true := decide_eq_true c10
         have c10b1 : decide (3 < l1.length) = true := decide_eq_true (by omega)
         clear c10
         obtain ⟨y226, hy226⟩ : ∃ y_ : List Int, y_ = (([wrap64 ((wrap64 ((wrap64 ((wrap64 ((rd l0 0) * (rd l1 0))) + (wrap64 ((rd l0 1) * (rd l1 1))))) + (wrap64 ((rd l0 2) * (rd l1 2))))) + (wrap64 ((rd l0 3) * (rd l1 3)))), wrap64 ((wrap64 ((wrap64 ((wrap64 ((rd l0 0) * (rd l1 1))) - (wrap64 ((rd l0 1) * (rd l1 0))))) + (wrap64 ((rd l0 2) * (rd l1 3))))) - (wrap64 ((rd l0 3) * (rd l1 2)))), wrap64 ((wrap64 ((wrap64 ((wrap64 ((rd l0 0) * (rd l1 2))) - (wrap64 ((rd l0 2) * (rd l1 0))))) + (wrap64 ((rd l0 3) * (rd l1 1))))) - (wrap64 ((rd l0 1) * (rd l1 3)))), wrap64 ((wrap64 ((wrap64 ((wrap64 ((rd l0 0) * (rd l1 3))) - (wrap64 ((rd l0 3) * (rd l1 0))))) + (wrap64 ((rd l0 1) * (rd l1 2))))) - (wrap64 ((rd l0 2) * (rd l1 1))))] : List Int)) := ⟨_, rfl⟩
         replace H : (some y226) = some r := by first | (rw [hy226]; with_reducible exact H) | (have H2_ := (Option.bind_some _ _).symm.trans H; rw [hy226]; with_reducible exact H2_) | (have H2_ := (Option.bind_some _ _).symm.trans H; with_reducible exact H2_) | with_reducible exact H | (rw [hy226]; exact H) | exact H
         have Ny226 := Aside0.mk hy226
         clear hy226
         obtain rfl := Option.some.inj H
         go_enter Try.func70, Try.ntmps70
         try go_wp2
         have n0_ := Aside0.mk (below_drew1 HB.out)
         clear HB
         have HB := n0_
         clear n0_
         have p194 : 0 ≤ (0 : Int) := (by omega)
         have q194 : 0 < (l0.length : Int) := of_decide_eq_true (by first | (with_reducible assumption) | assumption)
         obtain ⟨ad194, e194, hx194_0⟩ := Kd.at_int HR0.out 0 p194 q194
         have hw194_0 := hx194_0
         (try rw [show ((0 : Int)).toNat = 0 from rfl] at hw194_0)
         (try rw [show 0 * 1 = 0 from rfl] at hw194_0)
         (try rw [Addr.add_zero'] at hw194_0)
         cases e194
         have qi194 : (0 < l0.length) = True := eq_true (by omega)
         (try rw [show ((0 : Int)).toNat = 0 from rfl] at hx194_0)
         (try rw [Addr.add_zero'] at hx194_0)
         replace hx194_0 := (HB.out.cell (World.block_lt_of_cell? w _ hx194_0)).trans hx194_0
         replace p194 := eq_true p194
         replace q194 := eq_true q194
         have p195 : 0 ≤ (0 : Int) := (by omega)
         have q195 : 0 < (l1.length : Int) := of_decide_eq_true (by first | (with_reducible assumption) | assumption)
         obtain ⟨ad195, e195, hx195_0⟩ := Kd.at_int HR1.out 0 p195 q195
         have hw195_0 := hx195_0
         (try rw [show ((0 : Int)).toNat = 0 from rfl] at hw195_0)
         (try rw [show 0 * 1 = 0 from rfl] at hw195_0)
         (try rw [Addr.add_zero'] at hw195_0)
         cases e195
         have qi195 : (0 < l1.length) = True := eq_true (by omega)
         (try rw [show ((0 : Int)).toNat = 0 from rfl] at hx195_0)
         (try rw [Addr.add_zero'] at hx195_0)
         replace hx195_0 := (HB.out.cell (World.block_lt_of_cell? w _ hx195_0)).trans hx195_0
         replace p195 := eq_true p195
         replace q195 := eq_true q195
         have p196 : 0 ≤ (1 : Int) := (by omega)
         have q196 : 1 < (l0.length : Int) := of_decide_eq_true (by first | (with_reducible assumption) | assumption)
         obtain ⟨ad196, e196, hx196_0⟩ := Kd.at_int HR0.out 1 p196 q196
         have hw196_0 := hx196_0
         (try rw [show ((1 : Int)).toNat = 1 from rfl] at hw196_0)
         (try rw [show 1 * 1 = 1 from rfl] at hw196_0)
         (try simp only [Nat.reduceMul, Nat.reduceEqDiff, Go.Addr.add, ↓reduceIte] at hw196_0)
         obtain rfl : ad194 = ad196 := (by injection e196)
         (try simp only [show (1 : Int).toNat = 1 from rfl, Nat.reduceMul, Nat.reduceEqDiff, Go.Addr.add, ↓reduceIte] at hx196_0)
         have qi196 : (1 < l0.length) = True := eq_true (by omega)
         (try rw [show ((1 : Int)).toNat = 1 from rfl] at hx196_0)
         replace hx196_0 := (HB.out.cell (World.block_lt_of_cell? w _ hx196_0)).trans hx196_0
         replace p196 := eq_true p196
         replace q196 := eq_true q196
         have p197 : 0 ≤ (1 : Int) := (by omega)
         have q197 : 1 < (l1.length : Int) := of_decide_eq_true (by first | (with_reducible assumption) | assumption)
         obtain ⟨ad197, e197, hx197_0⟩ := Kd.at_int HR1.out 1 p197 q197
         have hw197_0 := hx197_0
         (try rw [show ((1 : Int)).toNat = 1 from rfl] at hw197_0)
         (try rw [show 1 * 1 = 1 from rfl] at hw197_0)
         (try simp only [Nat.reduceMul, Nat.reduceEqDiff, Go.Addr.add, ↓reduceIte] at hw197_0)
         obtain rfl : ad195 = ad197 := (by injection e197)
         (try simp only [show (1 : Int).toNat = 1 from rfl, Nat.reduceMul, Nat.reduceEqDiff, Go.Addr.add, ↓reduceIte] at hx197_0)
         have qi197 : (1 < l1.length) = True := eq_true (by omega)
         (try rw [show ((1 : Int)).toNat = 1 from rfl] at hx197_0)
         replace hx197_0 := (HB.out.cell (World.block_lt_of_cell? w _ hx197_0)).trans hx197_0
         replace p197 := eq_true p197
         replace q197 := eq_true q197
         have p198 : 0 ≤ (2 : Int) := (by omega)
         have q198 : 2 < (l0.length : Int) := of_decide_eq_true (by first | (with_reducible assumption) | assumption)
         obtain ⟨ad198, e198, hx198_0⟩ := Kd.at_int HR0.out 2 p198 q198
         have hw198_0 := hx198_0
         (try rw [show ((2 : Int)).toNat = 2 from rfl] at hw198_0)
         (try rw [show 2 * 1 = 2 from rfl] at hw198_0)
         (try simp only [Nat.reduceMul, Nat.reduceEqDiff, Go.Addr.add, ↓reduceIte] at hw198_0)
         obtain rfl : ad194 = ad198 := (by injection e198)
         (try simp only [show (2 : Int).toNat = 2 from rfl, Nat.reduceMul, Nat.reduceEqDiff, Go.Addr.add, ↓reduceIte] at hx198_0)
         have qi198 : (2 < l0.length) = True := eq_true (by omega)
         (try rw [show ((2 : Int)).toNat = 2 from rfl] at hx198_0)
         replace hx198_0 := (HB.out.cell (World.block_lt_of_cell? w _ hx198_0)).trans hx198_0
         replace p198 := eq_true p198
         replace q198 := eq_true q198
         have p199 : 0 ≤ (2 : Int) := (by omega)
         have q199 : 2 < (l1.length : Int) := of_decide_eq_true (by first | (with_reducible assumption) | assumption)
         obtain ⟨ad199, e199, hx199_0⟩ := Kd.at_int HR1.out 2 p199 q199
         have hw199_0 := hx199_0
         (try rw [show ((2 : Int)).toNat = 2 from rfl] at hw199_0)
         (try rw [show 2 * 1 = 2 from rfl] at hw199_0)
         (try simp only [Nat.reduceMul, Nat.reduceEqDiff, Go.Addr.add, ↓reduceIte] at hw199_0)
         obtain rfl : ad195 = ad199 := (by injection e199)
         (try simp only [show (2 : Int).toNat = 2 from rfl, Nat.reduceMul, Nat.reduceEqDiff, Go.Addr.add, ↓reduceIte] at hx199_0)
         have qi199 : (2 < l1.length) = True := eq_true (by omega)
         (try rw [show ((2 : Int)).toNat = 2 from rfl] at hx199_0)
         replace hx199_0 := (HB.out.cell (World.block_lt_of_cell? w _ hx199_0)).trans hx199_0
         replace p199 := eq_true p199
         replace q199 := eq_true q199
         have p200 : 0 ≤ (3 : Int) := (by omega)
         have q200 : 3 < (l0.length : Int) := of_decide_eq_true (by first | (with_reducible assumption) | assumption)
         obtain ⟨ad200, e200, hx200_0⟩ := Kd.at_int HR0.out 3 p200 q200
         have hw200_0 := hx200_0
         (try rw [show ((3 : Int)).toNat = 3 from rfl] at hw200_0)
         (try rw [show 3 * 1 = 3 from rfl] at hw200_0)
         (try simp only [Nat.reduceMul, Nat.reduceEqDiff, Go.Addr.add, ↓reduceIte] at hw200_0)
         obtain rfl : ad194 = ad200 := (by injection e200)
         (try simp only [show (3 : Int).toNat = 3 from rfl, Nat.reduceMul, Nat.reduceEqDiff, Go.Addr.add, ↓reduceIte] at hx200_0)
         have qi200 : (3 < l0.length) = True := eq_true (by omega)
         (try rw [show ((3 : Int)).toNat = 3 from rfl] at hx200_0)
         replace hx200_0 := (HB.out.cell (World.block_lt_of_cell? w _ hx200_0)).trans hx200_0
         replace p200 := eq_true p200
         replace q200 := eq_true q200
         have p201 : 0 ≤ (3 : Int) := (by omega)
         have q201 : 3 < (l1.length : Int) := of_decide_eq_true (by first | (with_reducible assumption) | assumption)
         obtain ⟨ad201, e201, hx201_0⟩ := Kd.at_int HR1.out 3 p201 q201
         have hw201_0 := hx201_0
         (try rw [show ((3 : Int)).toNat = 3 from rfl] at hw201_0)
         (try rw [show 3 * 1 = 3 from rfl] at hw201_0)
         (try simp only [Nat.reduceMul, Nat.reduceEqDiff, Go.Addr.add, ↓reduceIte] at hw201_0)
         obtain rfl : ad195 = ad201 := (by injection e201)
         (try simp only [show (3 : Int).toNat = 3 from rfl, Nat.reduceMul, Nat.reduceEqDiff, Go.Addr.add, ↓reduceIte] at hx201_0)
         have qi201 : (3 < l1.length) = True := eq_true (by omega)
         (try rw [show ((3 : Int)).toNat = 3 from rfl] at hx201_0)
         replace hx201_0 := (HB.out.cell (World.block_lt_of_cell? w _ hx201_0)).trans hx201_0
         replace p201 := eq_true p201
         replace q201 := eq_true q201
         have p202 : 0 ≤ (0 : Int) := (by omega)
         have q202 : 0 < (l0.length : Int) := of_decide_eq_true (by first | (with_reducible assumption) | assumption)
         obtain ⟨ad202, e202, hx202_0⟩ := Kd.at_int HR0.out 0 p202 q202
         have hw202_0 := hx202_0
         (try rw [show ((0 : Int)).toNat = 0 from rfl] at hw202_0)
         (try rw [show 0 * 1 = 0 from rfl] at hw202_0)
         (try rw [Addr.add_zero'] at hw202_0)
         obtain rfl : ad194 = ad202 := (by injection e202)
         have qi202 : (0 < l0.length) = True := eq_true (by omega)
         (try rw [show ((0 : Int)).toNat = 0 from rfl] at hx202_0)
         (try rw [Addr.add_zero'] at hx202_0)
         replace hx202_0 := (HB.out.cell (World.block_lt_of_cell? w _ hx202_0)).trans hx202_0
         replace p202 := eq_true p202
         replace q202 := eq_true q202
         have p203 : 0 ≤ (1 : Int) := (by omega)
         have q203 : 1 < (l1.length : Int) := of_decide_eq_true (by first | (with_reducible assumption) | assumption)
         obtain ⟨ad203, e203, hx203_0⟩ := Kd.at_int HR1.out 1 p203 q203
         have hw203_0 := hx203_0
         (try rw [show ((1 : Int)).toNat = 1 from rfl] at hw203_0)
         (try rw [show 1 * 1 = 1 from rfl] at hw203_0)
         (try simp only [Nat.reduceMul, Nat.reduceEqDiff, Go.Addr.add, ↓reduceIte] at hw203_0)
         obtain rfl : ad195 = ad203 := (by injection e203)
         (try simp only [show (1 : Int).toNat = 1 from rfl, Nat.reduceMul, Nat.reduceEqDiff, Go.Addr.add, ↓reduceIte] at hx203_0)
         have qi203 : (1 < l1.length) = True := eq_true (by omega)
         (try rw [show ((1 : Int)).toNat = 1 from rfl] at hx203_0)
         replace hx203_0 := (HB.out.cell (World.block_lt_of_cell? w _ hx203_0)).trans hx203_0
         replace p203 := eq_true p203
         replace q203 := eq_true q203
         have p204 : 0 ≤ (1 : Int) := (by omega)
         have q204 : 1 < (l0.length : Int) := of_decide_eq_true (by first | (with_reducible assumption) | assumption)
         obtain ⟨ad204, e204, hx204_0⟩ := Kd.at_int HR0.out 1 p204 q204
         have hw204_0 := hx204_0
         (try rw [show ((1 : Int)).toNat = 1 from rfl] at hw204_0)
         (try rw [show 1 * 1 = 1 from rfl] at hw204_0)
         (try simp only [Nat.reduceMul, Nat.reduceEqDiff, Go.Addr.add, ↓reduceIte] at hw204_0)
         obtain rfl : ad194 = ad204 := (by injection e204)
         (try simp only [show (1 : Int).toNat = 1 from rfl, Nat.reduceMul, Nat.reduceEqDiff, Go.Addr.add, ↓reduceIte] at hx204_0)
         have qi204 : (1 < l0.length) = True := eq_true (by omega)
         (try rw [show ((1 : Int)).toNat = 1 from rfl] at hx204_0)
         replace hx204_0 := (HB.out.cell (World.block_lt_of_cell? w _ hx204_0)).trans hx204_0
         replace p204 := eq_true p204
         replace q204 := eq_true q204
         have p205 : 0 ≤ (0 : Int) := (by omega)
         have q205 : 0 < (l1.length : Int) := of_decide_eq_true (by first | (with_reducible assumption) | assumption)
         obtain ⟨ad205, e205, hx205_0⟩ := Kd.at_int HR1.out 0 p205 q205
         have hw205_0 := hx205_0
         (try rw [show ((0 : Int)).toNat = 0 from rfl] at hw205_0)
         (try rw [show 0 * 1 = 0 from rfl] at hw205_0)
         (try rw [Addr.add_zero'] at hw205_0)
         obtain rfl : ad195 = ad205 := (by injection e205)
         have qi205 : (0 < l1.length) = True := eq_true (by omega)
         (try rw [show ((0 : Int)).toNat = 0 from rfl] at hx205_0)
         (try rw [Addr.add_zero'] at hx205_0)
         replace hx205_0 := (HB.out.cell (World.block_lt_of_cell? w _ hx205_0)).trans hx205_0
         replace p205 := eq_true p205
         replace q205 := eq_true q205
         have p206 : 0 ≤ (2 : Int) := (by omega)
         have q206 : 2 < (l0.length : Int) := of_decide_eq_true (by first | (with_reducible assumption) | assumption)
         obtain ⟨ad206, e206, hx206_0⟩ := Kd.at_int HR0.out 2 p206 q206
         have hw206_0 := hx206_0
         (try rw [show ((2 : Int)).toNat = 2 from rfl] at hw206_0)
         (try rw [show 2 * 1 = 2 from rfl] at hw206_0)
         (try simp only [Nat.reduceMul, Nat.reduceEqDiff, Go.Addr.add, ↓reduceIte] at hw206_0)
         obtain rfl : ad194 = ad206 := (by injection e206)
         (try simp only [show (2 : Int).toNat = 2 from rfl, Nat.reduceMul, Nat.reduceEqDiff, Go.Addr.add, ↓reduceIte] at hx206_0)
         have qi206 : (2 < l0.length) = True := eq_true (by omega)
         (try rw [show ((2 : Int)).toNat = 2 from rfl] at hx206_0)
         replace hx206_0 := (HB.out.cell (World.block_lt_of_cell? w _ hx206_0)).trans hx206_0
         replace p206 := eq_true p206
         replace q206 := eq_true q206
         have p207 : 0 ≤ (3 : Int) := (by omega)
         have q207 : 3 < (l1.length : Int) := of_decide_eq_true (by first | (with_reducible assumption) | assumption)
         obtain ⟨ad207, e207, hx207_0⟩ := Kd.at_int HR1.out 3 p207 q207
         have hw207_0 := hx207_0
         (try rw [show ((3 : Int)).toNat = 3 from rfl] at hw207_0)
         (try rw [show 3 * 1 = 3 from rfl] at hw207_0)
         (try simp only [Nat.reduceMul, Nat.reduceEqDiff, Go.Addr.add, ↓reduceIte] at hw207_0)
         obtain rfl : ad195 = ad207 := (by injection e207)
         (try simp only [show (3 : Int).toNat = 3 from rfl, Nat.reduceMul, Nat.reduceEqDiff, Go.Addr.add, ↓reduceIte] at hx207_0)
         have qi207 : (3 < l1.length) = True := eq_true (by omega)
         (try rw [show ((3 : Int)).toNat = 3 from rfl] at hx207_0)
         replace hx207_0 := (HB.out.cell (World.block_lt_of_cell? w _ hx207_0)).trans hx207_0
         replace p207 := eq_true p207
         replace q207 := eq_true q207
         have p208 : 0 ≤ (3 : Int) := (by omega)
         have q208 : 3 < (l0.length : Int) := of_decide_eq_true (by first | (with_reducible assumption) | assumption)
         obtain ⟨ad208, e208, hx208_0⟩ := Kd.at_int HR0.out 3 p208 q208
         have hw208_0 := hx208_0
         (try rw [show ((3 : Int)).toNat = 3 from rfl] at hw208_0)
         (try rw [show 3 * 1 = 3 from rfl] at hw208_0)
         (try simp only [Nat.reduceMul, Nat.reduceEqDiff, Go.Addr.add, ↓reduceIte] at hw208_0)
         obtain rfl : ad194 = ad208 := (by injection e208)
         (try simp only [show (3 : Int).toNat = 3 from rfl, Nat.reduceMul, Nat.reduceEqDiff, Go.Addr.add, ↓reduceIte] at hx208_0)
         have qi208 : (3 < l0.length) = True := eq_true (by omega)
         (try rw [show ((3 : Int)).toNat = 3 from rfl] at hx208_0)
         replace hx208_0 := (HB.out.cell (World.block_lt_of_cell? w _ hx208_0)).trans hx208_0
         replace p208 := eq_true p208
         replace q208 := eq_true q208
         have p209 : 0 ≤ (2 : Int) := (by omega)
         have q209 : 2 < (l1.length : Int) := of_decide_eq_true (by first | (with_reducible assumption) | assumption)
         obtain ⟨ad209, e209, hx209_0⟩ := Kd.at_int HR1.out 2 p209 q209
         have hw209_0 := hx209_0
         (try rw [show ((2 : Int)).toNat = 2 from rfl] at hw209_0)
         (try rw [show 2 * 1 = 2 from rfl] at hw209_0)
         (try simp only [Nat.reduceMul, Nat.reduceEqDiff, Go.Addr.add, ↓reduceIte] at hw209_0)
         obtain rfl : ad195 = ad209 := (by injection e209)
         (try simp only [show (2 : Int).toNat = 2 from rfl, Nat.reduceMul, Nat.reduceEqDiff, Go.Addr.add, ↓reduceIte] at hx209_0)
         have qi209 : (2 < l1.length) = True := eq_true (by omega)
         (try rw [show ((2 : Int)).toNat = 2 from rfl] at hx209_0)
         replace hx209_0 := (HB.out.cell (World.block_lt_of_cell? w _ hx209_0)).trans hx209_0
         replace p209 := eq_true p209
         replace q209 := eq_true q209
         have p210 : 0 ≤ (0 : Int) := (by omega)
         have q210 : 0 < (l0.length : Int) := of_decide_eq_true (by first | (with_reducible assumption) | assumption)
         obtain ⟨ad210, e210, hx210_0⟩ := Kd.at_int HR0.out 0 p210 q210
         have hw210_0 := hx210_0
         (try rw [show ((0 : Int)).toNat = 0 from rfl] at hw210_0)
         (try rw [show 0 * 1 = 0 from rfl] at hw210_0)
         (try rw [Addr.add_zero'] at hw210_0)
         obtain rfl : ad194 = ad210 := (by injection e210)
         have qi210 : (0 < l0.length) = True := eq_true (by omega)
         (try rw [show ((0 : Int)).toNat = 0 from rfl] at hx210_0)
         (try rw [Addr.add_zero'] at hx210_0)
         replace hx210_0 := (HB.out.cell (World.block_lt_of_cell? w _ hx210_0)).trans hx210_0
         replace p210 := eq_true p210
         replace q210 := eq_true q210
         have p211 : 0 ≤ (2 : Int) := (by omega)
         have q211 : 2 < (l1.length : Int) := of_decide_eq_true (by first | (with_reducible assumption) | assumption)
         obtain ⟨ad211, e211, hx211_0⟩ := Kd.at_int HR1.out 2 p211 q211
         have hw211_0 := hx211_0
         (try rw [show ((2 : Int)).toNat = 2 from rfl] at hw211_0)
         (try rw [show 2 * 1 = 2 from rfl] at hw211_0)
         (try simp only [Nat.reduceMul, Nat.reduceEqDiff, Go.Addr.add, ↓reduceIte] at hw211_0)
         obtain rfl : ad195 = ad211 := (by injection e211)
         (try simp only [show (2 : Int).toNat = 2 from rfl, Nat.reduceMul, Nat.reduceEqDiff, Go.Addr.add, ↓reduceIte] at hx211_0)
         have qi211 : (2 < l1.length) = True := eq_true (by omega)
         (try rw [show ((2 : Int)).toNat = 2 from rfl] at hx211_0)
         replace hx211_0 := (HB.out.cell (World.block_lt_of_cell? w _ hx211_0)).trans hx211_0
         replace p211 := eq_true p211
         replace q211 := eq_true q211
         have p212 : 0 ≤ (2 : Int) := (by omega)
         have q212 : 2 < (l0.length : Int) := of_decide_eq_true (by first | (with_reducible assumption) | assumption)
         obtain ⟨ad212, e212, hx212_0⟩ := Kd.at_int HR0.out 2 p212 q212
         have hw212_0 := hx212_0
         (try rw [show ((2 : Int)).toNat = 2 from rfl] at hw212_0)
         (try rw [show 2 * 1 = 2 from rfl] at hw212_0)
         (try simp only [Nat.reduceMul, Nat.reduceEqDiff, Go.Addr.add, ↓reduceIte] at hw212_0)
         obtain rfl : ad194 = ad212 := (by injection e212)
         (try simp only [show (2 : Int).toNat = 2 from rfl, Nat.reduceMul, Nat.reduceEqDiff, Go.Addr.add, ↓reduceIte] at hx212_0)
         have qi212 : (2 < l0.length) = True := eq_true (by omega)
         (try rw [show ((2 : Int)).toNat = 2 from rfl] at hx212_0)
         replace hx212_0 := (HB.out.cell (World.block_lt_of_cell? w _ hx212_0)).trans hx212_0
         replace p212 := eq_true p212
         replace q212 := eq_true q212
         have p213 : 0 ≤ (0 : Int) := (by omega)
         have q213 : 0 < (l1.length : Int) := of_decide_eq_true (by first | (with_reducible assumption) | assumption)
         obtain ⟨ad213, e213, hx213_0⟩ := Kd.at_int HR1.out 0 p213 q213
         have hw213_0 := hx213_0
         (try rw [show ((0 : Int)).toNat = 0 from rfl] at hw213_0)
         (try rw [show 0 * 1 = 0 from rfl] at hw213_0)
         (try rw [Addr.add_zero'] at hw213_0)
         obtain rfl : ad195 = ad213 := (by injection e213)
         have qi213 : (0 < l1.length) = True := eq_true (by omega)
         (try rw [show ((0 : Int)).toNat = 0 from rfl] at hx213_0)
         (try rw [Addr.add_zero'] at hx213_0)
         replace hx213_0 := (HB.out.cell (World.block_lt_of_cell? w _ hx213_0)).trans hx213_0
         replace p213 := eq_true p213
         replace q213 := eq_true q213
         have p214 : 0 ≤ (3 : Int) := (by omega)
         have q214 : 3 < (l0.length : Int) := of_decide_eq_true (by first | (with_reducible assumption) | assumption)
         obtain ⟨ad214, e214, hx214_0⟩ := Kd.at_int HR0.out 3 p214 q214
         have hw214_0 := hx214_0
         (try rw [show ((3 : Int)).toNat = 3 from rfl] at hw214_0)
         (try rw [show 3 * 1 = 3 from rfl] at hw214_0)
         (try simp only [Nat.reduceMul, Nat.reduceEqDiff, Go.Addr.add, ↓reduceIte] at hw214_0)
         obtain rfl : ad194 = ad214 := (by injection e214)
         (try simp only [show (3 : Int).toNat = 3 from rfl, Nat.reduceMul, Nat.reduceEqDiff, Go.Addr.add, ↓reduceIte] at hx214_0)
         have qi214 : (3 < l0.length) = True := eq_true (by omega)
         (try rw [show ((3 : Int)).toNat = 3 from rfl] at hx214_0)
         replace hx214_0 := (HB.out.cell (World.block_lt_of_cell? w _ hx214_0)).trans hx214_0
         replace p214 := eq_true p214
         replace q214 := eq_true q214
         have p215 : 0 ≤ (1 : Int) := (by omega)
         have q215 : 1 < (l1.length : Int) := of_decide_eq_true (by first | (with_reducible assumption) | assumption)
         obtain ⟨ad215, e215, hx215_0⟩ := Kd.at_int HR1.out 1 p215 q215
         have hw215_0 := hx215_0
         (try rw [show ((1 : Int)).toNat = 1 from rfl] at hw215_0)
         (try rw [show 1 * 1 = 1 from rfl] at hw215_0)
         (try simp only [Nat.reduceMul, Nat.reduceEqDiff, Go.Addr.add, ↓reduceIte] at hw215_0)
         obtain rfl : ad195 = ad215 := (by injection e215)
         (try simp only [show (1 : Int).toNat = 1 from rfl, Nat.reduceMul, Nat.reduceEqDiff, Go.Addr.add, ↓reduceIte] at hx215_0)
         have qi215 : (1 < l1.length) = True := eq_true (by omega)
         (try rw [show ((1 : Int)).toNat = 1 from rfl] at hx215_0)
         replace hx215_0 := (HB.out.cell (World.block_lt_of_cell? w _ hx215_0)).trans hx215_0
         replace p215 := eq_true p215
         replace q215 := eq_true q215
         have p216 : 0 ≤ (1 : Int) := (by omega)
         have q216 : 1 < (l0.length : Int) := of_decide_eq_true (by first | (with_reducible assumption) | assumption)
         obtain ⟨ad216, e216, hx216_0⟩ := Kd.at_int HR0.out 1 p216 q216
         have hw216_0 := hx216_0
         (try rw [show ((1 : Int)).toNat = 1 from rfl] at hw216_0)
         (try rw [show 1 * 1 = 1 from rfl] at hw216_0)
         (try simp only [Nat.reduceMul, Nat.reduceEqDiff, Go.Addr.add, ↓reduceIte] at hw216_0)
         obtain rfl : ad194 = ad216 := (by injection e216)
         (try simp only [show (1 : Int).toNat = 1 from rfl, Nat.reduceMul, Nat.reduceEqDiff, Go.Addr.add, ↓reduceIte] at hx216_0)
         have qi216 : (1 < l0.length) = True := eq_true (by omega)
         (try rw [show ((1 : Int)).toNat = 1 from rfl] at hx216_0)
         replace hx216_0 := (HB.out.cell (World.block_lt_of_cell? w _ hx216_0)).trans hx216_0
         replace p216 := eq_true p216
         replace q216 := eq_true q216
         have p217 : 0 ≤ (3 : Int) := (by omega)
         have q217 : 3 < (l1.length : Int) := of_decide_eq_true (by first | (with_reducible assumption) | assumption)
         obtain ⟨ad217, e217, hx217_0⟩ := Kd.at_int HR1.out 3 p217 q217
         have hw217_0 := hx217_0
         (try rw [show ((3 : Int)).toNat = 3 from rfl] at hw217_0)
         (try rw [show 3 * 1 = 3 from rfl] at hw217_0)
         (try simp only [Nat.reduceMul, Nat.reduceEqDiff, Go.Addr.add, ↓reduceIte] at hw217_0)
         obtain rfl : ad195 = ad217 := (by injection e217)
         (try simp only [show (3 : Int).toNat = 3 from rfl, Nat.reduceMul, Nat.reduceEqDiff, Go.Addr.add, ↓reduceIte] at hx217_0)
         have qi217 : (3 < l1.length) = True := eq_true (by omega)
         (try rw [show ((3 : Int)).toNat = 3 from rfl] at hx217_0)
         replace hx217_0 := (HB.out.cell (World.block_lt_of_cell? w _ hx217_0)).trans hx217_0
         replace p217 := eq_true p217
         replace q217 := eq_true q217
         have p218 : 0 ≤ (0 : Int) := (by omega)
         have q218 : 0 < (l0.length : Int) := of_decide_eq_true (by first | (with_reducible assumption) | assumption)
         obtain ⟨ad218, e218, hx218_0⟩ := Kd.at_int HR0.out 0 p218 q218
         have hw218_0 := hx218_0
         (try rw [show ((0 : Int)).toNat = 0 from rfl] at hw218_0)
         (try rw [show 0 * 1 = 0 from rfl] at hw218_0)
         (try rw [Addr.add_zero'] at hw218_0)
         obtain rfl : ad194 = ad218 := (by injection e218)
         have qi218 : (0 < l0.length) = True := eq_true (by omega)
         (try rw [show ((0 : Int)).toNat = 0 from rfl] at hx218_0)
         (try rw [Addr.add_zero'] at hx218_0)
         replace hx218_0 := (HB.out.cell (World.block_lt_of_cell? w _ hx218_0)).trans hx218_0
         replace p218 := eq_true p218
         replace q218 := eq_true q218
         have p219 : 0 ≤ (3 : Int) := (by omega)
         have q219 : 3 < (l1.length : Int) := of_decide_eq_true (by first | (with_reducible assumption) | assumption)
         obtain ⟨ad219, e219, hx219_0⟩ := Kd.at_int HR1.out 3 p219 q219
         have hw219_0 := hx219_0
         (try rw [show ((3 : Int)).toNat = 3 from rfl] at hw219_0)
         (try rw [show 3 * 1 = 3 from rfl] at hw219_0)
         (try simp only [Nat.reduceMul, Nat.reduceEqDiff, Go.Addr.add, ↓reduceIte] at hw219_0)
         obtain rfl : ad195 = ad219 := (by injection e219)
         (try simp only [show (3 : Int).toNat = 3 from rfl, Nat.reduceMul, Nat.reduceEqDiff, Go.Addr.add, ↓reduceIte] at hx219_0)
         have qi219 : (3 < l1.length) = True := eq_true (by omega)
         (try rw [show ((3 : Int)).toNat = 3 from rfl] at hx219_0)
         replace hx219_0 := (HB.out.cell (World.block_lt_of_cell? w _ hx219_0)).trans hx219_0
         replace p219 := eq_true p219
         replace q219 := eq_true q219
         have p220 : 0 ≤ (3 : Int) := (by omega)
         have q220 : 3 < (l0.length : Int) := of_decide_eq_true (by first | (with_reducible assumption) | assumption)
         obtain ⟨ad220, e220, hx220_0⟩ := Kd.at_int HR0.out 3 p220 q220
         have hw220_0 := hx220_0
         (try rw [show ((3 : Int)).toNat = 3 from rfl] at hw220_0)
         (try rw [show 3 * 1 = 3 from rfl] at hw220_0)
         (try simp only [Nat.reduceMul, Nat.reduceEqDiff, Go.Addr.add, ↓reduceIte] at hw220_0)
         obtain rfl : ad194 = ad220 := (by injection e220)
         (try simp only [show (3 : Int).toNat = 3 from rfl, Nat.reduceMul, Nat.reduceEqDiff, Go.Addr.add, ↓reduceIte] at hx220_0)
         have qi220 : (3 < l0.length) = True := eq_true (by omega)
         (try rw [show ((3 : Int)).toNat = 3 from rfl] at hx220_0)
         replace hx220_0 := (HB.out.cell (World.block_lt_of_cell? w _ hx220_0)).trans hx220_0
         replace p220 := eq_true p220
         replace q220 := eq_true q220
         have p221 : 0 ≤ (0 : Int) := (by omega)
         have q221 : 0 < (l1.length : Int) := of_decide_eq_true (by first | (with_reducible assumption) | assumption)
         obtain ⟨ad221, e221, hx221_0⟩ := Kd.at_int HR1.out 0 p221 q221
         have hw221_0 := hx221_0
         (try rw [show ((0 : Int)).toNat = 0 from rfl] at hw221_0)
         (try rw [show 0 * 1 = 0 from rfl] at hw221_0)
         (try rw [Addr.add_zero'] at hw221_0)
         obtain rfl : ad195 = ad221 := (by injection e221)
         have qi221 : (0 < l1.length) = True := eq_true (by omega)
         (try rw [show ((0 : Int)).toNat = 0 from rfl] at hx221_0)
         (try rw [Addr.add_zero'] at hx221_0)
         replace hx221_0 := (HB.out.cell (World.block_lt_of_cell? w _ hx221_0)).trans hx221_0
         replace p221 := eq_true p221
         replace q221 := eq_true q221
         have p222 : 0 ≤ (1 : Int) := (by omega)
         have q222 : 1 < (l0.length : Int) := of_decide_eq_true (by first | (with_reducible assumption) | assumption)
         obtain ⟨ad222, e222, hx222_0⟩ := Kd.at_int HR0.out 1 p222 q222
         have hw222_0 := hx222_0
         (try rw [show ((1 : Int)).toNat = 1 from rfl] at hw222_0)
         (try rw [show 1 * 1 = 1 from rfl] at hw222_0)
         (try simp only [Nat.reduceMul, Nat.reduceEqDiff, Go.Addr.add, ↓reduceIte] at hw222_0)
         obtain rfl : ad194 = ad222 := (by injection e222)
         (try simp only [show (1 : Int).toNat = 1 from rfl, Nat.reduceMul, Nat.reduceEqDiff, Go.Addr.add, ↓reduceIte] at hx222_0)
         have qi222 : (1 < l0.length) = True := eq_true (by omega)
         (try rw [show ((1 : Int)).toNat = 1 from rfl] at hx222_0)
         replace hx222_0 := (HB.out.cell (World.block_lt_of_cell? w _ hx222_0)).trans hx222_0
         replace p222 := eq_true p222
         replace q222 := eq_true q222
         have p223 : 0 ≤ (2 : Int) := (by omega)
         have q223 : 2 < (l1.length : Int) := of_decide_eq_true (by first | (with_reducible assumption) | assumption)
         obtain ⟨ad223, e223, hx223_0⟩ := Kd.at_int HR1.out 2 p223 q223
         have hw223_0 := hx223_0
         (try rw [show ((2 : Int)).toNat = 2 from rfl] at hw223_0)
         (try rw [show 2 * 1 = 2 from rfl] at hw223_0)
         (try simp only [Nat.reduceMul, Nat.reduceEqDiff, Go.Addr.add, ↓reduceIte] at hw223_0)
         obtain rfl : ad195 = ad223 := (by injection e223)
         (try simp only [show (2 : Int).toNat = 2 from rfl, Nat.reduceMul, Nat.reduceEqDiff, Go.Addr.add, ↓reduceIte] at hx223_0)
         have qi223 : (2 < l1.length) = True := eq_true (by omega)
         (try rw [show ((2 : Int)).toNat = 2 from rfl] at hx223_0)
         replace hx223_0 := (HB.out.cell (World.block_lt_of_cell? w _ hx223_0)).trans hx223_0
         replace p223 := eq_true p223
         replace q223 := eq_true q223
         have p224 : 0 ≤ (2 : Int) := (by omega)
         have q224 : 2 < (l0.length : Int) := of_decide_eq_true (by first | (with_reducible assumption) | assumption)
         obtain ⟨ad224, e224, hx224_0⟩ := Kd.at_int HR0.out 2 p224 q224
         have hw224_0 := hx224_0
         (try rw [show ((2 : Int)).toNat = 2 from rfl] at hw224_0)
         (try rw [show 2 * 1 = 2 from rfl] at hw224_0)
         (try simp only [Nat.reduceMul, Nat.reduceEqDiff, Go.Addr.add, ↓reduceIte] at hw224_0)
         obtain rfl : ad194 = ad224 := (by injection e224)
         (try simp only [show (2 : Int).toNat = 2 from rfl, Nat.reduceMul, Nat.reduceEqDiff, Go.Addr.add, ↓reduceIte] at hx224_0)
         have qi224 : (2 < l0.length) = True := eq_true (by omega)
         (try rw [show ((2 : Int)).toNat = 2 from rfl] at hx224_0)
         replace hx224_0 := (HB.out.cell (World.block_lt_of_cell? w _ hx224_0)).trans hx224_0
         replace p224 := eq_true p224
         replace q224 := eq_true q224
         have p225 : 0 ≤ (1 : Int) := (by omega)
         have q225 : 1 < (l1.length : Int) := of_decide_eq_true (by first | (with_reducible assumption) | assumption)
         obtain ⟨ad225, e225, hx225_0⟩ := Kd.at_int HR1.out 1 p225 q225
         have hw225_0 := hx225_0
         (try rw [show ((1 : Int)).toNat = 1 from rfl] at hw225_0)
         (try rw [show 1 * 1 = 1 from rfl] at hw225_0)
         (try simp only [Nat.reduceMul, Nat.reduceEqDiff, Go.Addr.add, ↓reduceIte] at hw225_0)
         obtain rfl : ad195 = ad225 := (by injection e225)
         (try simp only [show (1 : Int).toNat = 1 from rfl, Nat.reduceMul, Nat.reduceEqDiff, Go.Addr.add, ↓reduceIte] at hx225_0)
         have qi225 : (1 < l1.length) = True := eq_true (by omega)
         (try rw [show ((1 : Int)).toNat = 1 from rfl] at hx225_0)
         replace hx225_0 := (HB.out.cell (World.block_lt_of_cell? w _ hx225_0)).trans hx225_0
         replace p225 := eq_true p225
         replace q225 := eq_true q225
         refine start_ (n := 126) (S := fun w' => w'.cell? ad194 = some (.int .i64 (rd l0 0)) ∧ w'.cell? ad195 = some (.int .i64 (rd l1 0)) ∧ w'.cell? ⟨ad194.block, ad194.off + 1, none⟩ = some (.int .i64 (rd l0 1)) ∧ w'.cell? ⟨ad195.block, ad195.off + 1, none⟩ = some (.int .i64 (rd l1 1)) ∧ w'.cell? ⟨ad194.block, ad194.off + 2, none⟩ = some (.int .i64 (rd l0 2)) ∧ w'.cell? ⟨ad195.block, ad195.off + 2, none⟩ = some (.int .i64 (rd l1 2)) ∧ w'.cell? ⟨ad194.block, ad194.off + 3, none⟩ = some (.int .i64 (rd l0 3)) ∧ w'.cell? ⟨ad195.block, ad195.off + 3, none⟩ = some (.int .i64 (rd l1 3)) ∧ w'.cell? ad194 = some (.int .i64 (rd l0 0)) ∧ w'.cell? ⟨ad195.block, ad195.off + 1, none⟩ = some (.int .i64 (rd l1 1)) ∧ w'.cell? ⟨ad194.block, ad194.off + 1, none⟩ = some (.int .i64 (rd l0 1)) ∧ w'.cell? ad195 = some (.int .i64 (rd l1 0)) ∧ w'.cell? ⟨ad194.block, ad194.off + 2, none⟩ = some (.int .i64 (rd l0 2)) ∧ w'.cell? ⟨ad195.block, ad195.off + 3, none⟩ = some (.int .i64 (rd l1 3)) ∧ w'.cell? ⟨ad194.block, ad194.off + 3, none⟩ = some (.int .i64 (rd l0 3)) ∧ w'.cell? ⟨ad195.block, ad195.off + 2, none⟩ = some (.int .i64 (rd l1 2)) ∧ w'.cell? ad194 = some (.int .i64 (rd l0 0)) ∧ w'.cell? ⟨ad195.block, ad195.off + 2, none⟩ = some (.int .i64 (rd l1 2)) ∧ w'.cell? ⟨ad194.block, ad194.off + 2, none⟩ = some (.int .i64 (rd l0 2)) ∧ w'.cell? ad195 = some (.int .i64 (rd l1 0)) ∧ w'.cell? ⟨ad194.block, ad194.off + 3, none⟩ = some (.int .i64 (rd l0 3)) ∧ w'.cell? ⟨ad195.block, ad195.off + 1, none⟩ = some (.int .i64 (rd l1 1)) ∧ w'.cell? ⟨ad194.block, ad194.off + 1, none⟩ = some (.int .i64 (rd l0 1)) ∧ w'.cell? ⟨ad195.block, ad195.off + 3, none⟩ = some (.int .i64 (rd l1 3)) ∧ w'.cell? ad194 = some (.int .i64 (rd l0 0)) ∧ w'.cell? ⟨ad195.block, ad195.off + 3, none⟩ = some (.int .i64 (rd l1 3)) ∧ w'.cell? ⟨ad194.block, ad194.off + 3, none⟩ = some (.int .i64 (rd l0 3)) ∧ w'.cell? ad195 = some (.int .i64 (rd l1 0)) ∧ w'.cell? ⟨ad194.block, ad194.off + 1, none⟩ = some (.int .i64 (rd l0 1)) ∧ w'.cell? ⟨ad195.block, ad195.off + 2, none⟩ = some (.int .i64 (rd l1 2)) ∧ w'.cell? ⟨ad194.block, ad194.off + 2, none⟩ = some (.int .i64 (rd l0 2)) ∧ w'.cell? ⟨ad195.block, ad195.off + 1, none⟩ = some (.int .i64 (rd l1 1))) (ds := []) #[O,O,O,O,O,O,O,O,O,O,O,O,O,O,O,O,O,O,O,O,O,O,O,O,O,O,O,O,O,O,O,O,O,O,O,O,O,O,O,O,O,O,O,O,O,O,O,O,O,O,O,O,O,O,O,O,O,O,O,O,O,O,O,O,O,O,O,O,O,O,O,O,O,O,O,O,O,O,O,O,O,O,O,O,O,O,O,O,O,O,O,O,O,O,O,O,O,O,O,O,O,O,O,O,O,O,O,O,O,O,O,O,O,O,O,O,O,O,O,O,O,O,O,O,O,O] (by kernel_rfl) rfl rfl ⟨((HB.out.cell (World.block_lt_of_cell? w _ hw194_0)).trans hw194_0), ((HB.out.cell (World.block_lt_of_cell? w _ hw195_0)).trans hw195_0), ((HB.out.cell (World.block_lt_of_cell? w _ hw196_0)).trans hw196_0), ((HB.out.cell (World.block_lt_of_cell? w _ hw197_0)).trans hw197_0), ((HB.out.cell (World.block_lt_of_cell? w _ hw198_0)).trans hw198_0), ((HB.out.cell (World.block_lt_of_cell? w _ hw199_0)).trans hw199_0), ((HB.out.cell (World.block_lt_of_cell? w _ hw200_0)).trans hw200_0), ((HB.out.cell (World.block_lt_of_cell? w _ hw201_0)).trans hw201_0), ((HB.out.cell (World.block_lt_of_cell? w _ hw202_0)).trans hw202_0), ((HB.out.cell (World.block_lt_of_cell? w _ hw203_0)).trans hw203_0), ((HB.out.cell (World.block_lt_of_cell? w _ hw204_0)).trans hw204_0), ((HB.out.cell (World.block_lt_of_cell? w _ hw205_0)).trans hw205_0), ((HB.out.cell (World.block_lt_of_cell? w _ hw206_0)).trans hw206_0), ((HB.out.cell (World.block_lt_of_cell? w _ hw207_0)).trans hw207_0), ((HB.out.cell (World.block_lt_of_cell? w _ hw208_0)).trans hw208_0), ((HB.out.cell (World.block_lt_of_cell? w _ hw209_0)).trans hw209_0), ((HB.out.cell (World.block_lt_of_cell? w _ hw210_0)).trans hw210_0), ((HB.out.cell (World.block_lt_of_cell? w _ hw211_0)).trans hw211_0), ((HB.out.cell (World.block_lt_of_cell? w _ hw212_0)).trans hw212_0), ((HB.out.cell (World.block_lt_of_cell? w _ hw213_0)).trans hw213_0), ((HB.out.cell (World.block_lt_of_cell? w _ hw214_0)).trans hw214_0), ((HB.out.cell (World.block_lt_of_cell? w _ hw215_0)).trans hw215_0), ((HB.out.cell (World.block_lt_of_cell? w _ hw216_0)).trans hw216_0), ((HB.out.cell (World.block_lt_of_cell? w _ hw217_0)).trans hw217_0), ((HB.out.cell (World.block_lt_of_cell? w _ hw218_0)).trans hw218_0), ((HB.out.cell (World.block_lt_of_cell? w _ hw219_0)).trans hw219_0), ((HB.out.cell (World.block_lt_of_cell? w _ hw220_0)).trans hw220_0), ((HB.out.cell (World.block_lt_of_cell? w _ hw221_0)).trans hw221_0), ((HB.out.cell (World.block_lt_of_cell? w _ hw222_0)).trans hw222_0), ((HB.out.cell (World.block_lt_of_cell? w _ hw223_0)).trans hw223_0), ((HB.out.cell (World.block_lt_of_cell? w _ hw224_0)).trans hw224_0), ((HB.out.cell (World.block_lt_of_cell? w _ hw225_0)).trans hw225_0)⟩ (fun hHeld => ?_); refine with_tabW impl_multiplyFour.tab1 impl_multiplyFour.bits1 (fun HT_ HW_ => ?_)
         generalize w.drew = w11 at HB hx194_0 hx195_0 hx196_0 hx197_0 hx198_0 hx199_0 hx200_0 hx201_0 hx202_0 hx203_0 hx204_0 hx205_0 hx206_0 hx207_0 hx208_0 hx209_0 hx210_0 hx211_0 hx212_0 hx213_0 hx214_0 hx215_0 hx216_0 hx217_0 hx218_0 hx219_0 hx220_0 hx221_0 hx222_0 hx223_0 hx224_0 hx225_0 hHeld ⊢
         refine pure_ (i := 0) (N := some 5) (v := ?_) (a' := ?_) #[Y,O,O,O,O,O,O,O,O,O,O,O,O,O,O,O,O,O,O,O,O,O,O,O,O,O,O,O,O,O,O,O,O,O,O,O,O,O,O,O,O,O,O,O,O,O,O,O,O,O,O,O,O,O,O,O,O,O,O,O,O,O,O,O,O,O,O,O,O,O,O,O,O,O,O,O,O,O,O,O,O,O,O,O,O,O,O,O,O,O,O,O,O,O,O,O,O,O,O,O,O,O,O,O,O,O,O,O,O,O,O,O,O,O,O,O,O,O,O,O,O,O,O,O,O,O] rfl rfl (any_of HT_.out (by kernel_rfl)) (fun _ _ _ h => h) (Or.inl ⟨by rfl, ?_⟩) ?_ ?_
         rotate_left
         ·
          intro w'
          go_simp
          with_reducible rfl
         rotate_left
         ·
          simp only [Act.put, List.setIfInBounds_toArray, List.set_cons_zero, List.set_cons_succ, i64_w, i32_w]
          rfl
         refine pure_ (i := 1) (N := some 6) (v := ?_) (a' := ?_) #[Y,Y,O,O,O,O,O,O,O,O,O,O,O,O,O,O,O,O,O,O,O,O,O,O,O,O,O,O,O,O,O,O,O,O,O,O,O,O,O,O,O,O,O,O,O,O,O,O,O,O,O,O,O,O,O,O,O,O,O,O,O,O,O,O,O,O,O,O,O,O,O,O,O,O,O,O,O,O,O,O,O,O,O,O,O,O,O,O,O,O,O,O,O,O,O,O,O,O,O,O,O,O,O,O,O,O,O,O,O,O,O,O,O,O,O,O,O,O,O,O,O,O,O,O,O,O] rfl rfl (any_of HT_.out (by kernel_rfl)) (fun _ _ _ h => h) (Or.inl ⟨by rfl, ?_⟩) ?_ ?_
         rotate_left
         ·
          intro w'
          go_simp
          with_reducible rfl
         rotate_left
         ·
          simp only [Act.put, List.setIfInBounds_toArray, List.set_cons_zero, List.set_cons_succ, i64_w, i32_w]
          rfl
         refine pure_ (i := 3) (N := some 8) (v := ?_) (a' := ?_) #[Y,Y,O,Y,O,O,O,O,O,O,O,O,O,O,O,O,O,O,O,O,O,O,O,O,O,O,O,O,O,O,O,O,O,O,O,O,O,O,O,O,O,O,O,O,O,O,O,O,O,O,O,O,O,O,O,O,O,O,O,O,O,O,O,O,O,O,O,O,O,O,O,O,O,O,O,O,O,O,O,O,O,O,O,O,O,O,O,O,O,O,O,O,O,O,O,O,O,O,O,O,O,O,O,O,O,O,O,O,O,O,O,O,O,O,O,O,O,O,O,O,O,O,O,O,O,O] rfl rfl (any_of HT_.out (by kernel_rfl)) (fun _ _ _ h => h) (Or.inl ⟨by rfl, ?_⟩) ?_ ?_
         rotate_left
         ·
          intro w'
          go_simp
          with_reducible rfl
         rotate_left
         ·
          simp only [Act.put, List.setIfInBounds_toArray, List.set_cons_zero, List.set_cons_succ, i64_w, i32_w]
          rfl
         refine pure_ (i := 4) (N := some 9) (v := ?_) (a' := ?_) #[Y,Y,O,Y,Y,O,O,O,O,O,O,O,O,O,O,O,O,O,O,O,O,O,O,O,O,O,O,O,O,O,O,O,O,O,O,O,O,O,O,O,O,O,O,O,O,O,O,O,O,O,O,O,O,O,O,O,O,O,O,O,O,O,O,O,O,O,O,O,O,O,O,O,O,O,O,O,O,O,O,O,O,O,O,O,O,O,O,O,O,O,O,O,O,O,O,O,O,O,O,O,O,O,O,O,O,O,O,O,O,O,O,O,O,O,O,O,O,O,O,O,O,O,O,O,O,O] rfl rfl (any_of HT_.out (by kernel_rfl)) (fun _ _ _ h => h) (Or.inl ⟨by rfl, ?_⟩) ?_ ?_
         rotate_left
         ·
          intro w'
          go_simp
          with_reducible rfl
         rotate_left
         ·
          simp only [Act.put, List.setIfInBounds_toArray, List.set_cons_zero, List.set_cons_succ, i64_w, i32_w]
          rfl
         refine pure_ (i := 7) (N := some 12) (v := ?_) (a' := ?_) #[Y,Y,O,Y,Y,O,O,Y,O,O,O,O,O,O,O,O,O,O,O,O,O,O,O,O,O,O,O,O,O,O,O,O,O,O,O,O,O,O,O,O,O,O,O,O,O,O,O,O,O,O,O,O,O,O,O,O,O,O,O,O,O,O,O,O,O,O,O,O,O,O,O,O,O,O,O,O,O,O,O,O,O,O,O,O,O,O,O,O,O,O,O,O,O,O,O,O,O,O,O,O,O,O,O,O,O,O,O,O,O,O,O,O,O,O,O,O,O,O,O,O,O,O,O,O,O,O] rfl rfl (any_of HT_.out (by kernel_rfl)) (fun _ _ _ h => h) (Or.inl ⟨by rfl, ?_⟩) ?_ ?_
         rotate_left
         ·
          intro w'
          go_simp
          with_reducible rfl
         rotate_left
         ·
          simp only [Act.put, List.setIfInBounds_toArray, List.set_cons_zero, List.set_cons_succ, i64_w, i32_w]
          rfl
         refine pure_ (i := 8) (N := some 13) (v := ?_) (a' := ?_) #[Y,Y,O,Y,Y,O,O,Y,Y,O,O,O,O,O,O,O,O,O,O,O,O,O,O,O,O,O,O,O,O,O,O,O,O,O,O,O,O,O,O,O,O,O,O,O,O,O,O,O,O,O,O,O,O,O,O,O,O,O,O,O,O,O,O,O,O,O,O,O,O,O,O,O,O,O,O,O,O,O,O,O,O,O,O,O,O,O,O,O,O,O,O,O,O,O,O,O,O,O,O,O,O,O,O,O,O,O,O,O,O,O,O,O,O,O,O,O,O,O,O,O,O,O,O,O,O,O] rfl rfl (any_of HT_.out (by kernel_rfl)) (fun _ _ _ h => h) (Or.inl ⟨by rfl, ?_⟩) ?_ ?_
         rotate_left
         ·
          intro w'
          go_simp
          with_reducible rfl
         rotate_left
         ·
          simp only [Act.put, List.setIfInBounds_toArray, List.set_cons_zero, List.set_cons_succ, i64_w, i32_w]
          rfl
         refine pure_ (i := 10) (N := some 15) (v := ?_) (a' := ?_) #[Y,Y,O,Y,Y,O,O,Y,Y,O,Y,O,O,O,O,O,O,O,O,O,O,O,O,O,O,O,O,O,O,O,O,O,O,O,O,O,O,O,O,O,O,O,O,O,O,O,O,O,O,O,O,O,O,O,O,O,O,O,O,O,O,O,O,O,O,O,O,O,O,O,O,O,O,O,O,O,O,O,O,O,O,O,O,O,O,O,O,O,O,O,O,O,O,O,O,O,O,O,O,O,O,O,O,O,O,O,O,O,O,O,O,O,O,O,O,O,O,O,O,O,O,O,O,O,O,O] rfl rfl (any_of HT_.out (by kernel_rfl)) (fun _ _ _ h => h) (Or.inl ⟨by rfl, ?_⟩) ?_ ?_
         rotate_left
         ·
          intro w'
          go_simp
          with_reducible rfl
         rotate_left
         ·
          simp only [Act.put, List.setIfInBounds_toArray, List.set_cons_zero, List.set_cons_succ, i64_w, i32_w]
          rfl
         refine pure_ (i := 11) (N := some 16) (v := ?_) (a' := ?_) #[Y,Y,O,Y,Y,O,O,Y,Y,O,Y,Y,O,O,O,O,O,O,O,O,O,O,O,O,O,O,O,O,O,O,O,O,O,O,O,O,O,O,O,O,O,O,O,O,O,O,O,O,O,O,O,O,O,O,O,O,O,O,O,O,O,O,O,O,O,O,O,O,O,O,O,O,O,O,O,O,O,O,O,O,O,O,O,O,O,O,O,O,O,O,O,O,O,O,O,O,O,O,O,O,O,O,O,O,O,O,O,O,O,O,O,O,O,O,O,O,O,O,O,O,O,O,O,O,O,O] rfl rfl (any_of HT_.out (by kernel_rfl)) (fun _ _ _ h => h) (Or.inl ⟨by rfl, ?_⟩) ?_ ?_
         rotate_left
         ·
          intro w'
          go_simp
          with_reducible rfl
         rotate_left
         ·
          simp only [Act.put, List.setIfInBounds_toArray, List.set_cons_zero, List.set_cons_succ, i64_w, i32_w]
          rfl
         refine pure_ (i := 15) (N := some 20) (v := ?_) (a' := ?_) #[Y,Y,O,Y,Y,O,O,Y,Y,O,Y,Y,O,O,O,Y,O,O,O,O,O,O,O,O,O,O,O,O,O,O,O,O,O,O,O,O,O,O,O,O,O,O,O,O,O,O,O,O,O,O,O,O,O,O,O,O,O,O,O,O,O,O,O,O,O,O,O,O,O,O,O,O,O,O,O,O,O,O,O,O,O,O,O,O,O,O,O,O,O,O,O,O,O,O,O,O,O,O,O,O,O,O,O,O,O,O,O,O,O,O,O,O,O,O,O,O,O,O,O,O,O,O,O,O,O,O] rfl rfl (any_of HT_.out (by kernel_rfl)) (fun _ _ _ h => h) (Or.inl ⟨by rfl, ?_⟩) ?_ ?_
         rotate_left
         ·
          intro w'
          go_simp
          with_reducible rfl
         rotate_left
         ·
          simp only [Act.put, List.setIfInBounds_toArray, List.set_cons_zero, List.set_cons_succ, i64_w, i32_w]
          rfl
         refine pure_ (i := 16) (N := some 21) (v := ?_) (a' := ?_) #[Y,Y,O,Y,Y,O,O,Y,Y,O,Y,Y,O,O,O,Y,Y,O,O,O,O,O,O,O,O,O,O,O,O,O,O,O,O,O,O,O,O,O,O,O,O,O,O,O,O,O,O,O,O,O,O,O,O,O,O,O,O,O,O,O,O,O,O,O,O,O,O,O,O,O,O,O,O,O,O,O,O,O,O,O,O,O,O,O,O,O,O,O,O,O,O,O,O,O,O,O,O,O,O,O,O,O,O,O,O,O,O,O,O,O,O,O,O,O,O,O,O,O,O,O,O,O,O,O,O,O] rfl rfl (any_of HT_.out (by kernel_rfl)) (fun _ _ _ h => h) (Or.inl ⟨by rfl, ?_⟩) ?_ ?_
         rotate_left
         ·
          intro w'
          go_simp
          with_reducible rfl
         rotate_left
         ·
          simp only [Act.put, List.setIfInBounds_toArray, List.set_cons_zero, List.set_cons_succ, i64_w, i32_w]
          rfl
         refine pure_ (i := 18) (N := some 23) (v := ?_) (a' := ?_) #[Y,Y,O,Y,Y,O,O,Y,Y,O,Y,Y,O,O,O,Y,Y,O,Y,O,O,O,O,O,O,O,O,O,O,O,O,O,O,O,O,O,O,O,O,O,O,O,O,O,O,O,O,O,O,O,O,O,O,O,O,O,O,O,O,O,O,O,O,O,O,O,O,O,O,O,O,O,O,O,O,O,O,O,O,O,O,O,O,O,O,O,O,O,O,O,O,O,O,O,O,O,O,O,O,O,O,O,O,O,O,O,O,O,O,O,O,O,O,O,O,O,O,O,O,O,O,O,O,O,O,O] rfl rfl (any_of HT_.out (by kernel_rfl)) (fun _ _ _ h => h) (Or.inl ⟨by rfl, ?_⟩) ?_ ?_
         rotate_left
         ·
          intro w'
          go_simp
          with_reducible rfl
         rotate_left
         ·
          simp only [Act.put, List.setIfInBounds_toArray, List.set_cons_zero, List.set_cons_succ, i64_w, i32_w]
          rfl
         refine pure_ (i := 19) (N := some 24) (v := ?_) (a' := ?_) #[Y,Y,O,Y,Y,O,O,Y,Y,O,Y,Y,O,O,O,Y,Y,O,Y,Y,O,O,O,O,O,O,O,O,O,O,O,O,O,O,O,O,O,O,O,O,O,O,O,O,O,O,O,O,O,O,O,O,O,O,O,O,O,O,O,O,O,O,O,O,O,O,O,O,O,O,O,O,O,O,O,O,O,O,O,O,O,O,O,O,O,O,O,O,O,O,O,O,O,O,O,O,O,O,O,O,O,O,O,O,O,O,O,O,O,O,O,O,O,O,O,O,O,O,O,O,O,O,O,O,O,O] rfl rfl (any_of HT_.out (by kernel_rfl)) (fun _ _ _ h => h) (Or.inl ⟨by rfl, ?_⟩) ?_ ?_
         rotate_left
         ·
          intro w'
          go_simp
          with_reducible rfl
         rotate_left
         ·
          simp only [Act.put, List.setIfInBounds_toArray, List.set_cons_zero, List.set_cons_succ, i64_w, i32_w]
          rfl
         refine pure_ (i := 23) (N := some 28) (v := ?_) (a' := ?_) #[Y,Y,O,Y,Y,O,O,Y,Y,O,Y,Y,O,O,O,Y,Y,O,Y,Y,O,O,O,Y,O,O,O,O,O,O,O,O,O,O,O,O,O,O,O,O,O,O,O,O,O,O,O,O,O,O,O,O,O,O,O,O,O,O,O,O,O,O,O,O,O,O,O,O,O,O,O,O,O,O,O,O,O,O,O,O,O,O,O,O,O,O,O,O,O,O,O,O,O,O,O,O,O,O,O,O,O,O,O,O,O,O,O,O,O,O,O,O,O,O,O,O,O,O,O,O,O,O,O,O,O,O] rfl rfl (any_of HT_.out (by kernel_rfl)) (fun _ _ _ h => h) (Or.inl ⟨by rfl, ?_⟩) ?_ ?_
         rotate_left
         ·
          intro w'
          go_simp
          with_reducible rfl
         rotate_left
         ·
          simp only [Act.put, List.setIfInBounds_toArray, List.set_cons_zero, List.set_cons_succ, i64_w, i32_w]
          rfl
         refine pure_ (i := 24) (N := some 29) (v := ?_) (a' := ?_) #[Y,Y,O,Y,Y,O,O,Y,Y,O,Y,Y,O,O,O,Y,Y,O,Y,Y,O,O,O,Y,Y,O,O,O,O,O,O,O,O,O,O,O,O,O,O,O,O,O,O,O,O,O,O,O,O,O,O,O,O,O,O,O,O,O,O,O,O,O,O,O,O,O,O,O,O,O,O,O,O,O,O,O,O,O,O,O,O,O,O,O,O,O,O,O,O,O,O,O,O,O,O,O,O,O,O,O,O,O,O,O,O,O,O,O,O,O,O,O,O,O,O,O,O,O,O,O,O,O,O,O,O,O] rfl rfl (any_of HT_.out (by kernel_rfl)) (fun _ _ _ h => h) (Or.inl ⟨by rfl, ?_⟩) ?_ ?_
         rotate_left
         ·
          intro w'
          go_simp
          with_reducible rfl
         rotate_left
         ·
          simp only [Act.put, List.setIfInBounds_toArray, List.set_cons_zero, List.set_cons_succ, i64_w, i32_w]
          rfl
         refine pure_ (i := 26) (N := some 31) (v := ?_) (a' := ?_) #[Y,Y,O,Y,Y,O,O,Y,Y,O,Y,Y,O,O,O,Y,Y,O,Y,Y,O,O,O,Y,Y,O,Y,O,O,O,O,O,O,O,O,O,O,O,O,O,O,O,O,O,O,O,O,O,O,O,O,O,O,O,O,O,O,O,O,O,O,O,O,O,O,O,O,O,O,O,O,O,O,O,O,O,O,O,O,O,O,O,O,O,O,O,O,O,O,O,O,O,O,O,O,O,O,O,O,O,O,O,O,O,O,O,O,O,O,O,O,O,O,O,O,O,O,O,O,O,O,O,O,O,O,O] rfl rfl (any_of HT_.out (by kernel_rfl)) (fun _ _ _ h => h) (Or.inl ⟨by rfl, ?_⟩) ?_ ?_
         rotate_left
         ·
          intro w'
          go_simp
          with_reducible rfl
         rotate_left
         ·
          simp only [Act.put, List.setIfInBounds_toArray, List.set_cons_zero, List.set_cons_succ, i64_w, i32_w]
          rfl
         refine pure_ (i := 27) (N := some 32) (v := ?_) (a' := ?_) #[Y,Y,O,Y,Y,O,O,Y,Y,O,Y,Y,O,O,O,Y,Y,O,Y,Y,O,O,O,Y,Y,O,Y,Y,O,O,O,O,O,O,O,O,O,O,O,O,O,O,O,O,O,O,O,O,O,O,O,O,O,O,O,O,O,O,O,O,O,O,O,O,O,O,O,O,O,O,O,O,O,O,O,O,O,O,O,O,O,O,O,O,O,O,O,O,O,O,O,O,O,O,O,O,O,O,O,O,O,O,O,O,O,O,O,O,O,O,O,O,O,O,O,O,O,O,O,O,O,O,O,O,O,O] rfl rfl (any_of HT_.out (by kernel_rfl)) (fun _ _ _ h => h) (Or.inl ⟨by rfl, ?_⟩) ?_ ?_
         rotate_left
         ·
          intro w'
          go_simp
          with_reducible rfl
         rotate_left
         ·
          simp only [Act.put, List.setIfInBounds_toArray, List.set_cons_zero, List.set_cons_succ, i64_w, i32_w]
          rfl
         refine pure_ (i := 31) (N := some 36) (v := ?_) (a' := ?_) #[Y,Y,O,Y,Y,O,O,Y,Y,O,Y,Y,O,O,O,Y,Y,O,Y,Y,O,O,O,Y,Y,O,Y,Y,O,O,O,Y,O,O,O,O,O,O,O,O,O,O,O,O,O,O,O,O,O,O,O,O,O,O,O,O,O,O,O,O,O,O,O,O,O,O,O,O,O,O,O,O,O,O,O,O,O,O,O,O,O,O,O,O,O,O,O,O,O,O,O,O,O,O,O,O,O,O,O,O,O,O,O,O,O,O,O,O,O,O,O,O,O,O,O,O,O,O,O,O,O,O,O,O,O,O] rfl rfl (any_of HT_.out (by kernel_rfl)) (fun _ _ _ h => h) (Or.inl ⟨by rfl, ?_⟩) ?_ ?_
         rotate_left
         ·
          intro w'
          go_simp
          with_reducible rfl
         rotate_left
         ·
          simp only [Act.put, List.setIfInBounds_toArray, List.set_cons_zero, List.set_cons_succ, i64_w, i32_w]
          rfl
         refine pure_ (i := 32) (N := some 37) (v := ?_) (a' := ?_) #[Y,Y,O,Y,Y,O,O,Y,Y,O,Y,Y,O,O,O,Y,Y,O,Y,Y,O,O,O,Y,Y,O,Y,Y,O,O,O,Y,Y,O,O,O,O,O,O,O,O,O,O,O,O,O,O,O,O,O,O,O,O,O,O,O,O,O,O,O,O,O,O,O,O,O,O,O,O,O,O,O,O,O,O,O,O,O,O,O,O,O,O,O,O,O,O,O,O,O,O,O,O,O,O,O,O,O,O,O,O,O,O,O,O,O,O,O,O,O,O,O,O,O,O,O,O,O,O,O,O,O,O,O,O,O] rfl rfl (any_of HT_.out (by kernel_rfl)) (fun _ _ _ h => h) (Or.inl ⟨by rfl, ?_⟩) ?_ ?_
         rotate_left
         ·
          intro w'
          go_simp
          with_reducible rfl
         rotate_left
         ·
          simp only [Act.put, List.setIfInBounds_toArray, List.set_cons_zero, List.set_cons_succ, i64_w, i32_w]
          rfl
         refine pure_ (i := 34) (N := some 39) (v := ?_) (a' := ?_) #[Y,Y,O,Y,Y,O,O,Y,Y,O,Y,Y,O,O,O,Y,Y,O,Y,Y,O,O,O,Y,Y,O,Y,Y,O,O,O,Y,Y,O,Y,O,O,O,O,O,O,O,O,O,O,O,O,O,O,O,O,O,O,O,O,O,O,O,O,O,O,O,O,O,O,O,O,O,O,O,O,O,O,O,O,O,O,O,O,O,O,O,O,O,O,O,O,O,O,O,O,O,O,O,O,O,O,O,O,O,O,O,O,O,O,O,O,O,O,O,O,O,O,O,O,O,O,O,O,O,O,O,O,O,O,O] rfl rfl (any_of HT_.out (by kernel_rfl)) (fun _ _ _ h => h) (Or.inl ⟨by rfl, ?_⟩) ?_ ?_
         rotate_left
         ·
          intro w'
          go_simp
          with_reducible rfl
         rotate_left
         ·
          simp only [Act.put, List.setIfInBounds_toArray, List.set_cons_zero, List.set_cons_succ, i64_w, i32_w]
          rfl
         refine pure_ (i := 35) (N := some 40) (v := ?_) (a' := ?_) #[Y,Y,O,Y,Y,O,O,Y,Y,O,Y,Y,O,O,O,Y,Y,O,Y,Y,O,O,O,Y,Y,O,Y,Y,O,O,O,Y,Y,O,Y,Y,O,O,O,O,O,O,O,O,O,O,O,O,O,O,O,O,O,O,O,O,O,O,O,O,O,O,O,O,O,O,O,O,O,O,O,O,O,O,O,O,O,O,O,O,O,O,O,O,O,O,O,O,O,O,O,O,O,O,O,O,O,O,O,O,O,O,O,O,O,O,O,O,O,O,O,O,O,O,O,O,O,O,O,O,O,O,O,O,O,O] rfl rfl (any_of HT_.out (by kernel_rfl)) (fun _ _ _ h => h) (Or.inl ⟨by rfl, ?_⟩) ?_ ?_
         rotate_left
         ·
          intro w'
          go_simp
          with_reducible rfl
         rotate_left
         ·
          simp only [Act.put, List.setIfInBounds_toArray, List.set_cons_zero, List.set_cons_succ, i64_w, i32_w]
          rfl
         refine pure_ (i := 38) (N := some 43) (v := ?_) (a' := ?_) #[Y,Y,O,Y,Y,O,O,Y,Y,O,Y,Y,O,O,O,Y,Y,O,Y,Y,O,O,O,Y,Y,O,Y,Y,O,O,O,Y,Y,O,Y,Y,O,O,Y,O,O,O,O,O,O,O,O,O,O,O,O,O,O,O,O,O,O,O,O,O,O,O,O,O,O,O,O,O,O,O,O,O,O,O,O,O,O,O,O,O,O,O,O,O,O,O,O,O,O,O,O,O,O,O,O,O,O,O,O,O,O,O,O,O,O,O,O,O,O,O,O,O,O,O,O,O,O,O,O,O,O,O,O,O,O,O] rfl rfl (any_of HT_.out (by kernel_rfl)) (fun _ _ _ h => h) (Or.inl ⟨by rfl, ?_⟩) ?_ ?_
         rotate_left
         ·
          intro w'
          go_simp
          with_reducible rfl
         rotate_left
         ·
          simp only [Act.put, List.setIfInBounds_toArray, List.set_cons_zero, List.set_cons_succ, i64_w, i32_w]
          rfl
         refine pure_ (i := 39) (N := some 44) (v := ?_) (a' := ?_) #[Y,Y,O,Y,Y,O,O,Y,Y,O,Y,Y,O,O,O,Y,Y,O,Y,Y,O,O,O,Y,Y,O,Y,Y,O,O,O,Y,Y,O,Y,Y,O,O,Y,Y,O,O,O,O,O,O,O,O,O,O,O,O,O,O,O,O,O,O,O,O,O,O,O,O,O,O,O,O,O,O,O,O,O,O,O,O,O,O,O,O,O,O,O,O,O,O,O,O,O,O,O,O,O,O,O,O,O,O,O,O,O,O,O,O,O,O,O,O,O,O,O,O,O,O,O,O,O,O,O,O,O,O,O,O,O,O] rfl rfl (any_of HT_.out (by kernel_rfl)) (fun _ _ _ h => h) (Or.inl ⟨by rfl, ?_⟩) ?_ ?_
         rotate_left
         ·
          intro w'
          go_simp
          with_reducible rfl
         rotate_left
         ·
          simp only [Act.put, List.setIfInBounds_toArray, List.set_cons_zero, List.set_cons_succ, i64_w, i32_w]
          rfl
         refine pure_ (i := 41) (N := some 46) (v := ?_) (a' := ?_) #[Y,Y,O,Y,Y,O,O,Y,Y,O,Y,Y,O,O,O,Y,Y,O,Y,Y,O,O,O,Y,Y,O,Y,Y,O,O,O,Y,Y,O,Y,Y,O,O,Y,Y,O,Y,O,O,O,O,O,O,O,O,O,O,O,O,O,O,O,O,O,O,O,O,O,O,O,O,O,O,O,O,O,O,O,O,O,O,O,O,O,O,O,O,O,O,O,O,O,O,O,O,O,O,O,O,O,O,O,O,O,O,O,O,O,O,O,O,O,O,O,O,O,O,O,O,O,O,O,O,O,O,O,O,O,O,O,O] rfl rfl (any_of HT_.out (by kernel_rfl)) (fun _ _ _ h => h) (Or.inl ⟨by rfl, ?_⟩) ?_ ?_
         rotate_left
         ·
          intro w'
          go_simp
          with_reducible rfl
         rotate_left
         ·
          simp only [Act.put, List.setIfInBounds_toArray, List.set_cons_zero, List.set_cons_succ, i64_w, i32_w]
          rfl
         refine pure_ (i := 42) (N := some 47) (v := ?_) (a' := ?_) #[Y,Y,O,Y,Y,O,O,Y,Y,O,Y,Y,O,O,O,Y,Y,O,Y,Y,O,O,O,Y,Y,O,Y,Y,O,O,O,Y,Y,O,Y,Y,O,O,Y,Y,O,Y,Y,O,O,O,O,O,O,O,O,O,O,O,O,O,O,O,O,O,O,O,O,O,O,O,O,O,O,O,O,O,O,O,O,O,O,O,O,O,O,O,O,O,O,O,O,O,O,O,O,O,O,O,O,O,O,O,O,O,O,O,O,O,O,O,O,O,O,O,O,O,O,O,O,O,O,O,O,O,O,O,O,O,O,O] rfl rfl (any_of HT_.out (by kernel_rfl)) (fun _ _ _ h => h) (Or.inl ⟨by rfl, ?_⟩) ?_ ?_
         rotate_left
         ·
          intro w'
          go_simp
          with_reducible rfl
         rotate_left
         ·
          simp only [Act.put, List.setIfInBounds_toArray, List.set_cons_zero, List.set_cons_succ, i64_w, i32_w]
          rfl
         refine pure_ (i := 46) (N := some 51) (v := ?_) (a' := ?_) #[Y,Y,O,Y,Y,O,O,Y,Y,O,Y,Y,O,O,O,Y,Y,O,Y,Y,O,O,O,Y,Y,O,Y,Y,O,O,O,Y,Y,O,Y,Y,O,O,Y,Y,O,Y,Y,O,O,O,Y,O,O,O,O,O,O,O,O,O,O,O,O,O,O,O,O,O,O,O,O,O,O,O,O,O,O,O,O,O,O,O,O,O,O,O,O,O,O,O,O,O,O,O,O,O,O,O,O,O,O,O,O,O,O,O,O,O,O,O,O,O,O,O,O,O,O,O,O,O,O,O,O,O,O,O,O,O,O,O] rfl rfl (any_of HT_.out (by kernel_rfl)) (fun _ _ _ h => h) (Or.inl ⟨by rfl, ?_⟩) ?_ ?_
         rotate_left
         ·
          intro w'
          go_simp
          with_reducible rfl
         rotate_left
         ·
          simp only [Act.put, List.setIfInBounds_toArray, List.set_cons_zero, List.set_cons_succ, i64_w, i32_w]
          rfl
         refine pure_ (i := 47) (N := some 52) (v := ?_) (a' := ?_) #[Y,Y,O,Y,Y,O,O,Y,Y,O,Y,Y,O,O,O,Y,Y,O,Y,Y,O,O,O,Y,Y,O,Y,Y,O,O,O,Y,Y,O,Y,Y,O,O,Y,Y,O,Y,Y,O,O,O,Y,Y,O,O,O,O,O,O,O,O,O,O,O,O,O,O,O,O,O,O,O,O,O,O,O,O,O,O,O,O,O,O,O,O,O,O,O,O,O,O,O,O,O,O,O,O,O,O,O,O,O,O,O,O,O,O,O,O,O,O,O,O,O,O,O,O,O,O,O,O,O,O,O,O,O,O,O,O,O,O] rfl rfl (any_of HT_.out (by kernel_rfl)) (fun _ _ _ h => h) (Or.inl ⟨by rfl, ?_⟩) ?_ ?_
         rotate_left
         ·
          intro w'
          go_simp
          with_reducible rfl
         rotate_left
         ·
          simp only [Act.put, List.setIfInBounds_toArray, List.set_cons_zero, List.set_cons_succ, i64_w, i32_w]
          rfl
         refine pure_ (i := 49) (N := some 54) (v := ?_) (a' := ?_) #[Y,Y,O,Y,Y,O,O,Y,Y,O,Y,Y,O,O,O,Y,Y,O,Y,Y,O,O,O,Y,Y,O,Y,Y,O,O,O,Y,Y,O,Y,Y,O,O,Y,Y,O,Y,Y,O,O,O,Y,Y,O,Y,O,O,O,O,O,O,O,O,O,O,O,O,O,O,O,O,O,O,O,O,O,O,O,O,O,O,O,O,O,O,O,O,O,O,O,O,O,O,O,O,O,O,O,O,O,O,O,O,O,O,O,O,O,O,O,O,O,O,O,O,O,O,O,O,O,O,O,O,O,O,O,O,O,O,O,O] rfl rfl (any_of HT_.out (by kernel_rfl)) (fun _ _ _ h => h) (Or.inl ⟨by rfl, ?_⟩) ?_ ?_
         rotate_left
         ·
          intro w'
          go_simp
          with_reducible rfl
         rotate_left
         ·
          simp only [Act.put, List.setIfInBounds_toArray, List.set_cons_zero, List.set_cons_succ, i64_w, i32_w]
          rfl
         refine pure_ (i := 50) (N := some 55) (v := ?_) (a' := ?_) #[Y,Y,O,Y,Y,O,O,Y,Y,O,Y,Y,O,O,O,Y,Y,O,Y,Y,O,O,O,Y,Y,O,Y,Y,O,O,O,Y,Y,O,Y,Y,O,O,Y,Y,O,Y,Y,O,O,O,Y,Y,O,Y,Y,O,O,O,O,O,O,O,O,O,O,O,O,O,O,O,O,O,O,O,O,O,O,O,O,O,O,O,O,O,O,O,O,O,O,O,O,O,O,O,O,O,O,O,O,O,O,O,O,O,O,O,O,O,O,O,O,O,O,O,O,O,O,O,O,O,O,O,O,O,O,O,O,O,O,O] rfl rfl (any_of HT_.out (by kernel_rfl)) (fun _ _ _ h => h) (Or.inl ⟨by rfl, ?_⟩) ?_ ?_
         rotate_left
         ·
          intro w'
          go_simp
          with_reducible rfl
         rotate_left
         ·
          simp only [Act.put, List.setIfInBounds_toArray, List.set_cons_zero, List.set_cons_succ, i64_w, i32_w]
          rfl
         refine pure_ (i := 54) (N := some 59) (v := ?_) (a' := ?_) #[Y,Y,O,Y,Y,O,O,Y,Y,O,Y,Y,O,O,O,Y,Y,O,Y,Y,O,O,O,Y,Y,O,Y,Y,O,O,O,Y,Y,O,Y,Y,O,O,Y,Y,O,Y,Y,O,O,O,Y,Y,O,Y,Y,O,O,O,Y,O,O,O,O,O,O,O,O,O,O,O,O,O,O,O,O,O,O,O,O,O,O,O,O,O,O,O,O,O,O,O,O,O,O,O,O,O,O,O,O,O,O,O,O,O,O,O,O,O,O,O,O,O,O,O,O,O,O,O,O,O,O,O,O,O,O,O,O,O,O,O] rfl rfl (any_of HT_.out (by kernel_rfl)) (fun _ _ _ h => h) (Or.inl ⟨by rfl, ?_⟩) ?_ ?_
         rotate_left
         ·
          intro w'
          go_simp
          with_reducible rfl
         rotate_left
         ·
          simp only [Act.put, List.setIfInBounds_toArray, List.set_cons_zero, List.set_cons_succ, i64_w, i32_w]
          rfl
         refine pure_ (i := 55) (N := some 60) (v := ?_) (a' := ?_) #[Y,Y,O,Y,Y,O,O,Y,Y,O,Y,Y,O,O,O,Y,Y,O,Y,Y,O,O,O,Y,Y,O,Y,Y,O,O,O,Y,Y,O,Y,Y,O,O,Y,Y,O,Y,Y,O,O,O,Y,Y,O,Y,Y,O,O,O,Y,Y,O,O,O,O,O,O,O,O,O,O,O,O,O,O,O,O,O,O,O,O,O,O,O,O,O,O,O,O,O,O,O,O,O,O,O,O,O,O,O,O,O,O,O,O,O,O,O,O,O,O,O,O,O,O,O,O,O,O,O,O,O,O,O,O,O,O,O,O,O,O] rfl rfl (any_of HT_.out (by kernel_rfl)) (fun _ _ _ h => h) (Or.inl ⟨by rfl, ?_⟩) ?_ ?_
         rotate_left
         ·
          intro w'
          go_simp
          with_reducible rfl
         rotate_left
         ·
          simp only [Act.put, List.setIfInBounds_toArray, List.set_cons_zero, List.set_cons_succ, i64_w, i32_w]
          rfl
         refine pure_ (i := 57) (N := some 62) (v := ?_) (a' := ?_) #[Y,Y,O,Y,Y,O,O,Y,Y,O,Y,Y,O,O,O,Y,Y,O,Y,Y,O,O,O,Y,Y,O,Y,Y,O,O,O,Y,Y,O,Y,Y,O,O,Y,Y,O,Y,Y,O,O,O,Y,Y,O,Y,Y,O,O,O,Y,Y,O,Y,O,O,O,O,O,O,O,O,O,O,O,O,O,O,O,O,O,O,O,O,O,O,O,O,O,O,O,O,O,O,O,O,O,O,O,O,O,O,O,O,O,O,O,O,O,O,O,O,O,O,O,O,O,O,O,O,O,O,O,O,O,O,O,O,O,O,O,O] rfl rfl (any_of HT_.out (by kernel_rfl)) (fun _ _ _ h => h) (Or.inl ⟨by rfl, ?_⟩) ?_ ?_
         rotate_left
         ·
          intro w'
          go_simp
          with_reducible rfl
         rotate_left
         ·
          simp only [Act.put, List.setIfInBounds_toArray, List.set_cons_zero, List.set_cons_succ, i64_w, i32_w]
          rfl
         refine pure_ (i := 58) (N := some 63) (v := ?_) (a' := ?_) #[Y,Y,O,Y,Y,O,O,Y,Y,O,Y,Y,O,O,O,Y,Y,O,Y,Y,O,O,O,Y,Y,O,Y,Y,O,O,O,Y,Y,O,Y,Y,O,O,Y,Y,O,Y,Y,O,O,O,Y,Y,O,Y,Y,O,O,O,Y,Y,O,Y,Y,O,O,O,O,O,O,O,O,O,O,O,O,O,O,O,O,O,O,O,O,O,O,O,O,O,O,O,O,O,O,O,O,O,O,O,O,O,O,O,O,O,O,O,O,O,O,O,O,O,O,O,O,O,O,O,O,O,O,O,O,O,O,O,O,O,O,O] rfl rfl (any_of HT_.out (by kernel_rfl)) (fun _ _ _ h => h) (Or.inl ⟨by rfl, ?_⟩) ?_ ?_
         rotate_left
         ·
          intro w'
          go_simp
          with_reducible rfl
         rotate_left
         ·
          simp only [Act.put, List.setIfInBounds_toArray, List.set_cons_zero, List.set_cons_succ, i64_w, i32_w]
          rfl
         refine pure_ (i := 62) (N := some 67) (v := ?_) (a' := ?_) #[Y,Y,O,Y,Y,O,O,Y,Y,O,Y,Y,O,O,O,Y,Y,O,Y,Y,O,O,O,Y,Y,O,Y,Y,O,O,O,Y,Y,O,Y,Y,O,O,Y,Y,O,Y,Y,O,O,O,Y,Y,O,Y,Y,O,O,O,Y,Y,O,Y,Y,O,O,O,Y,O,O,O,O,O,O,O,O,O,O,O,O,O,O,O,O,O,O,O,O,O,O,O,O,O,O,O,O,O,O,O,O,O,O,O,O,O,O,O,O,O,O,O,O,O,O,O,O,O,O,O,O,O,O,O,O,O,O,O,O,O,O,O] rfl rfl (any_of HT_.out (by kernel_rfl)) (fun _ _ _ h => h) (Or.inl ⟨by rfl, ?_⟩) ?_ ?_
         rotate_left
         ·
          intro w'
          go_simp
          with_reducible rfl
         rotate_left
         ·
          simp only [Act.put, List.setIfInBounds_toArray, List.set_cons_zero, List.set_cons_succ, i64_w, i32_w]
          rfl
         refine pure_ (i := 63) (N := some 68) (v := ?_) (a' := ?_) #[Y,Y,O,Y,Y,O,O,Y,Y,O,Y,Y,O,O,O,Y,Y,O,Y,Y,O,O,O,Y,Y,O,Y,Y,O,O,O,Y,Y,O,Y,Y,O,O,Y,Y,O,Y,Y,O,O,O,Y,Y,O,Y,Y,O,O,O,Y,Y,O,Y,Y,O,O,O,Y,Y,O,O,O,O,O,O,O,O,O,O,O,O,O,O,O,O,O,O,O,O,O,O,O,O,O,O,O,O,O,O,O,O,O,O,O,O,O,O,O,O,O,O,O,O,O,O,O,O,O,O,O,O,O,O,O,O,O,O,O,O,O,O] rfl rfl (any_of HT_.out (by kernel_rfl)) (fun _ _ _ h => h) (Or.inl ⟨by rfl, ?_⟩) ?_ ?_
         rotate_left
         ·
          intro w'
          go_simp
          with_reducible rfl
         rotate_left
         ·
          simp only [Act.put, List.setIfInBounds_toArray, List.set_cons_zero, List.set_cons_succ, i64_w, i32_w]
          rfl
         refine pure_ (i := 65) (N := some 70) (v := ?_) (a' := ?_) #[Y,Y,O,Y,Y,O,O,Y,Y,O,Y,Y,O,O,O,Y,Y,O,Y,Y,O,O,O,Y,Y,O,Y,Y,O,O,O,Y,Y,O,Y,Y,O,O,Y,Y,O,Y,Y,O,O,O,Y,Y,O,Y,Y,O,O,O,Y,Y,O,Y,Y,O,O,O,Y,Y,O,Y,O,O,O,O,O,O,O,O,O,O,O,O,O,O,O,O,O,O,O,O,O,O,O,O,O,O,O,O,O,O,O,O,O,O,O,O,O,O,O,O,O,O,O,O,O,O,O,O,O,O,O,O,O,O,O,O,O,O,O,O] rfl rfl (any_of HT_.out (by kernel_rfl)) (fun _ _ _ h => h) (Or.inl ⟨by rfl, ?_⟩) ?_ ?_
         rotate_left
         ·
          intro w'
          go_simp
          with_reducible rfl
         rotate_left
         ·
          simp only [Act.put, List.setIfInBounds_toArray, List.set_cons_zero, List.set_cons_succ, i64_w, i32_w]
          rfl
         refine pure_ (i := 66) (N := some 71) (v := ?_) (a' := ?_) #[Y,Y,O,Y,Y,O,O,Y,Y,O,Y,Y,O,O,O,Y,Y,O,Y,Y,O,O,O,Y,Y,O,Y,Y,O,O,O,Y,Y,O,Y,Y,O,O,Y,Y,O,Y,Y,O,O,O,Y,Y,O,Y,Y,O,O,O,Y,Y,O,Y,Y,O,O,O,Y,Y,O,Y,Y,O,O,O,O,O,O,O,O,O,O,O,O,O,O,O,O,O,O,O,O,O,O,O,O,O,O,O,O,O,O,O,O,O,O,O,O,O,O,O,O,O,O,O,O,O,O,O,O,O,O,O,O,O,O,O,O,O,O,O] rfl rfl (any_of HT_.out (by kernel_rfl)) (fun _ _ _ h => h) (Or.inl ⟨by rfl, ?_⟩) ?_ ?_
         rotate_left
         ·
          intro w'
          go_simp
          with_reducible rfl
         rotate_left
         ·
          simp only [Act.put, List.setIfInBounds_toArray, List.set_cons_zero, List.set_cons_succ, i64_w, i32_w]
          rfl
         refine pure_ (i := 69) (N := some 74) (v := ?_) (a' := ?_) #[Y,Y,O,Y,Y,O,O,Y,Y,O,Y,Y,O,O,O,Y,Y,O,Y,Y,O,O,O,Y,Y,O,Y,Y,O,O,O,Y,Y,O,Y,Y,O,O,Y,Y,O,Y,Y,O,O,O,Y,Y,O,Y,Y,O,O,O,Y,Y,O,Y,Y,O,O,O,Y,Y,O,Y,Y,O,O,Y,O,O,O,O,O,O,O,O,O,O,O,O,O,O,O,O,O,O,O,O,O,O,O,O,O,O,O,O,O,O,O,O,O,O,O,O,O,O,O,O,O,O,O,O,O,O,O,O,O,O,O,O,O,O,O,O] rfl rfl (any_of HT_.out (by kernel_rfl)) (fun _ _ _ h => h) (Or.inl ⟨by rfl, ?_⟩) ?_ ?_
         rotate_left
         ·
          intro w'
          go_simp
          with_reducible rfl
         rotate_left
         ·
          simp only [Act.put, List.setIfInBounds_toArray, List.set_cons_zero, List.set_cons_succ, i64_w, i32_w]
          rfl
         refine pure_ (i := 70) (N := some 75) (v := ?_) (a' := ?_) #[Y,Y,O,Y,Y,O,O,Y,Y,O,Y,Y,O,O,O,Y,Y,O,Y,Y,O,O,O,Y,Y,O,Y,Y,O,O,O,Y,Y,O,Y,Y,O,O,Y,Y,O,Y,Y,O,O,O,Y,Y,O,Y,Y,O,O,O,Y,Y,O,Y,Y,O,O,O,Y,Y,O,Y,Y,O,O,Y,Y,O,O,O,O,O,O,O,O,O,O,O,O,O,O,O,O,O,O,O,O,O,O,O,O,O,O,O,O,O,O,O,O,O,O,O,O,O,O,O,O,O,O,O,O,O,O,O,O,O,O,O,O,O,O,O] rfl rfl (any_of HT_.out (by kernel_rfl)) (fun _ _ _ h => h) (Or.inl ⟨by rfl, ?_⟩) ?_ ?_
         rotate_left
         ·
          intro w'
          go_simp
          with_reducible rfl
         rotate_left
         ·
          simp only [Act.put, List.setIfInBounds_toArray, List.set_cons_zero, List.set_cons_succ, i64_w, i32_w]
          rfl
         refine pure_ (i := 72) (N := some 77) (v := ?_) (a' := ?_) #[Y,Y,O,Y,Y,O,O,Y,Y,O,Y,Y,O,O,O,Y,Y,O,Y,Y,O,O,O,Y,Y,O,Y,Y,O,O,O,Y,Y,O,Y,Y,O,O,Y,Y,O,Y,Y,O,O,O,Y,Y,O,Y,Y,O,O,O,Y,Y,O,Y,Y,O,O,O,Y,Y,O,Y,Y,O,O,Y,Y,O,Y,O,O,O,O,O,O,O,O,O,O,O,O,O,O,O,O,O,O,O,O,O,O,O,O,O,O,O,O,O,O,O,O,O,O,O,O,O,O,O,O,O,O,O,O,O,O,O,O,O,O,O,O,O] rfl rfl (any_of HT_.out (by kernel_rfl)) (fun _ _ _ h => h) (Or.inl ⟨by rfl, ?_⟩) ?_ ?_
         rotate_left
         ·
          intro w'
          go_simp
          with_reducible rfl
         rotate_left
         ·
          simp only [Act.put, List.setIfInBounds_toArray, List.set_cons_zero, List.set_cons_succ, i64_w, i32_w]
          rfl
         refine pure_ (i := 73) (N := some 78) (v := ?_) (a' := ?_) #[Y,Y,O,Y,Y,O,O,Y,Y,O,Y,Y,O,O,O,Y,Y,O,Y,Y,O,O,O,Y,Y,O,Y,Y,O,O,O,Y,Y,O,Y,Y,O,O,Y,Y,O,Y,Y,O,O,O,Y,Y,O,Y,Y,O,O,O,Y,Y,O,Y,Y,O,O,O,Y,Y,O,Y,Y,O,O,Y,Y,O,Y,Y,O,O,O,O,O,O,O,O,O,O,O,O,O,O,O,O,O,O,O,O,O,O,O,O,O,O,O,O,O,O,O,O,O,O,O,O,O,O,O,O,O,O,O,O,O,O,O,O,O,O,O,O] rfl rfl (any_of HT_.out (by kernel_rfl)) (fun _ _ _ h => h) (Or.inl ⟨by rfl, ?_⟩) ?_ ?_
         rotate_left
         ·
          intro w'
          go_simp
          with_reducible rfl
         rotate_left
         ·
          simp only [Act.put, List.setIfInBounds_toArray, List.set_cons_zero, List.set_cons_succ, i64_w, i32_w]
          rfl
         refine pure_ (i := 77) (N := some 82) (v := ?_) (a' := ?_) #[Y,Y,O,Y,Y,O,O,Y,Y,O,Y,Y,O,O,O,Y,Y,O,Y,Y,O,O,O,Y,Y,O,Y,Y,O,O,O,Y,Y,O,Y,Y,O,O,Y,Y,O,Y,Y,O,O,O,Y,Y,O,Y,Y,O,O,O,Y,Y,O,Y,Y,O,O,O,Y,Y,O,Y,Y,O,O,Y,Y,O,Y,Y,O,O,O,Y,O,O,O,O,O,O,O,O,O,O,O,O,O,O,O,O,O,O,O,O,O,O,O,O,O,O,O,O,O,O,O,O,O,O,O,O,O,O,O,O,O,O,O,O,O,O,O,O] rfl rfl (any_of HT_.out (by kernel_rfl)) (fun _ _ _ h => h) (Or.inl ⟨by rfl, ?_⟩) ?_ ?_
         rotate_left
         ·
          intro w'
          go_simp
          with_reducible rfl
         rotate_left
         ·
          simp only [Act.put, List.setIfInBounds_toArray, List.set_cons_zero, List.set_cons_succ, i64_w, i32_w]
          rfl
         refine pure_ (i := 78) (N := some 83) (v := ?_) (a' := ?_) #[Y,Y,O,Y,Y,O,O,Y,Y,O,Y,Y,O,O,O,Y,Y,O,Y,Y,O,O,O,Y,Y,O,Y,Y,O,O,O,Y,Y,O,Y,Y,O,O,Y,Y,O,Y,Y,O,O,O,Y,Y,O,Y,Y,O,O,O,Y,Y,O,Y,Y,O,O,O,Y,Y,O,Y,Y,O,O,Y,Y,O,Y,Y,O,O,O,Y,Y,O,O,O,O,O,O,O,O,O,O,O,O,O,O,O,O,O,O,O,O,O,O,O,O,O,O,O,O,O,O,O,O,O,O,O,O,O,O,O,O,O,O,O,O,O,O,O] rfl rfl (any_of HT_.out (by kernel_rfl)) (fun _ _ _ h => h) (Or.inl ⟨by rfl, ?_⟩) ?_ ?_
         rotate_left
         ·
          intro w'
          go_simp
          with_reducible rfl
         rotate_left
         ·
          simp only [Act.put, List.setIfInBounds_toArray, List.set_cons_zero, List.set_cons_succ, i64_w, i32_w]
          rfl
         refine pure_ (i := 80) (N := some 85) (v := ?_) (a' := ?_) #[Y,Y,O,Y,Y,O,O,Y,Y,O,Y,Y,O,O,O,Y,Y,O,Y,Y,O,O,O,Y,Y,O,Y,Y,O,O,O,Y,Y,O,Y,Y,O,O,Y,Y,O,Y,Y,O,O,O,Y,Y,O,Y,Y,O,O,O,Y,Y,O,Y,Y,O,O,O,Y,Y,O,Y,Y,O,O,Y,Y,O,Y,Y,O,O,O,Y,Y,O,Y,O,O,O,O,O,O,O,O,O,O,O,O,O,O,O,O,O,O,O,O,O,O,O,O,O,O,O,O,O,O,O,O,O,O,O,O,O,O,O,O,O,O,O,O,O] rfl rfl (any_of HT_.out (by kernel_rfl)) (fun _ _ _ h => h) (Or.inl ⟨by rfl, ?_⟩) ?_ ?_
         rotate_left
         ·
          intro w'
          go_simp
          with_reducible rfl
         rotate_left
         ·
          simp only [Act.put, List.setIfInBounds_toArray, List.set_cons_zero, List.set_cons_succ, i64_w, i32_w]
          rfl
         refine pure_ (i := 81) (N := some 86) (v := ?_) (a' := ?_) #[Y,Y,O,Y,Y,O,O,Y,Y,O,Y,Y,O,O,O,Y,Y,O,Y,Y,O,O,O,Y,Y,O,Y,Y,O,O,O,Y,Y,O,Y,Y,O,O,Y,Y,O,Y,Y,O,O,O,Y,Y,O,Y,Y,O,O,O,Y,Y,O,Y,Y,O,O,O,Y,Y,O,Y,Y,O,O,Y,Y,O,Y,Y,O,O,O,Y,Y,O,Y,Y,O,O,O,O,O,O,O,O,O,O,O,O,O,O,O,O,O,O,O,O,O,O,O,O,O,O,O,O,O,O,O,O,O,O,O,O,O,O,O,O,O,O,O,O] rfl rfl (any_of HT_.out (by kernel_rfl)) (fun _ _ _ h => h) (Or.inl ⟨by rfl, ?_⟩) ?_ ?_
         rotate_left
         ·
          intro w'
          go_simp
          with_reducible rfl
         rotate_left
         ·
          simp only [Act.put, List.setIfInBounds_toArray, List.set_cons_zero, List.set_cons_succ, i64_w, i32_w]
          rfl
         refine pure_ (i := 85) (N := some 90) (v := ?_) (a' := ?_) #[Y,Y,O,Y,Y,O,O,Y,Y,O,Y,Y,O,O,O,Y,Y,O,Y,Y,O,O,O,Y,Y,O,Y,Y,O,O,O,Y,Y,O,Y,Y,O,O,Y,Y,O,Y,Y,O,O,O,Y,Y,O,Y,Y,O,O,O,Y,Y,O,Y,Y,O,O,O,Y,Y,O,Y,Y,O,O,Y,Y,O,Y,Y,O,O,O,Y,Y,O,Y,Y,O,O,O,Y,O,O,O,O,O,O,O,O,O,O,O,O,O,O,O,O,O,O,O,O,O,O,O,O,O,O,O,O,O,O,O,O,O,O,O,O,O,O,O,O] rfl rfl (any_of HT_.out (by kernel_rfl)) (fun _ _ _ h => h) (Or.inl ⟨by rfl, ?_⟩) ?_ ?_
         rotate_left
         ·
          intro w'
          go_simp
          with_reducible rfl
         rotate_left
         ·
          simp only [Act.put, List.setIfInBounds_toArray, List.set_cons_zero, List.set_cons_succ, i64_w, i32_w]
          rfl
         refine pure_ (i := 86) (N := some 91) (v := ?_) (a' := ?_) #[Y,Y,O,Y,Y,O,O,Y,Y,O,Y,Y,O,O,O,Y,Y,O,Y,Y,O,O,O,Y,Y,O,Y,Y,O,O,O,Y,Y,O,Y,Y,O,O,Y,Y,O,Y,Y,O,O,O,Y,Y,O,Y,Y,O,O,O,Y,Y,O,Y,Y,O,O,O,Y,Y,O,Y,Y,O,O,Y,Y,O,Y,Y,O,O,O,Y,Y,O,Y,Y,O,O,O,Y,Y,O,O,O,O,O,O,O,O,O,O,O,O,O,O,O,O,O,O,O,O,O,O,O,O,O,O,O,O,O,O,O,O,O,O,O,O,O,O,O] rfl rfl (any_of HT_.out (by kernel_rfl)) (fun _ _ _ h => h) (Or.inl ⟨by rfl, ?_⟩) ?_ ?_
         rotate_left
         ·
          intro w'
          go_simp
          with_reducible rfl
         rotate_left
         ·
          simp only [Act.put, List.setIfInBounds_toArray, List.set_cons_zero, List.set_cons_succ, i64_w, i32_w]
          rfl
         refine pure_ (i := 88) (N := some 93) (v := ?_) (a' := ?_) #[Y,Y,O,Y,Y,O,O,Y,Y,O,Y,Y,O,O,O,Y,Y,O,Y,Y,O,O,O,Y,Y,O,Y,Y,O,O,O,Y,Y,O,Y,Y,O,O,Y,Y,O,Y,Y,O,O,O,Y,Y,O,Y,Y,O,O,O,Y,Y,O,Y,Y,O,O,O,Y,Y,O,Y,Y,O,O,Y,Y,O,Y,Y,O,O,O,Y,Y,O,Y,Y,O,O,O,Y,Y,O,Y,O,O,O,O,O,O,O,O,O,O,O,O,O,O,O,O,O,O,O,O,O,O,O,O,O,O,O,O,O,O,O,O,O,O,O,O,O] rfl rfl (any_of HT_.out (by kernel_rfl)) (fun _ _ _ h => h) (Or.inl ⟨by rfl, ?_⟩) ?_ ?_
         rotate_left
         ·
          intro w'
          go_simp
          with_reducible rfl
         rotate_left
         ·
          simp only [Act.put, List.setIfInBounds_toArray, List.set_cons_zero, List.set_cons_succ, i64_w, i32_w]
          rfl
         refine pure_ (i := 89) (N := some 94) (v := ?_) (a' := ?_) #[Y,Y,O,Y,Y,O,O,Y,Y,O,Y,Y,O,O,O,Y,Y,O,Y,Y,O,O,O,Y,Y,O,Y,Y,O,O,O,Y,Y,O,Y,Y,O,O,Y,Y,O,Y,Y,O,O,O,Y,Y,O,Y,Y,O,O,O,Y,Y,O,Y,Y,O,O,O,Y,Y,O,Y,Y,O,O,Y,Y,O,Y,Y,O,O,O,Y,Y,O,Y,Y,O,O,O,Y,Y,O,Y,Y,O,O,O,O,O,O,O,O,O,O,O,O,O,O,O,O,O,O,O,O,O,O,O,O,O,O,O,O,O,O,O,O,O,O,O,O] rfl rfl (any_of HT_.out (by kernel_rfl)) (fun _ _ _ h => h) (Or.inl ⟨by rfl, ?_⟩) ?_ ?_
         rotate_left
         ·
          intro w'
          go_simp
          with_reducible rfl
         rotate_left
         ·
          simp only [Act.put, List.setIfInBounds_toArray, List.set_cons_zero, List.set_cons_succ, i64_w, i32_w]
          rfl
         refine pure_ (i := 93) (N := some 98) (v := ?_) (a' := ?_) #[Y,Y,O,Y,Y,O,O,Y,Y,O,Y,Y,O,O,O,Y,Y,O,Y,Y,O,O,O,Y,Y,O,Y,Y,O,O,O,Y,Y,O,Y,Y,O,O,Y,Y,O,Y,Y,O,O,O,Y,Y,O,Y,Y,O,O,O,Y,Y,O,Y,Y,O,O,O,Y,Y,O,Y,Y,O,O,Y,Y,O,Y,Y,O,O,O,Y,Y,O,Y,Y,O,O,O,Y,Y,O,Y,Y,O,O,O,Y,O,O,O,O,O,O,O,O,O,O,O,O,O,O,O,O,O,O,O,O,O,O,O,O,O,O,O,O,O,O,O,O] rfl rfl (any_of HT_.out (by kernel_rfl)) (fun _ _ _ h => h) (Or.inl ⟨by rfl, ?_⟩) ?_ ?_
         rotate_left
         ·
          intro w'
          go_simp
          with_reducible rfl
         rotate_left
         ·
          simp only [Act.put, List.setIfInBounds_toArray, List.set_cons_zero, List.set_cons_succ, i64_w, i32_w]
          rfl
         refine pure_ (i := 94) (N := some 99) (v := ?_) (a' := ?_) #[Y,Y,O,Y,Y,O,O,Y,Y,O,Y,Y,O,O,O,Y,Y,O,Y,Y,O,O,O,Y,Y,O,Y,Y,O,O,O,Y,Y,O,Y,Y,O,O,Y,Y,O,Y,Y,O,O,O,Y,Y,O,Y,Y,O,O,O,Y,Y,O,Y,Y,O,O,O,Y,Y,O,Y,Y,O,O,Y,Y,O,Y,Y,O,O,O,Y,Y,O,Y,Y,O,O,O,Y,Y,O,Y,Y,O,O,O,Y,Y,O,O,O,O,O,O,O,O,O,O,O,O,O,O,O,O,O,O,O,O,O,O,O,O,O,O,O,O,O,O,O] rfl rfl (any_of HT_.out (by kernel_rfl)) (fun _ _ _ h => h) (Or.inl ⟨by rfl, ?_⟩) ?_ ?_
         rotate_left
         ·
          intro w'
          go_simp
          with_reducible rfl
         rotate_left
         ·
          simp only [Act.put, List.setIfInBounds_toArray, List.set_cons_zero, List.set_cons_succ, i64_w, i32_w]
          rfl
         refine pure_ (i := 96) (N := some 101) (v := ?_) (a' := ?_) #[Y,Y,O,Y,Y,O,O,Y,Y,O,Y,Y,O,O,O,Y,Y,O,Y,Y,O,O,O,Y,Y,O,Y,Y,O,O,O,Y,Y,O,Y,Y,O,O,Y,Y,O,Y,Y,O,O,O,Y,Y,O,Y,Y,O,O,O,Y,Y,O,Y,Y,O,O,O,Y,Y,O,Y,Y,O,O,Y,Y,O,Y,Y,O,O,O,Y,Y,O,Y,Y,O,O,O,Y,Y,O,Y,Y,O,O,O,Y,Y,O,Y,O,O,O,O,O,O,O,O,O,O,O,O,O,O,O,O,O,O,O,O,O,O,O,O,O,O,O,O,O] rfl rfl (any_of HT_.out (by kernel_rfl)) (fun _ _ _ h => h) (Or.inl ⟨by rfl, ?_⟩) ?_ ?_
         rotate_left
         ·
          intro w'
          go_simp
          with_reducible rfl
         rotate_left
         ·
          simp only [Act.put, List.setIfInBounds_toArray, List.set_cons_zero, List.set_cons_succ, i64_w, i32_w]
          rfl
         refine pure_ (i := 97) (N := some 102) (v := ?_) (a' := ?_) #[Y,Y,O,Y,Y,O,O,Y,Y,O,Y,Y,O,O,O,Y,Y,O,Y,Y,O,O,O,Y,Y,O,Y,Y,O,O,O,Y,Y,O,Y,Y,O,O,Y,Y,O,Y,Y,O,O,O,Y,Y,O,Y,Y,O,O,O,Y,Y,O,Y,Y,O,O,O,Y,Y,O,Y,Y,O,O,Y,Y,O,Y,Y,O,O,O,Y,Y,O,Y,Y,O,O,O,Y,Y,O,Y,Y,O,O,O,Y,Y,O,Y,Y,O,O,O,O,O,O,O,O,O,O,O,O,O,O,O,O,O,O,O,O,O,O,O,O,O,O,O,O] rfl rfl (any_of HT_.out (by kernel_rfl)) (fun _ _ _ h => h) (Or.inl ⟨by rfl, ?_⟩) ?_ ?_
         rotate_left
         ·
          intro w'
          go_simp
          with_reducible rfl
         rotate_left
         ·
          simp only [Act.put, List.setIfInBounds_toArray, List.set_cons_zero, List.set_cons_succ, i64_w, i32_w]
          rfl
         refine pure_ (i := 100) (N := some 105) (v := ?_) (a' := ?_) #[Y,Y,O,Y,Y,O,O,Y,Y,O,Y,Y,O,O,O,Y,Y,O,Y,Y,O,O,O,Y,Y,O,Y,Y,O,O,O,Y,Y,O,Y,Y,O,O,Y,Y,O,Y,Y,O,O,O,Y,Y,O,Y,Y,O,O,O,Y,Y,O,Y,Y,O,O,O,Y,Y,O,Y,Y,O,O,Y,Y,O,Y,Y,O,O,O,Y,Y,O,Y,Y,O,O,O,Y,Y,O,Y,Y,O,O,O,Y,Y,O,Y,Y,O,O,Y,O,O,O,O,O,O,O,O,O,O,O,O,O,O,O,O,O,O,O,O,O,O,O,O,O] rfl rfl (any_of HT_.out (by kernel_rfl)) (fun _ _ _ h => h) (Or.inl ⟨by rfl, ?_⟩) ?_ ?_
         rotate_left
         ·
          intro w'
          go_simp
          with_reducible rfl
         rotate_left
         ·
          simp only [Act.put, List.setIfInBounds_toArray, List.set_cons_zero, List.set_cons_succ, i64_w, i32_w]
          rfl
         refine pure_ (i := 101) (N := some 106) (v := ?_) (a' := ?_) #[Y,Y,O,Y,Y,O,O,Y,Y,O,Y,Y,O,O,O,Y,Y,O,Y,Y,O,O,O,Y,Y,O,Y,Y,O,O,O,Y,Y,O,Y,Y,O,O,Y,Y,O,Y,Y,O,O,O,Y,Y,O,Y,Y,O,O,O,Y,Y,O,Y,Y,O,O,O,Y,Y,O,Y,Y,O,O,Y,Y,O,Y,Y,O,O,O,Y,Y,O,Y,Y,O,O,O,Y,Y,O,Y,Y,O,O,O,Y,Y,O,Y,Y,O,O,Y,Y,O,O,O,O,O,O,O,O,O,O,O,O,O,O,O,O,O,O,O,O,O,O,O,O] rfl rfl (any_of HT_.out (by kernel_rfl)) (fun _ _ _ h => h) (Or.inl ⟨by rfl, ?_⟩) ?_ ?_
         rotate_left
         ·
          intro w'
          go_simp
          with_reducible rfl
         rotate_left
         ·
          simp only [Act.put, List.setIfInBounds_toArray, List.set_cons_zero, List.set_cons_succ, i64_w, i32_w]
          rfl
         refine pure_ (i := 103) (N := some 108) (v := ?_) (a' := ?_) #[Y,Y,O,Y,Y,O,O,Y,Y,O,Y,Y,O,O,O,Y,Y,O,Y,Y,O,O,O,Y,Y,O,Y,Y,O,O,O,Y,Y,O,Y,Y,O,O,Y,Y,O,Y,Y,O,O,O,Y,Y,O,Y,Y,O,O,O,Y,Y,O,Y,Y,O,O,O,Y,Y,O,Y,Y,O,O,Y,Y,O,Y,Y,O,O,O,Y,Y,O,Y,Y,O,O,O,Y,Y,O,Y,Y,O,O,O,Y,Y,O,Y,Y,O,O,Y,Y,O,Y,O,O,O,O,O,O,O,O,O,O,O,O,O,O,O,O,O,O,O,O,O,O] rfl rfl (any_of HT_.out (by kernel_rfl)) (fun _ _ _ h => h) (Or.inl ⟨by rfl, ?_⟩) ?_ ?_
         rotate_left
         ·
          intro w'
          go_simp
          with_reducible rfl
         rotate_left
         ·
          simp only [Act.put, List.setIfInBounds_toArray, List.set_cons_zero, List.set_cons_succ, i64_w, i32_w]
          rfl
         refine pure_ (i := 104) (N := some 109) (v := ?_) (a' := ?_) #[Y,Y,O,Y,Y,O,O,Y,Y,O,Y,Y,O,O,O,Y,Y,O,Y,Y,O,O,O,Y,Y,O,Y,Y,O,O,O,Y,Y,O,Y,Y,O,O,Y,Y,O,Y,Y,O,O,O,Y,Y,O,Y,Y,O,O,O,Y,Y,O,Y,Y,O,O,O,Y,Y,O,Y,Y,O,O,Y,Y,O,Y,Y,O,O,O,Y,Y,O,Y,Y,O,O,O,Y,Y,O,Y,Y,O,O,O,Y,Y,O,Y,Y,O,O,Y,Y,O,Y,Y,O,O,O,O,O,O,O,O,O,O,O,O,O,O,O,O,O,O,O,O,O] rfl rfl (any_of HT_.out (by kernel_rfl)) (fun _ _ _ h => h) (Or.inl ⟨by rfl, ?_⟩) ?_ ?_
         rotate_left
         ·
          intro w'
          go_simp
          with_reducible rfl
         rotate_left
         ·
          simp only [Act.put, List.setIfInBounds_toArray, List.set_cons_zero, List.set_cons_succ, i64_w, i32_w]
          rfl
         refine pure_ (i := 108) (N := some 113) (v := ?_) (a' := ?_) #[Y,Y,O,Y,Y,O,O,Y,Y,O,Y,Y,O,O,O,Y,Y,O,Y,Y,O,O,O,Y,Y,O,Y,Y,O,O,O,Y,Y,O,Y,Y,O,O,Y,Y,O,Y,Y,O,O,O,Y,Y,O,Y,Y,O,O,O,Y,Y,O,Y,Y,O,O,O,Y,Y,O,Y,Y,O,O,Y,Y,O,Y,Y,O,O,O,Y,Y,O,Y,Y,O,O,O,Y,Y,O,Y,Y,O,O,O,Y,Y,O,Y,Y,O,O,Y,Y,O,Y,Y,O,O,O,Y,O,O,O,O,O,O,O,O,O,O,O,O,O,O,O,O,O] rfl rfl (any_of HT_.out (by kernel_rfl)) (fun _ _ _ h => h) (Or.inl ⟨by rfl, ?_⟩) ?_ ?_
         rotate_left
         ·
          intro w'
          go_simp
          with_reducible rfl
         rotate_left
         ·
          simp only [Act.put, List.setIfInBounds_toArray, List.set_cons_zero, List.set_cons_succ, i64_w, i32_w]
          rfl
         refine pure_ (i := 109) (N := some 114) (v := ?_) (a' := ?_) #[Y,Y,O,Y,Y,O,O,Y,Y,O,Y,Y,O,O,O,Y,Y,O,Y,Y,O,O,O,Y,Y,O,Y,Y,O,O,O,Y,Y,O,Y,Y,O,O,Y,Y,O,Y,Y,O,O,O,Y,Y,O,Y,Y,O,O,O,Y,Y,O,Y,Y,O,O,O,Y,Y,O,Y,Y,O,O,Y,Y,O,Y,Y,O,O,O,Y,Y,O,Y,Y,O,O,O,Y,Y,O,Y,Y,O,O,O,Y,Y,O,Y,Y,O,O,Y,Y,O,Y,Y,O,O,O,Y,Y,O,O,O,O,O,O,O,O,O,O,O,O,O,O,O,O] rfl rfl (any_of HT_.out (by kernel_rfl)) (fun _ _ _ h => h) (Or.inl ⟨by rfl, ?_⟩) ?_ ?_
         rotate_left
         ·
          intro w'
          go_simp
          with_reducible rfl
         rotate_left
         ·
          simp only [Act.put, List.setIfInBounds_toArray, List.set_cons_zero, List.set_cons_succ, i64_w, i32_w]
          rfl
         refine pure_ (i := 111) (N := some 116) (v := ?_) (a' := ?_) #[Y,Y,O,Y,Y,O,O,Y,Y,O,Y,Y,O,O,O,Y,Y,O,Y,Y,O,O,O,Y,Y,O,Y,Y,O,O,O,Y,Y,O,Y,Y,O,O,Y,Y,O,Y,Y,O,O,O,Y,Y,O,Y,Y,O,O,O,Y,Y,O,Y,Y,O,O,O,Y,Y,O,Y,Y,O,O,Y,Y,O,Y,Y,O,O,O,Y,Y,O,Y,Y,O,O,O,Y,Y,O,Y,Y,O,O,O,Y,Y,O,Y,Y,O,O,Y,Y,O,Y,Y,O,O,O,Y,Y,O,Y,O,O,O,O,O,O,O,O,O,O,O,O,O,O] rfl rfl (any_of HT_.out (by kernel_rfl)) (fun _ _ _ h => h) (Or.inl ⟨by rfl, ?_⟩) ?_ ?_
         rotate_left
         ·
          intro w'
          go_simp
          with_reducible rfl
         rotate_left
         ·
          simp only [Act.put, List.setIfInBounds_toArray, List.set_cons_zero, List.set_cons_succ, i64_w, i32_w]
          rfl
         refine pure_ (i := 112) (N := some 117) (v := ?_) (a' := ?_) #[Y,Y,O,Y,Y,O,O,Y,Y,O,Y,Y,O,O,O,Y,Y,O,Y,Y,O,O,O,Y,Y,O,Y,Y,O,O,O,Y,Y,O,Y,Y,O,O,Y,Y,O,Y,Y,O,O,O,Y,Y,O,Y,Y,O,O,O,Y,Y,O,Y,Y,O,O,O,Y,Y,O,Y,Y,O,O,Y,Y,O,Y,Y,O,O,O,Y,Y,O,Y,Y,O,O,O,Y,Y,O,Y,Y,O,O,O,Y,Y,O,Y,Y,O,O,Y,Y,O,Y,Y,O,O,O,Y,Y,O,Y,Y,O,O,O,O,O,O,O,O,O,O,O,O,O] rfl rfl (any_of HT_.out (by kernel_rfl)) (fun _ _ _ h => h) (Or.inl ⟨by rfl, ?_⟩) ?_ ?_
         rotate_left
         ·
          intro w'
          go_simp
          with_reducible rfl
         rotate_left
         ·
          simp only [Act.put, List.setIfInBounds_toArray, List.set_cons_zero, List.set_cons_succ, i64_w, i32_w]
          rfl
         refine pure_ (i := 116) (N := some 121) (v := ?_) (a' := ?_) #[Y,Y,O,Y,Y,O,O,Y,Y,O,Y,Y,O,O,O,Y,Y,O,Y,Y,O,O,O,Y,Y,O,Y,Y,O,O,O,Y,Y,O,Y,Y,O,O,Y,Y,O,Y,Y,O,O,O,Y,Y,O,Y,Y,O,O,O,Y,Y,O,Y,Y,O,O,O,Y,Y,O,Y,Y,O,O,Y,Y,O,Y,Y,O,O,O,Y,Y,O,Y,Y,O,O,O,Y,Y,O,Y,Y,O,O,O,Y,Y,O,Y,Y,O,O,Y,Y,O,Y,Y,O,O,O,Y,Y,O,Y,Y,O,O,O,Y,O,O,O,O,O,O,O,O,O] rfl rfl (any_of HT_.out (by kernel_rfl)) (fun _ _ _ h => h) (Or.inl ⟨by rfl, ?_⟩) ?_ ?_
         rotate_left
         ·
          intro w'
          go_simp
          with_reducible rfl
         rotate_left
         ·
          simp only [Act.put, List.setIfInBounds_toArray, List.set_cons_zero, List.set_cons_succ, i64_w, i32_w]
          rfl
         refine pure_ (i := 117) (N := some 122) (v := ?_) (a' := ?_) #[Y,Y,O,Y,Y,O,O,Y,Y,O,Y,Y,O,O,O,Y,Y,O,Y,Y,O,O,O,Y,Y,O,Y,Y,O,O,O,Y,Y,O,Y,Y,O,O,Y,Y,O,Y,Y,O,O,O,Y,Y,O,Y,Y,O,O,O,Y,Y,O,Y,Y,O,O,O,Y,Y,O,Y,Y,O,O,Y,Y,O,Y,Y,O,O,O,Y,Y,O,Y,Y,O,O,O,Y,Y,O,Y,Y,O,O,O,Y,Y,O,Y,Y,O,O,Y,Y,O,Y,Y,O,O,O,Y,Y,O,Y,Y,O,O,O,Y,Y,O,O,O,O,O,O,O,O] rfl rfl (any_of HT_.out (by kernel_rfl)) (fun _ _ _ h => h) (Or.inl ⟨by rfl, ?_⟩) ?_ ?_
         rotate_left
         ·
          intro w'
          go_simp
          with_reducible rfl
         rotate_left
         ·
          simp only [Act.put, List.setIfInBounds_toArray, List.set_cons_zero, List.set_cons_succ, i64_w, i32_w]
          rfl
         refine pure_ (i := 119) (N := some 124) (v := ?_) (a' := ?_) #[Y,Y,O,Y,Y,O,O,Y,Y,O,Y,Y,O,O,O,Y,Y,O,Y,Y,O,O,O,Y,Y,O,Y,Y,O,O,O,Y,Y,O,Y,Y,O,O,Y,Y,O,Y,Y,O,O,O,Y,Y,O,Y,Y,O,O,O,Y,Y,O,Y,Y,O,O,O,Y,Y,O,Y,Y,O,O,Y,Y,O,Y,Y,O,O,O,Y,Y,O,Y,Y,O,O,O,Y,Y,O,Y,Y,O,O,O,Y,Y,O,Y,Y,O,O,Y,Y,O,Y,Y,O,O,O,Y,Y,O,Y,Y,O,O,O,Y,Y,O,Y,O,O,O,O,O,O] rfl rfl (any_of HT_.out (by kernel_rfl)) (fun _ _ _ h => h) (Or.inl ⟨by rfl, ?_⟩) ?_ ?_
         rotate_left
         ·
          intro w'
          go_simp
          with_reducible rfl
         rotate_left
         ·
          simp only [Act.put, List.setIfInBounds_toArray, List.set_cons_zero, List.set_cons_succ, i64_w, i32_w]
          rfl
         refine pure_ (i := 120) (N := some 125) (v := ?_) (a' := ?_) #[Y,Y,O,Y,Y,O,O,Y,Y,O,Y,Y,O,O,O,Y,Y,O,Y,Y,O,O,O,Y,Y,O,Y,Y,O,O,O,Y,Y,O,Y,Y,O,O,Y,Y,O,Y,Y,O,O,O,Y,Y,O,Y,Y,O,O,O,Y,Y,O,Y,Y,O,O,O,Y,Y,O,Y,Y,O,O,Y,Y,O,Y,Y,O,O,O,Y,Y,O,Y,Y,O,O,O,Y,Y,O,Y,Y,O,O,O,Y,Y,O,Y,Y,O,O,Y,Y,O,Y,Y,O,O,O,Y,Y,O,Y,Y,O,O,O,Y,Y,O,Y,Y,O,O,O,O,O] rfl rfl (any_of HT_.out (by kernel_rfl)) (fun _ _ _ h => h) (Or.inl ⟨by rfl, ?_⟩) ?_ ?_
         rotate_left
         ·
          intro w'
          go_simp
          with_reducible rfl
         rotate_left
         ·
          simp only [Act.put, List.setIfInBounds_toArray, List.set_cons_zero, List.set_cons_succ, i64_w, i32_w]
          rfl
         refine take_ (i := 2) (N := some 7) (v := ?_) (a' := ?_) #[Y,Y,Y,Y,Y,O,O,Y,Y,O,Y,Y,O,O,O,Y,Y,O,Y,Y,O,O,O,Y,Y,O,Y,Y,O,O,O,Y,Y,O,Y,Y,O,O,Y,Y,O,Y,Y,O,O,O,Y,Y,O,Y,Y,O,O,O,Y,Y,O,Y,Y,O,O,O,Y,Y,O,Y,Y,O,O,Y,Y,O,Y,Y,O,O,O,Y,Y,O,Y,Y,O,O,O,Y,Y,O,Y,Y,O,O,O,Y,Y,O,Y,Y,O,O,Y,Y,O,Y,Y,O,O,O,Y,Y,O,Y,Y,O,O,O,Y,Y,O,Y,Y,O,O,O,O,O] rfl rfl (take_ofW HT_.out HW_.out (by kernel_rfl)) (fun _ _ _ h => h) (Or.inl ⟨by rfl, ?_⟩) hHeld ?_ ?_
         rotate_left
         ·
          rintro w' ⟨s0, s1, s2, s3, s4, s5, s6, s7, s8, s9, s10, s11, s12, s13, s14, s15, s16, s17, s18, s19, s20, s21, s22, s23, s24, s25, s26, s27, s28, s29, s30, s31⟩
          go_simp
          with_reducible rfl
         rotate_left
         ·
          simp only [Act.put, List.setIfInBounds_toArray, List.set_cons_zero, List.set_cons_succ, i64_w, i32_w]
          rfl
         refine take_ (i := 5) (N := some 10) (v := ?_) (a' := ?_) #[Y,Y,Y,Y,Y,Y,O,Y,Y,O,Y,Y,O,O,O,Y,Y,O,Y,Y,O,O,O,Y,Y,O,Y,Y,O,O,O,Y,Y,O,Y,Y,O,O,Y,Y,O,Y,Y,O,O,O,Y,Y,O,Y,Y,O,O,O,Y,Y,O,Y,Y,O,O,O,Y,Y,O,Y,Y,O,O,Y,Y,O,Y,Y,O,O,O,Y,Y,O,Y,Y,O,O,O,Y,Y,O,Y,Y,O,O,O,Y,Y,O,Y,Y,O,O,Y,Y,O,Y,Y,O,O,O,Y,Y,O,Y,Y,O,O,O,Y,Y,O,Y,Y,O,O,O,O,O] rfl rfl (take_ofW HT_.out HW_.out (by kernel_rfl)) (fun _ _ _ h => h) (Or.inl ⟨by rfl, ?_⟩) hHeld ?_ ?_
         rotate_left
         ·
          rintro w' ⟨s0, s1, s2, s3, s4, s5, s6, s7, s8, s9, s10, s11, s12, s13, s14, s15, s16, s17, s18, s19, s20, s21, s22, s23, s24, s25, s26, s27, s28, s29, s30, s31⟩
          go_simp
          with_reducible rfl
         rotate_left
         ·
          simp only [Act.put, List.setIfInBounds_toArray, List.set_cons_zero, List.set_cons_succ, i64_w, i32_w]
          rfl
         refine pure_ (i := 6) (N := some 11) (v := ?_) (a' := ?_) #[Y,Y,Y,Y,Y,Y,Y,Y,Y,O,Y,Y,O,O,O,Y,Y,O,Y,Y,O,O,O,Y,Y,O,Y,Y,O,O,O,Y,Y,O,Y,Y,O,O,Y,Y,O,Y,Y,O,O,O,Y,Y,O,Y,Y,O,O,O,Y,Y,O,Y,Y,O,O,O,Y,Y,O,Y,Y,O,O,Y,Y,O,Y,Y,O,O,O,Y,Y,O,Y,Y,O,O,O,Y,Y,O,Y,Y,O,O,O,Y,Y,O,Y,Y,O,O,Y,Y,O,Y,Y,O,O,O,Y,Y,O,Y,Y,O,O,O,Y,Y,O,Y,Y,O,O,O,O,O] rfl rfl (any_of HT_.out (by kernel_rfl)) (fun _ _ _ h => h) (Or.inl ⟨by rfl, ?_⟩) ?_ ?_
         rotate_left
         ·
          intro w'
          go_simp
          with_reducible rfl
         rotate_left
         ·
          simp only [Act.put, List.setIfInBounds_toArray, List.set_cons_zero, List.set_cons_succ, i64_w, i32_w]
          rfl
         refine take_ (i := 9) (N := some 14) (v := ?_) (a' := ?_) #[Y,Y,Y,Y,Y,Y,Y,Y,Y,Y,Y,Y,O,O,O,Y,Y,O,Y,Y,O,O,O,Y,Y,O,Y,Y,O,O,O,Y,Y,O,Y,Y,O,O,Y,Y,O,Y,Y,O,O,O,Y,Y,O,Y,Y,O,O,O,Y,Y,O,Y,Y,O,O,O,Y,Y,O,Y,Y,O,O,Y,Y,O,Y,Y,O,O,O,Y,Y,O,Y,Y,O,O,O,Y,Y,O,Y,Y,O,O,O,Y,Y,O,Y,Y,O,O,Y,Y,O,Y,Y,O,O,O,Y,Y,O,Y,Y,O,O,O,Y,Y,O,Y,Y,O,O,O,O,O] rfl rfl (take_ofW HT_.out HW_.out (by kernel_rfl)) (fun _ _ _ h => h) (Or.inl ⟨by rfl, ?_⟩) hHeld ?_ ?_
         rotate_left
         ·
          rintro w' ⟨s0, s1, s2, s3, s4, s5, s6, s7, s8, s9, s10, s11, s12, s13, s14, s15, s16, s17, s18, s19, s20, s21, s22, s23, s24, s25, s26, s27, s28, s29, s30, s31⟩
          go_simp
          with_reducible rfl
         rotate_left
         ·
          simp only [Act.put, List.setIfInBounds_toArray, List.set_cons_zero, List.set_cons_succ, i64_w, i32_w]
          rfl
         refine take_ (i := 12) (N := some 17) (v := ?_) (a' := ?_) #[Y,Y,Y,Y,Y,Y,Y,Y,Y,Y,Y,Y,Y,O,O,Y,Y,O,Y,Y,O,O,O,Y,Y,O,Y,Y,O,O,O,Y,Y,O,Y,Y,O,O,Y,Y,O,Y,Y,O,O,O,Y,Y,O,Y,Y,O,O,O,Y,Y,O,Y,Y,O,O,O,Y,Y,O,Y,Y,O,O,Y,Y,O,Y,Y,O,O,O,Y,Y,O,Y,Y,O,O,O,Y,Y,O,Y,Y,O,O,O,Y,Y,O,Y,Y,O,O,Y,Y,O,Y,Y,O,O,O,Y,Y,O,Y,Y,O,O,O,Y,Y,O,Y,Y,O,O,O,O,O] rfl rfl (take_ofW HT_.out HW_.out (by kernel_rfl)) (fun _ _ _ h => h) (Or.inl ⟨by rfl, ?_⟩) hHeld ?_ ?_
         rotate_left
         ·
          rintro w' ⟨s0, s1, s2, s3, s4, s5, s6, s7, s8, s9, s10, s11, s12, s13, s14, s15, s16, s17, s18, s19, s20, s21, s22, s23, s24, s25, s26, s27, s28, s29, s30, s31⟩
          go_simp
          with_reducible rfl
         rotate_left
         ·
          simp only [Act.put, List.setIfInBounds_toArray, List.set_cons_zero, List.set_cons_succ, i64_w, i32_w]
          rfl
         refine pure_ (i := 13) (N := some 18) (v := ?_) (a' := ?_) #[Y,Y,Y,Y,Y,Y,Y,Y,Y,Y,Y,Y,Y,Y,O,Y,Y,O,Y,Y,O,O,O,Y,Y,O,Y,Y,O,O,O,Y,Y,O,Y,Y,O,O,Y,Y,O,Y,Y,O,O,O,Y,Y,O,Y,Y,O,O,O,Y,Y,O,Y,Y,O,O,O,Y,Y,O,Y,Y,O,O,Y,Y,O,Y,Y,O,O,O,Y,Y,O,Y,Y,O,O,O,Y,Y,O,Y,Y,O,O,O,Y,Y,O,Y,Y,O,O,Y,Y,O,Y,Y,O,O,O,Y,Y,O,Y,Y,O,O,O,Y,Y,O,Y,Y,O,O,O,O,O] rfl rfl (any_of HT_.out (by kernel_rfl)) (fun _ _ _ h => h) (Or.inl ⟨by rfl, ?_⟩) ?_ ?_
         rotate_left
         ·
          intro w'
          go_simp
          with_reducible rfl
         rotate_left
         ·
          simp only [Act.put, List.setIfInBounds_toArray, List.set_cons_zero, List.set_cons_succ, i64_w, i32_w]
          rfl
         refine pure_ (i := 14) (N := some 19) (v := ?_) (a' := ?_) #[Y,Y,Y,Y,Y,Y,Y,Y,Y,Y,Y,Y,Y,Y,Y,Y,Y,O,Y,Y,O,O,O,Y,Y,O,Y,Y,O,O,O,Y,Y,O,Y,Y,O,O,Y,Y,O,Y,Y,O,O,O,Y,Y,O,Y,Y,O,O,O,Y,Y,O,Y,Y,O,O,O,Y,Y,O,Y,Y,O,O,Y,Y,O,Y,Y,O,O,O,Y,Y,O,Y,Y,O,O,O,Y,Y,O,Y,Y,O,O,O,Y,Y,O,Y,Y,O,O,Y,Y,O,Y,Y,O,O,O,Y,Y,O,Y,Y,O,O,O,Y,Y,O,Y,Y,O,O,O,O,O] rfl rfl (any_of HT_.out (by kernel_rfl)) (fun _ _ _ h => h) (Or.inl ⟨by rfl, ?_⟩) ?_ ?_
         rotate_left
         ·
          intro w'
          go_simp
          with_reducible rfl
         rotate_left
         ·
          simp only [Act.put, List.setIfInBounds_toArray, List.set_cons_zero, List.set_cons_succ, i64_w, i32_w]
          rfl
         refine take_ (i := 17) (N := some 22) (v := ?_) (a' := ?_) #[Y,Y,Y,Y,Y,Y,Y,Y,Y,Y,Y,Y,Y,Y,Y,Y,Y,Y,Y,Y,O,O,O,Y,Y,O,Y,Y,O,O,O,Y,Y,O,Y,Y,O,O,Y,Y,O,Y,Y,O,O,O,Y,Y,O,Y,Y,O,O,O,Y,Y,O,Y,Y,O,O,O,Y,Y,O,Y,Y,O,O,Y,Y,O,Y,Y,O,O,O,Y,Y,O,Y,Y,O,O,O,Y,Y,O,Y,Y,O,O,O,Y,Y,O,Y,Y,O,O,Y,Y,O,Y,Y,O,O,O,Y,Y,O,Y,Y,O,O,O,Y,Y,O,Y,Y,O,O,O,O,O] rfl rfl (take_ofW HT_.out HW_.out (by kernel_rfl)) (fun _ _ _ h => h) (Or.inl ⟨by rfl, ?_⟩) hHeld ?_ ?_
         rotate_left
         ·
          rintro w' ⟨s0, s1, s2, s3, s4, s5, s6, s7, s8, s9, s10, s11, s12, s13, s14, s15, s16, s17, s18, s19, s20, s21, s22, s23, s24, s25, s26, s27, s28, s29, s30, s31⟩
          go_simp
          with_reducible rfl
         rotate_left
         ·
          simp only [Act.put, List.setIfInBounds_toArray, List.set_cons_zero, List.set_cons_succ, i64_w, i32_w]
          rfl
         refine take_ (i := 20) (N := some 25) (v := ?_) (a' := ?_) #[Y,Y,Y,Y,Y,Y,Y,Y,Y,Y,Y,Y,Y,Y,Y,Y,Y,Y,Y,Y,Y,O,O,Y,Y,O,Y,Y,O,O,O,Y,Y,O,Y,Y,O,O,Y,Y,O,Y,Y,O,O,O,Y,Y,O,Y,Y,O,O,O,Y,Y,O,Y,Y,O,O,O,Y,Y,O,Y,Y,O,O,Y,Y,O,Y,Y,O,O,O,Y,Y,O,Y,Y,O,O,O,Y,Y,O,Y,Y,O,O,O,Y,Y,O,Y,Y,O,O,Y,Y,O,Y,Y,O,O,O,Y,Y,O,Y,Y,O,O,O,Y,Y,O,Y,Y,O,O,O,O,O] rfl rfl (take_ofW HT_.out HW_.out (by kernel_rfl)) (fun _ _ _ h => h) (Or.inl ⟨by rfl, ?_⟩) hHeld ?_ ?_
         rotate_left
         ·
          rintro w' ⟨s0, s1, s2, s3, s4, s5, s6, s7, s8, s9, s10, s11, s12, s13, s14, s15, s16, s17, s18, s19, s20, s21, s22, s23, s24, s25, s26, s27, s28, s29, s30, s31⟩
          go_simp
          with_reducible rfl
         rotate_left
         ·
          simp only [Act.put, List.setIfInBounds_toArray, List.set_cons_zero, List.set_cons_succ, i64_w, i32_w]
          rfl
         refine pure_ (i := 21) (N := some 26) (v := ?_) (a' := ?_) #[Y,Y,Y,Y,Y,Y,Y,Y,Y,Y,Y,Y,Y,Y,Y,Y,Y,Y,Y,Y,Y,Y,O,Y,Y,O,Y,Y,O,O,O,Y,Y,O,Y,Y,O,O,Y,Y,O,Y,Y,O,O,O,Y,Y,O,Y,Y,O,O,O,Y,Y,O,Y,Y,O,O,O,Y,Y,O,Y,Y,O,O,Y,Y,O,Y,Y,O,O,O,Y,Y,O,Y,Y,O,O,O,Y,Y,O,Y,Y,O,O,O,Y,Y,O,Y,Y,O,O,Y,Y,O,Y,Y,O,O,O,Y,Y,O,Y,Y,O,O,O,Y,Y,O,Y,Y,O,O,O,O,O] rfl rfl (any_of HT_.out (by kernel_rfl)) (fun _ _ _ h => h) (Or.inl ⟨by rfl, ?_⟩) ?_ ?_
         rotate_left
         ·
          intro w'
          go_simp
          with_reducible rfl
         rotate_left
         ·
          simp only [Act.put, List.setIfInBounds_toArray, List.set_cons_zero, List.set_cons_succ, i64_w, i32_w]
          rfl
         refine pure_ (i := 22) (N := some 27) (v := ?_) (a' := ?_) #[Y,Y,Y,Y,Y,Y,Y,Y,Y,Y,Y,Y,Y,Y,Y,Y,Y,Y,Y,Y,Y,Y,Y,Y,Y,O,Y,Y,O,O,O,Y,Y,O,Y,Y,O,O,Y,Y,O,Y,Y,O,O,O,Y,Y,O,Y,Y,O,O,O,Y,Y,O,Y,Y,O,O,O,Y,Y,O,Y,Y,O,O,Y,Y,O,Y,Y,O,O,O,Y,Y,O,Y,Y,O,O,O,Y,Y,O,Y,Y,O,O,O,Y,Y,O,Y,Y,O,O,Y,Y,O,Y,Y,O,O,O,Y,Y,O,Y,Y,O,O,O,Y,Y,O,Y,Y,O,O,O,O,O] rfl rfl (any_of HT_.out (by kernel_rfl)) (fun _ _ _ h => h) (Or.inl ⟨by rfl, ?_⟩) ?_ ?_
         rotate_left
         ·
          intro w'
          go_simp
          with_reducible rfl
         rotate_left
         ·
          simp only [Act.put, List.setIfInBounds_toArray, List.set_cons_zero, List.set_cons_succ, i64_w, i32_w]
          rfl
         refine take_ (i := 25) (N := some 30) (v := ?_) (a' := ?_) #[Y,Y,Y,Y,Y,Y,Y,Y,Y,Y,Y,Y,Y,Y,Y,Y,Y,Y,Y,Y,Y,Y,Y,Y,Y,Y,Y,Y,O,O,O,Y,Y,O,Y,Y,O,O,Y,Y,O,Y,Y,O,O,O,Y,Y,O,Y,Y,O,O,O,Y,Y,O,Y,Y,O,O,O,Y,Y,O,Y,Y,O,O,Y,Y,O,Y,Y,O,O,O,Y,Y,O,Y,Y,O,O,O,Y,Y,O,Y,Y,O,O,O,Y,Y,O,Y,Y,O,O,Y,Y,O,Y,Y,O,O,O,Y,Y,O,Y,Y,O,O,O,Y,Y,O,Y,Y,O,O,O,O,O] rfl rfl (take_ofW HT_.out HW_.out (by kernel_rfl)) (fun _ _ _ h => h) (Or.inl ⟨by rfl, ?_⟩) hHeld ?_ ?_
         rotate_left
         ·
          rintro w' ⟨s0, s1, s2, s3, s4, s5, s6, s7, s8, s9, s10, s11, s12, s13, s14, s15, s16, s17, s18, s19, s20, s21, s22, s23, s24, s25, s26, s27, s28, s29, s30, s31⟩
          go_simp
          with_reducible rfl
         rotate_left
         ·
          simp only [Act.put, List.setIfInBounds_toArray, List.set_cons_zero, List.set_cons_succ, i64_w, i32_w]
          rfl
         refine take_ (i := 28) (N := some 33) (v := ?_) (a' := ?_) #[Y,Y,Y,Y,Y,Y,Y,Y,Y,Y,Y,Y,Y,Y,Y,Y,Y,Y,Y,Y,Y,Y,Y,Y,Y,Y,Y,Y,Y,O,O,Y,Y,O,Y,Y,O,O,Y,Y,O,Y,Y,O,O,O,Y,Y,O,Y,Y,O,O,O,Y,Y,O,Y,Y,O,O,O,Y,Y,O,Y,Y,O,O,Y,Y,O,Y,Y,O,O,O,Y,Y,O,Y,Y,O,O,O,Y,Y,O,Y,Y,O,O,O,Y,Y,O,Y,Y,O,O,Y,Y,O,Y,Y,O,O,O,Y,Y,O,Y,Y,O,O,O,Y,Y,O,Y,Y,O,O,O,O,O] rfl rfl (take_ofW HT_.out HW_.out (by kernel_rfl)) (fun _ _ _ h => h) (Or.inl ⟨by rfl, ?_⟩) hHeld ?_ ?_
         rotate_left
         ·
          rintro w' ⟨s0, s1, s2, s3, s4, s5, s6, s7, s8, s9, s10, s11, s12, s13, s14, s15, s16, s17, s18, s19, s20, s21, s22, s23, s24, s25, s26, s27, s28, s29, s30, s31⟩
          go_simp
          with_reducible rfl
         rotate_left
         ·
          simp only [Act.put, List.setIfInBounds_toArray, List.set_cons_zero, List.set_cons_succ, i64_w, i32_w]
          rfl
         refine pure_ (i := 29) (N := some 34) (v := ?_) (a' := ?_) #[Y,Y,Y,Y,Y,Y,Y,Y,Y,Y,Y,Y,Y,Y,Y,Y,Y,Y,Y,Y,Y,Y,Y,Y,Y,Y,Y,Y,Y,Y,O,Y,Y,O,Y,Y,O,O,Y,Y,O,Y,Y,O,O,O,Y,Y,O,Y,Y,O,O,O,Y,Y,O,Y,Y,O,O,O,Y,Y,O,Y,Y,O,O,Y,Y,O,Y,Y,O,O,O,Y,Y,O,Y,Y,O,O,O,Y,Y,O,Y,Y,O,O,O,Y,Y,O,Y,Y,O,O,Y,Y,O,Y,Y,O,O,O,Y,Y,O,Y,Y,O,O,O,Y,Y,O,Y,Y,O,O,O,O,O] rfl rfl (any_of HT_.out (by kernel_rfl)) (fun _ _ _ h => h) (Or.inl ⟨by rfl, ?_⟩) ?_ ?_
         rotate_left
         ·
          intro w'
          go_simp
          with_reducible rfl
         rotate_left
         ·
          simp only [Act.put, List.setIfInBounds_toArray, List.set_cons_zero, List.set_cons_succ, i64_w, i32_w]
          rfl
         refine pure_ (i := 30) (N := some 35) (v := ?_) (a' := ?_) #[Y,Y,Y,Y,Y,Y,Y,Y,Y,Y,Y,Y,Y,Y,Y,Y,Y,Y,Y,Y,Y,Y,Y,Y,Y,Y,Y,Y,Y,Y,Y,Y,Y,O,Y,Y,O,O,Y,Y,O,Y,Y,O,O,O,Y,Y,O,Y,Y,O,O,O,Y,Y,O,Y,Y,O,O,O,Y,Y,O,Y,Y,O,O,Y,Y,O,Y,Y,O,O,O,Y,Y,O,Y,Y,O,O,O,Y,Y,O,Y,Y,O,O,O,Y,Y,O,Y,Y,O,O,Y,Y,O,Y,Y,O,O,O,Y,Y,O,Y,Y,O,O,O,Y,Y,O,Y,Y,O,O,O,O,O] rfl rfl (any_of HT_.out (by kernel_rfl)) (fun _ _ _ h => h) (Or.inl ⟨by rfl, ?_⟩) ?_ ?_
         rotate_left
         ·
          intro w'
          go_simp
          with_reducible rfl
         rotate_left
         ·
          simp only [Act.put, List.setIfInBounds_toArray, List.set_cons_zero, List.set_cons_succ, i64_w, i32_w]
          rfl
         refine take_ (i := 33) (N := some 38) (v := ?_) (a' := ?_) #[Y,Y,Y,Y,Y,Y,Y,Y,Y,Y,Y,Y,Y,Y,Y,Y,Y,Y,Y,Y,Y,Y,Y,Y,Y,Y,Y,Y,Y,Y,Y,Y,Y,Y,Y,Y,O,O,Y,Y,O,Y,Y,O,O,O,Y,Y,O,Y,Y,O,O,O,Y,Y,O,Y,Y,O,O,O,Y,Y,O,Y,Y,O,O,Y,Y,O,Y,Y,O,O,O,Y,Y,O,Y,Y,O,O,O,Y,Y,O,Y,Y,O,O,O,Y,Y,O,Y,Y,O,O,Y,Y,O,Y,Y,O,O,O,Y,Y,O,Y,Y,O,O,O,Y,Y,O,Y,Y,O,O,O,O,O] rfl rfl (take_ofW HT_.out HW_.out (by kernel_rfl)) (fun _ _ _ h => h) (Or.inl ⟨by rfl, ?_⟩) hHeld ?_ ?_
         rotate_left
         ·
          rintro w' ⟨s0, s1, s2, s3, s4, s5, s6, s7, s8, s9, s10, s11, s12, s13, s14, s15, s16, s17, s18, s19, s20, s21, s22, s23, s24, s25, s26, s27, s28, s29, s30, s31⟩
          go_simp
          with_reducible rfl
         rotate_left
         ·
          simp only [Act.put, List.setIfInBounds_toArray, List.set_cons_zero, List.set_cons_succ, i64_w, i32_w]
          rfl
         refine take_ (i := 36) (N := some 41) (v := ?_) (a' := ?_) #[Y,Y,Y,Y,Y,Y,Y,Y,Y,Y,Y,Y,Y,Y,Y,Y,Y,Y,Y,Y,Y,Y,Y,Y,Y,Y,Y,Y,Y,Y,Y,Y,Y,Y,Y,Y,Y,O,Y,Y,O,Y,Y,O,O,O,Y,Y,O,Y,Y,O,O,O,Y,Y,O,Y,Y,O,O,O,Y,Y,O,Y,Y,O,O,Y,Y,O,Y,Y,O,O,O,Y,Y,O,Y,Y,O,O,O,Y,Y,O,Y,Y,O,O,O,Y,Y,O,Y,Y,O,O,Y,Y,O,Y,Y,O,O,O,Y,Y,O,Y,Y,O,O,O,Y,Y,O,Y,Y,O,O,O,O,O] rfl rfl (take_ofW HT_.out HW_.out (by kernel_rfl)) (fun _ _ _ h => h) (Or.inl ⟨by rfl, ?_⟩) hHeld ?_ ?_
         rotate_left
         ·
          rintro w' ⟨s0, s1, s2, s3, s4, s5, s6, s7, s8, s9, s10, s11, s12, s13, s14, s15, s16, s17, s18, s19, s20, s21, s22, s23, s24, s25, s26, s27, s28, s29, s30, s31⟩
          go_simp
          with_reducible rfl
         rotate_left
         ·
          simp only [Act.put, List.setIfInBounds_toArray, List.set_cons_zero, List.set_cons_succ, i64_w, i32_w]
          rfl
         refine pure_ (i := 37) (N := some 42) (v := ?_) (a' := ?_) #[Y,Y,Y,Y,Y,Y,Y,Y,Y,Y,Y,Y,Y,Y,Y,Y,Y,Y,Y,Y,Y,Y,Y,Y,Y,Y,Y,Y,Y,Y,Y,Y,Y,Y,Y,Y,Y,Y,Y,Y,O,Y,Y,O,O,O,Y,Y,O,Y,Y,O,O,O,Y,Y,O,Y,Y,O,O,O,Y,Y,O,Y,Y,O,O,Y,Y,O,Y,Y,O,O,O,Y,Y,O,Y,Y,O,O,O,Y,Y,O,Y,Y,O,O,O,Y,Y,O,Y,Y,O,O,Y,Y,O,Y,Y,O,O,O,Y,Y,O,Y,Y,O,O,O,Y,Y,O,Y,Y,O,O,O,O,O] rfl rfl (any_of HT_.out (by kernel_rfl)) (fun _ _ _ h => h) (Or.inl ⟨by rfl, ?_⟩) ?_ ?_
         rotate_left
         ·
          intro w'
          go_simp
          with_reducible rfl
         rotate_left
         ·
          simp only [Act.put, List.setIfInBounds_toArray, List.set_cons_zero, List.set_cons_succ, i64_w, i32_w]
          rfl
         refine take_ (i := 40) (N := some 45) (v := ?_) (a' := ?_) #[Y,Y,Y,Y,Y,Y,Y,Y,Y,Y,Y,Y,Y,Y,Y,Y,Y,Y,Y,Y,Y,Y,Y,Y,Y,Y,Y,Y,Y,Y,Y,Y,Y,Y,Y,Y,Y,Y,Y,Y,Y,Y,Y,O,O,O,Y,Y,O,Y,Y,O,O,O,Y,Y,O,Y,Y,O,O,O,Y,Y,O,Y,Y,O,O,Y,Y,O,Y,Y,O,O,O,Y,Y,O,Y,Y,O,O,O,Y,Y,O,Y,Y,O,O,O,Y,Y,O,Y,Y,O,O,Y,Y,O,Y,Y,O,O,O,Y,Y,O,Y,Y,O,O,O,Y,Y,O,Y,Y,O,O,O,O,O] rfl rfl (take_ofW HT_.out HW_.out (by kernel_rfl)) (fun _ _ _ h => h) (Or.inl ⟨by rfl, ?_⟩) hHeld ?_ ?_
         rotate_left
         ·
          rintro w' ⟨s0, s1, s2, s3, s4, s5, s6, s7, s8, s9, s10, s11, s12, s13, s14, s15, s16, s17, s18, s19, s20, s21, s22, s23, s24, s25, s26, s27, s28, s29, s30, s31⟩
          go_simp
          with_reducible rfl
         rotate_left
         ·
          simp only [Act.put, List.setIfInBounds_toArray, List.set_cons_zero, List.set_cons_succ, i64_w, i32_w]
          rfl
         refine take_ (i := 43) (N := some 48) (v := ?_) (a' := ?_) #[Y,Y,Y,Y,Y,Y,Y,Y,Y,Y,Y,Y,Y,Y,Y,Y,Y,Y,Y,Y,Y,Y,Y,Y,Y,Y,Y,Y,Y,Y,Y,Y,Y,Y,Y,Y,Y,Y,Y,Y,Y,Y,Y,Y,O,O,Y,Y,O,Y,Y,O,O,O,Y,Y,O,Y,Y,O,O,O,Y,Y,O,Y,Y,O,O,Y,Y,O,Y,Y,O,O,O,Y,Y,O,Y,Y,O,O,O,Y,Y,O,Y,Y,O,O,O,Y,Y,O,Y,Y,O,O,Y,Y,O,Y,Y,O,O,O,Y,Y,O,Y,Y,O,O,O,Y,Y,O,Y,Y,O,O,O,O,O] rfl rfl (take_ofW HT_.out HW_.out (by kernel_rfl)) (fun _ _ _ h => h) (Or.inl ⟨by rfl, ?_⟩) hHeld ?_ ?_
         rotate_left
         ·
          rintro w' ⟨s0, s1, s2, s3, s4, s5, s6, s7, s8, s9, s10, s11, s12, s13, s14, s15, s16, s17, s18, s19, s20, s21, s22, s23, s24, s25, s26, s27, s28, s29, s30, s31⟩
          go_simp
          with_reducible rfl
         rotate_left
         ·
          simp only [Act.put, List.setIfInBounds_toArray, List.set_cons_zero, List.set_cons_succ, i64_w, i32_w]
          rfl
         refine pure_ (i := 44) (N := some 49) (v := ?_) (a' := ?_) #[Y,Y,Y,Y,Y,Y,Y,Y,Y,Y,Y,Y,Y,Y,Y,Y,Y,Y,Y,Y,Y,Y,Y,Y,Y,Y,Y,Y,Y,Y,Y,Y,Y,Y,Y,Y,Y,Y,Y,Y,Y,Y,Y,Y,Y,O,Y,Y,O,Y,Y,O,O,O,Y,Y,O,Y,Y,O,O,O,Y,Y,O,Y,Y,O,O,Y,Y,O,Y,Y,O,O,O,Y,Y,O,Y,Y,O,O,O,Y,Y,O,Y,Y,O,O,O,Y,Y,O,Y,Y,O,O,Y,Y,O,Y,Y,O,O,O,Y,Y,O,Y,Y,O,O,O,Y,Y,O,Y,Y,O,O,O,O,O] rfl rfl (any_of HT_.out (by kernel_rfl)) (fun _ _ _ h => h) (Or.inl ⟨by rfl, ?_⟩) ?_ ?_
         rotate_left
         ·
          intro w'
          go_simp
          with_reducible rfl
         rotate_left
         ·
          simp only [Act.put, List.setIfInBounds_toArray, List.set_cons_zero, List.set_cons_succ, i64_w, i32_w]
          rfl
         refine pure_ (i := 45) (N := some 50) (v := ?_) (a' := ?_) #[Y,Y,Y,Y,Y,Y,Y,Y,Y,Y,Y,Y,Y,Y,Y,Y,Y,Y,Y,Y,Y,Y,Y,Y,Y,Y,Y,Y,Y,Y,Y,Y,Y,Y,Y,Y,Y,Y,Y,Y,Y,Y,Y,Y,Y,Y,Y,Y,O,Y,Y,O,O,O,Y,Y,O,Y,Y,O,O,O,Y,Y,O,Y,Y,O,O,Y,Y,O,Y,Y,O,O,O,Y,Y,O,Y,Y,O,O,O,Y,Y,O,Y,Y,O,O,O,Y,Y,O,Y,Y,O,O,Y,Y,O,Y,Y,O,O,O,Y,Y,O,Y,Y,O,O,O,Y,Y,O,Y,Y,O,O,O,O,O] rfl rfl (any_of HT_.out (by kernel_rfl)) (fun _ _ _ h => h) (Or.inl ⟨by rfl, ?_⟩) ?_ ?_
         rotate_left
         ·
          intro w'
          go_simp
          with_reducible rfl
         rotate_left
         ·
          simp only [Act.put, List.setIfInBounds_toArray, List.set_cons_zero, List.set_cons_succ, i64_w, i32_w]
          rfl
         refine take_ (i := 48) (N := some 53) (v := ?_) (a' := ?_) #[Y,Y,Y,Y,Y,Y,Y,Y,Y,Y,Y,Y,Y,Y,Y,Y,Y,Y,Y,Y,Y,Y,Y,Y,Y,Y,Y,Y,Y,Y,Y,Y,Y,Y,Y,Y,Y,Y,Y,Y,Y,Y,Y,Y,Y,Y,Y,Y,Y,Y,Y,O,O,O,Y,Y,O,Y,Y,O,O,O,Y,Y,O,Y,Y,O,O,Y,Y,O,Y,Y,O,O,O,Y,Y,O,Y,Y,O,O,O,Y,Y,O,Y,Y,O,O,O,Y,Y,O,Y,Y,O,O,Y,Y,O,Y,Y,O,O,O,Y,Y,O,Y,Y,O,O,O,Y,Y,O,Y,Y,O,O,O,O,O] rfl rfl (take_ofW HT_.out HW_.out (by kernel_rfl)) (fun _ _ _ h => h) (Or.inl ⟨by rfl, ?_⟩) hHeld ?_ ?_
         rotate_left
         ·
          rintro w' ⟨s0, s1, s2, s3, s4, s5, s6, s7, s8, s9, s10, s11, s12, s13, s14, s15, s16, s17, s18, s19, s20, s21, s22, s23, s24, s25, s26, s27, s28, s29, s30, s31⟩
          go_simp
          with_reducible rfl
         rotate_left
         ·
          simp only [Act.put, List.setIfInBounds_toArray, List.set_cons_zero, List.set_cons_succ, i64_w, i32_w]
          rfl
         refine take_ (i := 51) (N := some 56) (v := ?_) (a' := ?_) #[Y,Y,Y,Y,Y,Y,Y,Y,Y,Y,Y,Y,Y,Y,Y,Y,Y,Y,Y,Y,Y,Y,Y,Y,Y,Y,Y,Y,Y,Y,Y,Y,Y,Y,Y,Y,Y,Y,Y,Y,Y,Y,Y,Y,Y,Y,Y,Y,Y,Y,Y,Y,O,O,Y,Y,O,Y,Y,O,O,O,Y,Y,O,Y,Y,O,O,Y,Y,O,Y,Y,O,O,O,Y,Y,O,Y,Y,O,O,O,Y,Y,O,Y,Y,O,O,O,Y,Y,O,Y,Y,O,O,Y,Y,O,Y,Y,O,O,O,Y,Y,O,Y,Y,O,O,O,Y,Y,O,Y,Y,O,O,O,O,O] rfl rfl (take_ofW HT_.out HW_.out (by kernel_rfl)) (fun _ _ _ h => h) (Or.inl ⟨by rfl, ?_⟩) hHeld ?_ ?_
         rotate_left
         ·
          rintro w' ⟨s0, s1, s2, s3, s4, s5, s6, s7, s8, s9, s10, s11, s12, s13, s14, s15, s16, s17, s18, s19, s20, s21, s22, s23, s24, s25, s26, s27, s28, s29, s30, s31⟩
          go_simp
          with_reducible rfl
         rotate_left
         ·
          simp only [Act.put, List.setIfInBounds_toArray, List.set_cons_zero, List.set_cons_succ, i64_w, i32_w]
          rfl
         refine pure_ (i := 52) (N := some 57) (v := ?_) (a' := ?_) #[Y,Y,Y,Y,Y,Y,Y,Y,Y,Y,Y,Y,Y,Y,Y,Y,Y,Y,Y,Y,Y,Y,Y,Y,Y,Y,Y,Y,Y,Y,Y,Y,Y,Y,Y,Y,Y,Y,Y,Y,Y,Y,Y,Y,Y,Y,Y,Y,Y,Y,Y,Y,Y,O,Y,Y,O,Y,Y,O,O,O,Y,Y,O,Y,Y,O,O,Y,Y,O,Y,Y,O,O,O,Y,Y,O,Y,Y,O,O,O,Y,Y,O,Y,Y,O,O,O,Y,Y,O,Y,Y,O,O,Y,Y,O,Y,Y,O,O,O,Y,Y,O,Y,Y,O,O,O,Y,Y,O,Y,Y,O,O,O,O,O] rfl rfl (any_of HT_.out (by kernel_rfl)) (fun _ _ _ h => h) (Or.inl ⟨by rfl, ?_⟩) ?_ ?_
         rotate_left
         ·
          intro w'
          go_simp
          with_reducible rfl
         rotate_left
         ·
          simp only [Act.put, List.setIfInBounds_toArray, List.set_cons_zero, List.set_cons_succ, i64_w, i32_w]
          rfl
         refine pure_ (i := 53) (N := some 58) (v := ?_) (a' := ?_) #[Y,Y,Y,Y,Y,Y,Y,Y,Y,Y,Y,Y,Y,Y,Y,Y,Y,Y,Y,Y,Y,Y,Y,Y,Y,Y,Y,Y,Y,Y,Y,Y,Y,Y,Y,Y,Y,Y,Y,Y,Y,Y,Y,Y,Y,Y,Y,Y,Y,Y,Y,Y,Y,Y,Y,Y,O,Y,Y,O,O,O,Y,Y,O,Y,Y,O,O,Y,Y,O,Y,Y,O,O,O,Y,Y,O,Y,Y,O,O,O,Y,Y,O,Y,Y,O,O,O,Y,Y,O,Y,Y,O,O,Y,Y,O,Y,Y,O,O,O,Y,Y,O,Y,Y,O,O,O,Y,Y,O,Y,Y,O,O,O,O,O] rfl rfl (any_of HT_.out (by kernel_rfl)) (fun _ _ _ h => h) (Or.inl ⟨by rfl, ?_⟩) ?_ ?_
         rotate_left
         ·
          intro w'
          go_simp
          with_reducible rfl
         rotate_left
         ·
          simp only [Act.put, List.setIfInBounds_toArray, List.set_cons_zero, List.set_cons_succ, i64_w, i32_w]
          rfl
         refine take_ (i := 56) (N := some 61) (v := ?_) (a' := ?_) #[Y,Y,Y,Y,Y,Y,Y,Y,Y,Y,Y,Y,Y,Y,Y,Y,Y,Y,Y,Y,Y,Y,Y,Y,Y,Y,Y,Y,Y,Y,Y,Y,Y,Y,Y,Y,Y,Y,Y,Y,Y,Y,Y,Y,Y,Y,Y,Y,Y,Y,Y,Y,Y,Y,Y,Y,Y,Y,Y,O,O,O,Y,Y,O,Y,Y,O,O,Y,Y,O,Y,Y,O,O,O,Y,Y,O,Y,Y,O,O,O,Y,Y,O,Y,Y,O,O,O,Y,Y,O,Y,Y,O,O,Y,Y,O,Y,Y,O,O,O,Y,Y,O,Y,Y,O,O,O,Y,Y,O,Y,Y,O,O,O,O,O] rfl rfl (take_ofW HT_.out HW_.out (by kernel_rfl)) (fun _ _ _ h => h) (Or.inl ⟨by rfl, ?_⟩) hHeld ?_ ?_
         rotate_left
         ·
          rintro w' ⟨s0, s1, s2, s3, s4, s5, s6, s7, s8, s9, s10, s11, s12, s13, s14, s15, s16, s17, s18, s19, s20, s21, s22, s23, s24, s25, s26, s27, s28, s29, s30, s31⟩
          go_simp
          with_reducible rfl
         rotate_left
         ·
          simp only [Act.put, List.setIfInBounds_toArray, List.set_cons_zero, List.set_cons_succ, i64_w, i32_w]
          rfl
         refine take_ (i := 59) (N := some 64) (v := ?_) (a' := ?_) #[Y,Y,Y,Y,Y,Y,Y,Y,Y,Y,Y,Y,Y,Y,Y,Y,Y,Y,Y,Y,Y,Y,Y,Y,Y,Y,Y,Y,Y,Y,Y,Y,Y,Y,Y,Y,Y,Y,Y,Y,Y,Y,Y,Y,Y,Y,Y,Y,Y,Y,Y,Y,Y,Y,Y,Y,Y,Y,Y,Y,O,O,Y,Y,O,Y,Y,O,O,Y,Y,O,Y,Y,O,O,O,Y,Y,O,Y,Y,O,O,O,Y,Y,O,Y,Y,O,O,O,Y,Y,O,Y,Y,O,O,Y,Y,O,Y,Y,O,O,O,Y,Y,O,Y,Y,O,O,O,Y,Y,O,Y,Y,O,O,O,O,O] rfl rfl (take_ofW HT_.out HW_.out (by kernel_rfl)) (fun _ _ _ h => h) (Or.inl ⟨by rfl, ?_⟩) hHeld ?_ ?_
         rotate_left
         ·
          rintro w' ⟨s0, s1, s2, s3, s4, s5, s6, s7, s8, s9, s10, s11, s12, s13, s14, s15, s16, s17, s18, s19, s20, s21, s22, s23, s24, s25, s26, s27, s28, s29, s30, s31⟩
          go_simp
          with_reducible rfl
         rotate_left
         ·
          simp only [Act.put, List.setIfInBounds_toArray, List.set_cons_zero, List.set_cons_succ, i64_w, i32_w]
          rfl
         refine pure_ (i := 60) (N := some 65) (v := ?_) (a' := ?_) #[Y,Y,Y,Y,Y,Y,Y,Y,Y,Y,Y,Y,Y,Y,Y,Y,Y,Y,Y,Y,Y,Y,Y,Y,Y,Y,Y,Y,Y,Y,Y,Y,Y,Y,Y,Y,Y,Y,Y,Y,Y,Y,Y,Y,Y,Y,Y,Y,Y,Y,Y,Y,Y,Y,Y,Y,Y,Y,Y,Y,Y,O,Y,Y,O,Y,Y,O,O,Y,Y,O,Y,Y,O,O,O,Y,Y,O,Y,Y,O,O,O,Y,Y,O,Y,Y,O,O,O,Y,Y,O,Y,Y,O,O,Y,Y,O,Y,Y,O,O,O,Y,Y,O,Y,Y,O,O,O,Y,Y,O,Y,Y,O,O,O,O,O] rfl rfl (any_of HT_.out (by kernel_rfl)) (fun _ _ _ h => h) (Or.inl ⟨by rfl, ?_⟩) ?_ ?_
         rotate_left
         ·
          intro w'
          go_simp
          with_reducible rfl
         rotate_left
         ·
          simp only [Act.put, List.setIfInBounds_toArray, List.set_cons_zero, List.set_cons_succ, i64_w, i32_w]
          rfl
         refine pure_ (i := 61) (N := some 66) (v := ?_) (a' := ?_) #[Y,Y,Y,Y,Y,Y,Y,Y,Y,Y,Y,Y,Y,Y,Y,Y,Y,Y,Y,Y,Y,Y,Y,Y,Y,Y,Y,Y,Y,Y,Y,Y,Y,Y,Y,Y,Y,Y,Y,Y,Y,Y,Y,Y,Y,Y,Y,Y,Y,Y,Y,Y,Y,Y,Y,Y,Y,Y,Y,Y,Y,Y,Y,Y,O,Y,Y,O,O,Y,Y,O,Y,Y,O,O,O,Y,Y,O,Y,Y,O,O,O,Y,Y,O,Y,Y,O,O,O,Y,Y,O,Y,Y,O,O,Y,Y,O,Y,Y,O,O,O,Y,Y,O,Y,Y,O,O,O,Y,Y,O,Y,Y,O,O,O,O,O] rfl rfl (any_of HT_.out (by kernel_rfl)) (fun _ _ _ h => h) (Or.inl ⟨by rfl, ?_⟩) ?_ ?_
         rotate_left
         ·
          intro w'
          go_simp
          with_reducible rfl
         rotate_left
         ·
          simp only [Act.put, List.setIfInBounds_toArray, List.set_cons_zero, List.set_cons_succ, i64_w, i32_w]
          rfl
         refine take_ (i := 64) (N := some 69) (v := ?_) (a' := ?_) #[Y,Y,Y,Y,Y,Y,Y,Y,Y,Y,Y,Y,Y,Y,Y,Y,Y,Y,Y,Y,Y,Y,Y,Y,Y,Y,Y,Y,Y,Y,Y,Y,Y,Y,Y,Y,Y,Y,Y,Y,Y,Y,Y,Y,Y,Y,Y,Y,Y,Y,Y,Y,Y,Y,Y,Y,Y,Y,Y,Y,Y,Y,Y,Y,Y,Y,Y,O,O,Y,Y,O,Y,Y,O,O,O,Y,Y,O,Y,Y,O,O,O,Y,Y,O,Y,Y,O,O,O,Y,Y,O,Y,Y,O,O,Y,Y,O,Y,Y,O,O,O,Y,Y,O,Y,Y,O,O,O,Y,Y,O,Y,Y,O,O,O,O,O] rfl rfl (take_ofW HT_.out HW_.out (by kernel_rfl)) (fun _ _ _ h => h) (Or.inl ⟨by rfl, ?_⟩) hHeld ?_ ?_
         rotate_left
         ·
          rintro w' ⟨s0, s1, s2, s3, s4, s5, s6, s7, s8, s9, s10, s11, s12, s13, s14, s15, s16, s17, s18, s19, s20, s21, s22, s23, s24, s25, s26, s27, s28, s29, s30, s31⟩
          go_simp
          with_reducible rfl
         rotate_left
         ·
          simp only [Act.put, List.setIfInBounds_toArray, List.set_cons_zero, List.set_cons_succ, i64_w, i32_w]
          rfl
         refine take_ (i := 67) (N := some 72) (v := ?_) (a' := ?_) #[Y,Y,Y,Y,Y,Y,Y,Y,Y,Y,Y,Y,Y,Y,Y,Y,Y,Y,Y,Y,Y,Y,Y,Y,Y,Y,Y,Y,Y,Y,Y,Y,Y,Y,Y,Y,Y,Y,Y,Y,Y,Y,Y,Y,Y,Y,Y,Y,Y,Y,Y,Y,Y,Y,Y,Y,Y,Y,Y,Y,Y,Y,Y,Y,Y,Y,Y,Y,O,Y,Y,O,Y,Y,O,O,O,Y,Y,O,Y,Y,O,O,O,Y,Y,O,Y,Y,O,O,O,Y,Y,O,Y,Y,O,O,Y,Y,O,Y,Y,O,O,O,Y,Y,O,Y,Y,O,O,O,Y,Y,O,Y,Y,O,O,O,O,O] rfl rfl (take_ofW HT_.out HW_.out (by kernel_rfl)) (fun _ _ _ h => h) (Or.inl ⟨by rfl, ?_⟩) hHeld ?_ ?_
         rotate_left
         ·
          rintro w' ⟨s0, s1, s2, s3, s4, s5, s6, s7, s8, s9, s10, s11, s12, s13, s14, s15, s16, s17, s18, s19, s20, s21, s22, s23, s24, s25, s26, s27, s28, s29, s30, s31⟩
          go_simp
          with_reducible rfl
         rotate_left
         ·
          simp only [Act.put, List.setIfInBounds_toArray, List.set_cons_zero, List.set_cons_succ, i64_w, i32_w]
          rfl
         refine pure_ (i := 68) (N := some 73) (v := ?_) (a' := ?_) #[Y,Y,Y,Y,Y,Y,Y,Y,Y,Y,Y,Y,Y,Y,Y,Y,Y,Y,Y,Y,Y,Y,Y,Y,Y,Y,Y,Y,Y,Y,Y,Y,Y,Y,Y,Y,Y,Y,Y,Y,Y,Y,Y,Y,Y,Y,Y,Y,Y,Y,Y,Y,Y,Y,Y,Y,Y,Y,Y,Y,Y,Y,Y,Y,Y,Y,Y,Y,Y,Y,Y,O,Y,Y,O,O,O,Y,Y,O,Y,Y,O,O,O,Y,Y,O,Y,Y,O,O,O,Y,Y,O,Y,Y,O,O,Y,Y,O,Y,Y,O,O,O,Y,Y,O,Y,Y,O,O,O,Y,Y,O,Y,Y,O,O,O,O,O] rfl rfl (any_of HT_.out (by kernel_rfl)) (fun _ _ _ h => h) (Or.inl ⟨by rfl, ?_⟩) ?_ ?_
         rotate_left
         ·
          intro w'
          go_simp
          with_reducible rfl
         rotate_left
         ·
          simp only [Act.put, List.setIfInBounds_toArray, List.set_cons_zero, List.set_cons_succ, i64_w, i32_w]
          rfl
         refine take_ (i := 71) (N := some 76) (v := ?_) (a' := ?_) #[Y,Y,Y,Y,Y,Y,Y,Y,Y,Y,Y,Y,Y,Y,Y,Y,Y,Y,Y,Y,Y,Y,Y,Y,Y,Y,Y,Y,Y,Y,Y,Y,Y,Y,Y,Y,Y,Y,Y,Y,Y,Y,Y,Y,Y,Y,Y,Y,Y,Y,Y,Y,Y,Y,Y,Y,Y,Y,Y,Y,Y,Y,Y,Y,Y,Y,Y,Y,Y,Y,Y,Y,Y,Y,O,O,O,Y,Y,O,Y,Y,O,O,O,Y,Y,O,Y,Y,O,O,O,Y,Y,O,Y,Y,O,O,Y,Y,O,Y,Y,O,O,O,Y,Y,O,Y,Y,O,O,O,Y,Y,O,Y,Y,O,O,O,O,O] rfl rfl (take_ofW HT_.out HW_.out (by kernel_rfl)) (fun _ _ _ h => h) (Or.inl ⟨by rfl, ?_⟩) hHeld ?_ ?_
         rotate_left
         ·
          rintro w' ⟨s0, s1, s2, s3, s4, s5, s6, s7, s8, s9, s10, s11, s12, s13, s14, s15, s16, s17, s18, s19, s20, s21, s22, s23, s24, s25, s26, s27, s28, s29, s30, s31⟩
          go_simp
          with_reducible rfl
         rotate_left
         ·
          simp only [Act.put, List.setIfInBounds_toArray, List.set_cons_zero, List.set_cons_succ, i64_w, i32_w]
          rfl
         refine take_ (i := 74) (N := some 79) (v := ?_) (a' := ?_) #[Y,Y,Y,Y,Y,Y,Y,Y,Y,Y,Y,Y,Y,Y,Y,Y,Y,Y,Y,Y,Y,Y,Y,Y,Y,Y,Y,Y,Y,Y,Y,Y,Y,Y,Y,Y,Y,Y,Y,Y,Y,Y,Y,Y,Y,Y,Y,Y,Y,Y,Y,Y,Y,Y,Y,Y,Y,Y,Y,Y,Y,Y,Y,Y,Y,Y,Y,Y,Y,Y,Y,Y,Y,Y,Y,O,O,Y,Y,O,Y,Y,O,O,O,Y,Y,O,Y,Y,O,O,O,Y,Y,O,Y,Y,O,O,Y,Y,O,Y,Y,O,O,O,Y,Y,O,Y,Y,O,O,O,Y,Y,O,Y,Y,O,O,O,O,O] rfl rfl (take_ofW HT_.out HW_.out (by kernel_rfl)) (fun _ _ _ h => h) (Or.inl ⟨by rfl, ?_⟩) hHeld ?_ ?_
         rotate_left
         ·
          rintro w' ⟨s0, s1, s2, s3, s4, s5, s6, s7, s8, s9, s10, s11, s12, s13, s14, s15, s16, s17, s18, s19, s20, s21, s22, s23, s24, s25, s26, s27, s28, s29, s30, s31⟩
          go_simp
          with_reducible rfl
         rotate_left
         ·
          simp only [Act.put, List.setIfInBounds_toArray, List.set_cons_zero, List.set_cons_succ, i64_w, i32_w]
          rfl
         refine pure_ (i := 75) (N := some 80) (v := ?_) (a' := ?_) #[Y,Y,Y,Y,Y,Y,Y,Y,Y,Y,Y,Y,Y,Y,Y,Y,Y,Y,Y,Y,Y,Y,Y,Y,Y,Y,Y,Y,Y,Y,Y,Y,Y,Y,Y,Y,Y,Y,Y,Y,Y,Y,Y,Y,Y,Y,Y,Y,Y,Y,Y,Y,Y,Y,Y,Y,Y,Y,Y,Y,Y,Y,Y,Y,Y,Y,Y,Y,Y,Y,Y,Y,Y,Y,Y,Y,O,Y,Y,O,Y,Y,O,O,O,Y,Y,O,Y,Y,O,O,O,Y,Y,O,Y,Y,O,O,Y,Y,O,Y,Y,O,O,O,Y,Y,O,Y,Y,O,O,O,Y,Y,O,Y,Y,O,O,O,O,O] rfl rfl (any_of HT_.out (by kernel_rfl)) (fun _ _ _ h => h) (Or.inl ⟨by rfl, ?_⟩) ?_ ?_
         rotate_left
         ·
          intro w'
          go_simp
          with_reducible rfl
         rotate_left
         ·
          simp only [Act.put, List.setIfInBounds_toArray, List.set_cons_zero, List.set_cons_succ, i64_w, i32_w]
          rfl
         refine pure_ (i := 76) (N := some 81) (v := ?_) (a' := ?_) #[Y,Y,Y,Y,Y,Y,Y,Y,Y,Y,Y,Y,Y,Y,Y,Y,Y,Y,Y,Y,Y,Y,Y,Y,Y,Y,Y,Y,Y,Y,Y,Y,Y,Y,Y,Y,Y,Y,Y,Y,Y,Y,Y,Y,Y,Y,Y,Y,Y,Y,Y,Y,Y,Y,Y,Y,Y,Y,Y,Y,Y,Y,Y,Y,Y,Y,Y,Y,Y,Y,Y,Y,Y,Y,Y,Y,Y,Y,Y,O,Y,Y,O,O,O,Y,Y,O,Y,Y,O,O,O,Y,Y,O,Y,Y,O,O,Y,Y,O,Y,Y,O,O,O,Y,Y,O,Y,Y,O,O,O,Y,Y,O,Y,Y,O,O,O,O,O] rfl rfl (any_of HT_.out (by kernel_rfl)) (fun _ _ _ h => h) (Or.inl ⟨by rfl, ?_⟩) ?_ ?_
         rotate_left
         ·
          intro w'
          go_simp
          with_reducible rfl
         rotate_left
         ·
          simp only [Act.put, List.setIfInBounds_toArray, List.set_cons_zero, List.set_cons_succ, i64_w, i32_w]
          rfl
         refine take_ (i := 79) (N := some 84) (v := ?_) (a' := ?_) #[Y,Y,Y,Y,Y,Y,Y,Y,Y,Y,Y,Y,Y,Y,Y,Y,Y,Y,Y,Y,Y,Y,Y,Y,Y,Y,Y,Y,Y,Y,Y,Y,Y,Y,Y,Y,Y,Y,Y,Y,Y,Y,Y,Y,Y,Y,Y,Y,Y,Y,Y,Y,Y,Y,Y,Y,Y,Y,Y,Y,Y,Y,Y,Y,Y,Y,Y,Y,Y,Y,Y,Y,Y,Y,Y,Y,Y,Y,Y,Y,Y,Y,O,O,O,Y,Y,O,Y,Y,O,O,O,Y,Y,O,Y,Y,O,O,Y,Y,O,Y,Y,O,O,O,Y,Y,O,Y,Y,O,O,O,Y,Y,O,Y,Y,O,O,O,O,O] rfl rfl (take_ofW HT_.out HW_.out (by kernel_rfl)) (fun _ _ _ h => h) (Or.inl ⟨by rfl, ?_⟩) hHeld ?_ ?_
         rotate_left
         ·
          rintro w' ⟨s0, s1, s2, s3, s4, s5, s6, s7, s8, s9, s10, s11, s12, s13, s14, s15, s16, s17, s18, s19, s20, s21, s22, s23, s24, s25, s26, s27, s28, s29, s30, s31⟩
          go_simp
          with_reducible rfl
         rotate_left
         ·
          simp only [Act.put, List.setIfInBounds_toArray, List.set_cons_zero, List.set_cons_succ, i64_w, i32_w]
          rfl
         refine take_ (i := 82) (N := some 87) (v := ?_) (a' := ?_) #[Y,Y,Y,Y,Y,Y,Y,Y,Y,Y,Y,Y,Y,Y,Y,Y,Y,Y,Y,Y,Y,Y,Y,Y,Y,Y,Y,Y,Y,Y,Y,Y,Y,Y,Y,Y,Y,Y,Y,Y,Y,Y,Y,Y,Y,Y,Y,Y,Y,Y,Y,Y,Y,Y,Y,Y,Y,Y,Y,Y,Y,Y,Y,Y,Y,Y,Y,Y,Y,Y,Y,Y,Y,Y,Y,Y,Y,Y,Y,Y,Y,Y,Y,O,O,Y,Y,O,Y,Y,O,O,O,Y,Y,O,Y,Y,O,O,Y,Y,O,Y,Y,O,O,O,Y,Y,O,Y,Y,O,O,O,Y,Y,O,Y,Y,O,O,O,O,O] rfl rfl (take_ofW HT_.out HW_.out (by kernel_rfl)) (fun _ _ _ h => h) (Or.inl ⟨by rfl, ?_⟩) hHeld ?_ ?_
         rotate_left
         ·
          rintro w' ⟨s0, s1, s2, s3, s4, s5, s6, s7, s8, s9, s10, s11, s12, s13, s14, s15, s16, s17, s18, s19, s20, s21, s22, s23, s24, s25, s26, s27, s28, s29, s30, s31⟩
          go_simp
          with_reducible rfl
         rotate_left
         ·
          simp only [Act.put, List.setIfInBounds_toArray, List.set_cons_zero, List.set_cons_succ, i64_w, i32_w]
          rfl
         refine pure_ (i := 83) (N := some 88) (v := ?_) (a' := ?_) #[Y,Y,Y,Y,Y,Y,Y,Y,Y,Y,Y,Y,Y,Y,Y,Y,Y,Y,Y,Y,Y,Y,Y,Y,Y,Y,Y,Y,Y,Y,Y,Y,Y,Y,Y,Y,Y,Y,Y,Y,Y,Y,Y,Y,Y,Y,Y,Y,Y,Y,Y,Y,Y,Y,Y,Y,Y,Y,Y,Y,Y,Y,Y,Y,Y,Y,Y,Y,Y,Y,Y,Y,Y,Y,Y,Y,Y,Y,Y,Y,Y,Y,Y,Y,O,Y,Y,O,Y,Y,O,O,O,Y,Y,O,Y,Y,O,O,Y,Y,O,Y,Y,O,O,O,Y,Y,O,Y,Y,O,O,O,Y,Y,O,Y,Y,O,O,O,O,O] rfl rfl (any_of HT_.out (by kernel_rfl)) (fun _ _ _ h => h) (Or.inl ⟨by rfl, ?_⟩) ?_ ?_
         rotate_left
         ·
          intro w'
          go_simp
          with_reducible rfl
         rotate_left
         ·
          simp only [Act.put, List.setIfInBounds_toArray, List.set_cons_zero, List.set_cons_succ, i64_w, i32_w]
          rfl
         refine pure_ (i := 84) (N := some 89) (v := ?_) (a' := ?_) #[Y,Y,Y,Y,Y,Y,Y,Y,Y,Y,Y,Y,Y,Y,Y,Y,Y,Y,Y,Y,Y,Y,Y,Y,Y,Y,Y,Y,Y,Y,Y,Y,Y,Y,Y,Y,Y,Y,Y,Y,Y,Y,Y,Y,Y,Y,Y,Y,Y,Y,Y,Y,Y,Y,Y,Y,Y,Y,Y,Y,Y,Y,Y,Y,Y,Y,Y,Y,Y,Y,Y,Y,Y,Y,Y,Y,Y,Y,Y,Y,Y,Y,Y,Y,Y,Y,Y,O,Y,Y,O,O,O,Y,Y,O,Y,Y,O,O,Y,Y,O,Y,Y,O,O,O,Y,Y,O,Y,Y,O,O,O,Y,Y,O,Y,Y,O,O,O,O,O] rfl rfl (any_of HT_.out (by kernel_rfl)) (fun _ _ _ h => h) (Or.inl ⟨by rfl, ?_⟩) ?_ ?_
         rotate_left
         ·
          intro w'
          go_simp
          with_reducible rfl
         rotate_left
         ·
          simp only [Act.put, List.setIfInBounds_toArray, List.set_cons_zero, List.set_cons_succ, i64_w, i32_w]
          rfl
         refine take_ (i := 87) (N := some 92) (v := ?_) (a' := ?_) #[Y,Y,Y,Y,Y,Y,Y,Y,Y,Y,Y,Y,Y,Y,Y,Y,Y,Y,Y,Y,Y,Y,Y,Y,Y,Y,Y,Y,Y,Y,Y,Y,Y,Y,Y,Y,Y,Y,Y,Y,Y,Y,Y,Y,Y,Y,Y,Y,Y,Y,Y,Y,Y,Y,Y,Y,Y,Y,Y,Y,Y,Y,Y,Y,Y,Y,Y,Y,Y,Y,Y,Y,Y,Y,Y,Y,Y,Y,Y,Y,Y,Y,Y,Y,Y,Y,Y,Y,Y,Y,O,O,O,Y,Y,O,Y,Y,O,O,Y,Y,O,Y,Y,O,O,O,Y,Y,O,Y,Y,O,O,O,Y,Y,O,Y,Y,O,O,O,O,O] rfl rfl (take_ofW HT_.out HW_.out (by kernel_rfl)) (fun _ _ _ h => h) (Or.inl ⟨by rfl, ?_⟩) hHeld ?_ ?_
         rotate_left
         ·
          rintro w' ⟨s0, s1, s2, s3, s4, s5, s6, s7, s8, s9, s10, s11, s12, s13, s14, s15, s16, s17, s18, s19, s20, s21, s22, s23, s24, s25, s26, s27, s28, s29, s30, s31⟩
          go_simp
          with_reducible rfl
         rotate_left
         ·
          simp only [Act.put, List.setIfInBounds_toArray, List.set_cons_zero, List.set_cons_succ, i64_w, i32_w]
          rfl
         refine take_ (i := 90) (N := some 95) (v := ?_) (a' := ?_) #[Y,Y,Y,Y,Y,Y,Y,Y,Y,Y,Y,Y,Y,Y,Y,Y,Y,Y,Y,Y,Y,Y,Y,Y,Y,Y,Y,Y,Y,Y,Y,Y,Y,Y,Y,Y,Y,Y,Y,Y,Y,Y,Y,Y,Y,Y,Y,Y,Y,Y,Y,Y,Y,Y,Y,Y,Y,Y,Y,Y,Y,Y,Y,Y,Y,Y,Y,Y,Y,Y,Y,Y,Y,Y,Y,Y,Y,Y,Y,Y,Y,Y,Y,Y,Y,Y,Y,Y,Y,Y,Y,O,O,Y,Y,O,Y,Y,O,O,Y,Y,O,Y,Y,O,O,O,Y,Y,O,Y,Y,O,O,O,Y,Y,O,Y,Y,O,O,O,O,O] rfl rfl (take_ofW HT_.out HW_.out (by kernel_rfl)) (fun _ _ _ h => h) (Or.inl ⟨by rfl, ?_⟩) hHeld ?_ ?_
         rotate_left
         ·
          rintro w' ⟨s0, s1, s2, s3, s4, s5, s6, s7, s8, s9, s10, s11, s12, s13, s14, s15, s16, s17, s18, s19, s20, s21, s22, s23, s24, s25, s26, s27, s28, s29, s30, s31⟩
          go_simp
          with_reducible rfl
         rotate_left
         ·
          simp only [Act.put, List.setIfInBounds_toArray, List.set_cons_zero, List.set_cons_succ, i64_w, i32_w]
          rfl
         refine pure_ (i := 91) (N := some 96) (v := ?_) (a' := ?_) #[Y,Y,Y,Y,Y,Y,Y,Y,Y,Y,Y,Y,Y,Y,Y,Y,Y,Y,Y,Y,Y,Y,Y,Y,Y,Y,Y,Y,Y,Y,Y,Y,Y,Y,Y,Y,Y,Y,Y,Y,Y,Y,Y,Y,Y,Y,Y,Y,Y,Y,Y,Y,Y,Y,Y,Y,Y,Y,Y,Y,Y,Y,Y,Y,Y,Y,Y,Y,Y,Y,Y,Y,Y,Y,Y,Y,Y,Y,Y,Y,Y,Y,Y,Y,Y,Y,Y,Y,Y,Y,Y,Y,O,Y,Y,O,Y,Y,O,O,Y,Y,O,Y,Y,O,O,O,Y,Y,O,Y,Y,O,O,O,Y,Y,O,Y,Y,O,O,O,O,O] rfl rfl (any_of HT_.out (by kernel_rfl)) (fun _ _ _ h => h) (Or.inl ⟨by rfl, ?_⟩) ?_ ?_
         rotate_left
         ·
          intro w'
          go_simp
          with_reducible rfl
         rotate_left
         ·
          simp only [Act.put, List.setIfInBounds_toArray, List.set_cons_zero, List.set_cons_succ, i64_w, i32_w]
          rfl
         refine pure_ (i := 92) (N := some 97) (v := ?_) (a' := ?_) #[Y,Y,Y,Y,Y,Y,Y,Y,Y,Y,Y,Y,Y,Y,Y,Y,Y,Y,Y,Y,Y,Y,Y,Y,Y,Y,Y,Y,Y,Y,Y,Y,Y,Y,Y,Y,Y,Y,Y,Y,Y,Y,Y,Y,Y,Y,Y,Y,Y,Y,Y,Y,Y,Y,Y,Y,Y,Y,Y,Y,Y,Y,Y,Y,Y,Y,Y,Y,Y,Y,Y,Y,Y,Y,Y,Y,Y,Y,Y,Y,Y,Y,Y,Y,Y,Y,Y,Y,Y,Y,Y,Y,Y,Y,Y,O,Y,Y,O,O,Y,Y,O,Y,Y,O,O,O,Y,Y,O,Y,Y,O,O,O,Y,Y,O,Y,Y,O,O,O,O,O] rfl rfl (any_of HT_.out (by kernel_rfl)) (fun _ _ _ h => h) (Or.inl ⟨by rfl, ?_⟩) ?_ ?_
         rotate_left
         ·
          intro w'
          go_simp
          with_reducible rfl
         rotate_left
         ·
          simp only [Act.put, List.setIfInBounds_toArray, List.set_cons_zero, List.set_cons_succ, i64_w, i32_w]
          rfl
         refine take_ (i := 95) (N := some 100) (v := ?_) (a' := ?_) #[Y,Y,Y,Y,Y,Y,Y,Y,Y,Y,Y,Y,Y,Y,Y,Y,Y,Y,Y,Y,Y,Y,Y,Y,Y,Y,Y,Y,Y,Y,Y,Y,Y,Y,Y,Y,Y,Y,Y,Y,Y,Y,Y,Y,Y,Y,Y,Y,Y,Y,Y,Y,Y,Y,Y,Y,Y,Y,Y,Y,Y,Y,Y,Y,Y,Y,Y,Y,Y,Y,Y,Y,Y,Y,Y,Y,Y,Y,Y,Y,Y,Y,Y,Y,Y,Y,Y,Y,Y,Y,Y,Y,Y,Y,Y,Y,Y,Y,O,O,Y,Y,O,Y,Y,O,O,O,Y,Y,O,Y,Y,O,O,O,Y,Y,O,Y,Y,O,O,O,O,O] rfl rfl (take_ofW HT_.out HW_.out (by kernel_rfl)) (fun _ _ _ h => h) (Or.inl ⟨by rfl, ?_⟩) hHeld ?_ ?_
         rotate_left
         ·
          rintro w' ⟨s0, s1, s2, s3, s4, s5, s6, s7, s8, s9, s10, s11, s12, s13, s14, s15, s16, s17, s18, s19, s20, s21, s22, s23, s24, s25, s26, s27, s28, s29, s30, s31⟩
          go_simp
          with_reducible rfl
         rotate_left
         ·
          simp only [Act.put, List.setIfInBounds_toArray, List.set_cons_zero, List.set_cons_succ, i64_w, i32_w]
          rfl
         refine take_ (i := 98) (N := some 103) (v := ?_) (a' := ?_) #[Y,Y,Y,Y,Y,Y,Y,Y,Y,Y,Y,Y,Y,Y,Y,Y,Y,Y,Y,Y,Y,Y,Y,Y,Y,Y,Y,Y,Y,Y,Y,Y,Y,Y,Y,Y,Y,Y,Y,Y,Y,Y,Y,Y,Y,Y,Y,Y,Y,Y,Y,Y,Y,Y,Y,Y,Y,Y,Y,Y,Y,Y,Y,Y,Y,Y,Y,Y,Y,Y,Y,Y,Y,Y,Y,Y,Y,Y,Y,Y,Y,Y,Y,Y,Y,Y,Y,Y,Y,Y,Y,Y,Y,Y,Y,Y,Y,Y,Y,O,Y,Y,O,Y,Y,O,O,O,Y,Y,O,Y,Y,O,O,O,Y,Y,O,Y,Y,O,O,O,O,O] rfl rfl (take_ofW HT_.out HW_.out (by kernel_rfl)) (fun _ _ _ h => h) (Or.inl ⟨by rfl, ?_⟩) hHeld ?_ ?_
         rotate_left
         ·
          rintro w' ⟨s0, s1, s2, s3, s4, s5, s6, s7, s8, s9, s10, s11, s12, s13, s14, s15, s16, s17, s18, s19, s20, s21, s22, s23, s24, s25, s26, s27, s28, s29, s30, s31⟩
          go_simp
          with_reducible rfl
         rotate_left
         ·
          simp only [Act.put, List.setIfInBounds_toArray, List.set_cons_zero, List.set_cons_succ, i64_w, i32_w]
          rfl
         refine pure_ (i := 99) (N := some 104) (v := ?_) (a' := ?_) #[Y,Y,Y,Y,Y,Y,Y,Y,Y,Y,Y,Y,Y,Y,Y,Y,Y,Y,Y,Y,Y,Y,Y,Y,Y,Y,Y,Y,Y,Y,Y,Y,Y,Y,Y,Y,Y,Y,Y,Y,Y,Y,Y,Y,Y,Y,Y,Y,Y,Y,Y,Y,Y,Y,Y,Y,Y,Y,Y,Y,Y,Y,Y,Y,Y,Y,Y,Y,Y,Y,Y,Y,Y,Y,Y,Y,Y,Y,Y,Y,Y,Y,Y,Y,Y,Y,Y,Y,Y,Y,Y,Y,Y,Y,Y,Y,Y,Y,Y,Y,Y,Y,O,Y,Y,O,O,O,Y,Y,O,Y,Y,O,O,O,Y,Y,O,Y,Y,O,O,O,O,O] rfl rfl (any_of HT_.out (by kernel_rfl)) (fun _ _ _ h => h) (Or.inl ⟨by rfl, ?_⟩) ?_ ?_
         rotate_left
         ·
          intro w'
          go_simp
          with_reducible rfl
         rotate_left
         ·
          simp only [Act.put, List.setIfInBounds_toArray, List.set_cons_zero, List.set_cons_succ, i64_w, i32_w]
          rfl
         refine take_ (i := 102) (N := some 107) (v := ?_) (a' := ?_) #[Y,Y,Y,Y,Y,Y,Y,Y,Y,Y,Y,Y,Y,Y,Y,Y,Y,Y,Y,Y,Y,Y,Y,Y,Y,Y,Y,Y,Y,Y,Y,Y,Y,Y,Y,Y,Y,Y,Y,Y,Y,Y,Y,Y,Y,Y,Y,Y,Y,Y,Y,Y,Y,Y,Y,Y,Y,Y,Y,Y,Y,Y,Y,Y,Y,Y,Y,Y,Y,Y,Y,Y,Y,Y,Y,Y,Y,Y,Y,Y,Y,Y,Y,Y,Y,Y,Y,Y,Y,Y,Y,Y,Y,Y,Y,Y,Y,Y,Y,Y,Y,Y,Y,Y,Y,O,O,O,Y,Y,O,Y,Y,O,O,O,Y,Y,O,Y,Y,O,O,O,O,O] rfl rfl (take_ofW HT_.out HW_.out (by kernel_rfl)) (fun _ _ _ h => h) (Or.inl ⟨by rfl, ?_⟩) hHeld ?_ ?_
         rotate_left
         ·
          rintro w' ⟨s0, s1, s2, s3, s4, s5, s6, s7, s8, s9, s10, s11, s12, s13, s14, s15, s16, s17, s18, s19, s20, s21, s22, s23, s24, s25, s26, s27, s28, s29, s30, s31⟩
          go_simp
          with_reducible rfl
         rotate_left
         ·
          simp only [Act.put, List.setIfInBounds_toArray, List.set_cons_zero, List.set_cons_succ, i64_w, i32_w]
          rfl
         refine take_ (i := 105) (N := some 110) (v := ?_) (a' := ?_) #[Y,Y,Y,Y,Y,Y,Y,Y,Y,Y,Y,Y,Y,Y,Y,Y,Y,Y,Y,Y,Y,Y,Y,Y,Y,Y,Y,Y,Y,Y,Y,Y,Y,Y,Y,Y,Y,Y,Y,Y,Y,Y,Y,Y,Y,Y,Y,Y,Y,Y,Y,Y,Y,Y,Y,Y,Y,Y,Y,Y,Y,Y,Y,Y,Y,Y,Y,Y,Y,Y,Y,Y,Y,Y,Y,Y,Y,Y,Y,Y,Y,Y,Y,Y,Y,Y,Y,Y,Y,Y,Y,Y,Y,Y,Y,Y,Y,Y,Y,Y,Y,Y,Y,Y,Y,Y,O,O,Y,Y,O,Y,Y,O,O,O,Y,Y,O,Y,Y,O,O,O,O,O] rfl rfl (take_ofW HT_.out HW_.out (by kernel_rfl)) (fun _ _ _ h => h) (Or.inl ⟨by rfl, ?_⟩) hHeld ?_ ?_
         rotate_left
         ·
          rintro w' ⟨s0, s1, s2, s3, s4, s5, s6, s7, s8, s9, s10, s11, s12, s13, s14, s15, s16, s17, s18, s19, s20, s21, s22, s23, s24, s25, s26, s27, s28, s29, s30, s31⟩
          go_simp
          with_reducible rfl
         rotate_left
         ·
          simp only [Act.put, List.setIfInBounds_toArray, List.set_cons_zero, List.set_cons_succ, i64_w, i32_w]
          rfl
         refine pure_ (i := 106) (N := some 111) (v := ?_) (a' := ?_) #[Y,Y,Y,Y,Y,Y,Y,Y,Y,Y,Y,Y,Y,Y,Y,Y,Y,Y,Y,Y,Y,Y,Y,Y,Y,Y,Y,Y,Y,Y,Y,Y,Y,Y,Y,Y,Y,Y,Y,Y,Y,Y,Y,Y,Y,Y,Y,Y,Y,Y,Y,Y,Y,Y,Y,Y,Y,Y,Y,Y,Y,Y,Y,Y,Y,Y,Y,Y,Y,Y,Y,Y,Y,Y,Y,Y,Y,Y,Y,Y,Y,Y,Y,Y,Y,Y,Y,Y,Y,Y,Y,Y,Y,Y,Y,Y,Y,Y,Y,Y,Y,Y,Y,Y,Y,Y,Y,O,Y,Y,O,Y,Y,O,O,O,Y,Y,O,Y,Y,O,O,O,O,O] rfl rfl (any_of HT_.out (by kernel_rfl)) (fun _ _ _ h => h) (Or.inl ⟨by rfl, ?_⟩) ?_ ?_
         rotate_left
         ·
          intro w'
          go_simp
          with_reducible rfl
         rotate_left
         ·
          simp only [Act.put, List.setIfInBounds_toArray, List.set_cons_zero, List.set_cons_succ, i64_w, i32_w]
          rfl
         refine pure_ (i := 107) (N := some 112) (v := ?_) (a' := ?_) #[Y,Y,Y,Y,Y,Y,Y,Y,Y,Y,Y,Y,Y,Y,Y,Y,Y,Y,Y,Y,Y,Y,Y,Y,Y,Y,Y,Y,Y,Y,Y,Y,Y,Y,Y,Y,Y,Y,Y,Y,Y,Y,Y,Y,Y,Y,Y,Y,Y,Y,Y,Y,Y,Y,Y,Y,Y,Y,Y,Y,Y,Y,Y,Y,Y,Y,Y,Y,Y,Y,Y,Y,Y,Y,Y,Y,Y,Y,Y,Y,Y,Y,Y,Y,Y,Y,Y,Y,Y,Y,Y,Y,Y,Y,Y,Y,Y,Y,Y,Y,Y,Y,Y,Y,Y,Y,Y,Y,Y,Y,O,Y,Y,O,O,O,Y,Y,O,Y,Y,O,O,O,O,O] rfl rfl (any_of HT_.out (by kernel_rfl)) (fun _ _ _ h => h) (Or.inl ⟨by rfl, ?_⟩) ?_ ?_
         rotate_left
         ·
          intro w'
          go_simp
          with_reducible rfl
         rotate_left
         ·
          simp only [Act.put, List.setIfInBounds_toArray, List.set_cons_zero, List.set_cons_succ, i64_w, i32_w]
          rfl
         refine take_ (i := 110) (N := some 115) (v := ?_) (a' := ?_) #[Y,Y,Y,Y,Y,Y,Y,Y,Y,Y,Y,Y,Y,Y,Y,Y,Y,Y,Y,Y,Y,Y,Y,Y,Y,Y,Y,Y,Y,Y,Y,Y,Y,Y,Y,Y,Y,Y,Y,Y,Y,Y,Y,Y,Y,Y,Y,Y,Y,Y,Y,Y,Y,Y,Y,Y,Y,Y,Y,Y,Y,Y,Y,Y,Y,Y,Y,Y,Y,Y,Y,Y,Y,Y,Y,Y,Y,Y,Y,Y,Y,Y,Y,Y,Y,Y,Y,Y,Y,Y,Y,Y,Y,Y,Y,Y,Y,Y,Y,Y,Y,Y,Y,Y,Y,Y,Y,Y,Y,Y,Y,Y,Y,O,O,O,Y,Y,O,Y,Y,O,O,O,O,O] rfl rfl (take_ofW HT_.out HW_.out (by kernel_rfl)) (fun _ _ _ h => h) (Or.inl ⟨by rfl, ?_⟩) hHeld ?_ ?_
         rotate_left
         ·
          rintro w' ⟨s0, s1, s2, s3, s4, s5, s6, s7, s8, s9, s10, s11, s12, s13, s14, s15, s16, s17, s18, s19, s20, s21, s22, s23, s24, s25, s26, s27, s28, s29, s30, s31⟩
          go_simp
          with_reducible rfl
         rotate_left
         ·
          simp only [Act.put, List.setIfInBounds_toArray, List.set_cons_zero, List.set_cons_succ, i64_w, i32_w]
          rfl
         refine take_ (i := 113) (N := some 118) (v := ?_) (a' := ?_) #[Y,Y,Y,Y,Y,Y,Y,Y,Y,Y,Y,Y,Y,Y,Y,Y,Y,Y,Y,Y,Y,Y,Y,Y,Y,Y,Y,Y,Y,Y,Y,Y,Y,Y,Y,Y,Y,Y,Y,Y,Y,Y,Y,Y,Y,Y,Y,Y,Y,Y,Y,Y,Y,Y,Y,Y,Y,Y,Y,Y,Y,Y,Y,Y,Y,Y,Y,Y,Y,Y,Y,Y,Y,Y,Y,Y,Y,Y,Y,Y,Y,Y,Y,Y,Y,Y,Y,Y,Y,Y,Y,Y,Y,Y,Y,Y,Y,Y,Y,Y,Y,Y,Y,Y,Y,Y,Y,Y,Y,Y,Y,Y,Y,Y,O,O,Y,Y,O,Y,Y,O,O,O,O,O] rfl rfl (take_ofW HT_.out HW_.out (by kernel_rfl)) (fun _ _ _ h => h) (Or.inl ⟨by rfl, ?_⟩) hHeld ?_ ?_
         rotate_left
         ·
          rintro w' ⟨s0, s1, s2, s3, s4, s5, s6, s7, s8, s9, s10, s11, s12, s13, s14, s15, s16, s17, s18, s19, s20, s21, s22, s23, s24, s25, s26, s27, s28, s29, s30, s31⟩
          go_simp
          with_reducible rfl
         rotate_left
         ·
          simp only [Act.put, List.setIfInBounds_toArray, List.set_cons_zero, List.set_cons_succ, i64_w, i32_w]
          rfl
         refine pure_ (i := 114) (N := some 119) (v := ?_) (a' := ?_) #[Y,Y,Y,Y,Y,Y,Y,Y,Y,Y,Y,Y,Y,Y,Y,Y,Y,Y,Y,Y,Y,Y,Y,Y,Y,Y,Y,Y,Y,Y,Y,Y,Y,Y,Y,Y,Y,Y,Y,Y,Y,Y,Y,Y,Y,Y,Y,Y,Y,Y,Y,Y,Y,Y,Y,Y,Y,Y,Y,Y,Y,Y,Y,Y,Y,Y,Y,Y,Y,Y,Y,Y,Y,Y,Y,Y,Y,Y,Y,Y,Y,Y,Y,Y,Y,Y,Y,Y,Y,Y,Y,Y,Y,Y,Y,Y,Y,Y,Y,Y,Y,Y,Y,Y,Y,Y,Y,Y,Y,Y,Y,Y,Y,Y,Y,O,Y,Y,O,Y,Y,O,O,O,O,O] rfl rfl (any_of HT_.out (by kernel_rfl)) (fun _ _ _ h => h) (Or.inl ⟨by rfl, ?_⟩) ?_ ?_
         rotate_left
         ·
          intro w'
          go_simp
          with_reducible rfl
         rotate_left
         ·
          simp only [Act.put, List.setIfInBounds_toArray, List.set_cons_zero, List.set_cons_succ, i64_w, i32_w]
          rfl
         refine pure_ (i := 115) (N := some 120) (v := ?_) (a' := ?_) #[Y,Y,Y,Y,Y,Y,Y,Y,Y,Y,Y,Y,Y,Y,Y,Y,Y,Y,Y,Y,Y,Y,Y,Y,Y,Y,Y,Y,Y,Y,Y,Y,Y,Y,Y,Y,Y,Y,Y,Y,Y,Y,Y,Y,Y,Y,Y,Y,Y,Y,Y,Y,Y,Y,Y,Y,Y,Y,Y,Y,Y,Y,Y,Y,Y,Y,Y,Y,Y,Y,Y,Y,Y,Y,Y,Y,Y,Y,Y,Y,Y,Y,Y,Y,Y,Y,Y,Y,Y,Y,Y,Y,Y,Y,Y,Y,Y,Y,Y,Y,Y,Y,Y,Y,Y,Y,Y,Y,Y,Y,Y,Y,Y,Y,Y,Y,Y,Y,O,Y,Y,O,O,O,O,O] rfl rfl (any_of HT_.out (by kernel_rfl)) (fun _ _ _ h => h) (Or.inl ⟨by rfl, ?_⟩) ?_ ?_
         rotate_left
         ·
          intro w'
          go_simp
          with_reducible rfl
         rotate_left
         ·
          simp only [Act.put, List.setIfInBounds_toArray, List.set_cons_zero, List.set_cons_succ, i64_w, i32_w]
          rfl
         refine take_ (i := 118) (N := some 123) (v := ?_) (a' := ?_) #[Y,Y,Y,Y,Y,Y,Y,Y,Y,Y,Y,Y,Y,Y,Y,Y,Y,Y,Y,Y,Y,Y,Y,Y,Y,Y,Y,Y,Y,Y,Y,Y,Y,Y,Y,Y,Y,Y,Y,Y,Y,Y,Y,Y,Y,Y,Y,Y,Y,Y,Y,Y,Y,Y,Y,Y,Y,Y,Y,Y,Y,Y,Y,Y,Y,Y,Y,Y,Y,Y,Y,Y,Y,Y,Y,Y,Y,Y,Y,Y,Y,Y,Y,Y,Y,Y,Y,Y,Y,Y,Y,Y,Y,Y,Y,Y,Y,Y,Y,Y,Y,Y,Y,Y,Y,Y,Y,Y,Y,Y,Y,Y,Y,Y,Y,Y,Y,Y,Y,Y,Y,O,O,O,O,O] rfl rfl (take_ofW HT_.out HW_.out (by kernel_rfl)) (fun _ _ _ h => h) (Or.inl ⟨by rfl, ?_⟩) hHeld ?_ ?_
         rotate_left
         ·
          rintro w' ⟨s0, s1, s2, s3, s4, s5, s6, s7, s8, s9, s10, s11, s12, s13, s14, s15, s16, s17, s18, s19, s20, s21, s22, s23, s24, s25, s26, s27, s28, s29, s30, s31⟩
          go_simp
          with_reducible rfl
         rotate_left
         ·
          simp only [Act.put, List.setIfInBounds_toArray, List.set_cons_zero, List.set_cons_succ, i64_w, i32_w]
          rfl
         refine take_ (i := 121) (N := some 126) (v := ?_) (a' := ?_) #[Y,Y,Y,Y,Y,Y,Y,Y,Y,Y,Y,Y,Y,Y,Y,Y,Y,Y,Y,Y,Y,Y,Y,Y,Y,Y,Y,Y,Y,Y,Y,Y,Y,Y,Y,Y,Y,Y,Y,Y,Y,Y,Y,Y,Y,Y,Y,Y,Y,Y,Y,Y,Y,Y,Y,Y,Y,Y,Y,Y,Y,Y,Y,Y,Y,Y,Y,Y,Y,Y,Y,Y,Y,Y,Y,Y,Y,Y,Y,Y,Y,Y,Y,Y,Y,Y,Y,Y,Y,Y,Y,Y,Y,Y,Y,Y,Y,Y,Y,Y,Y,Y,Y,Y,Y,Y,Y,Y,Y,Y,Y,Y,Y,Y,Y,Y,Y,Y,Y,Y,Y,Y,O,O,O,O] rfl rfl (take_ofW HT_.out HW_.out (by kernel_rfl)) (fun _ _ _ h => h) (Or.inl ⟨by rfl, ?_⟩) hHeld ?_ ?_
         rotate_left
         ·
          rintro w' ⟨s0, s1, s2, s3, s4, s5, s6, s7, s8, s9, s10, s11, s12, s13, s14, s15, s16, s17, s18, s19, s20, s21, s22, s23, s24, s25, s26, s27, s28, s29, s30, s31⟩
          go_simp
          with_reducible rfl
         rotate_left
         ·
          simp only [Act.put, List.setIfInBounds_toArray, List.set_cons_zero, List.set_cons_succ, i64_w, i32_w]
          rfl
         refine pure_ (i := 122) (N := some 127) (v := ?_) (a' := ?_) #[Y,Y,Y,Y,Y,Y,Y,Y,Y,Y,Y,Y,Y,Y,Y,Y,Y,Y,Y,Y,Y,Y,Y,Y,Y,Y,Y,Y,Y,Y,Y,Y,Y,Y,Y,Y,Y,Y,Y,Y,Y,Y,Y,Y,Y,Y,Y,Y,Y,Y,Y,Y,Y,Y,Y,Y,Y,Y,Y,Y,Y,Y,Y,Y,Y,Y,Y,Y,Y,Y,Y,Y,Y,Y,Y,Y,Y,Y,Y,Y,Y,Y,Y,Y,Y,Y,Y,Y,Y,Y,Y,Y,Y,Y,Y,Y,Y,Y,Y,Y,Y,Y,Y,Y,Y,Y,Y,Y,Y,Y,Y,Y,Y,Y,Y,Y,Y,Y,Y,Y,Y,Y,Y,O,O,O] rfl rfl (any_of HT_.out (by kernel_rfl)) (fun _ _ _ h => h) (Or.inl ⟨by rfl, ?_⟩) ?_ ?_
         rotate_left
         ·
          intro w'
          go_simp
          with_reducible rfl
         rotate_left
         ·
          simp only [Act.put, List.setIfInBounds_toArray, List.set_cons_zero, List.set_cons_succ, i64_w, i32_w]
          rfl
         refine pure_ (i := 123) (N := some 128) (v := ?_) (a' := ?_) #[Y,Y,Y,Y,Y,Y,Y,Y,Y,Y,Y,Y,Y,Y,Y,Y,Y,Y,Y,Y,Y,Y,Y,Y,Y,Y,Y,Y,Y,Y,Y,Y,Y,Y,Y,Y,Y,Y,Y,Y,Y,Y,Y,Y,Y,Y,Y,Y,Y,Y,Y,Y,Y,Y,Y,Y,Y,Y,Y,Y,Y,Y,Y,Y,Y,Y,Y,Y,Y,Y,Y,Y,Y,Y,Y,Y,Y,Y,Y,Y,Y,Y,Y,Y,Y,Y,Y,Y,Y,Y,Y,Y,Y,Y,Y,Y,Y,Y,Y,Y,Y,Y,Y,Y,Y,Y,Y,Y,Y,Y,Y,Y,Y,Y,Y,Y,Y,Y,Y,Y,Y,Y,Y,Y,O,O] rfl rfl (any_of HT_.out (by kernel_rfl)) (fun _ _ _ h => h) (Or.inl ⟨by rfl, ?_⟩) ?_ ?_
         rotate_left
         ·
          intro w'
          go_simp
          with_reducible rfl
         rotate_left
         ·
          simp only [Act.put, List.setIfInBounds_toArray, List.set_cons_zero, List.set_cons_succ, i64_w, i32_w]
          rfl
         refine one_ (i := 124) (N := some 129) #[Y,Y,Y,Y,Y,Y,Y,Y,Y,Y,Y,Y,Y,Y,Y,Y,Y,Y,Y,Y,Y,Y,Y,Y,Y,Y,Y,Y,Y,Y,Y,Y,Y,Y,Y,Y,Y,Y,Y,Y,Y,Y,Y,Y,Y,Y,Y,Y,Y,Y,Y,Y,Y,Y,Y,Y,Y,Y,Y,Y,Y,Y,Y,Y,Y,Y,Y,Y,Y,Y,Y,Y,Y,Y,Y,Y,Y,Y,Y,Y,Y,Y,Y,Y,Y,Y,Y,Y,Y,Y,Y,Y,Y,Y,Y,Y,Y,Y,Y,Y,Y,Y,Y,Y,Y,Y,Y,Y,Y,Y,Y,Y,Y,Y,Y,Y,Y,Y,Y,Y,Y,Y,Y,Y,Y,O] rfl rfl (one_of HT_.out (by kernel_rfl)) (by decide) (fun K hK => ?_)
         refine Kd.R_lit_step (Kd.int .i64) _ 3 ?hg (N := 129) ?hd (xs := ([wrap64 ((wrap64 ((wrap64 ((wrap64 ((rd l0 0) * (rd l1 0))) + (wrap64 ((rd l0 1) * (rd l1 1))))) + (wrap64 ((rd l0 2) * (rd l1 2))))) + (wrap64 ((rd l0 3) * (rd l1 3)))), wrap64 ((wrap64 ((wrap64 ((wrap64 ((rd l0 0) * (rd l1 1))) - (wrap64 ((rd l0 1) * (rd l1 0))))) + (wrap64 ((rd l0 2) * (rd l1 3))))) - (wrap64 ((rd l0 3) * (rd l1 2)))), wrap64 ((wrap64 ((wrap64 ((wrap64 ((rd l0 0) * (rd l1 2))) - (wrap64 ((rd l0 2) * (rd l1 0))))) + (wrap64 ((rd l0 3) * (rd l1 1))))) - (wrap64 ((rd l0 1) * (rd l1 3)))), wrap64 ((wrap64 ((wrap64 ((wrap64 ((rd l0 0) * (rd l1 3))) - (wrap64 ((rd l0 3) * (rd l1 0))))) + (wrap64 ((rd l0 1) * (rd l1 2))))) - (wrap64 ((rd l0 2) * (rd l1 1))))] : List Int)) (inner := [.int .i64 (wrap64 ((wrap64 ((wrap64 ((wrap64 ((rd l0 0) * (rd l1 0))) + (wrap64 ((rd l0 1) * (rd l1 1))))) + (wrap64 ((rd l0 2) * (rd l1 2))))) + (wrap64 ((rd l0 3) * (rd l1 3))))), .int .i64 (wrap64 ((wrap64 ((wrap64 ((wrap64 ((rd l0 0) * (rd l1 1))) - (wrap64 ((rd l0 1) * (rd l1 0))))) + (wrap64 ((rd l0 2) * (rd l1 3))))) - (wrap64 ((rd l0 3) * (rd l1 2))))), .int .i64 (wrap64 ((wrap64 ((wrap64 ((wrap64 ((rd l0 0) * (rd l1 2))) - (wrap64 ((rd l0 2) * (rd l1 0))))) + (wrap64 ((rd l0 3) * (rd l1 1))))) - (wrap64 ((rd l0 1) * (rd l1 3))))), .int .i64 (wrap64 ((wrap64 ((wrap64 ((wrap64 ((rd l0 0) * (rd l1 3))) - (wrap64 ((rd l0 3) * (rd l1 0))))) + (wrap64 ((rd l0 1) * (rd l1 2))))) - (wrap64 ((rd l0 2) * (rd l1 1)))))]) (ok := fun _ => True) (okp := fun _ => True) ?hr ?hp (fun _ hk => hk) trivial (Below.refl _ _) (Nat.le_refl _) (by simp) ?_; (case hd => rfl); (case hg => rfl); (case hr => first | (go_simp; done) | (go_simp; rfl)); (case hp => exact (Reps.one (show Kd.M (Kd.int .i64) _ _ _ (wrap64 ((wrap64 ((wrap64 ((wrap64 ((rd l0 0) * (rd l1 0))) + (wrap64 ((rd l0 1) * (rd l1 1))))) + (wrap64 ((rd l0 2) * (rd l1 2))))) + (wrap64 ((rd l0 3) * (rd l1 3))))) [.int .i64 (wrap64 ((wrap64 ((wrap64 ((wrap64 ((rd l0 0) * (rd l1 0))) + (wrap64 ((rd l0 1) * (rd l1 1))))) + (wrap64 ((rd l0 2) * (rd l1 2))))) + (wrap64 ((rd l0 3) * (rd l1 3)))))] from rfl) (Reps.one (show Kd.M (Kd.int .i64) _ _ _ (wrap64 ((wrap64 ((wrap64 ((wrap64 ((rd l0 0) * (rd l1 1))) - (wrap64 ((rd l0 1) * (rd l1 0))))) + (wrap64 ((rd l0 2) * (rd l1 3))))) - (wrap64 ((rd l0 3) * (rd l1 2))))) [.int .i64 (wrap64 ((wrap64 ((wrap64 ((wrap64 ((rd l0 0) * (rd l1 1))) - (wrap64 ((rd l0 1) * (rd l1 0))))) + (wrap64 ((rd l0 2) * (rd l1 3))))) - (wrap64 ((rd l0 3) * (rd l1 2)))))] from rfl) (Reps.one (show Kd.M (Kd.int .i64) _ _ _ (wrap64 ((wrap64 ((wrap64 ((wrap64 ((rd l0 0) * (rd l1 2))) - (wrap64 ((rd l0 2) * (rd l1 0))))) + (wrap64 ((rd l0 3) * (rd l1 1))))) - (wrap64 ((rd l0 1) * (rd l1 3))))) [.int .i64 (wrap64 ((wrap64 ((wrap64 ((wrap64 ((rd l0 0) * (rd l1 2))) - (wrap64 ((rd l0 2) * (rd l1 0))))) + (wrap64 ((rd l0 3) * (rd l1 1))))) - (wrap64 ((rd l0 1) * (rd l1 3)))))] from rfl) (Reps.one (show Kd.M (Kd.int .i64) _ _ _ (wrap64 ((wrap64 ((wrap64 ((wrap64 ((rd l0 0) * (rd l1 3))) - (wrap64 ((rd l0 3) * (rd l1 0))))) + (wrap64 ((rd l0 1) * (rd l1 2))))) - (wrap64 ((rd l0 2) * (rd l1 1))))) [.int .i64 (wrap64 ((wrap64 ((wrap64 ((wrap64 ((rd l0 0) * (rd l1 3))) - (wrap64 ((rd l0 3) * (rd l1 0))))) + (wrap64 ((rd l0 1) * (rd l1 2))))) - (wrap64 ((rd l0 2) * (rd l1 1)))))] from rfl) (Reps.none _ _))))))
         intro v227 w12 ho13 hb hg_ hnew_
         clear hg_ hnew_
         (first | rw [← Ny226.out] at ho13 | (simp only [Int.reduceToNat] at ho13; rw [← Ny226.out] at ho13))
         have n0_ := Aside0.mk (Kd.R_lower ho13 (below_size (by repeat (first | (with_reducible first | exact HB.out | apply below_alloc | apply pw_below_drewN | apply below_drew1) | exact HB.out | exact Below.refl _ _))))
         have n1_ := Aside0.mk (below_step (by repeat (first | (with_reducible first | exact HB.out | apply below_alloc | apply pw_below_drewN | apply below_drew1) | exact HB.out | exact Below.refl _ _)) hb)
         clear HB
         have HO228 := n0_
         have HB := n1_
         clear n0_ n1_
         clear hb ho13
         refine hK.out _ _ ⟨((HB.out.cell (World.block_lt_of_cell? w _ hw194_0)).trans hw194_0), ((HB.out.cell (World.block_lt_of_cell? w _ hw195_0)).trans hw195_0), ((HB.out.cell (World.block_lt_of_cell? w _ hw196_0)).trans hw196_0), ((HB.out.cell (World.block_lt_of_cell? w _ hw197_0)).trans hw197_0), ((HB.out.cell (World.block_lt_of_cell? w _ hw198_0)).trans hw198_0), ((HB.out.cell (World.block_lt_of_cell? w _ hw199_0)).trans hw199_0), ((HB.out.cell (World.block_lt_of_cell? w _ hw200_0)).trans hw200_0), ((HB.out.cell (World.block_lt_of_cell? w _ hw201_0)).trans hw201_0), ((HB.out.cell (World.block_lt_of_cell? w _ hw202_0)).trans hw202_0), ((HB.out.cell (World.block_lt_of_cell? w _ hw203_0)).trans hw203_0), ((HB.out.cell (World.block_lt_of_cell? w _ hw204_0)).trans hw204_0), ((HB.out.cell (World.block_lt_of_cell? w _ hw205_0)).trans hw205_0), ((HB.out.cell (World.block_lt_of_cell? w _ hw206_0)).trans hw206_0), ((HB.out.cell (World.block_lt_of_cell? w _ hw207_0)).trans hw207_0), ((HB.out.cell (World.block_lt_of_cell? w _ hw208_0)).trans hw208_0), ((HB.out.cell (World.block_lt_of_cell? w _ hw209_0)).trans hw209_0), ((HB.out.cell (World.block_lt_of_cell? w _ hw210_0)).trans hw210_0), ((HB.out.cell (World.block_lt_of_cell? w _ hw211_0)).trans hw211_0), ((HB.out.cell (World.block_lt_of_cell? w _ hw212_0)).trans hw212_0), ((HB.out.cell (World.block_lt_of_cell? w _ hw213_0)).trans hw213_0), ((HB.out.cell (World.block_lt_of_cell? w _ hw214_0)).trans hw214_0), ((HB.out.cell (World.block_lt_of_cell? w _ hw215_0)).trans hw215_0), ((HB.out.cell (World.block_lt_of_cell? w _ hw216_0)).trans hw216_0), ((HB.out.cell (World.block_lt_of_cell? w _ hw217_0)).trans hw217_0), ((HB.out.cell (World.block_lt_of_cell? w _ hw218_0)).trans hw218_0), ((HB.out.cell (World.block_lt_of_cell? w _ hw219_0)).trans hw219_0), ((HB.out.cell (World.block_lt_of_cell? w _ hw220_0)).trans hw220_0), ((HB.out.cell (World.block_lt_of_cell? w _ hw221_0)).trans hw221_0), ((HB.out.cell (World.block_lt_of_cell? w _ hw222_0)).trans hw222_0), ((HB.out.cell (World.block_lt_of_cell? w _ hw223_0)).trans hw223_0), ((HB.out.cell (World.block_lt_of_cell? w _ hw224_0)).trans hw224_0), ((HB.out.cell (World.block_lt_of_cell? w _ hw225_0)).trans hw225_0)⟩ (fun hHeld => ?_)
         clear hK K
         refine norm_ (a' := ?_) ?_ ?_
         rotate_left
         ·
          show Act.put _ (some 129) _ = _
          simp only [Act.put, List.setIfInBounds_toArray, List.set_cons_zero, List.set_cons_succ, i64_w, i32_w]
          rfl
         refine pure_ (i := 125) (N := some 4) (v := ?_) (a' := ?_) #[Y,Y,Y,Y,Y,Y,Y,Y,Y,Y,Y,Y,Y,Y,Y,Y,Y,Y,Y,Y,Y,Y,Y,Y,Y,Y,Y,Y,Y,Y,Y,Y,Y,Y,Y,Y,Y,Y,Y,Y,Y,Y,Y,Y,Y,Y,Y,Y,Y,Y,Y,Y,Y,Y,Y,Y,Y,Y,Y,Y,Y,Y,Y,Y,Y,Y,Y,Y,Y,Y,Y,Y,Y,Y,Y,Y,Y,Y,Y,Y,Y,Y,Y,Y,Y,Y,Y,Y,Y,Y,Y,Y,Y,Y,Y,Y,Y,Y,Y,Y,Y,Y,Y,Y,Y,Y,Y,Y,Y,Y,Y,Y,Y,Y,Y,Y,Y,Y,Y,Y,Y,Y,Y,Y,Y,Y] rfl rfl (any_of HT_.out (by kernel_rfl)) (fun _ _ _ h => h) (Or.inl ⟨by rfl, ?_⟩) ?_ ?_
         rotate_left
         ·
          intro w'
          go_simp
          with_reducible rfl
         rotate_left
         ·
          simp only [Act.put, List.setIfInBounds_toArray, List.set_cons_zero, List.set_cons_succ, i64_w, i32_w]
          rfl
         refine done_ (done_of HT_.out (by kernel_rfl)) ?_
         try go_wp2
         go_ret
         exact ⟨_, by first | rfl | (simp [errW_none, errW_some] <;> rfl) | (simp [*, errW_none, errW_some] <;> rfl), by (with_reducible repeat (first | apply Kd.R_alloc | apply Kd.R_drewN | apply Kd.R_drew)); exact HO228.out, by repeat (first | (with_reducible first | exact HB.out | apply below_alloc | apply pw_below_drewN | apply below_drew1) | exact HB.out | exact Below.refl _ _)⟩
        ·
         rw [if_neg c10] at H
         exact absurd H (by simp)
       ·
        rw [if_neg c9] at H
        exact absurd H (by simp)
      ·
       rw [if_neg c8] at H
       exact absurd H (by simp)
     ·
      rw [if_neg c7] at H
      exact absurd H (by simp)
    ·
     rw [if_neg c6] at H
     exact absurd H (by simp)
   ·
    rw [if_neg c5] at H
    exact absurd H (by simp)
  ·
   rw [if_neg c4] at H
   exact absurd H (by simp)
 ·
  rw [if_neg c3] at H
  exact absurd H (by simp)

end Go.Proofs.Ytpmbffchkcemoaa.P
