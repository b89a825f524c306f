-- Written by a program of this session (wip/mkprint.py over the kit's print), out of the translation. Not trusted: Lean checks it.
import Derived.Test.YtnfbkakblnppaaaRx0
import Derived.Test.YtnfbkakblnppaaaRx1
namespace Go.Proofs.Ytnfbkakblnppaaa.P
open Go.RowKit Go.Proofs.YtnfbkakblnppaaaW.PrintWords Go.Proofs.YtnfbkakblnppaaaW.PrintLast Go.Proofs.YtnfbkakblnppaaaW.PrintMore
attribute [local go_sem] max2_int min2_int max_two min_two max_three min_three max_four min_four   -- for this text's walks alone
set_option linter.unusedVariables false
set_option linter.unusedSimpArgs false

/-! ### impl_IsRight: function 21 -/
def impl_IsRight.f (k : Nat) (l0 : List Int) : Option (Bool) := if (l0.length : Int) = 3 then ((impl_allWithin.f l0 1 1000000000).bind fun t106 => (if t106 = true then (if 0 < (l0.length : Int) then (if (Int.tmod (rd l0 0) 2) = 1 then (if 1 < (l0.length : Int) then (if (Int.tmod (rd l0 1) 2) = 0 then ((impl_divisor.f k (rd l0 0) (rd l0 1)).bind fun t111 => (if t111 = 1 then (if 2 < (l0.length : Int) then (some ((wrap64 ((wrap64 ((rd l0 0) * (rd l0 0))) + (wrap64 ((rd l0 1) * (rd l0 1))))) == (wrap64 ((rd l0 2) * (rd l0 2))))) else (none)) else (some false))) else (some false)) else (none)) else (some false)) else (none)) else (some false))) else (some false)
theorem impl_IsRight.mono : ∀ a0 k, LeO (impl_IsRight.f k a0) (impl_IsRight.f (k + 1) a0) := by
 intro a0 k
 unfold impl_IsRight.f
 repeat' first
  | (with_reducible exact impl_divisor.mono _ _ _)
  | (with_reducible exact LeO.refl _)
  | (with_reducible exact LeO.none _)
  | (with_reducible refine LeO.ite ?_ ?_)
  | (with_reducible refine LeO.bind ?_ (fun _ => ?_))
  | exact impl_divisor.mono _ _ _
  | exact LeO.none _
  | refine LeO.ite ?_ ?_
  | refine LeO.bind ?_ (fun _ => ?_)
def impl_IsRight.T1 : Bool × List (List Nat × List Nat) := (true, [([], []), ([0], [0]), ([1], [1]), ([2], [2]), ([3], [3]), ([4, 3, 3], [3, 4]), ([3, 5], [3, 5]), ([6, 5], [6]), ([7], [7]), ([8, 7], [7, 8]), ([9, 7], [7, 9]), ([10, 7], [7, 10]), ([11, 7], [7, 11]), ([7, 12], [7, 12]), ([13, 7], [13]), ([14], [14]), ([15, 14], [14, 15]), ([16, 14], [14, 16]), ([17, 14], [14, 17]), ([18, 14], [14, 18]), ([14, 19], [14, 19]), ([20, 14], [20]), ([21], [21]), ([22, 21], [21, 22]), ([23, 21], [21, 23]), ([21], [21]), ([25, 21], [21, 25]), ([26, 21], [21, 26]), ([24, 27, 21, 21], [21, 24, 27]), ([28, 21], [21, 28]), ([21, 29], [21, 29]), ([30, 28], [30]), ([31], [31]), ([32, 31], [31, 32]), ([33, 31], [31, 33]), ([31], [31]), ([35, 31], [31, 35]), ([36, 31], [31, 36]), ([34, 37, 31], [31, 34, 37]), ([31], [31]), ([39, 31], [31, 39]), ([40, 31], [31, 40]), ([31], [31]), ([42, 31], [31, 42]), ([43, 31], [31, 43]), ([41, 44, 31], [31, 41, 44]), ([38, 45, 31], [31, 38, 45]), ([31], [31]), ([47, 31], [31, 47]), ([48, 31], [31, 48]), ([31], [31]), ([50, 31], [31, 50]), ([51, 31], [31, 51]), ([49, 52, 31], [31, 49, 52]), ([46, 53, 31], [31, 46, 53]), ([31, 54], [31, 54]), ([55, 31, 0, 1, 2, 3, 4, 5, 6, 7, 8, 9, 10, 11, 12, 13, 14, 15, 16, 17, 18, 19, 20, 21, 22, 23, 24, 25, 26, 27, 28, 29, 30, 31, 32, 33, 34, 35, 36, 37, 38, 39, 40, 41, 42, 43, 44, 45, 46, 47, 48, 49, 50, 51, 52, 53, 54, 55], [55])])
def impl_IsRight.B1 : List Nat := [0, 1, 3, 7, 15, 31, 63, 127, 255, 511, 1023, 2047, 4095, 8191, 16383, 32767, 65535, 131071, 262143, 524287, 1048575, 2097151, 4194303, 8388607, 16777215, 4194303, 37748735, 104857599, 268435455, 536870911, 1073741823, 2147483647, 4294967295, 8589934591, 17179869183, 4294967295, 38654705663, 107374182399, 274877906943, 4294967295, 554050781183, 1653562408959, 4294967295, 4402341478399, 13198434500607, 34638911242239, 70368744177663, 4294967295, 140741783322623, 422216760033279, 4294967295, 1125904201809919, 3377704015495167, 8866466061352959, 18014398509481983, 36028797018963967, 72057594037927935]
theorem impl_IsRight.tab1 : rtab .any (opsOf Try.f21 1) = impl_IsRight.T1 := by kernel_rfl
theorem impl_IsRight.bits1 : waitsOk impl_IsRight.T1.2 impl_IsRight.B1 = true := by kernel_rfl
set_option maxHeartbeats 8000000 in
set_option maxRecDepth 100000 in
theorem impl_IsRight.calls (k : Nat) (A0 : Option Addr) (c0 : Nat) (l0 : List Int) (r : Bool) (w : World) (hr0 : Kd.C (Kd.int .i64) w A0 l0.length l0) (hc0 : l0.length ≤ c0) (h : impl_IsRight.f k l0 = some r) :
 Calls Try.prog 21 #[.slice A0 l0.length c0] w fun e w' => e = .returned (.bool r) ∧ Below w.heap.size w w' := by
 have HR0 := Aside0.mk hr0
 have HC0 := Aside0.mk hc0
 clear hr0 hc0
 have HB := Aside0.mk (Below.refl w.heap.size w)
 have H : (if (l0.length : Int) = 3 then ((impl_allWithin.f l0 1 1000000000).bind fun t106 => (if t106 = true then (if 0 < (l0.length : Int) then (if (Int.tmod (rd l0 0) 2) = 1 then (if 1 < (l0.length : Int) then (if (Int.tmod (rd l0 1) 2) = 0 then ((impl_divisor.f k (rd l0 0) (rd l0 1)).bind fun t111 => (if t111 = 1 then (if 2 < (l0.length : Int) then (some ((wrap64 ((wrap64 ((rd l0 0) * (rd l0 0))) + (wrap64 ((rd l0 1) * (rd l0 1))))) == (wrap64 ((rd l0 2) * (rd l0 2))))) else (none)) else (some false))) else (some false)) else (none)) else (some false)) else (none)) else (some false))) else (some false)) = some r := h
 clear h
 by_cases c2 : (l0.length : Int) = 3
 ·
  rw [if_pos c2] at H
  have c2b0 : ((l0.length : Int) == 3) = true := beq_iff_eq.mpr c2
  have c2b1 : ((l0.length : Int) != 3) = false := bne_eq_false_iff_eq.mpr c2
  clear c2
  replace H := Option.bind_eq_some_iff.mp H
  obtain ⟨t106, A30, H⟩ := H
  replace H : (if t106 = true then (if 0 < (l0.length : Int) then (if (Int.tmod (rd l0 0) 2) = 1 then (if 1 < (l0.length : Int) then (if (Int.tmod (rd l0 1) 2) = 0 then ((impl_divisor.f k (rd l0 0) (rd l0 1)).bind fun t111 => (if t111 = 1 then (if 2 < (l0.length : Int) then (some ((wrap64 ((wrap64 ((rd l0 0) * (rd l0 0))) + (wrap64 ((rd l0 1) * (rd l0 1))))) == (wrap64 ((rd l0 2) * (rd l0 2))))) else (none)) else (some false))) else (some false)) else (none)) else (some false)) else (none)) else (some false)) = some r := H
  have A3 := Aside0.mk A30
  clear A30
  by_cases c4 : t106 = true
  ·
   subst c4
   have H1 : (if 0 < (l0.length : Int) then (if (Int.tmod (rd l0 0) 2) = 1 then (if 1 < (l0.length : Int) then (if (Int.tmod (rd l0 1) 2) = 0 then ((impl_divisor.f k (rd l0 0) (rd l0 1)).bind fun t111 => (if t111 = 1 then (if 2 < (l0.length : Int) then (some ((wrap64 ((wrap64 ((rd l0 0) * (rd l0 0))) + (wrap64 ((rd l0 1) * (rd l0 1))))) == (wrap64 ((rd l0 2) * (rd l0 2))))) else (none)) else (some false))) else (some false)) else (none)) else (some false)) else (none)) = some r := by rw [if_pos rfl] at H; exact H
   clear H
   have H := H1
   clear H1
   by_cases c5 : 0 < (l0.length : Int)
   ·
    rw [if_pos c5] at H
    have c5b0 : decide (0 < (l0.length : Int)) = true := decide_eq_true c5
    have c5b1 : decide (0 < l0.length) = true := decide_eq_true (by omega)
    clear c5
    by_cases c6 : (Int.tmod (rd l0 0) 2) = 1
    ·
     rw [if_pos c6] at H
     have c6b0 : ((Int.tmod (rd l0 0) 2) == 1) = true := beq_iff_eq.mpr c6
     have c6b1 : ((Int.tmod (rd l0 0) 2) != 1) = false := bne_eq_false_iff_eq.mpr c6
     clear c6
     by_cases c7 : 1 < (l0.length : Int)
     ·
      rw [if_pos c7] at H
      have c7b0 : decide (1 < (l0.length : Int)) = true := decide_eq_true c7
      have c7b1 : decide (1 < l0.length) = true := decide_eq_true (by omega)
      clear c7
      by_cases c8 : (Int.tmod (rd l0 1) 2) = 0
      ·
       rw [if_pos c8] at H
       have c8b0 : ((Int.tmod (rd l0 1) 2) == 0) = true := beq_iff_eq.mpr c8
       have c8b1 : ((Int.tmod (rd l0 1) 2) != 0) = false := bne_eq_false_iff_eq.mpr c8
       clear c8
       replace H := Option.bind_eq_some_iff.mp H
       obtain ⟨t111, A90, H⟩ := H
       replace H : (if t111 = 1 then (if 2 < (l0.length : Int) then (some ((wrap64 ((wrap64 ((rd l0 0) * (rd l0 0))) + (wrap64 ((rd l0 1) * (rd l0 1))))) == (wrap64 ((rd l0 2) * (rd l0 2))))) else (none)) else (some false)) = some r := H
       have A9 := Aside0.mk A90
       clear A90
       by_cases c10 : t111 = 1
       ·
        rw [if_pos c10] at H
        have c10b0 : (t111 == 1) = true := beq_iff_eq.mpr c10
        have c10b1 : (t111 != 1) = false := bne_eq_false_iff_eq.mpr c10
        clear c10
        by_cases c11 : 2 < (l0.length : Int)
        ·
         rw [if_pos c11] at H
         have c11b0 : decide (2 < (l0.length : Int)) = true := decide_eq_true c11
         have c11b1 : decide (2 < l0.length) = true := decide_eq_true (by omega)
         clear c11
         obtain rfl := Option.some.inj H
         go_enter Try.func21, Try.ntmps21
         try go_wp2
         have n0_ := Aside0.mk (below_drew1 HB.out)
         clear HB
         have HB := n0_
         clear n0_
         have p107 : 0 ≤ (0 : Int) := (by omega)
         have q107 : 0 < (l0.length : Int) := od
         obtain ⟨ad107, e107, hx107_0⟩ := Kd.at_int HR0.out 0 p107 q107
         have hw107_0 := hx107_0
         (try rw [show ((0 : Int)).toNat = 0 from rfl] at hw107_0)
         (try rw [show 0 * 1 = 0 from rfl] at hw107_0)
         (try rw [Addr.add_zero'] at hw107_0)
         cases e107
         have qi107 : (0 < l0.length) = True := eq_true (by omega)
         (try rw [show ((0 : Int)).toNat = 0 from rfl] at hx107_0)
         (try rw [Addr.add_zero'] at hx107_0)
         replace hx107_0 := (HB.out.cell (World.block_lt_of_cell? w _ hx107_0)).trans hx107_0
         replace p107 := eq_true p107
         replace q107 := eq_true q107
         have p108 : 0 ≤ (1 : Int) := (by omega)
         have q108 : 1 < (l0.length : Int) := od
         obtain ⟨ad108, e108, hx108_0⟩ := Kd.at_int HR0.out 1 p108 q108
         have hw108_0 := hx108_0
         (try rw [show ((1 : Int)).toNat = 1 from rfl] at hw108_0)
         (try rw [show 1 * 1 = 1 from rfl] at hw108_0)
         (try simp only [Nat.reduceMul, Nat.reduceEqDiff, Go.Addr.add, ↓reduceIte] at hw108_0)
         obtain rfl : ad107 = ad108 := (by injection e108)
         (try simp only [show (1 : Int).toNat = 1 from rfl, Nat.reduceMul, Nat.reduceEqDiff, Go.Addr.add, ↓reduceIte] at hx108_0)
         have qi108 : (1 < l0.length) = True := eq_true (by omega)
         (try rw [show ((1 : Int)).toNat = 1 from rfl] at hx108_0)
         replace hx108_0 := (HB.out.cell (World.block_lt_of_cell? w _ hx108_0)).trans hx108_0
         replace p108 := eq_true p108
         replace q108 := eq_true q108
         have p109 : 0 ≤ (0 : Int) := (by omega)
         have q109 : 0 < (l0.length : Int) := od
         obtain ⟨ad109, e109, hx109_0⟩ := Kd.at_int HR0.out 0 p109 q109
         have hw109_0 := hx109_0
         (try rw [show ((0 : Int)).toNat = 0 from rfl] at hw109_0)
         (try rw [show 0 * 1 = 0 from rfl] at hw109_0)
         (try rw [Addr.add_zero'] at hw109_0)
         obtain rfl : ad107 = ad109 := (by injection e109)
         have qi109 : (0 < l0.length) = True := eq_true (by omega)
         (try rw [show ((0 : Int)).toNat = 0 from rfl] at hx109_0)
         (try rw [Addr.add_zero'] at hx109_0)
         replace hx109_0 := (HB.out.cell (World.block_lt_of_cell? w _ hx109_0)).trans hx109_0
         replace p109 := eq_true p109
         replace q109 := eq_true q109
         have p110 : 0 ≤ (1 : Int) := (by omega)
         have q110 : 1 < (l0.length : Int) := od
         obtain ⟨ad110, e110, hx110_0⟩ := Kd.at_int HR0.out 1 p110 q110
         have hw110_0 := hx110_0
         (try rw [show ((1 : Int)).toNat = 1 from rfl] at hw110_0)
         (try rw [show 1 * 1 = 1 from rfl] at hw110_0)
         (try simp only [Nat.reduceMul, Nat.reduceEqDiff, Go.Addr.add, ↓reduceIte] at hw110_0)
         obtain rfl : ad107 = ad110 := (by injection e110)
         (try simp only [show (1 : Int).toNat = 1 from rfl, Nat.reduceMul, Nat.reduceEqDiff, Go.Addr.add, ↓reduceIte] at hx110_0)
         have qi110 : (1 < l0.length) = True := eq_true (by omega)
         (try rw [show ((1 : Int)).toNat = 1 from rfl] at hx110_0)
         replace hx110_0 := (HB.out.cell (World.block_lt_of_cell? w _ hx110_0)).trans hx110_0
         replace p110 := eq_true p110
         replace q110 := eq_true q110
         have p112 : 0 ≤ (0 : Int) := (by omega)
         have q112 : 0 < (l0.length : Int) := od
         obtain ⟨ad112, e112, hx112_0⟩ := Kd.at_int HR0.out 0 p112 q112
         have hw112_0 := hx112_0
         (try rw [show ((0 : Int)).toNat = 0 from rfl] at hw112_0)
         (try rw [show 0 * 1 = 0 from rfl] at hw112_0)
         (try rw [Addr.add_zero'] at hw112_0)
         obtain rfl : ad107 = ad112 := (by injection e112)
         have qi112 : (0 < l0.length) = True := eq_true (by omega)
         (try rw [show ((0 : Int)).toNat = 0 from rfl] at hx112_0)
         (try rw [Addr.add_zero'] at hx112_0)
         replace hx112_0 := (HB.out.cell (World.block_lt_of_cell? w _ hx112_0)).trans hx112_0
         replace p112 := eq_true p112
         replace q112 := eq_true q112
         have p113 : 0 ≤ (0 : Int) := (by omega)
         have q113 : 0 < (l0.length : Int) := od
         obtain ⟨ad113, e113, hx113_0⟩ := Kd.at_int HR0.out 0 p113 q113
         have hw113_0 := hx113_0
         (try rw [show ((0 : Int)).toNat = 0 from rfl] at hw113_0)
         (try rw [show 0 * 1 = 0 from rfl] at hw113_0)
         (try rw [Addr.add_zero'] at hw113_0)
         obtain rfl : ad107 = ad113 := (by injection e113)
         have qi113 : (0 < l0.length) = True := eq_true (by omega)
         (try rw [show ((0 : Int)).toNat = 0 from rfl] at hx113_0)
         (try rw [Addr.add_zero'] at hx113_0)
         replace hx113_0 := (HB.out.cell (World.block_lt_of_cell? w _ hx113_0)).trans hx113_0
         replace p113 := eq_true p113
         replace q113 := eq_true q113
         have p114 : 0 ≤ (1 : Int) := (by omega)
         have q114 : 1 < (l0.length : Int) := od
         obtain ⟨ad114, e114, hx114_0⟩ := Kd.at_int HR0.out 1 p114 q114
         have hw114_0 := hx114_0
         (try rw [show ((1 : Int)).toNat = 1 from rfl] at hw114_0)
         (try rw [show 1 * 1 = 1 from rfl] at hw114_0)
         (try simp only [Nat.reduceMul, Nat.reduceEqDiff, Go.Addr.add, ↓reduceIte] at hw114_0)
         obtain rfl : ad107 = ad114 := (by injection e114)
         (try simp only [show (1 : Int).toNat = 1 from rfl, Nat.reduceMul, Nat.reduceEqDiff, Go.Addr.add, ↓reduceIte] at hx114_0)
         have qi114 : (1 < l0.length) = True := eq_true (by omega)
         (try rw [show ((1 : Int)).toNat = 1 from rfl] at hx114_0)
         replace hx114_0 := (HB.out.cell (World.block_lt_of_cell? w _ hx114_0)).trans hx114_0
         replace p114 := eq_true p114
         replace q114 := eq_true q114
         have p115 : 0 ≤ (1 : Int) := (by omega)
         have q115 : 1 < (l0.length : Int) := od
         obtain ⟨ad115, e115, hx115_0⟩ := Kd.at_int HR0.out 1 p115 q115
         have hw115_0 := hx115_0
         (try rw [show ((1 : Int)).toNat = 1 from rfl] at hw115_0)
         (try rw [show 1 * 1 = 1 from rfl] at hw115_0)
         (try simp only [Nat.reduceMul, Nat.reduceEqDiff, Go.Addr.add, ↓reduceIte] at hw115_0)
         obtain rfl : ad107 = ad115 := (by injection e115)
         (try simp only [show (1 : Int).toNat = 1 from rfl, Nat.reduceMul, Nat.reduceEqDiff, Go.Addr.add, ↓reduceIte] at hx115_0)
         have qi115 : (1 < l0.length) = True := eq_true (by omega)
         (try rw [show ((1 : Int)).toNat = 1 from rfl] at hx115_0)
         replace hx115_0 := (HB.out.cell (World.block_lt_of_cell? w _ hx115_0)).trans hx115_0
         replace p115 := eq_true p115
         replace q115 := eq_true q115
         have p116 : 0 ≤ (2 : Int) := (by omega)
         have q116 : 2 < (l0.length : Int) := od
         obtain ⟨ad116, e116, hx116_0⟩ := Kd.at_int HR0.out 2 p116 q116
         have hw116_0 := hx116_0
         (try rw [show ((2 : Int)).toNat = 2 from rfl] at hw116_0)
         (try rw [show 2 * 1 = 2 from rfl] at hw116_0)
         (try simp only [Nat.reduceMul, Nat.reduceEqDiff, Go.Addr.add, ↓reduceIte] at hw116_0)
         obtain rfl : ad107 = ad116 := (by injection e116)
         (try simp only [show (2 : Int).toNat = 2 from rfl, Nat.reduceMul, Nat.reduceEqDiff, Go.Addr.add, ↓reduceIte] at hx116_0)
         have qi116 : (2 < l0.length) = True := eq_true (by omega)
         (try rw [show ((2 : Int)).toNat = 2 from rfl] at hx116_0)
         replace hx116_0 := (HB.out.cell (World.block_lt_of_cell? w _ hx116_0)).trans hx116_0
         replace p116 := eq_true p116
         replace q116 := eq_true q116
         have p117 : 0 ≤ (2 : Int) := (by omega)
         have q117 : 2 < (l0.length : Int) := od
         obtain ⟨ad117, e117, hx117_0⟩ := Kd.at_int HR0.out 2 p117 q117
         have hw117_0 := hx117_0
         (try rw [show ((2 : Int)).toNat = 2 from rfl] at hw117_0)
         (try rw [show 2 * 1 = 2 from rfl] at hw117_0)
         (try simp only [Nat.reduceMul, Nat.reduceEqDiff, Go.Addr.add, ↓reduceIte] at hw117_0)
         obtain rfl : ad107 = ad117 := (by injection e117)
         (try simp only [show (2 : Int).toNat = 2 from rfl, Nat.reduceMul, Nat.reduceEqDiff, Go.Addr.add, ↓reduceIte] at hx117_0)
         have qi117 : (2 < l0.length) = True := eq_true (by omega)
         (try rw [show ((2 : Int)).toNat = 2 from rfl] at hx117_0)
         replace hx117_0 := (HB.out.cell (World.block_lt_of_cell? w _ hx117_0)).trans hx117_0
         replace p117 := eq_true p117
         replace q117 := eq_true q117
         refine start_ (n := 57) (S := fun w' => w'.cell? ad107 = some (.int .i64 (rd l0 0)) ∧ w'.cell? ⟨ad107.block, ad107.off + 1, none⟩ = some (.int .i64 (rd l0 1)) ∧ w'.cell? ad107 = some (.int .i64 (rd l0 0)) ∧ w'.cell? ⟨ad107.block, ad107.off + 1, none⟩ = some (.int .i64 (rd l0 1)) ∧ w'.cell? ad107 = some (.int .i64 (rd l0 0)) ∧ w'.cell? ad107 = some (.int .i64 (rd l0 0)) ∧ w'.cell? ⟨ad107.block, ad107.off + 1, none⟩ = some (.int .i64 (rd l0 1)) ∧ w'.cell? ⟨ad107.block, ad107.off + 1, none⟩ = some (.int .i64 (rd l0 1)) ∧ w'.cell? ⟨ad107.block, ad107.off + 2, none⟩ = some (.int .i64 (rd l0 2)) ∧ w'.cell? ⟨ad107.block, ad107.off + 2, none⟩ = some (.int .i64 (rd l0 2))) (ds := []) #[O,O,O,O,O,O,O,O,O,O,O,O,O,O,O,O,O,O,O,O,O,O,O,O,O,O,O,O,O,O,O,O,O,O,O,O,O,O,O,O,O,O,O,O,O,O,O,O,O,O,O,O,O,O,O,O,O] (by kernel_rfl) rfl rfl ⟨((HB.out.cell (World.block_lt_of_cell? w _ hw107_0)).trans hw107_0), ((HB.out.cell (World.block_lt_of_cell? w _ hw108_0)).trans hw108_0), ((HB.out.cell (World.block_lt_of_cell? w _ hw109_0)).trans hw109_0), ((HB.out.cell (World.block_lt_of_cell? w _ hw110_0)).trans hw110_0), ((HB.out.cell (World.block_lt_of_cell? w _ hw112_0)).trans hw112_0), ((HB.out.cell (World.block_lt_of_cell? w _ hw113_0)).trans hw113_0), ((HB.out.cell (World.block_lt_of_cell? w _ hw114_0)).trans hw114_0), ((HB.out.cell (World.block_lt_of_cell? w _ hw115_0)).trans hw115_0), ((HB.out.cell (World.block_lt_of_cell? w _ hw116_0)).trans hw116_0), ((HB.out.cell (World.block_lt_of_cell? w _ hw117_0)).trans hw117_0)⟩ (fun hHeld => ?_); refine with_tabW impl_IsRight.tab1 impl_IsRight.bits1 (fun HT_ HW_ => ?_)
         generalize w.drew = w12 at HB hx107_0 hx108_0 hx109_0 hx110_0 hx112_0 hx113_0 hx114_0 hx115_0 hx116_0 hx117_0 hHeld ⊢
         refine pS 0 3 (BM 57 1) ?_
         refine pS 1 4 (BM 57 3) ?_
         refine pS 2 5 (BM 57 7) ?_
         refine pS 3 6 (BM 57 15) ?_
         refine pS 4 7 (BM 57 31) ?_
         refine one_ (i := 5) (N := some 8) (BM 57 63) rfl rfl (one_of HT_.out (by kernel_rfl)) (by decide) (fun K hK => ?_)
         refine goes_ Try.func76 (by kernel_rfl) rfl #[.slice (some ad107) l0.length c0, .int .i64 1, .int .i64 1000000000] (by rfl) rfl rfl (by (try simp only [List.map_toArray, List.map_cons, List.map_nil]); first | done | rfl | (simp only [List.length_drop, List.length_take]; rfl)) ?_
         with_reducible refine (impl_allWithin.calls _ _ l0 1 1000000000 true _ ?side1 ?side2 A3.out).mono ?_
         (case side1 => exact cC (Kd.C_below HR0.out HB.out))
         (case side2 => exact HC0.out)
         rintro e w13 ⟨rfl, hb⟩
         refine ⟨_, rfl, ?_⟩
         have n0_ := Aside0.mk (below_step bq hb)
         clear HB
         have HB := n0_
         clear n0_
         (try clear hb)
         (try clear hb2)
         (try clear hk)
         (try clear hi)
         refine hK.out _ _ ⟨((HB.out.cell (World.block_lt_of_cell? w _ hw107_0)).trans hw107_0), ((HB.out.cell (World.block_lt_of_cell? w _ hw108_0)).trans hw108_0), ((HB.out.cell (World.block_lt_of_cell? w _ hw109_0)).trans hw109_0), ((HB.out.cell (World.block_lt_of_cell? w _ hw110_0)).trans hw110_0), ((HB.out.cell (World.block_lt_of_cell? w _ hw112_0)).trans hw112_0), ((HB.out.cell (World.block_lt_of_cell? w _ hw113_0)).trans hw113_0), ((HB.out.cell (World.block_lt_of_cell? w _ hw114_0)).trans hw114_0), ((HB.out.cell (World.block_lt_of_cell? w _ hw115_0)).trans hw115_0), ((HB.out.cell (World.block_lt_of_cell? w _ hw116_0)).trans hw116_0), ((HB.out.cell (World.block_lt_of_cell? w _ hw117_0)).trans hw117_0)⟩ (fun hHeld => ?_)
         clear hK K
         refine norm_ (a' := ?_) ?_ ?_
         rotate_left
         ·
          show Act.put _ (some 8) _ = _
          simp only [AP]
          rfl
         refine pS 6 9 (BM 57 127) ?_
         refine pS 7 10 (BM 57 255) ?_
         refine pS 8 11 (BM 57 511) ?_
         refine pS 9 12 (BM 57 1023) ?_
         refine take_ (i := 10) (N := some 13) (v := ?_) (a' := ?_) (BM 57 2047) rfl rfl (take_ofW HT_.out HW_.out (by kernel_rfl)) (fun _ _ _ h => h) (Or.inl ⟨by rfl, ?_⟩) hHeld ?_ ?_
         rotate_left
         ·
          rintro w' ⟨s0, s1, s2, s3, s4, s5, s6, s7, s8, s9⟩
          go_simp
          with_reducible rfl
         rotate_left
         ·
          simp only [AP]
          rfl
         refine pS 11 14 (BM 57 4095) ?_
         refine pS 12 15 (BM 57 8191) ?_
         refine pS 13 16 (BM 57 16383) ?_
         refine pS 14 17 (BM 57 32767) ?_
         refine pS 15 18 (BM 57 65535) ?_
         refine pS 16 19 (BM 57 131071) ?_
         refine take_ (i := 17) (N := some 20) (v := ?_) (a' := ?_) (BM 57 262143) rfl rfl (take_ofW HT_.out HW_.out (by kernel_rfl)) (fun _ _ _ h => h) (Or.inl ⟨by rfl, ?_⟩) hHeld ?_ ?_
         rotate_left
         ·
          rintro w' ⟨s0, s1, s2, s3, s4, s5, s6, s7, s8, s9⟩
          go_simp
          with_reducible rfl
         rotate_left
         ·
          simp only [AP]
          rfl
         refine pS 18 21 (BM 57 524287) ?_
         refine pS 19 22 (BM 57 1048575) ?_
         refine pS 20 23 (BM 57 2097151) ?_
         refine pS 21 24 (BM 57 4194303) ?_
         refine pS 22 25 (BM 57 8388607) ?_
         refine pS 23 26 (BM 57 16777215) ?_
         refine pS 25 28 (BM 57 50331647) ?_
         refine pS 26 29 (BM 57 117440511) ?_
         refine take_ (i := 24) (N := some 27) (v := ?_) (a' := ?_) (BM 57 134217727) rfl rfl (take_ofW HT_.out HW_.out (by kernel_rfl)) (fun _ _ _ h => h) (Or.inl ⟨by rfl, ?_⟩) hHeld ?_ ?_
         rotate_left
         ·
          rintro w' ⟨s0, s1, s2, s3, s4, s5, s6, s7, s8, s9⟩
          go_simp
          with_reducible rfl
         rotate_left
         ·
          simp only [AP]
          rfl
         refine take_ (i := 27) (N := some 30) (v := ?_) (a' := ?_) (BM 57 268435455) rfl rfl (take_ofW HT_.out HW_.out (by kernel_rfl)) (fun _ _ _ h => h) (Or.inl ⟨by rfl, ?_⟩) hHeld ?_ ?_
         rotate_left
         ·
          rintro w' ⟨s0, s1, s2, s3, s4, s5, s6, s7, s8, s9⟩
          go_simp
          with_reducible rfl
         rotate_left
         ·
          simp only [AP]
          rfl
         refine one_ (i := 28) (N := some 31) (BM 57 536870911) rfl rfl (one_of HT_.out (by kernel_rfl)) (by decide) (fun K hK => ?_)
         refine goes_ Try.func77 (by kernel_rfl) rfl #[.int .i64 (rd l0 0), .int .i64 (rd l0 1)] (by rfl) rfl rfl (by (try simp only [List.map_toArray, List.map_cons, List.map_nil]); first | done | rfl | (simp only [List.length_drop, List.length_take]; rfl)) ?_
         with_reducible refine (impl_divisor.calls k (rd l0 0) (rd l0 1) t111 _ A9.out).mono ?_
         rintro e w14 ⟨rfl, hb⟩
         refine ⟨_, rfl, ?_⟩
         have n0_ := Aside0.mk (below_step bq hb)
         clear HB
         have HB := n0_
         clear n0_
         (try clear hb)
         (try clear hb2)
         (try clear hk)
         (try clear hi)
         refine hK.out _ _ ⟨((HB.out.cell (World.block_lt_of_cell? w _ hw107_0)).trans hw107_0), ((HB.out.cell (World.block_lt_of_cell? w _ hw108_0)).trans hw108_0), ((HB.out.cell (World.block_lt_of_cell? w _ hw109_0)).trans hw109_0), ((HB.out.cell (World.block_lt_of_cell? w _ hw110_0)).trans hw110_0), ((HB.out.cell (World.block_lt_of_cell? w _ hw112_0)).trans hw112_0), ((HB.out.cell (World.block_lt_of_cell? w _ hw113_0)).trans hw113_0), ((HB.out.cell (World.block_lt_of_cell? w _ hw114_0)).trans hw114_0), ((HB.out.cell (World.block_lt_of_cell? w _ hw115_0)).trans hw115_0), ((HB.out.cell (World.block_lt_of_cell? w _ hw116_0)).trans hw116_0), ((HB.out.cell (World.block_lt_of_cell? w _ hw117_0)).trans hw117_0)⟩ (fun hHeld => ?_)
         clear hK K
         refine norm_ (a' := ?_) ?_ ?_
         rotate_left
         ·
          show Act.put _ (some 31) _ = _
          simp only [AP]
          rfl
         refine pS 29 32 (BM 57 1073741823) ?_
         refine pS 30 33 (BM 57 2147483647) ?_
         refine pS 31 34 (BM 57 4294967295) ?_
         refine pS 32 35 (BM 57 8589934591) ?_
         refine pS 33 36 (BM 57 17179869183) ?_
         refine pS 35 38 (BM 57 51539607551) ?_
         refine pS 36 39 (BM 57 120259084287) ?_
         refine pS 39 42 (BM 57 670014898175) ?_
         refine pS 40 43 (BM 57 1769526525951) ?_
         refine pS 42 45 (BM 57 6167573037055) ?_
         refine pS 43 46 (BM 57 14963666059263) ?_
         refine pS 47 50 (BM 57 155701154414591) ?_
         refine pS 48 51 (BM 57 437176131125247) ?_
         refine pS 50 53 (BM 57 1563076037967871) ?_
         refine pS 51 54 (BM 57 3814875851653119) ?_
         refine take_ (i := 34) (N := some 37) (v := ?_) (a' := ?_) (BM 57 3814893031522303) rfl rfl (take_ofW HT_.out HW_.out (by kernel_rfl)) (fun _ _ _ h => h) (Or.inl ⟨by rfl, ?_⟩) hHeld ?_ ?_
         rotate_left
         ·
          rintro w' ⟨s0, s1, s2, s3, s4, s5, s6, s7, s8, s9⟩
          go_simp
          with_reducible rfl
         rotate_left
         ·
          simp only [AP]
          rfl
         refine take_ (i := 37) (N := some 40) (v := ?_) (a' := ?_) (BM 57 3815030470475775) rfl rfl (take_ofW HT_.out HW_.out (by kernel_rfl)) (fun _ _ _ h => h) (Or.inl ⟨by rfl, ?_⟩) hHeld ?_ ?_
         rotate_left
         ·
          rintro w' ⟨s0, s1, s2, s3, s4, s5, s6, s7, s8, s9⟩
          go_simp
          with_reducible rfl
         rotate_left
         ·
          simp only [AP]
          rfl
         refine pS 38 41 (BM 57 3815305348382719) ?_
         refine take_ (i := 41) (N := some 44) (v := ?_) (a' := ?_) (BM 57 3817504371638271) rfl rfl (take_ofW HT_.out HW_.out (by kernel_rfl)) (fun _ _ _ h => h) (Or.inl ⟨by rfl, ?_⟩) hHeld ?_ ?_
         rotate_left
         ·
          rintro w' ⟨s0, s1, s2, s3, s4, s5, s6, s7, s8, s9⟩
          go_simp
          with_reducible rfl
         rotate_left
         ·
          simp only [AP]
          rfl
         refine take_ (i := 44) (N := some 47) (v := ?_) (a' := ?_) (BM 57 3835096557682687) rfl rfl (take_ofW HT_.out HW_.out (by kernel_rfl)) (fun _ _ _ h => h) (Or.inl ⟨by rfl, ?_⟩) hHeld ?_ ?_
         rotate_left
         ·
          rintro w' ⟨s0, s1, s2, s3, s4, s5, s6, s7, s8, s9⟩
          go_simp
          with_reducible rfl
         rotate_left
         ·
          simp only [AP]
          rfl
         refine pS 45 48 (BM 57 3870280929771519) ?_
         refine pS 46 49 (BM 57 3940649673949183) ?_
         refine take_ (i := 49) (N := some 52) (v := ?_) (a' := ?_) (BM 57 4503599627370495) rfl rfl (take_ofW HT_.out HW_.out (by kernel_rfl)) (fun _ _ _ h => h) (Or.inl ⟨by rfl, ?_⟩) hHeld ?_ ?_
         rotate_left
         ·
          rintro w' ⟨s0, s1, s2, s3, s4, s5, s6, s7, s8, s9⟩
          go_simp
          with_reducible rfl
         rotate_left
         ·
          simp only [AP]
          rfl
         refine take_ (i := 52) (N := some 55) (v := ?_) (a' := ?_) (BM 57 9007199254740991) rfl rfl (take_ofW HT_.out HW_.out (by kernel_rfl)) (fun _ _ _ h => h) (Or.inl ⟨by rfl, ?_⟩) hHeld ?_ ?_
         rotate_left
         ·
          rintro w' ⟨s0, s1, s2, s3, s4, s5, s6, s7, s8, s9⟩
          go_simp
          with_reducible rfl
         rotate_left
         ·
          simp only [AP]
          rfl
         refine pS 53 56 (BM 57 18014398509481983) ?_
         refine pS 54 57 (BM 57 36028797018963967) ?_
         refine pS 55 58 (BM 57 72057594037927935) ?_
         refine pS 56 2 (BM 57 144115188075855871) ?_
         refine done_ (done_of HT_.out (by kernel_rfl)) ?_
         try go_wp2
         go_ret
         exact ⟨e1, bq⟩
        ·
         rw [if_neg c11] at H
         exact absurd H (by simp)
       ·
        rw [if_neg c10] at H
        have c10b0 : (t111 == 1) = false := beq_eq_false_iff_ne.mpr c10
        have c10b1 : (t111 != 1) = true := bne_iff_ne.mpr c10
        obtain rfl := Option.some.inj H
        go_enter Try.func21, Try.ntmps21
        try go_wp2
        have n0_ := Aside0.mk (below_drew1 HB.out)
        clear HB
        have HB := n0_
        clear n0_
        have p107 : 0 ≤ (0 : Int) := (by omega)
        have q107 : 0 < (l0.length : Int) := od
        obtain ⟨ad107, e107, hx107_0⟩ := Kd.at_int HR0.out 0 p107 q107
        have hw107_0 := hx107_0
        (try rw [show ((0 : Int)).toNat = 0 from rfl] at hw107_0)
        (try rw [show 0 * 1 = 0 from rfl] at hw107_0)
        (try rw [Addr.add_zero'] at hw107_0)
        cases e107
        have qi107 : (0 < l0.length) = True := eq_true (by omega)
        (try rw [show ((0 : Int)).toNat = 0 from rfl] at hx107_0)
        (try rw [Addr.add_zero'] at hx107_0)
        replace hx107_0 := (HB.out.cell (World.block_lt_of_cell? w _ hx107_0)).trans hx107_0
        replace p107 := eq_true p107
        replace q107 := eq_true q107
        have p108 : 0 ≤ (1 : Int) := (by omega)
        have q108 : 1 < (l0.length : Int) := od
        obtain ⟨ad108, e108, hx108_0⟩ := Kd.at_int HR0.out 1 p108 q108
        have hw108_0 := hx108_0
        (try rw [show ((1 : Int)).toNat = 1 from rfl] at hw108_0)
        (try rw [show 1 * 1 = 1 from rfl] at hw108_0)
        (try simp only [Nat.reduceMul, Nat.reduceEqDiff, Go.Addr.add, ↓reduceIte] at hw108_0)
        obtain rfl : ad107 = ad108 := (by injection e108)
        (try simp only [show (1 : Int).toNat = 1 from rfl, Nat.reduceMul, Nat.reduceEqDiff, Go.Addr.add, ↓reduceIte] at hx108_0)
        have qi108 : (1 < l0.length) = True := eq_true (by omega)
        (try rw [show ((1 : Int)).toNat = 1 from rfl] at hx108_0)
        replace hx108_0 := (HB.out.cell (World.block_lt_of_cell? w _ hx108_0)).trans hx108_0
        replace p108 := eq_true p108
        replace q108 := eq_true q108
        have p109 : 0 ≤ (0 : Int) := (by omega)
        have q109 : 0 < (l0.length : Int) := od
        obtain ⟨ad109, e109, hx109_0⟩ := Kd.at_int HR0.out 0 p109 q109
        have hw109_0 := hx109_0
        (try rw [show ((0 : Int)).toNat = 0 from rfl] at hw109_0)
        (try rw [show 0 * 1 = 0 from rfl] at hw109_0)
        (try rw [Addr.add_zero'] at hw109_0)
        obtain rfl : ad107 = ad109 := (by injection e109)
        have qi109 : (0 < l0.length) = True := eq_true (by omega)
        (try rw [show ((0 : Int)).toNat = 0 from rfl] at hx109_0)
        (try rw [Addr.add_zero'] at hx109_0)
        replace hx109_0 := (HB.out.cell (World.block_lt_of_cell? w _ hx109_0)).trans hx109_0
        replace p109 := eq_true p109
        replace q109 := eq_true q109
        have p110 : 0 ≤ (1 : Int) := (by omega)
        have q110 : 1 < (l0.length : Int) := od
        obtain ⟨ad110, e110, hx110_0⟩ := Kd.at_int HR0.out 1 p110 q110
        have hw110_0 := hx110_0
        (try rw [show ((1 : Int)).toNat = 1 from rfl] at hw110_0)
        (try rw [show 1 * 1 = 1 from rfl] at hw110_0)
        (try simp only [Nat.reduceMul, Nat.reduceEqDiff, Go.Addr.add, ↓reduceIte] at hw110_0)
        obtain rfl : ad107 = ad110 := (by injection e110)
        (try simp only [show (1 : Int).toNat = 1 from rfl, Nat.reduceMul, Nat.reduceEqDiff, Go.Addr.add, ↓reduceIte] at hx110_0)
        have qi110 : (1 < l0.length) = True := eq_true (by omega)
        (try rw [show ((1 : Int)).toNat = 1 from rfl] at hx110_0)
        replace hx110_0 := (HB.out.cell (World.block_lt_of_cell? w _ hx110_0)).trans hx110_0
        replace p110 := eq_true p110
        replace q110 := eq_true q110
        refine start_ (n := 57) (S := fun w' => w'.cell? ad107 = some (.int .i64 (rd l0 0)) ∧ w'.cell? ⟨ad107.block, ad107.off + 1, none⟩ = some (.int .i64 (rd l0 1)) ∧ w'.cell? ad107 = some (.int .i64 (rd l0 0)) ∧ w'.cell? ⟨ad107.block, ad107.off + 1, none⟩ = some (.int .i64 (rd l0 1))) (ds := []) #[O,O,O,O,O,O,O,O,O,O,O,O,O,O,O,O,O,O,O,O,O,O,O,O,O,O,O,O,O,O,O,O,O,O,O,O,O,O,O,O,O,O,O,O,O,O,O,O,O,O,O,O,O,O,O,O,O] (by kernel_rfl) rfl rfl ⟨((HB.out.cell (World.block_lt_of_cell? w _ hw107_0)).trans hw107_0), ((HB.out.cell (World.block_lt_of_cell? w _ hw108_0)).trans hw108_0), ((HB.out.cell (World.block_lt_of_cell? w _ hw109_0)).trans hw109_0), ((HB.out.cell (World.block_lt_of_cell? w _ hw110_0)).trans hw110_0)⟩ (fun hHeld => ?_); refine with_tabW impl_IsRight.tab1 impl_IsRight.bits1 (fun HT_ HW_ => ?_)
        generalize w.drew = w15 at HB hx107_0 hx108_0 hx109_0 hx110_0 hHeld ⊢
        refine pS 0 3 (BM 57 1) ?_
        refine pS 1 4 (BM 57 3) ?_
        refine pS 2 5 (BM 57 7) ?_
        refine pS 3 6 (BM 57 15) ?_
        refine pS 4 7 (BM 57 31) ?_
        refine one_ (i := 5) (N := some 8) (BM 57 63) rfl rfl (one_of HT_.out (by kernel_rfl)) (by decide) (fun K hK => ?_)
        refine goes_ Try.func76 (by kernel_rfl) rfl #[.slice (some ad107) l0.length c0, .int .i64 1, .int .i64 1000000000] (by rfl) rfl rfl (by (try simp only [List.map_toArray, List.map_cons, List.map_nil]); first | done | rfl | (simp only [List.length_drop, List.length_take]; rfl)) ?_
        with_reducible refine (impl_allWithin.calls _ _ l0 1 1000000000 true _ ?side1 ?side2 A3.out).mono ?_
        (case side1 => exact cC (Kd.C_below HR0.out HB.out))
        (case side2 => exact HC0.out)
        rintro e w16 ⟨rfl, hb⟩
        refine ⟨_, rfl, ?_⟩
        have n0_ := Aside0.mk (below_step bq hb)
        clear HB
        have HB := n0_
        clear n0_
        (try clear hb)
        (try clear hb2)
        (try clear hk)
        (try clear hi)
        refine hK.out _ _ ⟨((HB.out.cell (World.block_lt_of_cell? w _ hw107_0)).trans hw107_0), ((HB.out.cell (World.block_lt_of_cell? w _ hw108_0)).trans hw108_0), ((HB.out.cell (World.block_lt_of_cell? w _ hw109_0)).trans hw109_0), ((HB.out.cell (World.block_lt_of_cell? w _ hw110_0)).trans hw110_0)⟩ (fun hHeld => ?_)
        clear hK K
        refine norm_ (a' := ?_) ?_ ?_
        rotate_left
        ·
         show Act.put _ (some 8) _ = _
         simp only [AP]
         rfl
        refine pS 6 9 (BM 57 127) ?_
        refine pS 7 10 (BM 57 255) ?_
        refine pS 8 11 (BM 57 511) ?_
        refine pS 9 12 (BM 57 1023) ?_
        refine take_ (i := 10) (N := some 13) (v := ?_) (a' := ?_) (BM 57 2047) rfl rfl (take_ofW HT_.out HW_.out (by kernel_rfl)) (fun _ _ _ h => h) (Or.inl ⟨by rfl, ?_⟩) hHeld ?_ ?_
        rotate_left
        ·
         rintro w' ⟨s0, s1, s2, s3⟩
         go_simp
         with_reducible rfl
        rotate_left
        ·
         simp only [AP]
         rfl
        refine pS 11 14 (BM 57 4095) ?_
        refine pS 12 15 (BM 57 8191) ?_
        refine pS 13 16 (BM 57 16383) ?_
        refine pS 14 17 (BM 57 32767) ?_
        refine pS 15 18 (BM 57 65535) ?_
        refine pS 16 19 (BM 57 131071) ?_
        refine take_ (i := 17) (N := some 20) (v := ?_) (a' := ?_) (BM 57 262143) rfl rfl (take_ofW HT_.out HW_.out (by kernel_rfl)) (fun _ _ _ h => h) (Or.inl ⟨by rfl, ?_⟩) hHeld ?_ ?_
        rotate_left
        ·
         rintro w' ⟨s0, s1, s2, s3⟩
         go_simp
         with_reducible rfl
        rotate_left
        ·
         simp only [AP]
         rfl
        refine pS 18 21 (BM 57 524287) ?_
        refine pS 19 22 (BM 57 1048575) ?_
        refine pS 20 23 (BM 57 2097151) ?_
        refine pS 21 24 (BM 57 4194303) ?_
        refine pS 22 25 (BM 57 8388607) ?_
        refine pS 23 26 (BM 57 16777215) ?_
        refine pS 25 28 (BM 57 50331647) ?_
        refine pS 26 29 (BM 57 117440511) ?_
        refine take_ (i := 24) (N := some 27) (v := ?_) (a' := ?_) (BM 57 134217727) rfl rfl (take_ofW HT_.out HW_.out (by kernel_rfl)) (fun _ _ _ h => h) (Or.inl ⟨by rfl, ?_⟩) hHeld ?_ ?_
        rotate_left
        ·
         rintro w' ⟨s0, s1, s2, s3⟩
         go_simp
         with_reducible rfl
        rotate_left
        ·
         simp only [AP]
         rfl
        refine take_ (i := 27) (N := some 30) (v := ?_) (a' := ?_) (BM 57 268435455) rfl rfl (take_ofW HT_.out HW_.out (by kernel_rfl)) (fun _ _ _ h => h) (Or.inl ⟨by rfl, ?_⟩) hHeld ?_ ?_
        rotate_left
        ·
         rintro w' ⟨s0, s1, s2, s3⟩
         go_simp
         with_reducible rfl
        rotate_left
        ·
         simp only [AP]
         rfl
        refine one_ (i := 28) (N := some 31) (BM 57 536870911) rfl rfl (one_of HT_.out (by kernel_rfl)) (by decide) (fun K hK => ?_)
        refine goes_ Try.func77 (by kernel_rfl) rfl #[.int .i64 (rd l0 0), .int .i64 (rd l0 1)] (by rfl) rfl rfl (by (try simp only [List.map_toArray, List.map_cons, List.map_nil]); first | done | rfl | (simp only [List.length_drop, List.length_take]; rfl)) ?_
        with_reducible refine (impl_divisor.calls k (rd l0 0) (rd l0 1) t111 _ A9.out).mono ?_
        rintro e w17 ⟨rfl, hb⟩
        refine ⟨_, rfl, ?_⟩
        have n0_ := Aside0.mk (below_step bq hb)
        clear HB
        have HB := n0_
        clear n0_
        (try clear hb)
        (try clear hb2)
        (try clear hk)
        (try clear hi)
        refine hK.out _ _ ⟨((HB.out.cell (World.block_lt_of_cell? w _ hw107_0)).trans hw107_0), ((HB.out.cell (World.block_lt_of_cell? w _ hw108_0)).trans hw108_0), ((HB.out.cell (World.block_lt_of_cell? w _ hw109_0)).trans hw109_0), ((HB.out.cell (World.block_lt_of_cell? w _ hw110_0)).trans hw110_0)⟩ (fun hHeld => ?_)
        clear hK K
        refine norm_ (a' := ?_) ?_ ?_
        rotate_left
        ·
         show Act.put _ (some 31) _ = _
         simp only [AP]
         rfl
        refine pS 29 32 (BM 57 1073741823) ?_
        refine pS 30 33 (BM 57 2147483647) ?_
        refine pS 31 34 (BM 57 4294967295) ?_
        refine pU 32 35 (BM 57 8589934591) ?_
        refine pU 33 36 (BM 57 17179869183) ?_
        refine pU 34 37 (BM 57 34359738367) ?_
        refine pU 35 38 (BM 57 68719476735) ?_
        refine pU 36 39 (BM 57 137438953471) ?_
        refine pU 37 40 (BM 57 274877906943) ?_
        refine pU 38 41 (BM 57 549755813887) ?_
        refine pU 39 42 (BM 57 1099511627775) ?_
        refine pU 40 43 (BM 57 2199023255551) ?_
        refine pU 41 44 (BM 57 4398046511103) ?_
        refine pU 42 45 (BM 57 8796093022207) ?_
        refine pU 43 46 (BM 57 17592186044415) ?_
        refine pU 44 47 (BM 57 35184372088831) ?_
        refine pU 45 48 (BM 57 70368744177663) ?_
        refine pU 46 49 (BM 57 140737488355327) ?_
        refine pU 47 50 (BM 57 281474976710655) ?_
        refine pU 48 51 (BM 57 562949953421311) ?_
        refine pU 49 52 (BM 57 1125899906842623) ?_
        refine pU 50 53 (BM 57 2251799813685247) ?_
        refine pU 51 54 (BM 57 4503599627370495) ?_
        refine pU 52 55 (BM 57 9007199254740991) ?_
        refine pU 53 56 (BM 57 18014398509481983) ?_
        refine pU 54 57 (BM 57 36028797018963967) ?_
        refine pS 55 58 (BM 57 72057594037927935) ?_
        refine pS 56 2 (BM 57 144115188075855871) ?_
        refine done_ (done_of HT_.out (by kernel_rfl)) ?_
        try go_wp2
        go_ret
        exact ⟨e1, bq⟩
      ·
       rw [if_neg c8] at H
       have c8b0 : ((Int.tmod (rd l0 1) 2) == 0) = false := beq_eq_false_iff_ne.mpr c8
       have c8b1 : ((Int.tmod (rd l0 1) 2) != 0) = true := bne_iff_ne.mpr c8
       obtain rfl := Option.some.inj H
       go_enter Try.func21, Try.ntmps21
       try go_wp2
       have n0_ := Aside0.mk (below_drew1 HB.out)
       clear HB
       have HB := n0_
       clear n0_
       have p107 : 0 ≤ (0 : Int) := (by omega)
       have q107 : 0 < (l0.length : Int) := od
       obtain ⟨ad107, e107, hx107_0⟩ := Kd.at_int HR0.out 0 p107 q107
       have hw107_0 := hx107_0
       (try rw [show ((0 : Int)).toNat = 0 from rfl] at hw107_0)
       (try rw [show 0 * 1 = 0 from rfl] at hw107_0)
       (try rw [Addr.add_zero'] at hw107_0)
       cases e107
       have qi107 : (0 < l0.length) = True := eq_true (by omega)
       (try rw [show ((0 : Int)).toNat = 0 from rfl] at hx107_0)
       (try rw [Addr.add_zero'] at hx107_0)
       replace hx107_0 := (HB.out.cell (World.block_lt_of_cell? w _ hx107_0)).trans hx107_0
       replace p107 := eq_true p107
       replace q107 := eq_true q107
       have p108 : 0 ≤ (1 : Int) := (by omega)
       have q108 : 1 < (l0.length : Int) := od
       obtain ⟨ad108, e108, hx108_0⟩ := Kd.at_int HR0.out 1 p108 q108
       have hw108_0 := hx108_0
       (try rw [show ((1 : Int)).toNat = 1 from rfl] at hw108_0)
       (try rw [show 1 * 1 = 1 from rfl] at hw108_0)
       (try simp only [Nat.reduceMul, Nat.reduceEqDiff, Go.Addr.add, ↓reduceIte] at hw108_0)
       obtain rfl : ad107 = ad108 := (by injection e108)
       (try simp only [show (1 : Int).toNat = 1 from rfl, Nat.reduceMul, Nat.reduceEqDiff, Go.Addr.add, ↓reduceIte] at hx108_0)
       have qi108 : (1 < l0.length) = True := eq_true (by omega)
       (try rw [show ((1 : Int)).toNat = 1 from rfl] at hx108_0)
       replace hx108_0 := (HB.out.cell (World.block_lt_of_cell? w _ hx108_0)).trans hx108_0
       replace p108 := eq_true p108
       replace q108 := eq_true q108
       refine start_ (n := 57) (S := fun w' => w'.cell? ad107 = some (.int .i64 (rd l0 0)) ∧ w'.cell? ⟨ad107.block, ad107.off + 1, none⟩ = some (.int .i64 (rd l0 1))) (ds := []) #[O,O,O,O,O,O,O,O,O,O,O,O,O,O,O,O,O,O,O,O,O,O,O,O,O,O,O,O,O,O,O,O,O,O,O,O,O,O,O,O,O,O,O,O,O,O,O,O,O,O,O,O,O,O,O,O,O] (by kernel_rfl) rfl rfl ⟨((HB.out.cell (World.block_lt_of_cell? w _ hw107_0)).trans hw107_0), ((HB.out.cell (World.block_lt_of_cell? w _ hw108_0)).trans hw108_0)⟩ (fun hHeld => ?_); refine with_tabW impl_IsRight.tab1 impl_IsRight.bits1 (fun HT_ HW_ => ?_)
       generalize w.drew = w18 at HB hx107_0 hx108_0 hHeld ⊢
       refine pS 0 3 (BM 57 1) ?_
       refine pS 1 4 (BM 57 3) ?_
       refine pS 2 5 (BM 57 7) ?_
       refine pS 3 6 (BM 57 15) ?_
       refine pS 4 7 (BM 57 31) ?_
       refine one_ (i := 5) (N := some 8) (BM 57 63) rfl rfl (one_of HT_.out (by kernel_rfl)) (by decide) (fun K hK => ?_)
       refine goes_ Try.func76 (by kernel_rfl) rfl #[.slice (some ad107) l0.length c0, .int .i64 1, .int .i64 1000000000] (by rfl) rfl rfl (by (try simp only [List.map_toArray, List.map_cons, List.map_nil]); first | done | rfl | (simp only [List.length_drop, List.length_take]; rfl)) ?_
       with_reducible refine (impl_allWithin.calls _ _ l0 1 1000000000 true _ ?side1 ?side2 A3.out).mono ?_
       (case side1 => exact cC (Kd.C_below HR0.out HB.out))
       (case side2 => exact HC0.out)
       rintro e w19 ⟨rfl, hb⟩
       refine ⟨_, rfl, ?_⟩
       have n0_ := Aside0.mk (below_step bq hb)
       clear HB
       have HB := n0_
       clear n0_
       (try clear hb)
       (try clear hb2)
       (try clear hk)
       (try clear hi)
       refine hK.out _ _ ⟨((HB.out.cell (World.block_lt_of_cell? w _ hw107_0)).trans hw107_0), ((HB.out.cell (World.block_lt_of_cell? w _ hw108_0)).trans hw108_0)⟩ (fun hHeld => ?_)
       clear hK K
       refine norm_ (a' := ?_) ?_ ?_
       rotate_left
       ·
        show Act.put _ (some 8) _ = _
        simp only [AP]
        rfl
       refine pS 6 9 (BM 57 127) ?_
       refine pS 7 10 (BM 57 255) ?_
       refine pS 8 11 (BM 57 511) ?_
       refine pS 9 12 (BM 57 1023) ?_
       refine take_ (i := 10) (N := some 13) (v := ?_) (a' := ?_) (BM 57 2047) rfl rfl (take_ofW HT_.out HW_.out (by kernel_rfl)) (fun _ _ _ h => h) (Or.inl ⟨by rfl, ?_⟩) hHeld ?_ ?_
       rotate_left
       ·
        rintro w' ⟨s0, s1⟩
        go_simp
        with_reducible rfl
       rotate_left
       ·
        simp only [AP]
        rfl
       refine pS 11 14 (BM 57 4095) ?_
       refine pS 12 15 (BM 57 8191) ?_
       refine pS 13 16 (BM 57 16383) ?_
       refine pS 14 17 (BM 57 32767) ?_
       refine pS 15 18 (BM 57 65535) ?_
       refine pS 16 19 (BM 57 131071) ?_
       refine take_ (i := 17) (N := some 20) (v := ?_) (a' := ?_) (BM 57 262143) rfl rfl (take_ofW HT_.out HW_.out (by kernel_rfl)) (fun _ _ _ h => h) (Or.inl ⟨by rfl, ?_⟩) hHeld ?_ ?_
       rotate_left
       ·
        rintro w' ⟨s0, s1⟩
        go_simp
        with_reducible rfl
       rotate_left
       ·
        simp only [AP]
        rfl
       refine pS 18 21 (BM 57 524287) ?_
       refine pS 19 22 (BM 57 1048575) ?_
       refine pS 20 23 (BM 57 2097151) ?_
       refine pS 21 24 (BM 57 4194303) ?_
       refine pU 22 25 (BM 57 8388607) ?_
       refine pU 23 26 (BM 57 16777215) ?_
       refine pU 24 27 (BM 57 33554431) ?_
       refine pU 25 28 (BM 57 67108863) ?_
       refine pU 26 29 (BM 57 134217727) ?_
       refine pU 27 30 (BM 57 268435455) ?_
       refine pU 28 31 (BM 57 536870911) ?_
       refine pU 29 32 (BM 57 1073741823) ?_
       refine pS 30 33 (BM 57 2147483647) ?_
       refine pS 31 34 (BM 57 4294967295) ?_
       refine pU 32 35 (BM 57 8589934591) ?_
       refine pU 33 36 (BM 57 17179869183) ?_
       refine pU 34 37 (BM 57 34359738367) ?_
       refine pU 35 38 (BM 57 68719476735) ?_
       refine pU 36 39 (BM 57 137438953471) ?_
       refine pU 37 40 (BM 57 274877906943) ?_
       refine pU 38 41 (BM 57 549755813887) ?_
       refine pU 39 42 (BM 57 1099511627775) ?_
       refine pU 40 43 (BM 57 2199023255551) ?_
       refine pU 41 44 (BM 57 4398046511103) ?_
       refine pU 42 45 (BM 57 8796093022207) ?_
       refine pU 43 46 (BM 57 17592186044415) ?_
       refine pU 44 47 (BM 57 35184372088831) ?_
       refine pU 45 48 (BM 57 70368744177663) ?_
       refine pU 46 49 (BM 57 140737488355327) ?_
       refine pU 47 50 (BM 57 281474976710655) ?_
       refine pU 48 51 (BM 57 562949953421311) ?_
       refine pU 49 52 (BM 57 1125899906842623) ?_
       refine pU 50 53 (BM 57 2251799813685247) ?_
       refine pU 51 54 (BM 57 4503599627370495) ?_
       refine pU 52 55 (BM 57 9007199254740991) ?_
       refine pU 53 56 (BM 57 18014398509481983) ?_
       refine pU 54 57 (BM 57 36028797018963967) ?_
       refine pS 55 58 (BM 57 72057594037927935) ?_
       refine pS 56 2 (BM 57 144115188075855871) ?_
       refine done_ (done_of HT_.out (by kernel_rfl)) ?_
       try go_wp2
       go_ret
       exact ⟨e1, bq⟩
     ·
      rw [if_neg c7] at H
      exact absurd H (by simp)
    ·
     rw [if_neg c6] at H
     have c6b0 : ((Int.tmod (rd l0 0) 2) == 1) = false := beq_eq_false_iff_ne.mpr c6
     have c6b1 : ((Int.tmod (rd l0 0) 2) != 1) = true := bne_iff_ne.mpr c6
     obtain rfl := Option.some.inj H
     go_enter Try.func21, Try.ntmps21
     try go_wp2
     have n0_ := Aside0.mk (below_drew1 HB.out)
     clear HB
     have HB := n0_
     clear n0_
     have p107 : 0 ≤ (0 : Int) := (by omega)
     have q107 : 0 < (l0.length : Int) := od
     obtain ⟨ad107, e107, hx107_0⟩ := Kd.at_int HR0.out 0 p107 q107
     have hw107_0 := hx107_0
     (try rw [show ((0 : Int)).toNat = 0 from rfl] at hw107_0)
     (try rw [show 0 * 1 = 0 from rfl] at hw107_0)
     (try rw [Addr.add_zero'] at hw107_0)
     cases e107
     have qi107 : (0 < l0.length) = True := eq_true (by omega)
     (try rw [show ((0 : Int)).toNat = 0 from rfl] at hx107_0)
     (try rw [Addr.add_zero'] at hx107_0)
     replace hx107_0 := (HB.out.cell (World.block_lt_of_cell? w _ hx107_0)).trans hx107_0
     replace p107 := eq_true p107
     replace q107 := eq_true q107
     refine start_ (n := 57) (S := fun w' => w'.cell? ad107 = some (.int .i64 (rd l0 0))) (ds := []) #[O,O,O,O,O,O,O,O,O,O,O,O,O,O,O,O,O,O,O,O,O,O,O,O,O,O,O,O,O,O,O,O,O,O,O,O,O,O,O,O,O,O,O,O,O,O,O,O,O,O,O,O,O,O,O,O,O] (by kernel_rfl) rfl rfl (((HB.out.cell (World.block_lt_of_cell? w _ hw107_0)).trans hw107_0)) (fun hHeld => ?_); refine with_tabW impl_IsRight.tab1 impl_IsRight.bits1 (fun HT_ HW_ => ?_)
     generalize w.drew = w20 at HB hx107_0 hHeld ⊢
     refine pS 0 3 (BM 57 1) ?_
     refine pS 1 4 (BM 57 3) ?_
     refine pS 2 5 (BM 57 7) ?_
     refine pS 3 6 (BM 57 15) ?_
     refine pS 4 7 (BM 57 31) ?_
     refine one_ (i := 5) (N := some 8) (BM 57 63) rfl rfl (one_of HT_.out (by kernel_rfl)) (by decide) (fun K hK => ?_)
     refine goes_ Try.func76 (by kernel_rfl) rfl #[.slice (some ad107) l0.length c0, .int .i64 1, .int .i64 1000000000] (by rfl) rfl rfl (by (try simp only [List.map_toArray, List.map_cons, List.map_nil]); first | done | rfl | (simp only [List.length_drop, List.length_take]; rfl)) ?_
     with_reducible refine (impl_allWithin.calls _ _ l0 1 1000000000 true _ ?side1 ?side2 A3.out).mono ?_
     (case side1 => exact cC (Kd.C_below HR0.out HB.out))
     (case side2 => exact HC0.out)
     rintro e w21 ⟨rfl, hb⟩
     refine ⟨_, rfl, ?_⟩
     have n0_ := Aside0.mk (below_step bq hb)
     clear HB
     have HB := n0_
     clear n0_
     (try clear hb)
     (try clear hb2)
     (try clear hk)
     (try clear hi)
     refine hK.out _ _ (((HB.out.cell (World.block_lt_of_cell? w _ hw107_0)).trans hw107_0)) (fun hHeld => ?_)
     clear hK K
     refine norm_ (a' := ?_) ?_ ?_
     rotate_left
     ·
      show Act.put _ (some 8) _ = _
      simp only [AP]
      rfl
     refine pS 6 9 (BM 57 127) ?_
     refine pS 7 10 (BM 57 255) ?_
     refine pS 8 11 (BM 57 511) ?_
     refine pS 9 12 (BM 57 1023) ?_
     refine take_ (i := 10) (N := some 13) (v := ?_) (a' := ?_) (BM 57 2047) rfl rfl (take_ofW HT_.out HW_.out (by kernel_rfl)) (fun _ _ _ h => h) (Or.inl ⟨by rfl, ?_⟩) hHeld ?_ ?_
     rotate_left
     ·
      intro w' s0
      go_simp
      with_reducible rfl
     rotate_left
     ·
      simp only [AP]
      rfl
     refine pS 11 14 (BM 57 4095) ?_
     refine pS 12 15 (BM 57 8191) ?_
     refine pS 13 16 (BM 57 16383) ?_
     refine pS 14 17 (BM 57 32767) ?_
     refine pU 15 18 (BM 57 65535) ?_
     refine pU 16 19 (BM 57 131071) ?_
     refine pU 17 20 (BM 57 262143) ?_
     refine pU 18 21 (BM 57 524287) ?_
     refine pU 19 22 (BM 57 1048575) ?_
     refine pS 20 23 (BM 57 2097151) ?_
     refine pS 21 24 (BM 57 4194303) ?_
     refine pU 22 25 (BM 57 8388607) ?_
     refine pU 23 26 (BM 57 16777215) ?_
     refine pU 24 27 (BM 57 33554431) ?_
     refine pU 25 28 (BM 57 67108863) ?_
     refine pU 26 29 (BM 57 134217727) ?_
     refine pU 27 30 (BM 57 268435455) ?_
     refine pU 28 31 (BM 57 536870911) ?_
     refine pU 29 32 (BM 57 1073741823) ?_
     refine pS 30 33 (BM 57 2147483647) ?_
     refine pS 31 34 (BM 57 4294967295) ?_
     refine pU 32 35 (BM 57 8589934591) ?_
     refine pU 33 36 (BM 57 17179869183) ?_
     refine pU 34 37 (BM 57 34359738367) ?_
     refine pU 35 38 (BM 57 68719476735) ?_
     refine pU 36 39 (BM 57 137438953471) ?_
     refine pU 37 40 (BM 57 274877906943) ?_
     refine pU 38 41 (BM 57 549755813887) ?_
     refine pU 39 42 (BM 57 1099511627775) ?_
     refine pU 40 43 (BM 57 2199023255551) ?_
     refine pU 41 44 (BM 57 4398046511103) ?_
     refine pU 42 45 (BM 57 8796093022207) ?_
     refine pU 43 46 (BM 57 17592186044415) ?_
     refine pU 44 47 (BM 57 35184372088831) ?_
     refine pU 45 48 (BM 57 70368744177663) ?_
     refine pU 46 49 (BM 57 140737488355327) ?_
     refine pU 47 50 (BM 57 281474976710655) ?_
     refine pU 48 51 (BM 57 562949953421311) ?_
     refine pU 49 52 (BM 57 1125899906842623) ?_
     refine pU 50 53 (BM 57 2251799813685247) ?_
     refine pU 51 54 (BM 57 4503599627370495) ?_
     refine pU 52 55 (BM 57 9007199254740991) ?_
     refine pU 53 56 (BM 57 18014398509481983) ?_
     refine pU 54 57 (BM 57 36028797018963967) ?_
     refine pS 55 58 (BM 57 72057594037927935) ?_
     refine pS 56 2 (BM 57 144115188075855871) ?_
     refine done_ (done_of HT_.out (by kernel_rfl)) ?_
     try go_wp2
     go_ret
     exact ⟨e1, bq⟩
   ·
    rw [if_neg c5] at H
    exact absurd H (by simp)
  ·
   replace c4 := Bool.eq_false_iff.mpr c4
   subst c4
   have H1 : (some false) = some r := by rw [if_neg (show ¬ (false = true) by decide)] at H; exact H
   clear H
   have H := H1
   clear H1
   obtain rfl := Option.some.inj H
   go_enter Try.func21, Try.ntmps21
   try go_wp2
   have n0_ := Aside0.mk (below_drew1 HB.out)
   clear HB
   have HB := n0_
   clear n0_
   refine start_ (n := 57) (S := fun w' => True) (ds := []) #[O,O,O,O,O,O,O,O,O,O,O,O,O,O,O,O,O,O,O,O,O,O,O,O,O,O,O,O,O,O,O,O,O,O,O,O,O,O,O,O,O,O,O,O,O,O,O,O,O,O,O,O,O,O,O,O,O] (by kernel_rfl) rfl rfl trivial (fun hHeld => ?_); refine with_tabW impl_IsRight.tab1 impl_IsRight.bits1 (fun HT_ HW_ => ?_)
   generalize w.drew = w22 at HB hHeld ⊢
   refine pS 0 3 (BM 57 1) ?_
   refine pS 1 4 (BM 57 3) ?_
   refine pS 2 5 (BM 57 7) ?_
   refine pS 3 6 (BM 57 15) ?_
   refine pS 4 7 (BM 57 31) ?_
   refine one_ (i := 5) (N := some 8) (BM 57 63) rfl rfl (one_of HT_.out (by kernel_rfl)) (by decide) (fun K hK => ?_)
   refine goes_ Try.func76 (by kernel_rfl) rfl #[.slice A0 l0.length c0, .int .i64 1, .int .i64 1000000000] (by rfl) rfl rfl (by (try simp only [List.map_toArray, List.map_cons, List.map_nil]); first | done | rfl | (simp only [List.length_drop, List.length_take]; rfl)) ?_
   with_reducible refine (impl_allWithin.calls _ _ l0 1 1000000000 false _ ?side1 ?side2 A3.out).mono ?_
   (case side1 => exact cC (Kd.C_below HR0.out HB.out))
   (case side2 => exact HC0.out)
   rintro e w23 ⟨rfl, hb⟩
   refine ⟨_, rfl, ?_⟩
   have n0_ := Aside0.mk (below_step bq hb)
   clear HB
   have HB := n0_
   clear n0_
   (try clear hb)
   (try clear hb2)
   (try clear hk)
   (try clear hi)
   refine hK.out _ _ trivial (fun hHeld => ?_)
   clear hK K
   refine norm_ (a' := ?_) ?_ ?_
   rotate_left
   ·
    show Act.put _ (some 8) _ = _
    simp only [AP]
    rfl
   refine pS 6 9 (BM 57 127) ?_
   refine pS 7 10 (BM 57 255) ?_
   refine pU 8 11 (BM 57 511) ?_
   refine pU 9 12 (BM 57 1023) ?_
   refine pU 10 13 (BM 57 2047) ?_
   refine pU 11 14 (BM 57 4095) ?_
   refine pU 12 15 (BM 57 8191) ?_
   refine pS 13 16 (BM 57 16383) ?_
   refine pS 14 17 (BM 57 32767) ?_
   refine pU 15 18 (BM 57 65535) ?_
   refine pU 16 19 (BM 57 131071) ?_
   refine pU 17 20 (BM 57 262143) ?_
   refine pU 18 21 (BM 57 524287) ?_
   refine pU 19 22 (BM 57 1048575) ?_
   refine pS 20 23 (BM 57 2097151) ?_
   refine pS 21 24 (BM 57 4194303) ?_
   refine pU 22 25 (BM 57 8388607) ?_
   refine pU 23 26 (BM 57 16777215) ?_
   refine pU 24 27 (BM 57 33554431) ?_
   refine pU 25 28 (BM 57 67108863) ?_
   refine pU 26 29 (BM 57 134217727) ?_
   refine pU 27 30 (BM 57 268435455) ?_
   refine pU 28 31 (BM 57 536870911) ?_
   refine pU 29 32 (BM 57 1073741823) ?_
   refine pS 30 33 (BM 57 2147483647) ?_
   refine pS 31 34 (BM 57 4294967295) ?_
   refine pU 32 35 (BM 57 8589934591) ?_
   refine pU 33 36 (BM 57 17179869183) ?_
   refine pU 34 37 (BM 57 34359738367) ?_
   refine pU 35 38 (BM 57 68719476735) ?_
   refine pU 36 39 (BM 57 137438953471) ?_
   refine pU 37 40 (BM 57 274877906943) ?_
   refine pU 38 41 (BM 57 549755813887) ?_
   refine pU 39 42 (BM 57 1099511627775) ?_
   refine pU 40 43 (BM 57 2199023255551) ?_
   refine pU 41 44 (BM 57 4398046511103) ?_
   refine pU 42 45 (BM 57 8796093022207) ?_
   refine pU 43 46 (BM 57 17592186044415) ?_
   refine pU 44 47 (BM 57 35184372088831) ?_
   refine pU 45 48 (BM 57 70368744177663) ?_
   refine pU 46 49 (BM 57 140737488355327) ?_
   refine pU 47 50 (BM 57 281474976710655) ?_
   refine pU 48 51 (BM 57 562949953421311) ?_
   refine pU 49 52 (BM 57 1125899906842623) ?_
   refine pU 50 53 (BM 57 2251799813685247) ?_
   refine pU 51 54 (BM 57 4503599627370495) ?_
   refine pU 52 55 (BM 57 9007199254740991) ?_
   refine pU 53 56 (BM 57 18014398509481983) ?_
   refine pU 54 57 (BM 57 36028797018963967) ?_
   refine pS 55 58 (BM 57 72057594037927935) ?_
   refine pS 56 2 (BM 57 144115188075855871) ?_
   refine done_ (done_of HT_.out (by kernel_rfl)) ?_
   try go_wp2
   go_ret
   exact ⟨e1, bq⟩
 ·
  rw [if_neg c2] at H
  have c2b0 : ((l0.length : Int) == 3) = false := beq_eq_false_iff_ne.mpr c2
  have c2b1 : ((l0.length : Int) != 3) = true := bne_iff_ne.mpr c2
  obtain rfl := Option.some.inj H
  go_enter Try.func21, Try.ntmps21
  try go_wp2
  have n0_ := Aside0.mk (below_drew1 HB.out)
  clear HB
  have HB := n0_
  clear n0_
  refine start_ (n := 57) (S := fun w' => True) (ds := []) #[O,O,O,O,O,O,O,O,O,O,O,O,O,O,O,O,O,O,O,O,O,O,O,O,O,O,O,O,O,O,O,O,O,O,O,O,O,O,O,O,O,O,O,O,O,O,O,O,O,O,O,O,O,O,O,O,O] (by kernel_rfl) rfl rfl trivial (fun hHeld => ?_); refine with_tabW impl_IsRight.tab1 impl_IsRight.bits1 (fun HT_ HW_ => ?_)
  generalize w.drew = w24 at HB hHeld ⊢
  refine pS 0 3 (BM 57 1) ?_
  refine pS 1 4 (BM 57 3) ?_
  refine pS 2 5 (BM 57 7) ?_
  refine pS 3 6 (BM 57 15) ?_
  refine pU 4 7 (BM 57 31) ?_
  refine pU 5 8 (BM 57 63) ?_
  refine pS 6 9 (BM 57 127) ?_
  refine pS 7 10 (BM 57 255) ?_
  refine pU 8 11 (BM 57 511) ?_
  refine pU 9 12 (BM 57 1023) ?_
  refine pU 10 13 (BM 57 2047) ?_
  refine pU 11 14 (BM 57 4095) ?_
  refine pU 12 15 (BM 57 8191) ?_
  refine pS 13 16 (BM 57 16383) ?_
  refine pS 14 17 (BM 57 32767) ?_
  refine pU 15 18 (BM 57 65535) ?_
  refine pU 16 19 (BM 57 131071) ?_
  refine pU 17 20 (BM 57 262143) ?_
  refine pU 18 21 (BM 57 524287) ?_
  refine pU 19 22 (BM 57 1048575) ?_
  refine pS 20 23 (BM 57 2097151) ?_
  refine pS 21 24 (BM 57 4194303) ?_
  refine pU 22 25 (BM 57 8388607) ?_
  refine pU 23 26 (BM 57 16777215) ?_
  refine pU 24 27 (BM 57 33554431) ?_
  refine pU 25 28 (BM 57 67108863) ?_
  refine pU 26 29 (BM 57 134217727) ?_
  refine pU 27 30 (BM 57 268435455) ?_
  refine pU 28 31 (BM 57 536870911) ?_
  refine pU 29 32 (BM 57 1073741823) ?_
  refine pS 30 33 (BM 57 2147483647) ?_
  refine pS 31 34 (BM 57 4294967295) ?_
  refine pU 32 35 (BM 57 8589934591) ?_
  refine pU 33 36 (BM 57 17179869183) ?_
  refine pU 34 37 (BM 57 34359738367) ?_
  refine pU 35 38 (BM 57 68719476735) ?_
  refine pU 36 39 (BM 57 137438953471) ?_
  refine pU 37 40 (BM 57 274877906943) ?_
  refine pU 38 41 (BM 57 549755813887) ?_
  refine pU 39 42 (BM 57 1099511627775) ?_
  refine pU 40 43 (BM 57 2199023255551) ?_
  refine pU 41 44 (BM 57 4398046511103) ?_
  refine pU 42 45 (BM 57 8796093022207) ?_
  refine pU 43 46 (BM 57 17592186044415) ?_
  refine pU 44 47 (BM 57 35184372088831) ?_
  refine pU 45 48 (BM 57 70368744177663) ?_
  refine pU 46 49 (BM 57 140737488355327) ?_
  refine pU 47 50 (BM 57 281474976710655) ?_
  refine pU 48 51 (BM 57 562949953421311) ?_
  refine pU 49 52 (BM 57 1125899906842623) ?_
  refine pU 50 53 (BM 57 2251799813685247) ?_
  refine pU 51 54 (BM 57 4503599627370495) ?_
  refine pU 52 55 (BM 57 9007199254740991) ?_
  refine pU 53 56 (BM 57 18014398509481983) ?_
  refine pU 54 57 (BM 57 36028797018963967) ?_
  refine pS 55 58 (BM 57 72057594037927935) ?_
  refine pS 56 2 (BM 57 144115188075855871) ?_
  refine done_ (done_of HT_.out (by kernel_rfl)) ?_
  try go_wp2
  go_ret
  exact ⟨e1, bq⟩

end Go.Proofs.Ytnfbkakblnppaaa.P
