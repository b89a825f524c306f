-- Written by a program of this session (wip/mkprint.py over the kit's print), out of the translation. Not trusted: Lean checks it.
import Derived.Test.YtnfbkakblnppaaaRx0
namespace Go.Proofs.Ytnfbkakblnppaaa.P
open Go.RowKit Go.Proofs.YtnfbkakblnppaaaW.PrintWords Go.Proofs.YtnfbkakblnppaaaW.PrintLast Go.Proofs.YtnfbkakblnppaaaW.PrintMore
attribute [local go_sem] max2_int min2_int max_two min_two max_three min_three max_four min_four   -- for this text's walks alone
set_option linter.unusedVariables false
set_option linter.unusedSimpArgs false

/-! ### spec_riBefore: function 134 -/
def spec_riBefore.f (l0 : List Int) (l1 : List Int) : Option (Bool) := if 2 < (l0.length : Int) then (if 2 < (l1.length : Int) then (if (rd l0 2) < (rd l1 2) then (some true) else (if (rd l0 2) = (rd l1 2) then (if 0 < (l0.length : Int) then (if 0 < (l1.length : Int) then (some (decide ((rd l0 0) < (rd l1 0)))) else (none)) else (none)) else (some false))) else (none)) else (none)
set_option maxHeartbeats 8000000 in
set_option maxRecDepth 100000 in
theorem spec_riBefore.calls (A0 : Option Addr) (c0 : Nat) (l0 : List Int) (A1 : Option Addr) (c1 : Nat) (l1 : List Int) (r : Bool) (w : World) (hr0 : Kd.C (Kd.int .i64) w A0 l0.length l0) (hc0 : l0.length ≤ c0) (hr1 : Kd.C (Kd.int .i64) w A1 l1.length l1) (hc1 : l1.length ≤ c1) (h : spec_riBefore.f l0 l1 = some r) :
 Calls Try.prog 134 #[.slice A0 l0.length c0, .slice A1 l1.length c1] w fun e w' => e = .returned (.bool r) ∧ Drawn0 w w' := by
 have HR0 := Aside0.mk hr0
 have HC0 := Aside0.mk hc0
 clear hr0 hc0
 have HR1 := Aside0.mk hr1
 have HC1 := Aside0.mk hc1
 clear hr1 hc1
 have H : (if 2 < (l0.length : Int) then (if 2 < (l1.length : Int) then (if (rd l0 2) < (rd l1 2) then (some true) else (if (rd l0 2) = (rd l1 2) then (if 0 < (l0.length : Int) then (if 0 < (l1.length : Int) then (some (decide ((rd l0 0) < (rd l1 0)))) else (none)) else (none)) else (some false))) else (none)) else (none)) = some r := h
 clear h
 by_cases c3 : 2 < (l0.length : Int)
 ·
  rw [if_pos c3] at H
  have c3b0 : decide (2 < (l0.length : Int)) = true := decide_eq_true c3
  have c3b1 : decide (2 < l0.length) = true := decide_eq_true (by omega)
  clear c3
  by_cases c4 : 2 < (l1.length : Int)
  ·
   rw [if_pos c4] at H
   have c4b0 : decide (2 < (l1.length : Int)) = true := decide_eq_true c4
   have c4b1 : decide (2 < l1.length) = true := decide_eq_true (by omega)
   clear c4
   by_cases c5 : (rd l0 2) < (rd l1 2)
   ·
    rw [if_pos c5] at H
    have c5b0 : decide ((rd l0 2) < (rd l1 2)) = true := decide_eq_true c5
    clear c5
    obtain rfl := Option.some.inj H
    have p308 : 0 ≤ (2 : Int) := (by omega)
    have q308 : 2 < (l0.length : Int) := od
    obtain ⟨ad308, e308, hx308_0⟩ := Kd.at_int HR0.out 2 p308 q308
    cases e308
    (try simp only [show (2 : Int).toNat = 2 from rfl, Nat.reduceMul, Nat.reduceEqDiff, Go.Addr.add, ↓reduceIte] at hx308_0)
    have qi308 : (2 < l0.length) = True := eq_true (by omega)
    (try rw [show ((2 : Int)).toNat = 2 from rfl] at hx308_0)
    replace p308 := eq_true p308
    replace q308 := eq_true q308
    have p309 : 0 ≤ (2 : Int) := (by omega)
    have q309 : 2 < (l1.length : Int) := od
    obtain ⟨ad309, e309, hx309_0⟩ := Kd.at_int HR1.out 2 p309 q309
    cases e309
    (try simp only [show (2 : Int).toNat = 2 from rfl, Nat.reduceMul, Nat.reduceEqDiff, Go.Addr.add, ↓reduceIte] at hx309_0)
    have qi309 : (2 < l1.length) = True := eq_true (by omega)
    (try rw [show ((2 : Int)).toNat = 2 from rfl] at hx309_0)
    replace p309 := eq_true p309
    replace q309 := eq_true q309
    go_enter Try.func134, Try.ntmps134
    go_wp2
    repeat (go_quiet (fail); try go_wp2)
    go_ret
    exact ⟨e2, dz⟩
   ·
    rw [if_neg c5] at H
    have c5b0 : decide ((rd l0 2) < (rd l1 2)) = false := decide_eq_false c5
    clear c5
    by_cases c6 : (rd l0 2) = (rd l1 2)
    ·
     rw [if_pos c6] at H
     have c6b0 : ((rd l0 2) == (rd l1 2)) = true := beq_iff_eq.mpr c6
     have c6b1 : ((rd l0 2) != (rd l1 2)) = false := bne_eq_false_iff_eq.mpr c6
     clear c6
     by_cases c7 : 0 < (l0.length : Int)
     ·
      rw [if_pos c7] at H
      have c7b0 : decide (0 < (l0.length : Int)) = true := decide_eq_true c7
      have c7b1 : decide (0 < l0.length) = true := decide_eq_true (by omega)
      clear c7
      by_cases c8 : 0 < (l1.length : Int)
      ·
       rw [if_pos c8] at H
       have c8b0 : decide (0 < (l1.length : Int)) = true := decide_eq_true c8
       have c8b1 : decide (0 < l1.length) = true := decide_eq_true (by omega)
       clear c8
       obtain rfl := Option.some.inj H
       have p308 : 0 ≤ (2 : Int) := (by omega)
       have q308 : 2 < (l0.length : Int) := od
       obtain ⟨ad308, e308, hx308_0⟩ := Kd.at_int HR0.out 2 p308 q308
       cases e308
       (try simp only [show (2 : Int).toNat = 2 from rfl, Nat.reduceMul, Nat.reduceEqDiff, Go.Addr.add, ↓reduceIte] at hx308_0)
       have qi308 : (2 < l0.length) = True := eq_true (by omega)
       (try rw [show ((2 : Int)).toNat = 2 from rfl] at hx308_0)
       replace p308 := eq_true p308
       replace q308 := eq_true q308
       have p309 : 0 ≤ (2 : Int) := (by omega)
       have q309 : 2 < (l1.length : Int) := od
       obtain ⟨ad309, e309, hx309_0⟩ := Kd.at_int HR1.out 2 p309 q309
       cases e309
       (try simp only [show (2 : Int).toNat = 2 from rfl, Nat.reduceMul, Nat.reduceEqDiff, Go.Addr.add, ↓reduceIte] at hx309_0)
       have qi309 : (2 < l1.length) = True := eq_true (by omega)
       (try rw [show ((2 : Int)).toNat = 2 from rfl] at hx309_0)
       replace p309 := eq_true p309
       replace q309 := eq_true q309
       have p310 : 0 ≤ (2 : Int) := (by omega)
       have q310 : 2 < (l0.length : Int) := od
       obtain ⟨ad310, e310, hx310_0⟩ := Kd.at_int HR0.out 2 p310 q310
       obtain rfl : ad308 = ad310 := (by injection e310)
       (try simp only [show (2 : Int).toNat = 2 from rfl, Nat.reduceMul, Nat.reduceEqDiff, Go.Addr.add, ↓reduceIte] at hx310_0)
       have qi310 : (2 < l0.length) = True := eq_true (by omega)
       (try rw [show ((2 : Int)).toNat = 2 from rfl] at hx310_0)
       replace p310 := eq_true p310
       replace q310 := eq_true q310
       have p311 : 0 ≤ (2 : Int) := (by omega)
       have q311 : 2 < (l1.length : Int) := od
       obtain ⟨ad311, e311, hx311_0⟩ := Kd.at_int HR1.out 2 p311 q311
       obtain rfl : ad309 = ad311 := (by injection e311)
       (try simp only [show (2 : Int).toNat = 2 from rfl, Nat.reduceMul, Nat.reduceEqDiff, Go.Addr.add, ↓reduceIte] at hx311_0)
       have qi311 : (2 < l1.length) = True := eq_true (by omega)
       (try rw [show ((2 : Int)).toNat = 2 from rfl] at hx311_0)
       replace p311 := eq_true p311
       replace q311 := eq_true q311
       have p312 : 0 ≤ (0 : Int) := (by omega)
       have q312 : 0 < (l0.length : Int) := od
       obtain ⟨ad312, e312, hx312_0⟩ := Kd.at_int HR0.out 0 p312 q312
       obtain rfl : ad308 = ad312 := (by injection e312)
       have qi312 : (0 < l0.length) = True := eq_true (by omega)
       (try rw [show ((0 : Int)).toNat = 0 from rfl] at hx312_0)
       (try rw [Addr.add_zero'] at hx312_0)
       replace p312 := eq_true p312
       replace q312 := eq_true q312
       have p313 : 0 ≤ (0 : Int) := (by omega)
       have q313 : 0 < (l1.length : Int) := od
       obtain ⟨ad313, e313, hx313_0⟩ := Kd.at_int HR1.out 0 p313 q313
       obtain rfl : ad309 = ad313 := (by injection e313)
       have qi313 : (0 < l1.length) = True := eq_true (by omega)
       (try rw [show ((0 : Int)).toNat = 0 from rfl] at hx313_0)
       (try rw [Addr.add_zero'] at hx313_0)
       replace p313 := eq_true p313
       replace q313 := eq_true q313
       go_enter Try.func134, Try.ntmps134
       go_wp2
       repeat (go_quiet (fail); try go_wp2)
       go_ret
       exact ⟨e2, dz⟩
      ·
       rw [if_neg c8] at H
       exact absurd H (by simp)
     ·
      rw [if_neg c7] at H
      exact absurd H (by simp)
    ·
     rw [if_neg c6] at H
     have c6b0 : ((rd l0 2) == (rd l1 2)) = false := beq_eq_false_iff_ne.mpr c6
     have c6b1 : ((rd l0 2) != (rd l1 2)) = true := bne_iff_ne.mpr c6
     obtain rfl := Option.some.inj H
     have p308 : 0 ≤ (2 : Int) := (by omega)
     have q308 : 2 < (l0.length : Int) := od
     obtain ⟨ad308, e308, hx308_0⟩ := Kd.at_int HR0.out 2 p308 q308
     cases e308
     (try simp only [show (2 : Int).toNat = 2 from rfl, Nat.reduceMul, Nat.reduceEqDiff, Go.Addr.add, ↓reduceIte] at hx308_0)
     have qi308 : (2 < l0.length) = True := eq_true (by omega)
     (try rw [show ((2 : Int)).toNat = 2 from rfl] at hx308_0)
     replace p308 := eq_true p308
     replace q308 := eq_true q308
     have p309 : 0 ≤ (2 : Int) := (by omega)
     have q309 : 2 < (l1.length : Int) := od
     obtain ⟨ad309, e309, hx309_0⟩ := Kd.at_int HR1.out 2 p309 q309
     cases e309
     (try simp only [show (2 : Int).toNat = 2 from rfl, Nat.reduceMul, Nat.reduceEqDiff, Go.Addr.add, ↓reduceIte] at hx309_0)
     have qi309 : (2 < l1.length) = True := eq_true (by omega)
     (try rw [show ((2 : Int)).toNat = 2 from rfl] at hx309_0)
     replace p309 := eq_true p309
     replace q309 := eq_true q309
     have p310 : 0 ≤ (2 : Int) := (by omega)
     have q310 : 2 < (l0.length : Int) := od
     obtain ⟨ad310, e310, hx310_0⟩ := Kd.at_int HR0.out 2 p310 q310
     obtain rfl : ad308 = ad310 := (by injection e310)
     (try simp only [show (2 : Int).toNat = 2 from rfl, Nat.reduceMul, Nat.reduceEqDiff, Go.Addr.add, ↓reduceIte] at hx310_0)
     have qi310 : (2 < l0.length) = True := eq_true (by omega)
     (try rw [show ((2 : Int)).toNat = 2 from rfl] at hx310_0)
     replace p310 := eq_true p310
     replace q310 := eq_true q310
     have p311 : 0 ≤ (2 : Int) := (by omega)
     have q311 : 2 < (l1.length : Int) := od
     obtain ⟨ad311, e311, hx311_0⟩ := Kd.at_int HR1.out 2 p311 q311
     obtain rfl : ad309 = ad311 := (by injection e311)
     (try simp only [show (2 : Int).toNat = 2 from rfl, Nat.reduceMul, Nat.reduceEqDiff, Go.Addr.add, ↓reduceIte] at hx311_0)
     have qi311 : (2 < l1.length) = True := eq_true (by omega)
     (try rw [show ((2 : Int)).toNat = 2 from rfl] at hx311_0)
     replace p311 := eq_true p311
     replace q311 := eq_true q311
     go_enter Try.func134, Try.ntmps134
     go_wp2
     repeat (go_quiet (fail); try go_wp2)
     go_ret
     exact ⟨e2, dz⟩
  ·
   rw [if_neg c4] at H
   exact absurd H (by simp)
 ·
  rw [if_neg c3] at H
  exact absurd H (by simp)

end Go.Proofs.Ytnfbkakblnppaaa.P
