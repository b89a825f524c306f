-- Written by a program of this session (wip/mkprint.py over the kit's print), out of the translation. Not trusted: Lean checks it.
import Derived.Test.YtldkkfpodldbgaaMx0
import Derived.Test.YtldkkfpodldbgaaMx1
import Derived.Test.YtldkkfpodldbgaaMx3
import Derived.Test.YtldkkfpodldbgaaMx4
import Derived.Test.YtldkkfpodldbgaaMx5
import Derived.Test.YtldkkfpodldbgaaGA
namespace Go.Proofs.Ytldkkfpodldbgaa.P
open Go.RowKit Go.Proofs.YtldkkfpodldbgaaW.PrintWords Go.Proofs.YtldkkfpodldbgaaW.PrintLast Go.Proofs.YtldkkfpodldbgaaW.PrintMore
attribute [local go_sem] max2_int min2_int max_two min_two max_three min_three max_four min_four   -- for this text's walks alone
set_option linter.unusedVariables false
set_option linter.unusedSimpArgs false

/-! ### laws_dSame: function 53 -/
def laws_dSame.l0 : Nat → List Int → List Int → Int → Int → Option (Bool)
 | 0, _, _, _, _ => none
 | k + 1, x0, x1, x12, x13 => if x13 < x12 then (if 0 ≤ x13 then (if x13 < (x0.length : Int) then (if x13 < (x1.length : Int) then (if (rd x0 x13) = (rd x1 x13) then (laws_dSame.l0 k x0 x1 x12 (wrap64 (x13 + 1))) else (some false)) else (none)) else (none)) else (none)) else (some true)
def laws_dSame.f (k : Nat) (l0 : List Int) (l1 : List Int) : Option (Bool) := if (l0.length : Int) = (l1.length : Int) then (laws_dSame.l0 k l0 l1 (l0.length : Int) 0) else (some false)
theorem laws_dSame.mono_l : ∀ k, (∀ y0 y1 y2 y3, LeO (laws_dSame.l0 k y0 y1 y2 y3) (laws_dSame.l0 (k + 1) y0 y1 y2 y3))
 | 0 => fun _ _ _ _ r h => by simp [laws_dSame.l0] at h
 | k + 1 => by
  have ih0 := laws_dSame.mono_l k
  ·
   intro y0 y1 y2 y3; unfold laws_dSame.l0
   repeat' first
   | (with_reducible exact ih0 _ _ _ _)
   | (with_reducible exact LeO.refl _)
   | (with_reducible exact LeO.none _)
   | (with_reducible refine LeO.ite ?_ ?_)
   | (with_reducible refine LeO.bind ?_ (fun _ => ?_))
   | exact ih0 _ _ _ _
   | exact LeO.none _
   | refine LeO.ite ?_ ?_
   | refine LeO.bind ?_ (fun _ => ?_)
theorem laws_dSame.mono : ∀ a0 a1 k, LeO (laws_dSame.f k a0 a1) (laws_dSame.f (k + 1) a0 a1) := by
 intro a0 a1 k; have ih0 := laws_dSame.mono_l k; unfold laws_dSame.f
 repeat' first
  | (with_reducible exact ih0 _ _ _ _)
  | (with_reducible exact LeO.refl _)
  | (with_reducible exact LeO.none _)
  | (with_reducible refine LeO.ite ?_ ?_)
  | (with_reducible refine LeO.bind ?_ (fun _ => ?_))
  | exact ih0 _ _ _ _
  | exact LeO.none _
  | refine LeO.ite ?_ ?_
  | refine LeO.bind ?_ (fun _ => ?_)
set_option maxHeartbeats 8000000 in
set_option maxRecDepth 100000 in
theorem laws_dSame.calls (k : Nat) (A0 : Option Addr) (c0 : Nat) (l0 : List Int) (A1 : Option Addr) (c1 : Nat) (l1 : List Int) (r : Bool) (w : World) (hr0 : Kd.C (Kd.int .i64) w A0 l0.length l0) (hc0 : l0.length ≤ c0) (hr1 : Kd.C (Kd.int .i64) w A1 l1.length l1) (hc1 : l1.length ≤ c1) (h : laws_dSame.f k l0 l1 = some r) :
 Calls Try.prog 53 #[.slice A0 l0.length c0, .slice A1 l1.length c1] w fun e w' => e = .returned (.bool r) ∧ Drawn0 w w' := by
 have HR0 := Aside0.mk hr0; have HC0 := Aside0.mk hc0; clear hr0 hc0; have HR1 := Aside0.mk hr1; have HC1 := Aside0.mk hc1; clear hr1 hc1; have H : (if (l0.length : Int) = (l1.length : Int) then (laws_dSame.l0 k l0 l1 (l0.length : Int) 0) else (some false)) = some r := h; clear h; by_cases c3 : (l0.length : Int) = (l1.length : Int)
 ·
  rw [if_pos c3] at H; have c3b0 : ((l0.length : Int) == (l1.length : Int)) = true := beq_iff_eq.mpr c3; have c3b1 : ((l0.length : Int) != (l1.length : Int)) = false := bne_eq_false_iff_eq.mpr c3; have c3b2 : (l0.length == l1.length) = true := by first | simpa using c3 | (simp at c3 ⊢; omega)
  clear c3; have H' := Aside0.mk H; clear H; go_enter Try.func53, Try.ntmps53; go_wp2
  repeat (go_quiet (fail); try go_wp2)
  go_loopg [13] k (fun kq v13 w' => ∃ (x13_1 : Int), v13 = .int .i64 x13_1 ∧ Aside0 (laws_dSame.l0 kq l0 l1 (l0.length : Int) x13_1 = some r) ∧ Aside0 (kq ≤ k) ∧ Drawn0 w w')
  case atStart => exact ⟨(0), e2, H', ⟨Nat.le_refl _⟩, dz⟩
  case round =>
   clear H'; (try clear c3); (try clear c3b0); (try clear c3b1); (try clear c3b2); obtain ⟨x13_1, rfl, HA, HK1, ⟨m1, rfl⟩⟩ := hrel; cases gk with
   | zero => exact absurd HA.out (by simp [laws_dSame.l0])
   | succ k1 =>
    have H := HA.out; clear HA; simp only [laws_dSame.l0] at H; by_cases c4 : x13_1 < (l0.length : Int)
    ·
     rw [if_pos c4] at H; have c4b0 : decide (x13_1 < (l0.length : Int)) = true := decide_eq_true c4; clear c4; by_cases c5 : 0 ≤ x13_1
     ·
      rw [if_pos c5] at H; have c5b0 : decide (0 ≤ x13_1) = true := decide_eq_true c5; clear c5; by_cases c6 : x13_1 < (l0.length : Int)
      ·
       rw [if_pos c6] at H; have c6b0 : decide (x13_1 < (l0.length : Int)) = true := decide_eq_true c6; clear c6; by_cases c7 : x13_1 < (l1.length : Int)
       ·
        rw [if_pos c7] at H; have c7b0 : decide (x13_1 < (l1.length : Int)) = true := decide_eq_true c7; clear c7; by_cases c8 : (rd l0 x13_1) = (rd l1 x13_1)
        ·
         rw [if_pos c8] at H; have c8b0 : ((rd l0 x13_1) == (rd l1 x13_1)) = true := beq_iff_eq.mpr c8; have c8b1 : ((rd l0 x13_1) != (rd l1 x13_1)) = false := bne_eq_false_iff_eq.mpr c8; clear c8; have H' := Aside0.mk H; clear H; have p370 : 0 ≤ (x13_1 : Int) := od; have q370 : x13_1 < (l0.length : Int) := od; obtain ⟨ad370, e370, hx370_0⟩ := Kd.at_int HR0.out x13_1 p370 q370; cases e370; replace p370 := eq_true p370; replace q370 := eq_true q370; have p371 : 0 ≤ (x13_1 : Int) := od; have q371 : x13_1 < (l1.length : Int) := od; obtain ⟨ad371, e371, hx371_0⟩ := Kd.at_int HR1.out x13_1 p371 q371; cases e371; replace p371 := eq_true p371; replace q371 := eq_true q371; go_wp2
         repeat (go_quiet (fail); try go_wp2)
         go_roundg k1
         case measure => have := HK1.out; omega
         case rel => exact ⟨(wrap64 (x13_1 + 1)), e2, H', ⟨by have := HK1.out; omega⟩, dz⟩
        ·
         rw [if_neg c8] at H; have c8b0 : ((rd l0 x13_1) == (rd l1 x13_1)) = false := beq_eq_false_iff_ne.mpr c8; have c8b1 : ((rd l0 x13_1) != (rd l1 x13_1)) = true := bne_iff_ne.mpr c8; obtain rfl := Option.some.inj H; have p370 : 0 ≤ (x13_1 : Int) := od; have q370 : x13_1 < (l0.length : Int) := od; obtain ⟨ad370, e370, hx370_0⟩ := Kd.at_int HR0.out x13_1 p370 q370; cases e370; replace p370 := eq_true p370; replace q370 := eq_true q370; have p371 : 0 ≤ (x13_1 : Int) := od; have q371 : x13_1 < (l1.length : Int) := od; obtain ⟨ad371, e371, hx371_0⟩ := Kd.at_int HR1.out x13_1 p371 q371; cases e371; replace p371 := eq_true p371; replace q371 := eq_true q371; go_wp2
         repeat (go_quiet (fail); try go_wp2)
         go_ret; exact ⟨e2, dz⟩
       · rw [if_neg c7] at H; exact absurd H (by simp)
      · rw [if_neg c6] at H; exact absurd H (by simp)
     · rw [if_neg c5] at H; exact absurd H (by simp)
    ·
     rw [if_neg c4] at H; have c4b0 : decide (x13_1 < (l0.length : Int)) = false := decide_eq_false c4; clear c4; obtain rfl := Option.some.inj H; go_wp2
     repeat (go_quiet (fail); try go_wp2)
     go_ret; exact ⟨e2, dz⟩
 ·
  rw [if_neg c3] at H; have c3b0 : ((l0.length : Int) == (l1.length : Int)) = false := beq_eq_false_iff_ne.mpr c3; have c3b1 : ((l0.length : Int) != (l1.length : Int)) = true := bne_iff_ne.mpr c3; have c3b2 : (l0.length == l1.length) = false := by first | simpa using c3 | (simp at c3 ⊢; omega)
  obtain rfl := Option.some.inj H; go_enter Try.func53, Try.ntmps53; go_wp2
  repeat (go_quiet (fail); try go_wp2)
  go_ret; exact ⟨e2, dz⟩

/-! ### laws_dLists: function 93 -/
def laws_dLists.l0 : Nat → List (List Int) → List (List Int) → Int → Int → Option (Bool)
 | 0, _, _, _, _ => none
 | k + 1, x0, x1, x12, x13 => if x13 < x12 then (if 0 ≤ x13 then (if x13 < (x0.length : Int) then (if x13 < (x1.length : Int) then ((laws_dSame.f k (rd_L1 x0 x13) (rd_L1 x1 x13)).bind fun t374 => (if t374 = true then (laws_dLists.l0 k x0 x1 x12 (wrap64 (x13 + 1))) else (some false))) else (none)) else (none)) else (none)) else (some true)
def laws_dLists.f (k : Nat) (l0 : List (List Int)) (l1 : List (List Int)) : Option (Bool) := if (l0.length : Int) = (l1.length : Int) then (laws_dLists.l0 k l0 l1 (l0.length : Int) 0) else (some false)
theorem laws_dLists.mono_l : ∀ k, (∀ y0 y1 y2 y3, LeO (laws_dLists.l0 k y0 y1 y2 y3) (laws_dLists.l0 (k + 1) y0 y1 y2 y3))
 | 0 => fun _ _ _ _ r h => by simp [laws_dLists.l0] at h
 | k + 1 => by
  have ih0 := laws_dLists.mono_l k
  ·
   intro y0 y1 y2 y3; unfold laws_dLists.l0
   repeat' first
   | (with_reducible exact ih0 _ _ _ _)
   | (with_reducible exact laws_dSame.mono _ _ _)
   | (with_reducible exact LeO.refl _)
   | (with_reducible exact LeO.none _)
   | (with_reducible refine LeO.ite ?_ ?_)
   | (with_reducible refine LeO.bind ?_ (fun _ => ?_))
   | exact ih0 _ _ _ _
   | exact laws_dSame.mono _ _ _
   | exact LeO.none _
   | refine LeO.ite ?_ ?_
   | refine LeO.bind ?_ (fun _ => ?_)
theorem laws_dLists.mono : ∀ a0 a1 k, LeO (laws_dLists.f k a0 a1) (laws_dLists.f (k + 1) a0 a1) := by
 intro a0 a1 k; have ih0 := laws_dLists.mono_l k; unfold laws_dLists.f
 repeat' first
  | (with_reducible exact ih0 _ _ _ _)
  | (with_reducible exact laws_dSame.mono _ _ _)
  | (with_reducible exact LeO.refl _)
  | (with_reducible exact LeO.none _)
  | (with_reducible refine LeO.ite ?_ ?_)
  | (with_reducible refine LeO.bind ?_ (fun _ => ?_))
  | exact ih0 _ _ _ _
  | exact laws_dSame.mono _ _ _
  | exact LeO.none _
  | refine LeO.ite ?_ ?_
  | refine LeO.bind ?_ (fun _ => ?_)
set_option maxHeartbeats 8000000 in
set_option maxRecDepth 100000 in
theorem laws_dLists.calls (k : Nat) (A0 : Option Addr) (c0 : Nat) (l0 : List (List Int)) (A1 : Option Addr) (c1 : Nat) (l1 : List (List Int)) (r : Bool) (w : World) (hr0 : Kd.C (Kd.slice 3 (Kd.int .i64)) w A0 l0.length l0) (hc0 : l0.length ≤ c0) (hr1 : Kd.C (Kd.slice 3 (Kd.int .i64)) w A1 l1.length l1) (hc1 : l1.length ≤ c1) (h : laws_dLists.f k l0 l1 = some r) :
 Calls Try.prog 93 #[.slice A0 l0.length c0, .slice A1 l1.length c1] w fun e w' => e = .returned (.bool r) ∧ Drawn0 w w' := by
 have HR0 := Aside0.mk hr0; have HC0 := Aside0.mk hc0; clear hr0 hc0; have HR1 := Aside0.mk hr1; have HC1 := Aside0.mk hc1; clear hr1 hc1; have H : (if (l0.length : Int) = (l1.length : Int) then (laws_dLists.l0 k l0 l1 (l0.length : Int) 0) else (some false)) = some r := h; clear h; by_cases c3 : (l0.length : Int) = (l1.length : Int)
 ·
  rw [if_pos c3] at H; have c3b0 : ((l0.length : Int) == (l1.length : Int)) = true := beq_iff_eq.mpr c3; have c3b1 : ((l0.length : Int) != (l1.length : Int)) = false := bne_eq_false_iff_eq.mpr c3; have c3b2 : (l0.length == l1.length) = true := by first | simpa using c3 | (simp at c3 ⊢; omega)
  clear c3; have H' := Aside0.mk H; clear H; go_enter Try.func93, Try.ntmps93; go_wp2
  repeat (go_quiet (fail); try go_wp2)
  go_loopg [13] k (fun kq v13 w' => ∃ (x13_1 : Int), v13 = .int .i64 x13_1 ∧ Aside0 (laws_dLists.l0 kq l0 l1 (l0.length : Int) x13_1 = some r) ∧ Aside0 (kq ≤ k) ∧ Drawn0 w w')
  case atStart => exact ⟨(0), e2, H', ⟨Nat.le_refl _⟩, dz⟩
  case round =>
   clear H'; (try clear c3); (try clear c3b0); (try clear c3b1); (try clear c3b2); obtain ⟨x13_1, rfl, HA, HK1, ⟨m1, rfl⟩⟩ := hrel; cases gk with
   | zero => exact absurd HA.out (by simp [laws_dLists.l0])
   | succ k1 =>
    have H := HA.out; clear HA; simp only [laws_dLists.l0] at H; by_cases c4 : x13_1 < (l0.length : Int)
    ·
     rw [if_pos c4] at H; have c4b0 : decide (x13_1 < (l0.length : Int)) = true := decide_eq_true c4; clear c4; by_cases c5 : 0 ≤ x13_1
     ·
      rw [if_pos c5] at H; have c5b0 : decide (0 ≤ x13_1) = true := decide_eq_true c5; clear c5; by_cases c6 : x13_1 < (l0.length : Int)
      ·
       rw [if_pos c6] at H; have c6b0 : decide (x13_1 < (l0.length : Int)) = true := decide_eq_true c6; clear c6; by_cases c7 : x13_1 < (l1.length : Int)
       ·
        rw [if_pos c7] at H; have c7b0 : decide (x13_1 < (l1.length : Int)) = true := decide_eq_true c7; clear c7; replace H := Option.bind_eq_some_iff.mp H; obtain ⟨t374, A80, H⟩ := H; replace H : (if t374 = true then (laws_dLists.l0 k1 l0 l1 (l0.length : Int) (wrap64 (x13_1 + 1))) else (some false)) = some r := H; have A8 := Aside0.mk A80; clear A80; by_cases c9 : t374 = true
        ·
         subst c9; rw [if_pos rfl] at H; have H' := Aside0.mk H; clear H; have p372 : 0 ≤ (x13_1 : Int) := od; have q372 : x13_1 < (l0.length : Int) := od; obtain ⟨ad372, A372_0, c372_0, e372, hx372_0, hl372_0, hi372_0⟩ := at_L1 HR0.out x13_1 p372 q372; cases e372; have HR372_0 := Aside0.mk hi372_0; have HC372_0 := Aside0.mk hl372_0; clear hi372_0 hl372_0; replace p372 := eq_true p372; replace q372 := eq_true q372; have p373 : 0 ≤ (x13_1 : Int) := od; have q373 : x13_1 < (l1.length : Int) := od; obtain ⟨ad373, A373_0, c373_0, e373, hx373_0, hl373_0, hi373_0⟩ := at_L1 HR1.out x13_1 p373 q373; cases e373; have HR373_0 := Aside0.mk hi373_0; have HC373_0 := Aside0.mk hl373_0; clear hi373_0 hl373_0; replace p373 := eq_true p373; replace q373 := eq_true q373; go_wp2_with (first | (go_at_call 53; (with_reducible refine (laws_dSame.calls k1 _ _ (rd_L1 l0 x13_1) _ _ (rd_L1 l1 x13_1) true _ ?side1 ?side2 ?side3 ?side4 A8.out).mono ?_); (case side1 => exact cC HR372_0.out); (case side2 => exact HC372_0.out); (case side3 => exact cC HR373_0.out); (case side4 => exact HC373_0.out); rintro e w' ⟨rfl, ⟨nd, rfl⟩⟩; (try exact dD)))
         repeat (go_quiet (first | (go_at_call 53; (with_reducible refine (laws_dSame.calls k1 _ _ (rd_L1 l0 x13_1) _ _ (rd_L1 l1 x13_1) true _ ?side1 ?side2 ?side3 ?side4 A8.out).mono ?_); (case side1 => exact cC HR372_0.out); (case side2 => exact HC372_0.out); (case side3 => exact cC HR373_0.out); (case side4 => exact HC373_0.out); rintro e w' ⟨rfl, ⟨nd, rfl⟩⟩; (try exact dD))); try go_wp2_with (first | (go_at_call 53; (with_reducible refine (laws_dSame.calls k1 _ _ (rd_L1 l0 x13_1) _ _ (rd_L1 l1 x13_1) true _ ?side1 ?side2 ?side3 ?side4 A8.out).mono ?_); (case side1 => exact cC HR372_0.out); (case side2 => exact HC372_0.out); (case side3 => exact cC HR373_0.out); (case side4 => exact HC373_0.out); rintro e w' ⟨rfl, ⟨nd, rfl⟩⟩; (try exact dD))))
         go_roundg k1
         case measure => have := HK1.out; omega
         case rel => exact ⟨(wrap64 (x13_1 + 1)), e2, H', ⟨by have := HK1.out; omega⟩, dz⟩
        ·
         replace c9 := Bool.eq_false_iff.mpr c9; subst c9; rw [if_neg (show ¬ (false = true) by decide)] at H; obtain rfl := Option.some.inj H; have p372 : 0 ≤ (x13_1 : Int) := od; have q372 : x13_1 < (l0.length : Int) := od; obtain ⟨ad372, A372_0, c372_0, e372, hx372_0, hl372_0, hi372_0⟩ := at_L1 HR0.out x13_1 p372 q372; cases e372; have HR372_0 := Aside0.mk hi372_0; have HC372_0 := Aside0.mk hl372_0; clear hi372_0 hl372_0; replace p372 := eq_true p372; replace q372 := eq_true q372; have p373 : 0 ≤ (x13_1 : Int) := od; have q373 : x13_1 < (l1.length : Int) := od; obtain ⟨ad373, A373_0, c373_0, e373, hx373_0, hl373_0, hi373_0⟩ := at_L1 HR1.out x13_1 p373 q373; cases e373; have HR373_0 := Aside0.mk hi373_0; have HC373_0 := Aside0.mk hl373_0; clear hi373_0 hl373_0; replace p373 := eq_true p373; replace q373 := eq_true q373; go_wp2_with (first | (go_at_call 53; (with_reducible refine (laws_dSame.calls k1 _ _ (rd_L1 l0 x13_1) _ _ (rd_L1 l1 x13_1) false _ ?side1 ?side2 ?side3 ?side4 A8.out).mono ?_); (case side1 => exact cC HR372_0.out); (case side2 => exact HC372_0.out); (case side3 => exact cC HR373_0.out); (case side4 => exact HC373_0.out); rintro e w' ⟨rfl, ⟨nd, rfl⟩⟩; (try exact dD)))
         repeat (go_quiet (first | (go_at_call 53; (with_reducible refine (laws_dSame.calls k1 _ _ (rd_L1 l0 x13_1) _ _ (rd_L1 l1 x13_1) false _ ?side1 ?side2 ?side3 ?side4 A8.out).mono ?_); (case side1 => exact cC HR372_0.out); (case side2 => exact HC372_0.out); (case side3 => exact cC HR373_0.out); (case side4 => exact HC373_0.out); rintro e w' ⟨rfl, ⟨nd, rfl⟩⟩; (try exact dD))); try go_wp2_with (first | (go_at_call 53; (with_reducible refine (laws_dSame.calls k1 _ _ (rd_L1 l0 x13_1) _ _ (rd_L1 l1 x13_1) false _ ?side1 ?side2 ?side3 ?side4 A8.out).mono ?_); (case side1 => exact cC HR372_0.out); (case side2 => exact HC372_0.out); (case side3 => exact cC HR373_0.out); (case side4 => exact HC373_0.out); rintro e w' ⟨rfl, ⟨nd, rfl⟩⟩; (try exact dD))))
         go_ret; exact ⟨e2, dz⟩
       · rw [if_neg c7] at H; exact absurd H (by simp)
      · rw [if_neg c6] at H; exact absurd H (by simp)
     · rw [if_neg c5] at H; exact absurd H (by simp)
    ·
     rw [if_neg c4] at H; have c4b0 : decide (x13_1 < (l0.length : Int)) = false := decide_eq_false c4; clear c4; obtain rfl := Option.some.inj H; go_wp2
     repeat (go_quiet (fail); try go_wp2)
     go_ret; exact ⟨e2, dz⟩
 ·
  rw [if_neg c3] at H; have c3b0 : ((l0.length : Int) == (l1.length : Int)) = false := beq_eq_false_iff_ne.mpr c3; have c3b1 : ((l0.length : Int) != (l1.length : Int)) = true := bne_iff_ne.mpr c3; have c3b2 : (l0.length == l1.length) = false := by first | simpa using c3 | (simp at c3 ⊢; omega)
  obtain rfl := Option.some.inj H; go_enter Try.func93, Try.ntmps93; go_wp2
  repeat (go_quiet (fail); try go_wp2)
  go_ret; exact ⟨e2, dz⟩

/-! ### laws_dMatrix: function 31 -/
def laws_dMatrix.f (k : Nat) (l0_0 : List (List Int)) (l1_0 : List (List Int)) : Option (Bool) := (laws_dLists.f k l0_0 l1_0).bind fun t377 => (some t377)
theorem laws_dMatrix.mono : ∀ a0 a1 k, LeO (laws_dMatrix.f k a0 a1) (laws_dMatrix.f (k + 1) a0 a1) := by
 intro a0 a1 k; unfold laws_dMatrix.f
 repeat' first
  | (with_reducible exact laws_dLists.mono _ _ _)
  | (with_reducible exact LeO.refl _)
  | (with_reducible exact LeO.none _)
  | (with_reducible refine LeO.ite ?_ ?_)
  | (with_reducible refine LeO.bind ?_ (fun _ => ?_))
  | exact laws_dLists.mono _ _ _
  | exact LeO.none _
  | refine LeO.ite ?_ ?_
  | refine LeO.bind ?_ (fun _ => ?_)
set_option maxHeartbeats 8000000 in
set_option maxRecDepth 100000 in
theorem laws_dMatrix.calls (k : Nat) (A0_0 : Option Addr) (c0_0 : Nat) (l0_0 : List (List Int)) (A1_0 : Option Addr) (c1_0 : Nat) (l1_0 : List (List Int)) (r : Bool) (w : World) (hr0_0 : Kd.C (Kd.slice 3 (Kd.int .i64)) w A0_0 l0_0.length l0_0) (hc0_0 : l0_0.length ≤ c0_0) (hr1_0 : Kd.C (Kd.slice 3 (Kd.int .i64)) w A1_0 l1_0.length l1_0) (hc1_0 : l1_0.length ≤ c1_0) (h : laws_dMatrix.f k l0_0 l1_0 = some r) :
 Calls Try.prog 31 #[.agg #[.slice A0_0 l0_0.length c0_0], .agg #[.slice A1_0 l1_0.length c1_0]] w fun e w' => e = .returned (.bool r) ∧ Below w.heap.size w w' := by
 have hu26 := Try.underlying26; have HR0_0 := Aside0.mk hr0_0; have HC0_0 := Aside0.mk hc0_0; clear hr0_0 hc0_0; have HR1_0 := Aside0.mk hr1_0; have HC1_0 := Aside0.mk hc1_0; clear hr1_0 hc1_0; have HB := Aside0.mk (Below.refl w.heap.size w); have H : ((laws_dLists.f k l0_0 l1_0).bind fun t377 => (some t377)) = some r := h; clear h; replace H := Option.bind_eq_some_iff.mp H; obtain ⟨t377, A30, H⟩ := H; replace H : (some t377) = some r := H; have A3 := Aside0.mk A30; clear A30; obtain rfl := Option.some.inj H; go_enter Try.func31, Try.ntmps31; go_wp2_with (first | ((with_reducible refine gate_dst (N := 2) rfl ?_); refine box_event ?hg (N := 2) ?hd (cs := #[.slice A0_0 l0_0.length c0_0]) (t := 26) ?hr ?_; (case hd => rfl); (case hg => rfl); (case hr => exact z127_); intro gb375 hg w4 hbox hb; have BK375 := Aside0.mk (hbox); have GW375 := Aside0.mk ((by rw [hg]; exact (below_size bq) : w.heap.size ≤ gb375)); have GE375 := Aside0.mk ((by rw [hg]; exact (below_size bq) : w.heap.size ≤ gb375)); replace HB := Aside0.mk (below_step bq hb); clear hb hbox hg) | ((with_reducible refine gate_dst (N := 3) rfl ?_); refine box_event ?hg (N := 3) ?hd (cs := #[.slice A1_0 l1_0.length c1_0]) (t := 26) ?hr ?_; (case hd => rfl); (case hg => rfl); (case hr => exact z127_); intro gb376 hg w5 hbox hb; have BK376 := Aside0.mk (hbox); have GW376 := gW HB hg; have GE376 := gW HB hg; replace HB := Aside0.mk (below_step (kB HB) hb); have NB375_376 := nL BK375 hg; have NB376_375 := nR BK375 hg; replace BK375 := Aside0.mk (kK BK375 hb); clear hb hbox hg; have hnb6 := NB375_376.out; have hnc6 := NB376_375.out; have hcz7_0 : w5.cell? ⟨gb375, 0, none⟩ = some (.slice A0_0 l0_0.length c0_0) := (blk_cell BK375.out 0).trans rfl; have hfz7_0 := blk_frozen BK375.out 0; have hcz8_0 : w5.cell? ⟨gb376, 0, none⟩ = some (.slice A1_0 l1_0.length c1_0) := (blk_cell BK376.out 0).trans rfl; have hfz8_0 := blk_frozen BK376.out 0) | ((with_reducible refine gate_callee (f := 93) rfl ?_); refine gL (some 9) rfl rfl Try.func93 (by kernel_rfl) rfl #[.slice A0_0 l0_0.length c0_0, .slice A1_0 l1_0.length c1_0] rfl ?_; (with_reducible refine (laws_dLists.calls k _ _ l0_0 _ _ l1_0 t377 _ ?side1 ?side2 ?side3 ?side4 A3.out).mono ?_); (case side1 => exact cC (Kd.C_below HR0_0.out HB.out)); (case side2 => exact HC0_0.out); (case side3 => exact cC (Kd.C_below HR1_0.out HB.out)); (case side4 => exact HC1_0.out); rintro e w' ⟨rfl, ⟨nd, rfl⟩⟩; refine ⟨_, rfl, ?_⟩)); go_ret; exact ⟨e1, kB HB⟩

/-! ### impl_Matrix_transposed: function 94 -/
def impl_Matrix_transposed.f (l0_0 : List (List Int)) : Option (List (List Int)) := if Go.Proofs.Ytldkkfpodldbgaa.G.isSq l0_0 = true then some (Go.Proofs.Ytldkkfpodldbgaa.G.transL l0_0) else none
theorem impl_Matrix_transposed.calls (A0_0 : Option Addr) (c0_0 : Nat) (l0_0 : List (List Int)) (r : List (List Int)) (w : World) (hr0_0 : Kd.C (Kd.slice 3 (Kd.int .i64)) w A0_0 l0_0.length l0_0) (_hc0_0 : l0_0.length ≤ c0_0) (h : impl_Matrix_transposed.f l0_0 = some r) :
 Calls Try.prog 94 #[.agg #[.slice A0_0 l0_0.length c0_0]] w fun e w' => ∃ v0_ : Value, e = .returned (.agg #[v0_]) ∧ Kd.S (Kd.slice 3 (Kd.int .i64)) 34 w' w.heap.size (fun _ => True) v0_ r ∧ Below w.heap.size w w' := by
 unfold impl_Matrix_transposed.f at h
 split at h
 · rename_i hs; obtain rfl := Option.some.inj h; exact Go.Proofs.Ytldkkfpodldbgaa.G.transposed_any A0_0 c0_0 l0_0 w hr0_0 hs
 · cases h

/-! ### impl_TransposeOf: function 32 -/
def impl_TransposeOf.f (l0_0 : List (List Int)) : Option ((List (List Int)) × Bool) := (impl_IsMatrix.f l0_0).bind fun t380 => (if t380 = true then ((impl_Matrix_transposed.f l0_0).bind fun t381 => (some (t381, true))) else (some (([] : List (List Int)), false)))
set_option maxHeartbeats 8000000 in
set_option maxRecDepth 100000 in
theorem impl_TransposeOf.calls (A0_0 : Option Addr) (c0_0 : Nat) (l0_0 : List (List Int)) (r1 : List (List Int)) (r2 : Bool) (w : World) (hr0_0 : Kd.C (Kd.slice 3 (Kd.int .i64)) w A0_0 l0_0.length l0_0) (hc0_0 : l0_0.length ≤ c0_0) (h : impl_TransposeOf.f l0_0 = some (r1, r2)) :
 Calls Try.prog 32 #[.agg #[.slice A0_0 l0_0.length c0_0]] w fun e w' => ∃ v0_ : Value, e = .returned (.tuple #[.agg #[v0_], .bool r2]) ∧ Kd.S (Kd.slice 3 (Kd.int .i64)) 34 w' w.heap.size (fun _ => True) v0_ r1 ∧ Below w.heap.size w w' := by
 have hu26 := Try.underlying26; have HR0_0 := Aside0.mk hr0_0; have HC0_0 := Aside0.mk hc0_0; clear hr0_0 hc0_0; have HB := Aside0.mk (Below.refl w.heap.size w); have H : ((impl_IsMatrix.f l0_0).bind fun t380 => (if t380 = true then ((impl_Matrix_transposed.f l0_0).bind fun t381 => (some (t381, true))) else (some (([] : List (List Int)), false)))) = some (r1, r2) := h; clear h; replace H := Option.bind_eq_some_iff.mp H; obtain ⟨t380, A20, H⟩ := H; replace H : (if t380 = true then ((impl_Matrix_transposed.f l0_0).bind fun t381 => (some (t381, true))) else (some (([] : List (List Int)), false))) = some (r1, r2) := H; have A2 := Aside0.mk A20; clear A20; by_cases c3 : t380 = true
 · subst c3; rw [if_pos rfl] at H; replace H := Option.bind_eq_some_iff.mp H; obtain ⟨t381, A40, H⟩ := H; replace H : (some (t381, true)) = some (r1, r2) := H; have A4 := Aside0.mk A40; clear A40; simp only [Option.some.injEq, Prod.mk.injEq] at H; obtain ⟨rfl, rfl⟩ := H; go_enter Try.func32, Try.ntmps32; go_wp2_with (first | ((with_reducible refine gate_dst (N := 1) rfl ?_); refine box_event ?hg (N := 1) ?hd (cs := #[.slice A0_0 l0_0.length c0_0]) (t := 26) ?hr ?_; (case hd => rfl); (case hg => rfl); (case hr => exact z127_); intro gb378 hg w5 hbox hb; have BK378 := Aside0.mk (hbox); have GW378 := Aside0.mk ((by rw [hg]; exact (below_size bq) : w.heap.size ≤ gb378)); have GE378 := Aside0.mk ((by rw [hg]; exact (below_size bq) : w.heap.size ≤ gb378)); replace HB := Aside0.mk (below_step bq hb); clear hb hbox hg) | ((with_reducible refine gate_dst (N := 2) rfl ?_); refine box_event ?hg (N := 2) ?hd (cs := #[.slice none 0 0]) (t := 26) ?hr ?_; (case hd => rfl); (case hg => rfl); (case hr => exact z127_); intro gb379 hg w6 hbox hb; have BK379 := Aside0.mk (hbox); have GW379 := gW HB hg; have GE379 := gW HB hg; replace HB := Aside0.mk (below_step (kB HB) hb); have NB378_379 := nL BK378 hg; have NB379_378 := nR BK378 hg; replace BK378 := Aside0.mk (kK BK378 hb); clear hb hbox hg; have hnb7 := NB378_379.out; have hnc7 := NB379_378.out; have hcz8_0 : w6.cell? ⟨gb378, 0, none⟩ = some (.slice A0_0 l0_0.length c0_0) := (blk_cell BK378.out 0).trans rfl; have hfz8_0 := blk_frozen BK378.out 0) | ((with_reducible refine gate_callee (f := 33) rfl ?_); refine gL (some 5) rfl rfl Try.func33 (by kernel_rfl) rfl #[.agg #[.slice A0_0 l0_0.length c0_0]] rfl ?_; (with_reducible refine (impl_IsMatrix.calls _ _ l0_0 true _ ?side1 ?side2 A2.out).mono ?_); (case side1 => exact cC (Kd.C_below HR0_0.out HB.out)); (case side2 => exact HC0_0.out); rintro e w9 ⟨rfl, hb⟩; refine ⟨_, rfl, ?_⟩; replace BK378 := Aside0.mk (kK BK378 hb); replace BK379 := Aside0.mk (kK BK379 hb); replace HB := Aside0.mk (below_step (kB HB) hb); (try clear hb); have hcz10_0 : w9.cell? ⟨gb378, 0, none⟩ = some (.slice A0_0 l0_0.length c0_0) := (blk_cell BK378.out 0).trans rfl; have hfz10_0 := blk_frozen BK378.out 0) | ((with_reducible refine gate_callee (f := 94) rfl ?_); refine gL (some 9) rfl rfl Try.func94 (by kernel_rfl) rfl #[.agg #[.slice A0_0 l0_0.length c0_0]] rfl ?_; (with_reducible refine (impl_Matrix_transposed.calls _ _ l0_0 t381 _ ?side1 ?side2 A4.out).mono ?_); (case side1 => exact cC (Kd.C_below HR0_0.out HB.out)); (case side2 => exact HC0_0.out); rintro e w11 ⟨v382, rfl, ho0, hb⟩; refine ⟨_, rfl, ?_⟩; have HO383 := Aside0.mk (Kd.S_lower ho0 (below_size (kB HB))); replace BK378 := Aside0.mk (kK BK378 hb); replace BK379 := Aside0.mk (kK BK379 hb); replace HB := Aside0.mk (below_step (kB HB) hb); (try clear hb); (try clear ho0); obtain ⟨Ao12, co12, eo12⟩ := Kd.S_slice HO383.out; subst eo12; have hcz13_0 : w11.cell? ⟨gb379, 0, none⟩ = some (.slice none 0 0) := (blk_cell BK379.out 0).trans rfl; have hfz13_0 := blk_frozen BK379.out 0)); refine bodyPost_ret (results_ct rfl _ _ gb379 26 #[.slice Ao12 t381.length co12] (0, 0) _ rfl (by refine bR ?_; refine blk_put (cs := #[.slice none 0 0]) ?_ 0 _ rfl; exact bA BK379) Try.underlying26 rfl (by kernel_rfl)) rfl ?_; exact ⟨_, e1, by (with_reducible repeat (first | apply Kd.S_alloc | apply Kd.S_drewN | apply Kd.S_drew)); exact Kd.S_mono (Kd.S_far (p := ⟨gb379, 0, none⟩) (Kd.S_types HO383.out BK379.out (by decide)) (fun _ hk => hk.2) (.slice Ao12 t381.length co12)) (fun _ hk => trivial), kB HB⟩
 · replace c3 := Bool.eq_false_iff.mpr c3; subst c3; rw [if_neg (show ¬ (false = true) by decide)] at H; simp only [Option.some.injEq, Prod.mk.injEq] at H; obtain ⟨rfl, rfl⟩ := H; go_enter Try.func32, Try.ntmps32; go_wp2_with (first | ((with_reducible refine gate_dst (N := 1) rfl ?_); refine box_event ?hg (N := 1) ?hd (cs := #[.slice A0_0 l0_0.length c0_0]) (t := 26) ?hr ?_; (case hd => rfl); (case hg => rfl); (case hr => exact z127_); intro gb378 hg w14 hbox hb; have BK378 := Aside0.mk (hbox); have GW378 := Aside0.mk ((by rw [hg]; exact (below_size bq) : w.heap.size ≤ gb378)); have GE378 := Aside0.mk ((by rw [hg]; exact (below_size bq) : w.heap.size ≤ gb378)); replace HB := Aside0.mk (below_step bq hb); clear hb hbox hg) | ((with_reducible refine gate_dst (N := 2) rfl ?_); refine box_event ?hg (N := 2) ?hd (cs := #[.slice none 0 0]) (t := 26) ?hr ?_; (case hd => rfl); (case hg => rfl); (case hr => exact z127_); intro gb379 hg w15 hbox hb; have BK379 := Aside0.mk (hbox); have GW379 := gW HB hg; have GE379 := gW HB hg; replace HB := Aside0.mk (below_step (kB HB) hb); have NB378_379 := nL BK378 hg; have NB379_378 := nR BK378 hg; replace BK378 := Aside0.mk (kK BK378 hb); clear hb hbox hg; have hnb16 := NB378_379.out; have hnc16 := NB379_378.out; have hcz17_0 : w15.cell? ⟨gb378, 0, none⟩ = some (.slice A0_0 l0_0.length c0_0) := (blk_cell BK378.out 0).trans rfl; have hfz17_0 := blk_frozen BK378.out 0) | ((with_reducible refine gate_callee (f := 33) rfl ?_); refine gL (some 5) rfl rfl Try.func33 (by kernel_rfl) rfl #[.agg #[.slice A0_0 l0_0.length c0_0]] rfl ?_; (with_reducible refine (impl_IsMatrix.calls _ _ l0_0 false _ ?side1 ?side2 A2.out).mono ?_); (case side1 => exact cC (Kd.C_below HR0_0.out HB.out)); (case side2 => exact HC0_0.out); rintro e w18 ⟨rfl, hb⟩; refine ⟨_, rfl, ?_⟩; replace BK378 := Aside0.mk (kK BK378 hb); replace BK379 := Aside0.mk (kK BK379 hb); replace HB := Aside0.mk (below_step (kB HB) hb); (try clear hb); have hcz19_0 : w18.cell? ⟨gb379, 0, none⟩ = some (.slice none 0 0) := (blk_cell BK379.out 0).trans rfl; have hfz19_0 := blk_frozen BK379.out 0)); refine bodyPost_ret (results_ct rfl _ _ gb379 26 #[.slice none 0 0] (0, 0) _ rfl (by refine bR ?_; refine blk_put (cs := #[.slice none 0 0]) ?_ 0 _ rfl; exact bA BK379) Try.underlying26 rfl (by kernel_rfl)) rfl ?_; exact ⟨_, e1, z90_, kB HB⟩

/-! ### impl_TraceOf: function 34 -/
def impl_TraceOf.l0 : Nat → Int → List (List Int) → Int → Int → Option (Int × Bool)
 | 0, _, _, _, _ => none
 | k + 1, x4, x11, x12, x13 => if x13 < x12 then (if 0 ≤ x13 then (if x13 < (x11.length : Int) then (if x13 < ((rd_L1 x11 x13).length : Int) then (impl_TraceOf.l0 k (wrap64 (x4 + (rd (rd_L1 x11 x13) x13))) x11 x12 (wrap64 (x13 + 1))) else (none)) else (none)) else (none)) else (some (x4, true))
def impl_TraceOf.f (k : Nat) (l0_0 : List (List Int)) : Option (Int × Bool) := (impl_IsMatrix.f l0_0).bind fun t385 => (if t385 = true then (impl_TraceOf.l0 k 0 l0_0 (l0_0.length : Int) 0) else (some (0, false)))
theorem impl_TraceOf.mono_l : ∀ k, (∀ y0 y1 y2 y3, LeO (impl_TraceOf.l0 k y0 y1 y2 y3) (impl_TraceOf.l0 (k + 1) y0 y1 y2 y3))
 | 0 => fun _ _ _ _ r h => by simp [impl_TraceOf.l0] at h
 | k + 1 => by
  have ih0 := impl_TraceOf.mono_l k
  ·
   intro y0 y1 y2 y3; unfold impl_TraceOf.l0
   repeat' first
   | (with_reducible exact ih0 _ _ _ _)
   | (with_reducible exact LeO.refl _)
   | (with_reducible exact LeO.none _)
   | (with_reducible refine LeO.ite ?_ ?_)
   | (with_reducible refine LeO.bind ?_ (fun _ => ?_))
   | exact ih0 _ _ _ _
   | exact LeO.none _
   | refine LeO.ite ?_ ?_
   | refine LeO.bind ?_ (fun _ => ?_)
theorem impl_TraceOf.mono : ∀ a0 k, LeO (impl_TraceOf.f k a0) (impl_TraceOf.f (k + 1) a0) := by
 intro a0 k; have ih0 := impl_TraceOf.mono_l k; unfold impl_TraceOf.f
 repeat' first
  | (with_reducible exact ih0 _ _ _ _)
  | (with_reducible exact LeO.refl _)
  | (with_reducible exact LeO.none _)
  | (with_reducible refine LeO.ite ?_ ?_)
  | (with_reducible refine LeO.bind ?_ (fun _ => ?_))
  | exact ih0 _ _ _ _
  | exact LeO.none _
  | refine LeO.ite ?_ ?_
  | refine LeO.bind ?_ (fun _ => ?_)
set_option maxHeartbeats 8000000 in
set_option maxRecDepth 100000 in
theorem impl_TraceOf.calls (k : Nat) (A0_0 : Option Addr) (c0_0 : Nat) (l0_0 : List (List Int)) (r1 : Int) (r2 : Bool) (w : World) (hr0_0 : Kd.C (Kd.slice 3 (Kd.int .i64)) w A0_0 l0_0.length l0_0) (hc0_0 : l0_0.length ≤ c0_0) (h : impl_TraceOf.f k l0_0 = some (r1, r2)) :
 Calls Try.prog 34 #[.agg #[.slice A0_0 l0_0.length c0_0]] w fun e w' => e = .returned (.tuple #[.int .i64 r1, .bool r2]) ∧ Below w.heap.size w w' := by
 have hu26 := Try.underlying26; have HR0_0 := Aside0.mk hr0_0; have HC0_0 := Aside0.mk hc0_0; clear hr0_0 hc0_0; have HB := Aside0.mk (Below.refl w.heap.size w); have H : ((impl_IsMatrix.f l0_0).bind fun t385 => (if t385 = true then (impl_TraceOf.l0 k 0 l0_0 (l0_0.length : Int) 0) else (some (0, false)))) = some (r1, r2) := h; clear h; replace H := Option.bind_eq_some_iff.mp H; obtain ⟨t385, A20, H⟩ := H; replace H : (if t385 = true then (impl_TraceOf.l0 k 0 l0_0 (l0_0.length : Int) 0) else (some (0, false))) = some (r1, r2) := H; have A2 := Aside0.mk A20; clear A20; by_cases c3 : t385 = true
 ·
  subst c3; rw [if_pos rfl] at H; have H' := Aside0.mk H; clear H; go_enter Try.func34, Try.ntmps34; go_wp2_with (first | ((with_reducible refine gate_dst (N := 1) rfl ?_); refine box_event ?hg (N := 1) ?hd (cs := #[.slice A0_0 l0_0.length c0_0]) (t := 26) ?hr ?_; (case hd => rfl); (case hg => rfl); (case hr => exact z127_); intro gb384 hg w4 hbox hb; have BK384 := Aside0.mk (hbox); have GW384 := Aside0.mk ((by rw [hg]; exact (below_size bq) : w.heap.size ≤ gb384)); have GE384 := Aside0.mk ((by rw [hg]; exact (below_size bq) : w.heap.size ≤ gb384)); replace HB := Aside0.mk (below_step bq hb); clear hb hbox hg; have hcz5_0 : w4.cell? ⟨gb384, 0, none⟩ = some (.slice A0_0 l0_0.length c0_0) := (blk_cell BK384.out 0).trans rfl; have hfz5_0 := blk_frozen BK384.out 0) | ((with_reducible refine gate_callee (f := 33) rfl ?_); refine gL (some 8) rfl rfl Try.func33 (by kernel_rfl) rfl #[.agg #[.slice A0_0 l0_0.length c0_0]] rfl ?_; (with_reducible refine (impl_IsMatrix.calls _ _ l0_0 true _ ?side1 ?side2 A2.out).mono ?_); (case side1 => exact cC (Kd.C_below HR0_0.out HB.out)); (case side2 => exact HC0_0.out); rintro e w6 ⟨rfl, hb⟩; refine ⟨_, rfl, ?_⟩; replace BK384 := Aside0.mk (kK BK384 hb); replace HB := Aside0.mk (below_step (kB HB) hb); (try clear hb); have hcz7_0 : w6.cell? ⟨gb384, 0, none⟩ = some (.slice A0_0 l0_0.length c0_0) := (blk_cell BK384.out 0).trans rfl; have hfz7_0 := blk_frozen BK384.out 0)); go_loopg [4, 13] k (fun kq v4 v13 w' => ∃ (x4_1 : Int) (x13_1 : Int), v4 = .int .i64 x4_1 ∧ v13 = .int .i64 x13_1 ∧ Aside0 (impl_TraceOf.l0 kq x4_1 l0_0 (l0_0.length : Int) x13_1 = some (r1, r2)) ∧ Aside0 (kq ≤ k) ∧ Aside0 (w'.heap[gb384]? = some (.cells #[(.slice A0_0 l0_0.length c0_0)] 26 (0, 0))) ∧ Aside0 (Below w.heap.size w w'))
  case atStart => exact ⟨(0), (0), e2, e2, H', ⟨Nat.le_refl _⟩, ⟨by exact bA BK384⟩, ⟨kB HB⟩⟩
  case round =>
   clear H'; (try clear c3); (try clear hcz5_0); (try clear hcz7_0); (try clear hfz5_0); (try clear hfz7_0); obtain ⟨x4_1, x13_1, rfl, rfl, HA, HK1, BK384, HB⟩ := hrel; cases gk with
   | zero => exact absurd HA.out (by simp [impl_TraceOf.l0])
   | succ k1 =>
    have H := HA.out; clear HA; simp only [impl_TraceOf.l0] at H; by_cases c8 : x13_1 < (l0_0.length : Int)
    ·
     rw [if_pos c8] at H; have c8b0 : decide (x13_1 < (l0_0.length : Int)) = true := decide_eq_true c8; clear c8; by_cases c9 : 0 ≤ x13_1
     ·
      rw [if_pos c9] at H; have c9b0 : decide (0 ≤ x13_1) = true := decide_eq_true c9; clear c9; by_cases c10 : x13_1 < (l0_0.length : Int)
      ·
       rw [if_pos c10] at H; have c10b0 : decide (x13_1 < (l0_0.length : Int)) = true := decide_eq_true c10; clear c10; by_cases c11 : x13_1 < ((rd_L1 l0_0 x13_1).length : Int)
       ·
        rw [if_pos c11] at H; have c11b0 : decide (x13_1 < ((rd_L1 l0_0 x13_1).length : Int)) = true := decide_eq_true c11; clear c11; have H' := Aside0.mk H; clear H; have p386 : 0 ≤ (x13_1 : Int) := od; have q386 : x13_1 < (l0_0.length : Int) := od; obtain ⟨ad386, A386_0, c386_0, e386, hx386_0, hl386_0, hi386_0⟩ := at_L1 HR0_0.out x13_1 p386 q386; cases e386; replace hx386_0 := (HB.out.cell (World.block_lt_of_cell? w _ hx386_0)).trans hx386_0; have HR386_0 := Aside0.mk hi386_0; have HC386_0 := Aside0.mk hl386_0; clear hi386_0 hl386_0; replace p386 := eq_true p386; replace q386 := eq_true q386; have p387 : 0 ≤ (x13_1 : Int) := od; have q387 : x13_1 < ((rd_L1 l0_0 x13_1).length : Int) := od; obtain ⟨ad387, e387, hx387_0⟩ := Kd.at_int HR386_0.out x13_1 p387 q387; cases e387; replace hx387_0 := (HB.out.cell (World.block_lt_of_cell? w _ hx387_0)).trans hx387_0; replace p387 := eq_true p387; replace q387 := eq_true q387; go_wp2; go_roundg k1
        case measure => have := HK1.out; omega
        case rel => exact ⟨(wrap64 (x4_1 + (rd (rd_L1 l0_0 x13_1) x13_1))), (wrap64 (x13_1 + 1)), e2, e2, H', ⟨by have := HK1.out; omega⟩, ⟨by exact bA BK384⟩, ⟨kB HB⟩⟩
       · rw [if_neg c11] at H; exact absurd H (by simp)
      · rw [if_neg c10] at H; exact absurd H (by simp)
     · rw [if_neg c9] at H; exact absurd H (by simp)
    · rw [if_neg c8] at H; have c8b0 : decide (x13_1 < (l0_0.length : Int)) = false := decide_eq_false c8; clear c8; simp only [Option.some.injEq, Prod.mk.injEq] at H; obtain ⟨rfl, rfl⟩ := H; go_wp2; go_ret2; exact ⟨e1, kB HB⟩
 · replace c3 := Bool.eq_false_iff.mpr c3; subst c3; rw [if_neg (show ¬ (false = true) by decide)] at H; simp only [Option.some.injEq, Prod.mk.injEq] at H; obtain ⟨rfl, rfl⟩ := H; go_enter Try.func34, Try.ntmps34; go_wp2_with (first | ((with_reducible refine gate_dst (N := 1) rfl ?_); refine box_event ?hg (N := 1) ?hd (cs := #[.slice A0_0 l0_0.length c0_0]) (t := 26) ?hr ?_; (case hd => rfl); (case hg => rfl); (case hr => exact z127_); intro gb384 hg w12 hbox hb; have BK384 := Aside0.mk (hbox); have GW384 := Aside0.mk ((by rw [hg]; exact (below_size bq) : w.heap.size ≤ gb384)); have GE384 := Aside0.mk ((by rw [hg]; exact (below_size bq) : w.heap.size ≤ gb384)); replace HB := Aside0.mk (below_step bq hb); clear hb hbox hg; have hcz13_0 : w12.cell? ⟨gb384, 0, none⟩ = some (.slice A0_0 l0_0.length c0_0) := (blk_cell BK384.out 0).trans rfl; have hfz13_0 := blk_frozen BK384.out 0) | ((with_reducible refine gate_callee (f := 33) rfl ?_); refine gL (some 8) rfl rfl Try.func33 (by kernel_rfl) rfl #[.agg #[.slice A0_0 l0_0.length c0_0]] rfl ?_; (with_reducible refine (impl_IsMatrix.calls _ _ l0_0 false _ ?side1 ?side2 A2.out).mono ?_); (case side1 => exact cC (Kd.C_below HR0_0.out HB.out)); (case side2 => exact HC0_0.out); rintro e w14 ⟨rfl, hb⟩; refine ⟨_, rfl, ?_⟩; replace BK384 := Aside0.mk (kK BK384 hb); replace HB := Aside0.mk (below_step (kB HB) hb); (try clear hb))); go_ret2; exact ⟨e1, kB HB⟩

/-! ### impl_DeterminantOf: function 35 -/
def impl_DeterminantOf.f (k : Nat) (l0_0 : List (List Int)) : Option (Int × Bool) := (impl_IsMatrix.f l0_0).bind fun t389 => (if t389 = true then ((impl_Matrix_isSmall.f l0_0 1000).bind fun t390 => (if t390 = true then ((impl_Matrix_determinant.f k l0_0).bind fun t391 => (some (t391, true))) else (some (0, false)))) else (some (0, false)))
theorem impl_DeterminantOf.mono : ∀ a0 k, LeO (impl_DeterminantOf.f k a0) (impl_DeterminantOf.f (k + 1) a0) := by
 intro a0 k; unfold impl_DeterminantOf.f
 repeat' first
  | (with_reducible exact impl_Matrix_determinant.mono _ _)
  | (with_reducible exact LeO.refl _)
  | (with_reducible exact LeO.none _)
  | (with_reducible refine LeO.ite ?_ ?_)
  | (with_reducible refine LeO.bind ?_ (fun _ => ?_))
  | exact impl_Matrix_determinant.mono _ _
  | exact LeO.none _
  | refine LeO.ite ?_ ?_
  | refine LeO.bind ?_ (fun _ => ?_)
set_option maxHeartbeats 8000000 in
set_option maxRecDepth 100000 in
theorem impl_DeterminantOf.calls (k : Nat) (A0_0 : Option Addr) (c0_0 : Nat) (l0_0 : List (List Int)) (r1 : Int) (r2 : Bool) (w : World) (hr0_0 : Kd.C (Kd.slice 3 (Kd.int .i64)) w A0_0 l0_0.length l0_0) (hc0_0 : l0_0.length ≤ c0_0) (h : impl_DeterminantOf.f k l0_0 = some (r1, r2)) :
 Calls Try.prog 35 #[.agg #[.slice A0_0 l0_0.length c0_0]] w fun e w' => e = .returned (.tuple #[.int .i64 r1, .bool r2]) ∧ Below w.heap.size w w' := by
 have hu26 := Try.underlying26; have HR0_0 := Aside0.mk hr0_0; have HC0_0 := Aside0.mk hc0_0; clear hr0_0 hc0_0; have HB := Aside0.mk (Below.refl w.heap.size w); have H : ((impl_IsMatrix.f l0_0).bind fun t389 => (if t389 = true then ((impl_Matrix_isSmall.f l0_0 1000).bind fun t390 => (if t390 = true then ((impl_Matrix_determinant.f k l0_0).bind fun t391 => (some (t391, true))) else (some (0, false)))) else (some (0, false)))) = some (r1, r2) := h; clear h; replace H := Option.bind_eq_some_iff.mp H; obtain ⟨t389, A20, H⟩ := H; replace H : (if t389 = true then ((impl_Matrix_isSmall.f l0_0 1000).bind fun t390 => (if t390 = true then ((impl_Matrix_determinant.f k l0_0).bind fun t391 => (some (t391, true))) else (some (0, false)))) else (some (0, false))) = some (r1, r2) := H; have A2 := Aside0.mk A20; clear A20; by_cases c3 : t389 = true
 ·
  subst c3; rw [if_pos rfl] at H; replace H := Option.bind_eq_some_iff.mp H; obtain ⟨t390, A40, H⟩ := H; replace H : (if t390 = true then ((impl_Matrix_determinant.f k l0_0).bind fun t391 => (some (t391, true))) else (some (0, false))) = some (r1, r2) := H; have A4 := Aside0.mk A40; clear A40; by_cases c5 : t390 = true
  · subst c5; rw [if_pos rfl] at H; replace H := Option.bind_eq_some_iff.mp H; obtain ⟨t391, A60, H⟩ := H; replace H : (some (t391, true)) = some (r1, r2) := H; have A6 := Aside0.mk A60; clear A60; simp only [Option.some.injEq, Prod.mk.injEq] at H; obtain ⟨rfl, rfl⟩ := H; go_enter Try.func35, Try.ntmps35; go_wp2_with (first | ((with_reducible refine gate_dst (N := 1) rfl ?_); refine box_event ?hg (N := 1) ?hd (cs := #[.slice A0_0 l0_0.length c0_0]) (t := 26) ?hr ?_; (case hd => rfl); (case hg => rfl); (case hr => exact z127_); intro gb388 hg w7 hbox hb; have BK388 := Aside0.mk (hbox); have GW388 := Aside0.mk ((by rw [hg]; exact (below_size bq) : w.heap.size ≤ gb388)); have GE388 := Aside0.mk ((by rw [hg]; exact (below_size bq) : w.heap.size ≤ gb388)); replace HB := Aside0.mk (below_step bq hb); clear hb hbox hg; have hcz8_0 : w7.cell? ⟨gb388, 0, none⟩ = some (.slice A0_0 l0_0.length c0_0) := (blk_cell BK388.out 0).trans rfl; have hfz8_0 := blk_frozen BK388.out 0) | ((with_reducible refine gate_callee (f := 33) rfl ?_); refine gL (some 5) rfl rfl Try.func33 (by kernel_rfl) rfl #[.agg #[.slice A0_0 l0_0.length c0_0]] rfl ?_; (with_reducible refine (impl_IsMatrix.calls _ _ l0_0 true _ ?side1 ?side2 A2.out).mono ?_); (case side1 => exact cC (Kd.C_below HR0_0.out HB.out)); (case side2 => exact HC0_0.out); rintro e w9 ⟨rfl, hb⟩; refine ⟨_, rfl, ?_⟩; replace BK388 := Aside0.mk (kK BK388 hb); replace HB := Aside0.mk (below_step (kB HB) hb); (try clear hb); have hcz10_0 : w9.cell? ⟨gb388, 0, none⟩ = some (.slice A0_0 l0_0.length c0_0) := (blk_cell BK388.out 0).trans rfl; have hfz10_0 := blk_frozen BK388.out 0) | (go_at_call 63; (with_reducible refine (impl_Matrix_isSmall.calls _ _ l0_0 1000 true _ ?side1 ?side2 A4.out).mono ?_); (case side1 => exact cC (Kd.C_below HR0_0.out HB.out)); (case side2 => exact HC0_0.out); rintro e w11 ⟨rfl, hb⟩; replace BK388 := Aside0.mk (kK BK388 hb); replace HB := Aside0.mk (below_step (kB HB) hb); (try clear hb); have hcz12_0 : w11.cell? ⟨gb388, 0, none⟩ = some (.slice A0_0 l0_0.length c0_0) := (blk_cell BK388.out 0).trans rfl; have hfz12_0 := blk_frozen BK388.out 0) | ((with_reducible refine gate_callee (f := 64) rfl ?_); refine gL (some 13) rfl rfl Try.func64 (by kernel_rfl) rfl #[.agg #[.slice A0_0 l0_0.length c0_0]] rfl ?_; (with_reducible refine (impl_Matrix_determinant.calls k _ _ l0_0 t391 _ ?side1 ?side2 A6.out).mono ?_); (case side1 => exact cC (Kd.C_below HR0_0.out HB.out)); (case side2 => exact HC0_0.out); rintro e w13 ⟨rfl, hb⟩; refine ⟨_, rfl, ?_⟩; replace BK388 := Aside0.mk (kK BK388 hb); replace HB := Aside0.mk (below_step (kB HB) hb); (try clear hb))); go_ret2; exact ⟨e1, kB HB⟩
  · replace c5 := Bool.eq_false_iff.mpr c5; subst c5; rw [if_neg (show ¬ (false = true) by decide)] at H; simp only [Option.some.injEq, Prod.mk.injEq] at H; obtain ⟨rfl, rfl⟩ := H; go_enter Try.func35, Try.ntmps35; go_wp2_with (first | ((with_reducible refine gate_dst (N := 1) rfl ?_); refine box_event ?hg (N := 1) ?hd (cs := #[.slice A0_0 l0_0.length c0_0]) (t := 26) ?hr ?_; (case hd => rfl); (case hg => rfl); (case hr => exact z127_); intro gb388 hg w14 hbox hb; have BK388 := Aside0.mk (hbox); have GW388 := Aside0.mk ((by rw [hg]; exact (below_size bq) : w.heap.size ≤ gb388)); have GE388 := Aside0.mk ((by rw [hg]; exact (below_size bq) : w.heap.size ≤ gb388)); replace HB := Aside0.mk (below_step bq hb); clear hb hbox hg; have hcz15_0 : w14.cell? ⟨gb388, 0, none⟩ = some (.slice A0_0 l0_0.length c0_0) := (blk_cell BK388.out 0).trans rfl; have hfz15_0 := blk_frozen BK388.out 0) | ((with_reducible refine gate_callee (f := 33) rfl ?_); refine gL (some 5) rfl rfl Try.func33 (by kernel_rfl) rfl #[.agg #[.slice A0_0 l0_0.length c0_0]] rfl ?_; (with_reducible refine (impl_IsMatrix.calls _ _ l0_0 true _ ?side1 ?side2 A2.out).mono ?_); (case side1 => exact cC (Kd.C_below HR0_0.out HB.out)); (case side2 => exact HC0_0.out); rintro e w16 ⟨rfl, hb⟩; refine ⟨_, rfl, ?_⟩; replace BK388 := Aside0.mk (kK BK388 hb); replace HB := Aside0.mk (below_step (kB HB) hb); (try clear hb); have hcz17_0 : w16.cell? ⟨gb388, 0, none⟩ = some (.slice A0_0 l0_0.length c0_0) := (blk_cell BK388.out 0).trans rfl; have hfz17_0 := blk_frozen BK388.out 0) | (go_at_call 63; (with_reducible refine (impl_Matrix_isSmall.calls _ _ l0_0 1000 false _ ?side1 ?side2 A4.out).mono ?_); (case side1 => exact cC (Kd.C_below HR0_0.out HB.out)); (case side2 => exact HC0_0.out); rintro e w18 ⟨rfl, hb⟩; replace BK388 := Aside0.mk (kK BK388 hb); replace HB := Aside0.mk (below_step (kB HB) hb); (try clear hb))); go_ret2; exact ⟨e1, kB HB⟩
 · replace c3 := Bool.eq_false_iff.mpr c3; subst c3; rw [if_neg (show ¬ (false = true) by decide)] at H; simp only [Option.some.injEq, Prod.mk.injEq] at H; obtain ⟨rfl, rfl⟩ := H; go_enter Try.func35, Try.ntmps35; go_wp2_with (first | ((with_reducible refine gate_dst (N := 1) rfl ?_); refine box_event ?hg (N := 1) ?hd (cs := #[.slice A0_0 l0_0.length c0_0]) (t := 26) ?hr ?_; (case hd => rfl); (case hg => rfl); (case hr => exact z127_); intro gb388 hg w19 hbox hb; have BK388 := Aside0.mk (hbox); have GW388 := Aside0.mk ((by rw [hg]; exact (below_size bq) : w.heap.size ≤ gb388)); have GE388 := Aside0.mk ((by rw [hg]; exact (below_size bq) : w.heap.size ≤ gb388)); replace HB := Aside0.mk (below_step bq hb); clear hb hbox hg; have hcz20_0 : w19.cell? ⟨gb388, 0, none⟩ = some (.slice A0_0 l0_0.length c0_0) := (blk_cell BK388.out 0).trans rfl; have hfz20_0 := blk_frozen BK388.out 0) | ((with_reducible refine gate_callee (f := 33) rfl ?_); refine gL (some 5) rfl rfl Try.func33 (by kernel_rfl) rfl #[.agg #[.slice A0_0 l0_0.length c0_0]] rfl ?_; (with_reducible refine (impl_IsMatrix.calls _ _ l0_0 false _ ?side1 ?side2 A2.out).mono ?_); (case side1 => exact cC (Kd.C_below HR0_0.out HB.out)); (case side2 => exact HC0_0.out); rintro e w21 ⟨rfl, hb⟩; refine ⟨_, rfl, ?_⟩; replace BK388 := Aside0.mk (kK BK388 hb); replace HB := Aside0.mk (below_step (kB HB) hb); (try clear hb))); go_ret2; exact ⟨e1, kB HB⟩

/-! ### spec_DrawIsMatrix: function 98 -/
def spec_DrawIsMatrix.f (k : Nat) (l0 : List Int) : Option ((List (List Int))) := (spec_l1Cur_size.f l0 0 0).bind fun bt394 => ((spec_l1Cur_matrix.f k l0 bt394.2.1 bt394.2.2 bt394.1).bind fun bt397 => (some bt397.1))
theorem spec_DrawIsMatrix.mono : ∀ a0 k, LeO (spec_DrawIsMatrix.f k a0) (spec_DrawIsMatrix.f (k + 1) a0) := by
 intro a0 k; unfold spec_DrawIsMatrix.f
 repeat' first
  | (with_reducible exact spec_l1Cur_matrix.mono _ _ _ _ _)
  | (with_reducible exact LeO.refl _)
  | (with_reducible exact LeO.none _)
  | (with_reducible refine LeO.ite ?_ ?_)
  | (with_reducible refine LeO.bind ?_ (fun _ => ?_))
  | exact spec_l1Cur_matrix.mono _ _ _ _ _
  | exact LeO.none _
  | refine LeO.ite ?_ ?_
  | refine LeO.bind ?_ (fun _ => ?_)
set_option maxHeartbeats 8000000 in
set_option maxRecDepth 100000 in
theorem spec_DrawIsMatrix.calls (k : Nat) (A0 : Option Addr) (c0 : Nat) (l0 : List Int) (r : List (List Int)) (w : World) (hr0 : Kd.C (Kd.int .u8) w A0 l0.length l0) (hc0 : l0.length ≤ c0) (h : spec_DrawIsMatrix.f k l0 = some r) :
 Calls Try.prog 98 #[.slice A0 l0.length c0] w fun e w' => ∃ v0_ : Value, e = .returned (.agg #[v0_]) ∧ Kd.V (Kd.slice 3 (Kd.int .i64)) 34 w' w.heap.size (fun k_ => (w.heap.size ≤ k_)) v0_ r ∧ Below w.heap.size w w' := by
 have hu26 := Try.underlying26; have hu92 := Try.underlying92; have HR0 := Aside0.mk hr0; have HC0 := Aside0.mk hc0; clear hr0 hc0; have HB := Aside0.mk (Below.refl w.heap.size w); have H : ((spec_l1Cur_size.f l0 0 0).bind fun bt394 => ((spec_l1Cur_matrix.f k l0 bt394.2.1 bt394.2.2 bt394.1).bind fun bt397 => (some bt397.1))) = some r := h; clear h; replace H := Option.bind_eq_some_iff.mp H; obtain ⟨⟨t394, t395, t396⟩, A20, H⟩ := H; replace H : ((spec_l1Cur_matrix.f k l0 t395 t396 t394).bind fun bt397 => (some bt397.1)) = some r := H; have A2 := Aside0.mk A20; clear A20; replace H := Option.bind_eq_some_iff.mp H; obtain ⟨⟨t397, t400, t401⟩, A30, H⟩ := H; replace H : (some t397) = some r := H; have A3 := Aside0.mk A30; clear A30; obtain rfl := Option.some.inj H; go_enter Try.func98, Try.ntmps98; go_wp2_with (first | ((with_reducible refine gate_dst (N := 2) rfl ?_); refine box_event ?hg (N := 2) ?hd (cs := #[.slice none 0 0]) (t := 26) ?hr ?_; (case hd => rfl); (case hg => rfl); (case hr => exact z127_); intro gb392 hg w4 hbox hb; have BK392 := Aside0.mk (hbox); have GW392 := Aside0.mk ((by rw [hg]; exact (below_size bq) : w.heap.size ≤ gb392)); have GE392 := Aside0.mk ((by rw [hg]; exact (below_size bq) : w.heap.size ≤ gb392)); replace HB := Aside0.mk (below_step bq hb); clear hb hbox hg) | ((with_reducible refine gate_dst (N := 6) rfl ?_); refine box_event ?hg (N := 6) ?hd (cs := #[.slice A0 l0.length c0, .int .i64 0, .int .u64 0]) (t := 92) ?hr ?_; (case hd => rfl); (case hg => rfl); (case hr => exact z127_); intro gb393 hg w5 hbox hb; have GW393 := gW HB hg; have GE393 := gW HB hg; have NB392_393 := nL BK392 hg; have NB393_392 := nR BK392 hg; replace BK392 := Aside0.mk (kK BK392 hb); have HI393 := Aside0.mk ((show IsS92 w w5 gb393 l0 0 0 from ⟨A0, c0, hbox, (by rw [hg]; exact (below_size (kB HB)) : w.heap.size ≤ gb393), HR0.out⟩)); replace HB := Aside0.mk (below_step (kB HB) hb); clear hb hbox hg) | ((with_reducible refine gate_callee (f := 89) rfl ?_); refine gL (some 9) rfl rfl Try.func89 (by kernel_rfl) rfl #[.pointer (some ⟨gb393, 0, none⟩)] rfl ?_; (with_reducible refine (spec_l1Cur_size.calls gb393 l0 0 0 t394 t395 t396 w _ ?side1 ?side2 A2.out).mono ?_); (case side1 => exact z77_); (case side2 => exact z74_); rintro e w6 ⟨rfl, hi, hb, hk⟩; refine ⟨_, rfl, ?_⟩; replace BK392 := Aside0.mk (KeepBut.blk hk (g' := gb392) (o := .cells #[.slice none 0 0] 26 (0, 0)) (bA BK392) NB392_393.out (by simp)); replace HB := Aside0.mk (hb); replace HI393 := Aside0.mk (hi); (try clear hb); (try clear hk); (try clear hi)) | ((with_reducible refine gate_callee (f := 91) rfl ?_); refine gL (some 10) rfl rfl Try.func91 (by kernel_rfl) rfl #[.pointer (some ⟨gb393, 0, none⟩), .int .i64 t394] rfl ?_; (with_reducible refine (spec_l1Cur_matrix.calls k gb393 l0 t395 t396 t394 t397 t400 t401 w _ ?side1 ?side2 A3.out).mono ?_); (case side1 => exact z77_); (case side2 => exact z74_); rintro e w7 ⟨v398, rfl, ho0, hi, hb, hk⟩; refine ⟨_, rfl, ?_⟩; have HO399 := Aside0.mk (Kd.V_lower (Kd.V_mono (ok' := fun k_ => (w.heap.size ≤ k_) ∧ k_ ≠ gb392 ∧ k_ ≠ gb393) ho0 (fun k_ hk_ => ⟨(Nat.le_trans (below_size z74_) hk_), (Kd.freshB (g := gb392) (o := .cells #[.slice none 0 0] 26 (0, 0)) (bA BK392) k_ hk_), (IsS92.fresh z77_ k_ hk_)⟩)) (below_size z74_)); replace BK392 := Aside0.mk (KeepBut.blk hk (g' := gb392) (o := .cells #[.slice none 0 0] 26 (0, 0)) (bA BK392) NB392_393.out (by simp)); replace HB := Aside0.mk (hb); replace HI393 := Aside0.mk (hi); (try clear hb); (try clear hk); (try clear hi); (try clear ho0); obtain ⟨Ao8, co8, eo8⟩ := Kd.V_slice HO399.out; subst eo8; have hnb9 := NB392_393.out; have hnc9 := NB393_392.out; have hcz10_0 : w7.cell? ⟨gb392, 0, none⟩ = some (.slice none 0 0) := (blk_cell BK392.out 0).trans rfl; have hfz10_0 := blk_frozen BK392.out 0)); refine bodyPost_ret (results_cell_row rfl _ _ gb392 26 #[.slice Ao8 t397.length co8] (0, 0) _ rfl (by refine bR ?_; refine blk_put (cs := #[.slice none 0 0]) ?_ 0 _ rfl; exact bA BK392) Try.underlying26 rfl (by kernel_rfl)) rfl ?_; exact ⟨_, e1, by (with_reducible repeat (first | apply Kd.V_alloc | apply Kd.V_drewN | apply Kd.V_drew)); exact Kd.V_mono (Kd.V_far (p := ⟨gb392, 0, none⟩) (Kd.V_mono HO399.out (fun k_ hk => (⟨hk, hk.2.1⟩ : _ ∧ k_ ≠ gb392))) (fun _ hk => hk.2) (.slice Ao8 t397.length co8)) (fun _ hk => hk.1.1), z74_⟩

/-! ### spec_DrawInverseOf: function 36 -/
def spec_DrawInverseOf.f (k : Nat) (l0 : List Int) : Option ((List (List Int))) := (spec_DrawIsMatrix.f k l0).bind fun t403 => (some t403)
theorem spec_DrawInverseOf.mono : ∀ a0 k, LeO (spec_DrawInverseOf.f k a0) (spec_DrawInverseOf.f (k + 1) a0) := by
 intro a0 k; unfold spec_DrawInverseOf.f
 repeat' first
  | (with_reducible exact spec_DrawIsMatrix.mono _ _)
  | (with_reducible exact LeO.refl _)
  | (with_reducible exact LeO.none _)
  | (with_reducible refine LeO.ite ?_ ?_)
  | (with_reducible refine LeO.bind ?_ (fun _ => ?_))
  | exact spec_DrawIsMatrix.mono _ _
  | exact LeO.none _
  | refine LeO.ite ?_ ?_
  | refine LeO.bind ?_ (fun _ => ?_)
set_option maxHeartbeats 8000000 in
set_option maxRecDepth 100000 in
theorem spec_DrawInverseOf.calls (k : Nat) (A0 : Option Addr) (c0 : Nat) (l0 : List Int) (r : List (List Int)) (w : World) (hr0 : Kd.C (Kd.int .u8) w A0 l0.length l0) (hc0 : l0.length ≤ c0) (h : spec_DrawInverseOf.f k l0 = some r) :
 Calls Try.prog 36 #[.slice A0 l0.length c0] w fun e w' => ∃ v0_ : Value, e = .returned (.agg #[v0_]) ∧ Kd.V (Kd.slice 3 (Kd.int .i64)) 34 w' w.heap.size (fun k_ => (w.heap.size ≤ k_)) v0_ r ∧ Below w.heap.size w w' := by
 have hu26 := Try.underlying26; have HR0 := Aside0.mk hr0; have HC0 := Aside0.mk hc0; clear hr0 hc0; have HB := Aside0.mk (Below.refl w.heap.size w); have H : ((spec_DrawIsMatrix.f k l0).bind fun t403 => (some t403)) = some r := h; clear h; replace H := Option.bind_eq_some_iff.mp H; obtain ⟨t403, A20, H⟩ := H; replace H : (some t403) = some r := H; have A2 := Aside0.mk A20; clear A20; obtain rfl := Option.some.inj H; go_enter Try.func36, Try.ntmps36; go_wp2_with (first | ((with_reducible refine gate_dst (N := 2) rfl ?_); refine box_event ?hg (N := 2) ?hd (cs := #[.slice none 0 0]) (t := 26) ?hr ?_; (case hd => rfl); (case hg => rfl); (case hr => exact z127_); intro gb402 hg w3 hbox hb; have BK402 := Aside0.mk (hbox); have GW402 := Aside0.mk ((by rw [hg]; exact (below_size bq) : w.heap.size ≤ gb402)); have GE402 := Aside0.mk ((by rw [hg]; exact (below_size bq) : w.heap.size ≤ gb402)); replace HB := Aside0.mk (below_step bq hb); clear hb hbox hg) | ((with_reducible refine gate_callee (f := 98) rfl ?_); refine gL (some 4) rfl rfl Try.func98 (by kernel_rfl) rfl #[.slice A0 l0.length c0] rfl ?_; (with_reducible refine (spec_DrawIsMatrix.calls k _ _ l0 t403 _ ?side1 ?side2 A2.out).mono ?_); (case side1 => exact cC (Kd.C_below HR0.out HB.out)); (case side2 => exact HC0.out); rintro e w4 ⟨v404, rfl, ho0, hb⟩; refine ⟨_, rfl, ?_⟩; have HO405 := Aside0.mk (Kd.V_lower (Kd.V_mono (ok' := fun k_ => (w.heap.size ≤ k_) ∧ k_ ≠ gb402) ho0 (fun k_ hk_ => ⟨(Nat.le_trans (below_size (kB HB)) hk_), (Kd.freshB (g := gb402) (o := .cells #[.slice none 0 0] 26 (0, 0)) (bA BK402) k_ hk_)⟩)) (below_size (kB HB))); replace BK402 := Aside0.mk (kK BK402 hb); replace HB := Aside0.mk (below_step (kB HB) hb); (try clear hb); (try clear ho0); obtain ⟨Ao5, co5, eo5⟩ := Kd.V_slice HO405.out; subst eo5; have hcz6_0 : w4.cell? ⟨gb402, 0, none⟩ = some (.slice none 0 0) := (blk_cell BK402.out 0).trans rfl; have hfz6_0 := blk_frozen BK402.out 0)); refine bodyPost_ret (results_cell_row rfl _ _ gb402 26 #[.slice Ao5 t403.length co5] (0, 0) _ rfl (by refine bR ?_; refine blk_put (cs := #[.slice none 0 0]) ?_ 0 _ rfl; exact bA BK402) Try.underlying26 rfl (by kernel_rfl)) rfl ?_; exact ⟨_, e1, by (with_reducible repeat (first | apply Kd.V_alloc | apply Kd.V_drewN | apply Kd.V_drew)); exact Kd.V_mono (Kd.V_far (p := ⟨gb402, 0, none⟩) (Kd.V_mono HO405.out (fun k_ hk => (⟨hk, hk.2⟩ : _ ∧ k_ ≠ gb402))) (fun _ hk => hk.2) (.slice Ao5 t403.length co5)) (fun _ hk => hk.1.1), kB HB⟩

/-! ### impl_unit: function 82 -/
def impl_unit.f (a0 : Int) : Option (List (List Int)) := if 0 ≤ a0 then (if a0 ≤ 1000 then some (Go.Proofs.Ytldkkfpodldbgaa.G.unitL a0.toNat) else none) else none
theorem impl_unit.calls (a0 : Int) (r : List (List Int)) (w : World) (h : impl_unit.f a0 = some r) :
 Calls Try.prog 82 #[.int .i64 a0] w fun e w' => ∃ v0_ : Value, e = .returned (.agg #[v0_]) ∧ Kd.S (Kd.slice 3 (Kd.int .i64)) 34 w' w.heap.size (fun _ => True) v0_ r ∧ Below w.heap.size w w' := by
 unfold impl_unit.f at h
 split at h
 ·
  rename_i h0
  split at h
  · rename_i h1; obtain rfl := Option.some.inj h; have g := Go.Proofs.Ytldkkfpodldbgaa.G.unit_any a0.toNat w (by omega); rw [Int.toNat_of_nonneg h0] at g; exact g
  · cases h
 · cases h

/-! ### impl_UnitMatrix: function 37 -/
def impl_UnitMatrix.f (a0 : Int) : Option ((List (List Int)) × Bool) := (impl_within.f a0 1 4).bind fun t407 => (if t407 = true then ((impl_unit.f a0).bind fun t408 => (some (t408, true))) else (some (([] : List (List Int)), false)))
set_option maxHeartbeats 8000000 in
set_option maxRecDepth 100000 in
theorem impl_UnitMatrix.calls (a0 : Int) (r1 : List (List Int)) (r2 : Bool) (w : World) (h : impl_UnitMatrix.f a0 = some (r1, r2)) :
 Calls Try.prog 37 #[.int .i64 a0] w fun e w' => ∃ v0_ : Value, e = .returned (.tuple #[.agg #[v0_], .bool r2]) ∧ Kd.S (Kd.slice 3 (Kd.int .i64)) 34 w' w.heap.size (fun _ => True) v0_ r1 ∧ Below w.heap.size w w' := by
 have hu26 := Try.underlying26; have HB := Aside0.mk (Below.refl w.heap.size w); have H : ((impl_within.f a0 1 4).bind fun t407 => (if t407 = true then ((impl_unit.f a0).bind fun t408 => (some (t408, true))) else (some (([] : List (List Int)), false)))) = some (r1, r2) := h; clear h; replace H := Option.bind_eq_some_iff.mp H; obtain ⟨t407, A20, H⟩ := H; replace H : (if t407 = true then ((impl_unit.f a0).bind fun t408 => (some (t408, true))) else (some (([] : List (List Int)), false))) = some (r1, r2) := H; have A2 := Aside0.mk A20; clear A20; by_cases c3 : t407 = true
 · subst c3; rw [if_pos rfl] at H; replace H := Option.bind_eq_some_iff.mp H; obtain ⟨t408, A40, H⟩ := H; replace H : (some (t408, true)) = some (r1, r2) := H; have A4 := Aside0.mk A40; clear A40; simp only [Option.some.injEq, Prod.mk.injEq] at H; obtain ⟨rfl, rfl⟩ := H; go_enter Try.func37, Try.ntmps37; go_wp2_with (first | ((with_reducible refine gate_dst (N := 2) rfl ?_); refine box_event ?hg (N := 2) ?hd (cs := #[.slice none 0 0]) (t := 26) ?hr ?_; (case hd => rfl); (case hg => rfl); (case hr => exact z127_); intro gb406 hg w5 hbox hb; have BK406 := Aside0.mk (hbox); have GW406 := Aside0.mk ((by rw [hg]; exact (below_size bq) : w.heap.size ≤ gb406)); have GE406 := Aside0.mk ((by rw [hg]; exact (below_size bq) : w.heap.size ≤ gb406)); replace HB := Aside0.mk (below_step bq hb); clear hb hbox hg) | ((with_reducible refine gate_callee (f := 79) rfl ?_); refine gL (some 5) rfl rfl Try.func79 (by kernel_rfl) rfl #[.int .i64 a0, .int .i64 1, .int .i64 4] rfl ?_; (with_reducible refine (impl_within.calls a0 1 4 true _ A2.out).mono ?_); rintro e w' ⟨rfl, ⟨nd, rfl⟩⟩; refine ⟨_, rfl, ?_⟩; (try (rw [drewN_self w5]; generalize hq_ : World.drewN w5 _ = w5; have n0_ : Aside0 (w5.heap[gb406]? = some (.cells #[.slice none 0 0] 26 (0, 0))) := ⟨by rw [← hq_]; exact (bA BK406)⟩; have n1_ : Aside0 (Below w.heap.size w w5) := ⟨by rw [← hq_]; exact (kB HB)⟩; clear BK406 HB hq_; have BK406 := n0_; have HB := n1_; clear n0_ n1_))) | ((with_reducible refine gate_callee (f := 82) rfl ?_); refine gL (some 9) rfl rfl Try.func82 (by kernel_rfl) rfl #[.int .i64 a0] rfl ?_; (with_reducible refine (impl_unit.calls a0 t408 _ A4.out).mono ?_); rintro e w6 ⟨v409, rfl, ho0, hb⟩; refine ⟨_, rfl, ?_⟩; have HO410 := Aside0.mk (Kd.S_lower ho0 (below_size (kB HB))); replace BK406 := Aside0.mk (kK BK406 hb); replace HB := Aside0.mk (below_step (kB HB) hb); (try clear hb); (try clear ho0); obtain ⟨Ao7, co7, eo7⟩ := Kd.S_slice HO410.out; subst eo7; have hcz8_0 : w6.cell? ⟨gb406, 0, none⟩ = some (.slice none 0 0) := (blk_cell BK406.out 0).trans rfl; have hfz8_0 := blk_frozen BK406.out 0)); refine bodyPost_ret (results_ct rfl _ _ gb406 26 #[.slice Ao7 t408.length co7] (0, 0) _ rfl (by refine bR ?_; refine blk_put (cs := #[.slice none 0 0]) ?_ 0 _ rfl; exact bA BK406) Try.underlying26 rfl (by kernel_rfl)) rfl ?_; exact ⟨_, e1, by (with_reducible repeat (first | apply Kd.S_alloc | apply Kd.S_drewN | apply Kd.S_drew)); exact Kd.S_mono (Kd.S_far (p := ⟨gb406, 0, none⟩) (Kd.S_types HO410.out BK406.out (by decide)) (fun _ hk => hk.2) (.slice Ao7 t408.length co7)) (fun _ hk => trivial), kB HB⟩
 · replace c3 := Bool.eq_false_iff.mpr c3; subst c3; rw [if_neg (show ¬ (false = true) by decide)] at H; simp only [Option.some.injEq, Prod.mk.injEq] at H; obtain ⟨rfl, rfl⟩ := H; go_enter Try.func37, Try.ntmps37; go_wp2_with (first | ((with_reducible refine gate_dst (N := 2) rfl ?_); refine box_event ?hg (N := 2) ?hd (cs := #[.slice none 0 0]) (t := 26) ?hr ?_; (case hd => rfl); (case hg => rfl); (case hr => exact z127_); intro gb406 hg w9 hbox hb; have BK406 := Aside0.mk (hbox); have GW406 := Aside0.mk ((by rw [hg]; exact (below_size bq) : w.heap.size ≤ gb406)); have GE406 := Aside0.mk ((by rw [hg]; exact (below_size bq) : w.heap.size ≤ gb406)); replace HB := Aside0.mk (below_step bq hb); clear hb hbox hg) | ((with_reducible refine gate_callee (f := 79) rfl ?_); refine gL (some 5) rfl rfl Try.func79 (by kernel_rfl) rfl #[.int .i64 a0, .int .i64 1, .int .i64 4] rfl ?_; (with_reducible refine (impl_within.calls a0 1 4 false _ A2.out).mono ?_); rintro e w' ⟨rfl, ⟨nd, rfl⟩⟩; refine ⟨_, rfl, ?_⟩; (try (rw [drewN_self w9]; generalize hq_ : World.drewN w9 _ = w9; have n0_ : Aside0 (w9.heap[gb406]? = some (.cells #[.slice none 0 0] 26 (0, 0))) := ⟨by rw [← hq_]; exact (bA BK406)⟩; have n1_ : Aside0 (Below w.heap.size w w9) := ⟨by rw [← hq_]; exact (kB HB)⟩; clear BK406 HB hq_; have BK406 := n0_; have HB := n1_; clear n0_ n1_)); have hcz10_0 : w9.cell? ⟨gb406, 0, none⟩ = some (.slice none 0 0) := (blk_cell BK406.out 0).trans rfl; have hfz10_0 := blk_frozen BK406.out 0)); refine bodyPost_ret (results_ct rfl _ _ gb406 26 #[.slice none 0 0] (0, 0) _ rfl (by refine bR ?_; refine blk_put (cs := #[.slice none 0 0]) ?_ 0 _ rfl; exact bA BK406) Try.underlying26 rfl (by kernel_rfl)) rfl ?_; exact ⟨_, e1, z90_, kB HB⟩

/-! ### spec_DrawUnitMatrix: function 38 -/
def spec_DrawUnitMatrix.f (l0 : List Int) : Option (Int) := (spec_l1Cur_among.f l0 0 0 (([0, 1, 2, 3, 4, 5, (-1)] : List Int))).bind fun bt415 => (some bt415.1)
set_option maxHeartbeats 8000000 in
set_option maxRecDepth 100000 in
theorem spec_DrawUnitMatrix.calls (A0 : Option Addr) (c0 : Nat) (l0 : List Int) (r : Int) (w : World) (hr0 : Kd.C (Kd.int .u8) w A0 l0.length l0) (hc0 : l0.length ≤ c0) (h : spec_DrawUnitMatrix.f l0 = some r) :
 Calls Try.prog 38 #[.slice A0 l0.length c0] w fun e w' => e = .returned (.int .i64 r) ∧ Below w.heap.size w w' := by
 have hu92 := Try.underlying92; have HR0 := Aside0.mk hr0; have HC0 := Aside0.mk hc0; clear hr0 hc0; have HB := Aside0.mk (Below.refl w.heap.size w); have H : ((spec_l1Cur_among.f l0 0 0 (([0, 1, 2, 3, 4, 5, (-1)] : List Int))).bind fun bt415 => (some bt415.1)) = some r := h; clear h; obtain ⟨y412, hy412⟩ : ∃ y_ : List Int, y_ = (([0, 1, 2, 3, 4, 5, (-1)] : List Int)) := ⟨_, rfl⟩; replace H : ((spec_l1Cur_among.f l0 0 0 y412).bind fun bt415 => (some bt415.1)) = some r := by first | (rw [hy412]; with_reducible exact H) | (have H2_ := (Option.bind_some _ _).symm.trans H; rw [hy412]; with_reducible exact H2_) | (have H2_ := (Option.bind_some _ _).symm.trans H; with_reducible exact H2_) | with_reducible exact H | (rw [hy412]; exact H) | exact H
 have Ny412 := Aside0.mk hy412; clear hy412; replace H := Option.bind_eq_some_iff.mp H; obtain ⟨⟨t415, t416, t417⟩, A20, H⟩ := H; replace H : (some t415) = some r := H; have A2 := Aside0.mk A20; clear A20; obtain rfl := Option.some.inj H; go_enter Try.func38, Try.ntmps38; go_wp2_with (first | ((with_reducible refine gate_dst (N := 6) rfl ?_); refine box_event ?hg (N := 6) ?hd (cs := #[.slice A0 l0.length c0, .int .i64 0, .int .u64 0]) (t := 92) ?hr ?_; (case hd => rfl); (case hg => rfl); (case hr => exact z127_); intro gb411 hg w3 hbox hb; have GW411 := Aside0.mk ((by rw [hg]; exact (below_size bq) : w.heap.size ≤ gb411)); have GE411 := Aside0.mk ((by rw [hg]; exact (below_size bq) : w.heap.size ≤ gb411)); have HI411 := Aside0.mk ((show IsS92 w w3 gb411 l0 0 0 from ⟨A0, c0, hbox, (by rw [hg]; exact (below_size bq) : w.heap.size ≤ gb411), HR0.out⟩)); replace HB := Aside0.mk (below_step bq hb); clear hb hbox hg) | ((with_reducible refine gate_dst (N := 8) rfl ?_); refine Kd.R_lit (Kd.int .i64) _ 3 ?hg (N := 8) ?hd (xs := ([0, 1, 2, 3, 4, 5, (-1)] : List Int)) (inner := [.int .i64 0, .int .i64 1, .int .i64 2, .int .i64 3, .int .i64 4, .int .i64 5, .int .i64 (-1)]) (ok := fun _ => True) (okp := fun _ => True) ?hr ?hp (fun _ hk => hk) trivial (Below.refl _ _) (Nat.le_refl _) (by simp) ?_; (case hd => rfl); (case hg => rfl); (case hr => exact z127_); (case hp => exact (Reps.one (show Kd.M (Kd.int .i64) _ _ _ 0 [.int .i64 0] from rfl) (Reps.one (show Kd.M (Kd.int .i64) _ _ _ 1 [.int .i64 1] from rfl) (Reps.one (show Kd.M (Kd.int .i64) _ _ _ 2 [.int .i64 2] from rfl) (Reps.one (show Kd.M (Kd.int .i64) _ _ _ 3 [.int .i64 3] from rfl) (Reps.one (show Kd.M (Kd.int .i64) _ _ _ 4 [.int .i64 4] from rfl) (Reps.one (show Kd.M (Kd.int .i64) _ _ _ 5 [.int .i64 5] from rfl) (Reps.one (show Kd.M (Kd.int .i64) _ _ _ (-1) [.int .i64 (-1)] from rfl) (Reps.none _ _))))))))); intro v413 w4 ho5 hb hg_ hnew_; clear hg_ hnew_; (first | rw [← Ny412.out] at ho5 | (simp only [Int.reduceToNat] at ho5; rw [← Ny412.out] at ho5)); have HO414 := Aside0.mk (Kd.R_lower ho5 (below_size z79_)); replace HB := Aside0.mk (below_step z79_ hb); replace HI411 := Aside0.mk (IsS92.below z82_ hb); clear hb ho5; obtain ⟨Ao6, co6, eo6⟩ := Kd.R_slice HO414.out; subst eo6) | ((with_reducible refine gate_callee (f := 99) rfl ?_); refine gL (some 9) rfl rfl Try.func99 (by kernel_rfl) rfl #[.pointer (some ⟨gb411, 0, none⟩), .slice Ao6 y412.length co6] rfl ?_; (with_reducible refine (spec_l1Cur_among.calls gb411 l0 0 0 _ _ y412 t415 t416 t417 w _ ?side1 ?side2 ?side3 ?side4 ?side5 A2.out).mono ?_); (case side1 => exact z82_); (case side2 => exact z79_); (case side3 => exact cC (Kd.R_reads' HO414.out).2.2); (case side4 => exact (Kd.R_reads' HO414.out).2.1); (case side5 => exact far_slice (IsS92.own_ne HI411.out HO414.out (by decide))); rintro e w7 ⟨rfl, hi, hb, hk⟩; refine ⟨_, rfl, ?_⟩; replace HO414 := Aside0.mk (Kd.R_mono (Kd.R_keep (IsS92.apart (show IsS92 w _ gb411 l0 0 0 from z82_) (rA HO414) (by decide)) hk (fun _ h => h.2)) (fun _ h => h.1)); replace HB := Aside0.mk (hb); replace HI411 := Aside0.mk (hi); (try clear hb); (try clear hk); (try clear hi))); go_ret; exact ⟨e1, z79_⟩

/-! ### spec_UnitMatrix: function 39 -/
def spec_UnitMatrix.f (k : Nat) (a0 : Int) : Option ((List (List Int)) × Bool) := (spec_l1In.f a0 1 4).bind fun t419 => (if t419 = true then ((spec_foUnit.f k a0).bind fun t420 => (some (t420, true))) else (some (([] : List (List Int)), false)))
theorem spec_UnitMatrix.mono : ∀ a0 k, LeO (spec_UnitMatrix.f k a0) (spec_UnitMatrix.f (k + 1) a0) := by
 intro a0 k; unfold spec_UnitMatrix.f
 repeat' first
  | (with_reducible exact spec_foUnit.mono _ _)
  | (with_reducible exact LeO.refl _)
  | (with_reducible exact LeO.none _)
  | (with_reducible refine LeO.ite ?_ ?_)
  | (with_reducible refine LeO.bind ?_ (fun _ => ?_))
  | exact spec_foUnit.mono _ _
  | exact LeO.none _
  | refine LeO.ite ?_ ?_
  | refine LeO.bind ?_ (fun _ => ?_)
set_option maxHeartbeats 8000000 in
set_option maxRecDepth 100000 in
theorem spec_UnitMatrix.calls (k : Nat) (a0 : Int) (r1 : List (List Int)) (r2 : Bool) (w : World) (h : spec_UnitMatrix.f k a0 = some (r1, r2)) :
 Calls Try.prog 39 #[.int .i64 a0] w fun e w' => ∃ v0_ : Value, e = .returned (.tuple #[.agg #[v0_], .bool r2]) ∧ Kd.S (Kd.slice 3 (Kd.int .i64)) 34 w' w.heap.size (fun _ => True) v0_ r1 ∧ Below w.heap.size w w' := by
 have hu26 := Try.underlying26; have HB := Aside0.mk (Below.refl w.heap.size w); have H : ((spec_l1In.f a0 1 4).bind fun t419 => (if t419 = true then ((spec_foUnit.f k a0).bind fun t420 => (some (t420, true))) else (some (([] : List (List Int)), false)))) = some (r1, r2) := h; clear h; replace H := Option.bind_eq_some_iff.mp H; obtain ⟨t419, A20, H⟩ := H; replace H : (if t419 = true then ((spec_foUnit.f k a0).bind fun t420 => (some (t420, true))) else (some (([] : List (List Int)), false))) = some (r1, r2) := H; have A2 := Aside0.mk A20; clear A20; by_cases c3 : t419 = true
 · subst c3; rw [if_pos rfl] at H; replace H := Option.bind_eq_some_iff.mp H; obtain ⟨t420, A40, H⟩ := H; replace H : (some (t420, true)) = some (r1, r2) := H; have A4 := Aside0.mk A40; clear A40; simp only [Option.some.injEq, Prod.mk.injEq] at H; obtain ⟨rfl, rfl⟩ := H; go_enter Try.func39, Try.ntmps39; go_wp2_with (first | ((with_reducible refine gate_dst (N := 2) rfl ?_); refine box_event ?hg (N := 2) ?hd (cs := #[.slice none 0 0]) (t := 26) ?hr ?_; (case hd => rfl); (case hg => rfl); (case hr => exact z127_); intro gb418 hg w5 hbox hb; have BK418 := Aside0.mk (hbox); have GW418 := Aside0.mk ((by rw [hg]; exact (below_size bq) : w.heap.size ≤ gb418)); have GE418 := Aside0.mk ((by rw [hg]; exact (below_size bq) : w.heap.size ≤ gb418)); replace HB := Aside0.mk (below_step bq hb); clear hb hbox hg) | ((with_reducible refine gate_callee (f := 73) rfl ?_); refine gL (some 5) rfl rfl Try.func73 (by kernel_rfl) rfl #[.int .i64 a0, .int .i64 1, .int .i64 4] rfl ?_; (with_reducible refine (spec_l1In.calls a0 1 4 true _ A2.out).mono ?_); rintro e w' ⟨rfl, ⟨nd, rfl⟩⟩; refine ⟨_, rfl, ?_⟩; (try (rw [drewN_self w5]; generalize hq_ : World.drewN w5 _ = w5; have n0_ : Aside0 (w5.heap[gb418]? = some (.cells #[.slice none 0 0] 26 (0, 0))) := ⟨by rw [← hq_]; exact (bA BK418)⟩; have n1_ : Aside0 (Below w.heap.size w w5) := ⟨by rw [← hq_]; exact (kB HB)⟩; clear BK418 HB hq_; have BK418 := n0_; have HB := n1_; clear n0_ n1_))) | ((with_reducible refine gate_callee (f := 76) rfl ?_); refine gL (some 9) rfl rfl Try.func76 (by kernel_rfl) rfl #[.int .i64 a0] rfl ?_; (with_reducible refine (spec_foUnit.calls k a0 t420 _ A4.out).mono ?_); rintro e w6 ⟨v421, rfl, ho0, hb⟩; refine ⟨_, rfl, ?_⟩; have HO422 := Aside0.mk (Kd.S_lower ho0 (below_size (kB HB))); replace BK418 := Aside0.mk (kK BK418 hb); replace HB := Aside0.mk (below_step (kB HB) hb); (try clear hb); (try clear ho0); obtain ⟨Ao7, co7, eo7⟩ := Kd.S_slice HO422.out; subst eo7; have hcz8_0 : w6.cell? ⟨gb418, 0, none⟩ = some (.slice none 0 0) := (blk_cell BK418.out 0).trans rfl; have hfz8_0 := blk_frozen BK418.out 0)); refine bodyPost_ret (results_ct rfl _ _ gb418 26 #[.slice Ao7 t420.length co7] (0, 0) _ rfl (by refine bR ?_; refine blk_put (cs := #[.slice none 0 0]) ?_ 0 _ rfl; exact bA BK418) Try.underlying26 rfl (by kernel_rfl)) rfl ?_; exact ⟨_, e1, by (with_reducible repeat (first | apply Kd.S_alloc | apply Kd.S_drewN | apply Kd.S_drew)); exact Kd.S_mono (Kd.S_far (p := ⟨gb418, 0, none⟩) (Kd.S_types HO422.out BK418.out (by decide)) (fun _ hk => hk.2) (.slice Ao7 t420.length co7)) (fun _ hk => trivial), kB HB⟩
 · replace c3 := Bool.eq_false_iff.mpr c3; subst c3; rw [if_neg (show ¬ (false = true) by decide)] at H; simp only [Option.some.injEq, Prod.mk.injEq] at H; obtain ⟨rfl, rfl⟩ := H; go_enter Try.func39, Try.ntmps39; go_wp2_with (first | ((with_reducible refine gate_dst (N := 2) rfl ?_); refine box_event ?hg (N := 2) ?hd (cs := #[.slice none 0 0]) (t := 26) ?hr ?_; (case hd => rfl); (case hg => rfl); (case hr => exact z127_); intro gb418 hg w9 hbox hb; have BK418 := Aside0.mk (hbox); have GW418 := Aside0.mk ((by rw [hg]; exact (below_size bq) : w.heap.size ≤ gb418)); have GE418 := Aside0.mk ((by rw [hg]; exact (below_size bq) : w.heap.size ≤ gb418)); replace HB := Aside0.mk (below_step bq hb); clear hb hbox hg) | ((with_reducible refine gate_callee (f := 73) rfl ?_); refine gL (some 5) rfl rfl Try.func73 (by kernel_rfl) rfl #[.int .i64 a0, .int .i64 1, .int .i64 4] rfl ?_; (with_reducible refine (spec_l1In.calls a0 1 4 false _ A2.out).mono ?_); rintro e w' ⟨rfl, ⟨nd, rfl⟩⟩; refine ⟨_, rfl, ?_⟩; (try (rw [drewN_self w9]; generalize hq_ : World.drewN w9 _ = w9; have n0_ : Aside0 (w9.heap[gb418]? = some (.cells #[.slice none 0 0] 26 (0, 0))) := ⟨by rw [← hq_]; exact (bA BK418)⟩; have n1_ : Aside0 (Below w.heap.size w w9) := ⟨by rw [← hq_]; exact (kB HB)⟩; clear BK418 HB hq_; have BK418 := n0_; have HB := n1_; clear n0_ n1_)); have hcz10_0 : w9.cell? ⟨gb418, 0, none⟩ = some (.slice none 0 0) := (blk_cell BK418.out 0).trans rfl; have hfz10_0 := blk_frozen BK418.out 0)); refine bodyPost_ret (results_ct rfl _ _ gb418 26 #[.slice none 0 0] (0, 0) _ rfl (by refine bR ?_; refine blk_put (cs := #[.slice none 0 0]) ?_ 0 _ rfl; exact bA BK418) Try.underlying26 rfl (by kernel_rfl)) rfl ?_; exact ⟨_, e1, z90_, kB HB⟩

end Go.Proofs.Ytldkkfpodldbgaa.P
