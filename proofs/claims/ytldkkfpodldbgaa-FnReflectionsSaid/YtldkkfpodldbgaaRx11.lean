-- Written by a program of this session (wip/mkprint.py over the kit's print), out of the translation. Not trusted: Lean checks it.
import Derived.Test.YtldkkfpodldbgaaRx0
import Derived.Test.YtldkkfpodldbgaaRx4
import Derived.Test.YtldkkfpodldbgaaRx9
import Derived.Test.YtldkkfpodldbgaaRx10
namespace Go.Proofs.Ytldkkfpodldbgaa.P
open Go.RowKit Go.Proofs.YtldkkfpodldbgaaW.PrintWords Go.Proofs.YtldkkfpodldbgaaW.PrintLast Go.Proofs.YtldkkfpodldbgaaW.PrintMore
attribute [local go_sem] max2_int min2_int max_two min_two max_three min_three max_four min_four   -- for this text's walks alone
set_option linter.unusedVariables false
set_option linter.unusedSimpArgs false
set_option maxHeartbeats 8000000
set_option maxRecDepth 100000

/-! ### laws_big: function 27 -/
def laws_big.f (l0 : List Int) (l1 : List Int) : Option (Bool) := if (l0.length : Int) > 1048576 then (some true) else (some (decide ((l1.length : Int) > (wrap64 (1048576 - (l0.length : Int))))))
theorem laws_big.calls (A0 : Option Addr) (c0 : Nat) (l0 : List Int) (A1 : Option Addr) (c1 : Nat) (l1 : List Int) (r : Bool) (w : World) (hr0 : Kd.C (Kd.int .u8) w A0 l0.length l0) (hc0 : l0.length ≤ c0) (hr1 : Kd.C (Kd.int .u8) w A1 l1.length l1) (hc1 : l1.length ≤ c1) (h : laws_big.f l0 l1 = some r) :
 Calls Try.prog 27 #[.slice A0 l0.length c0, .slice A1 l1.length c1] w fun e w' => e = .returned (.bool r) ∧ Drawn0 w w' := by
 have HR0 := Aside0.mk hr0; have HC0 := Aside0.mk hc0; clear hr0 hc0; have HR1 := Aside0.mk hr1; have HC1 := Aside0.mk hc1; clear hr1 hc1; have H : (if (l0.length : Int) > 1048576 then (some true) else (some (decide ((l1.length : Int) > (wrap64 (1048576 - (l0.length : Int))))))) = some r := h; clear h; by_cases c3 : (l0.length : Int) > 1048576
 · rw [if_pos c3] at H; have c3b0 := decide_eq_true c3; have c3b1 : decide (1048576 < l0.length) = true := decide_eq_true (by omega); clear c3; obtain rfl := Option.some.inj H; go_enter Try.func27, Try.ntmps27; go_wp2; go_ret; exact ⟨e2, dz⟩
 · rw [if_neg c3] at H; have c3b0 := decide_eq_false c3; have c3b1 : decide (1048576 < l0.length) = false := decide_eq_false (by omega); clear c3; obtain rfl := Option.some.inj H; go_enter Try.func27, Try.ntmps27; go_wp2; go_ret; exact ⟨e2, dz⟩

/-! ### laws_dSame: function 53 -/
def laws_dSame.l0 : Nat → List Int → List Int → Int → Int → Option (Bool)
 | 0, _, _, _, _ => none
 | k + 1, x0, x1, x12, x13 => if x13 < x12 then (if 0 ≤ x13 then (if x13 < (x0.length : Int) then (if x13 < (x1.length : Int) then (if (rd x0 x13) = (rd x1 x13) then (laws_dSame.l0 k x0 x1 x12 (wrap64 (x13 + 1))) else (some false)) else (none)) else (none)) else (none)) else (some true)
def laws_dSame.f (k : Nat) (l0 : List Int) (l1 : List Int) : Option (Bool) := if (l0.length : Int) = (l1.length : Int) then (laws_dSame.l0 k l0 l1 (l0.length : Int) 0) else (some false)
theorem laws_dSame.mono_l : ∀ k, (∀ y0 y1 y2 y3, LeO (laws_dSame.l0 k y0 y1 y2 y3) (laws_dSame.l0 (k + 1) y0 y1 y2 y3))
 | 0 => fun _ _ _ _ r h => by simp [laws_dSame.l0] at h
 | k + 1 => by
  have ih0 := laws_dSame.mono_l k
  ·
   intro y0 y1 y2 y3; unfold laws_dSame.l0
   repeat' with_reducible first | exact ih0 _ _ _ _ | exact LeO.refl _ | exact LeO.none _ | refine LeO.ite ?_ ?_ | refine LeO.bind ?_ (fun _ => ?_)
theorem laws_dSame.mono : ∀ a0 a1 k, LeO (laws_dSame.f k a0 a1) (laws_dSame.f (k + 1) a0 a1) := by
 intro a0 a1 k; have ih0 := laws_dSame.mono_l k; unfold laws_dSame.f
 repeat' with_reducible first | exact ih0 _ _ _ _ | exact LeO.refl _ | exact LeO.none _ | refine LeO.ite ?_ ?_ | refine LeO.bind ?_ (fun _ => ?_)
theorem laws_dSame.calls (k : Nat) (A0 : Option Addr) (c0 : Nat) (l0 : List Int) (A1 : Option Addr) (c1 : Nat) (l1 : List Int) (r : Bool) (w : World) (hr0 : Kd.C (Kd.int .i64) w A0 l0.length l0) (hc0 : l0.length ≤ c0) (hr1 : Kd.C (Kd.int .i64) w A1 l1.length l1) (hc1 : l1.length ≤ c1) (h : laws_dSame.f k l0 l1 = some r) :
 Calls Try.prog 53 #[.slice A0 l0.length c0, .slice A1 l1.length c1] w fun e w' => e = .returned (.bool r) ∧ Drawn0 w w' := by
 have HR0 := Aside0.mk hr0; have HC0 := Aside0.mk hc0; clear hr0 hc0; have HR1 := Aside0.mk hr1; have HC1 := Aside0.mk hc1; clear hr1 hc1; have H : (if (l0.length : Int) = (l1.length : Int) then (laws_dSame.l0 k l0 l1 (l0.length : Int) 0) else (some false)) = some r := h; clear h; by_cases c3 : (l0.length : Int) = (l1.length : Int)
 ·
  rw [if_pos c3] at H; have c3b0 : ((l0.length : Int) == (l1.length : Int)) = true := beq_iff_eq.mpr c3; have c3b1 : ((l0.length : Int) != (l1.length : Int)) = false := bne_eq_false_iff_eq.mpr c3; have c3b2 : (l0.length == l1.length) = true := by first | simpa using c3 | (simp at c3 ⊢; omega)
  clear c3; have H' := Aside0.mk H; clear H; go_enter Try.func53, Try.ntmps53; go_wp2
  repeat (go_quiet (fail); try go_wp2)
  go_loopg [13] k (fun kq v13 w' => ∃ (x13_1 : Int), v13 = .int .i64 x13_1 ∧ Aside0 (laws_dSame.l0 kq l0 l1 (l0.length : Int) x13_1 = some r) ∧ Aside0 (kq ≤ k) ∧ Drawn0 w w')
  case atStart => exact ⟨(0), e2, H', ⟨Nat.le_refl _⟩, dz⟩
  case round =>
   clear H'; (try clear c3); (try clear c3b0); (try clear c3b1); (try clear c3b2); obtain ⟨x13_1, rfl, HA, HK1, ⟨m1, rfl⟩⟩ := hrel; cases gk with
   | zero => exact absurd HA.out (by simp [laws_dSame.l0])
   | succ k1 =>
    have H := HA.out; clear HA; simp only [laws_dSame.l0] at H; by_cases c4 : x13_1 < (l0.length : Int)
    ·
     rw [if_pos c4] at H; have c4b0 := decide_eq_true c4; clear c4; by_cases c5 : 0 ≤ x13_1
     ·
      rw [if_pos c5] at H; have c5b0 := decide_eq_true c5; clear c5; by_cases c6 : x13_1 < (l0.length : Int)
      ·
       rw [if_pos c6] at H; have c6b0 := decide_eq_true c6; clear c6; by_cases c7 : x13_1 < (l1.length : Int)
       ·
        rw [if_pos c7] at H; have c7b0 := decide_eq_true c7; clear c7; by_cases c8 : (rd l0 x13_1) = (rd l1 x13_1)
        ·
         rw [if_pos c8] at H; have c8b0 : ((rd l0 x13_1) == (rd l1 x13_1)) = true := beq_iff_eq.mpr c8; have c8b1 : ((rd l0 x13_1) != (rd l1 x13_1)) = false := bne_eq_false_iff_eq.mpr c8; clear c8; have H' := Aside0.mk H; clear H; have p316 : 0 ≤ (x13_1 : Int) := od; have q316 : x13_1 < (l0.length : Int) := od; obtain ⟨ad316, e316, hx316_0⟩ := Kd.at_int HR0.out x13_1 p316 q316; cases e316; replace p316 := eq_true p316; replace q316 := eq_true q316; have p317 : 0 ≤ (x13_1 : Int) := od; have q317 : x13_1 < (l1.length : Int) := od; obtain ⟨ad317, e317, hx317_0⟩ := Kd.at_int HR1.out x13_1 p317 q317; cases e317; replace p317 := eq_true p317; replace q317 := eq_true q317; go_wp2
         repeat (go_quiet (fail); try go_wp2)
         go_roundg k1
         case measure => have := HK1.out; omega
         case rel => exact ⟨(wrap64 (x13_1 + 1)), e2, H', ⟨by have := HK1.out; omega⟩, dz⟩
        ·
         rw [if_neg c8] at H; have c8b0 : ((rd l0 x13_1) == (rd l1 x13_1)) = false := beq_eq_false_iff_ne.mpr c8; have c8b1 : ((rd l0 x13_1) != (rd l1 x13_1)) = true := bne_iff_ne.mpr c8; obtain rfl := Option.some.inj H; have p316 : 0 ≤ (x13_1 : Int) := od; have q316 : x13_1 < (l0.length : Int) := od; obtain ⟨ad316, e316, hx316_0⟩ := Kd.at_int HR0.out x13_1 p316 q316; cases e316; replace p316 := eq_true p316; replace q316 := eq_true q316; have p317 : 0 ≤ (x13_1 : Int) := od; have q317 : x13_1 < (l1.length : Int) := od; obtain ⟨ad317, e317, hx317_0⟩ := Kd.at_int HR1.out x13_1 p317 q317; cases e317; replace p317 := eq_true p317; replace q317 := eq_true q317; go_wp2
         repeat (go_quiet (fail); try go_wp2)
         go_ret; exact ⟨e2, dz⟩
       · rw [if_neg c7] at H; exact absurd H (by simp)
      · rw [if_neg c6] at H; exact absurd H (by simp)
     · rw [if_neg c5] at H; exact absurd H (by simp)
    ·
     rw [if_neg c4] at H; have c4b0 := decide_eq_false c4; clear c4; obtain rfl := Option.some.inj H; go_wp2
     repeat (go_quiet (fail); try go_wp2)
     go_ret; exact ⟨e2, dz⟩
 ·
  rw [if_neg c3] at H; have c3b0 : ((l0.length : Int) == (l1.length : Int)) = false := beq_eq_false_iff_ne.mpr c3; have c3b1 : ((l0.length : Int) != (l1.length : Int)) = true := bne_iff_ne.mpr c3; have c3b2 : (l0.length == l1.length) = false := by first | simpa using c3 | (simp at c3 ⊢; omega)
  obtain rfl := Option.some.inj H; go_enter Try.func53, Try.ntmps53; go_wp2
  repeat (go_quiet (fail); try go_wp2)
  go_ret; exact ⟨e2, dz⟩

/-! ### laws_dLists: function 93 -/
def laws_dLists.l0 : Nat → List (List Int) → List (List Int) → Int → Int → Option (Bool)
 | 0, _, _, _, _ => none
 | k + 1, x0, x1, x12, x13 => if x13 < x12 then (if 0 ≤ x13 then (if x13 < (x0.length : Int) then (if x13 < (x1.length : Int) then ((laws_dSame.f k (rd_L1 x0 x13) (rd_L1 x1 x13)).bind fun t320 => (if t320 = true then (laws_dLists.l0 k x0 x1 x12 (wrap64 (x13 + 1))) else (some false))) else (none)) else (none)) else (none)) else (some true)
def laws_dLists.f (k : Nat) (l0 : List (List Int)) (l1 : List (List Int)) : Option (Bool) := if (l0.length : Int) = (l1.length : Int) then (laws_dLists.l0 k l0 l1 (l0.length : Int) 0) else (some false)
theorem laws_dLists.mono_l : ∀ k, (∀ y0 y1 y2 y3, LeO (laws_dLists.l0 k y0 y1 y2 y3) (laws_dLists.l0 (k + 1) y0 y1 y2 y3))
 | 0 => fun _ _ _ _ r h => by simp [laws_dLists.l0] at h
 | k + 1 => by
  have ih0 := laws_dLists.mono_l k
  ·
   intro y0 y1 y2 y3; unfold laws_dLists.l0
   repeat' with_reducible first | exact ih0 _ _ _ _ | exact laws_dSame.mono _ _ _ | exact LeO.refl _ | exact LeO.none _ | refine LeO.ite ?_ ?_ | refine LeO.bind ?_ (fun _ => ?_)
theorem laws_dLists.mono : ∀ a0 a1 k, LeO (laws_dLists.f k a0 a1) (laws_dLists.f (k + 1) a0 a1) := by
 intro a0 a1 k; have ih0 := laws_dLists.mono_l k; unfold laws_dLists.f
 repeat' with_reducible first | exact ih0 _ _ _ _ | exact laws_dSame.mono _ _ _ | exact LeO.refl _ | exact LeO.none _ | refine LeO.ite ?_ ?_ | refine LeO.bind ?_ (fun _ => ?_)
theorem laws_dLists.calls (k : Nat) (A0 : Option Addr) (c0 : Nat) (l0 : List (List Int)) (A1 : Option Addr) (c1 : Nat) (l1 : List (List Int)) (r : Bool) (w : World) (hr0 : Kd.C (Kd.slice 3 (Kd.int .i64)) w A0 l0.length l0) (hc0 : l0.length ≤ c0) (hr1 : Kd.C (Kd.slice 3 (Kd.int .i64)) w A1 l1.length l1) (hc1 : l1.length ≤ c1) (h : laws_dLists.f k l0 l1 = some r) :
 Calls Try.prog 93 #[.slice A0 l0.length c0, .slice A1 l1.length c1] w fun e w' => e = .returned (.bool r) ∧ Drawn0 w w' := by
 have HR0 := Aside0.mk hr0; have HC0 := Aside0.mk hc0; clear hr0 hc0; have HR1 := Aside0.mk hr1; have HC1 := Aside0.mk hc1; clear hr1 hc1; have H : (if (l0.length : Int) = (l1.length : Int) then (laws_dLists.l0 k l0 l1 (l0.length : Int) 0) else (some false)) = some r := h; clear h; by_cases c3 : (l0.length : Int) = (l1.length : Int)
 ·
  rw [if_pos c3] at H; have c3b0 : ((l0.length : Int) == (l1.length : Int)) = true := beq_iff_eq.mpr c3; have c3b1 : ((l0.length : Int) != (l1.length : Int)) = false := bne_eq_false_iff_eq.mpr c3; have c3b2 : (l0.length == l1.length) = true := by first | simpa using c3 | (simp at c3 ⊢; omega)
  clear c3; have H' := Aside0.mk H; clear H; go_enter Try.func93, Try.ntmps93; go_wp2
  repeat (go_quiet (fail); try go_wp2)
  go_loopg [13] k (fun kq v13 w' => ∃ (x13_1 : Int), v13 = .int .i64 x13_1 ∧ Aside0 (laws_dLists.l0 kq l0 l1 (l0.length : Int) x13_1 = some r) ∧ Aside0 (kq ≤ k) ∧ Drawn0 w w')
  case atStart => exact ⟨(0), e2, H', ⟨Nat.le_refl _⟩, dz⟩
  case round =>
   clear H'; (try clear c3); (try clear c3b0); (try clear c3b1); (try clear c3b2); obtain ⟨x13_1, rfl, HA, HK1, ⟨m1, rfl⟩⟩ := hrel; cases gk with
   | zero => exact absurd HA.out (by simp [laws_dLists.l0])
   | succ k1 =>
    have H := HA.out; clear HA; simp only [laws_dLists.l0] at H; by_cases c4 : x13_1 < (l0.length : Int)
    ·
     rw [if_pos c4] at H; have c4b0 := decide_eq_true c4; clear c4; by_cases c5 : 0 ≤ x13_1
     ·
      rw [if_pos c5] at H; have c5b0 := decide_eq_true c5; clear c5; by_cases c6 : x13_1 < (l0.length : Int)
      ·
       rw [if_pos c6] at H; have c6b0 := decide_eq_true c6; clear c6; by_cases c7 : x13_1 < (l1.length : Int)
       ·
        rw [if_pos c7] at H; have c7b0 := decide_eq_true c7; clear c7; replace H := oB H; obtain ⟨t320, A8, H⟩ := H; by_cases c9 : t320 = true
        ·
         subst c9; rw [if_pos rfl] at H; have H' := Aside0.mk H; clear H; have p318 : 0 ≤ (x13_1 : Int) := od; have q318 : x13_1 < (l0.length : Int) := od; obtain ⟨ad318, A318_0, c318_0, e318, hx318_0, hl318_0, hi318_0⟩ := at_L1 HR0.out x13_1 p318 q318; cases e318; have HR318_0 := Aside0.mk hi318_0; have HC318_0 := Aside0.mk hl318_0; clear hi318_0 hl318_0; replace p318 := eq_true p318; replace q318 := eq_true q318; have p319 : 0 ≤ (x13_1 : Int) := od; have q319 : x13_1 < (l1.length : Int) := od; obtain ⟨ad319, A319_0, c319_0, e319, hx319_0, hl319_0, hi319_0⟩ := at_L1 HR1.out x13_1 p319 q319; cases e319; have HR319_0 := Aside0.mk hi319_0; have HC319_0 := Aside0.mk hl319_0; clear hi319_0 hl319_0; replace p319 := eq_true p319; replace q319 := eq_true q319; go_wp2_with (first | (go_at_call 53; (with_reducible refine (laws_dSame.calls k1 _ _ (rd_L1 l0 x13_1) _ _ (rd_L1 l1 x13_1) true _ ?side1 ?side2 ?side3 ?side4 A8.out).mono ?_); (case side1 => exact cC HR318_0.out); (case side2 => exact HC318_0.out); (case side3 => exact cC HR319_0.out); (case side4 => exact HC319_0.out); rintro e w' ⟨rfl, ⟨nd, rfl⟩⟩; (try exact dD)))
         repeat (go_quiet (first | (go_at_call 53; (with_reducible refine (laws_dSame.calls k1 _ _ (rd_L1 l0 x13_1) _ _ (rd_L1 l1 x13_1) true _ ?side1 ?side2 ?side3 ?side4 A8.out).mono ?_); (case side1 => exact cC HR318_0.out); (case side2 => exact HC318_0.out); (case side3 => exact cC HR319_0.out); (case side4 => exact HC319_0.out); rintro e w' ⟨rfl, ⟨nd, rfl⟩⟩; (try exact dD))); try go_wp2_with (first | (go_at_call 53; (with_reducible refine (laws_dSame.calls k1 _ _ (rd_L1 l0 x13_1) _ _ (rd_L1 l1 x13_1) true _ ?side1 ?side2 ?side3 ?side4 A8.out).mono ?_); (case side1 => exact cC HR318_0.out); (case side2 => exact HC318_0.out); (case side3 => exact cC HR319_0.out); (case side4 => exact HC319_0.out); rintro e w' ⟨rfl, ⟨nd, rfl⟩⟩; (try exact dD))))
         go_roundg k1
         case measure => have := HK1.out; omega
         case rel => exact ⟨(wrap64 (x13_1 + 1)), e2, H', ⟨by have := HK1.out; omega⟩, dz⟩
        ·
         replace c9 := Bool.eq_false_iff.mpr c9; subst c9; rw [if_neg (show ¬ (false = true) by decide)] at H; obtain rfl := Option.some.inj H; have p318 : 0 ≤ (x13_1 : Int) := od; have q318 : x13_1 < (l0.length : Int) := od; obtain ⟨ad318, A318_0, c318_0, e318, hx318_0, hl318_0, hi318_0⟩ := at_L1 HR0.out x13_1 p318 q318; cases e318; have HR318_0 := Aside0.mk hi318_0; have HC318_0 := Aside0.mk hl318_0; clear hi318_0 hl318_0; replace p318 := eq_true p318; replace q318 := eq_true q318; have p319 : 0 ≤ (x13_1 : Int) := od; have q319 : x13_1 < (l1.length : Int) := od; obtain ⟨ad319, A319_0, c319_0, e319, hx319_0, hl319_0, hi319_0⟩ := at_L1 HR1.out x13_1 p319 q319; cases e319; have HR319_0 := Aside0.mk hi319_0; have HC319_0 := Aside0.mk hl319_0; clear hi319_0 hl319_0; replace p319 := eq_true p319; replace q319 := eq_true q319; go_wp2_with (first | (go_at_call 53; (with_reducible refine (laws_dSame.calls k1 _ _ (rd_L1 l0 x13_1) _ _ (rd_L1 l1 x13_1) false _ ?side1 ?side2 ?side3 ?side4 A8.out).mono ?_); (case side1 => exact cC HR318_0.out); (case side2 => exact HC318_0.out); (case side3 => exact cC HR319_0.out); (case side4 => exact HC319_0.out); rintro e w' ⟨rfl, ⟨nd, rfl⟩⟩; (try exact dD)))
         repeat (go_quiet (first | (go_at_call 53; (with_reducible refine (laws_dSame.calls k1 _ _ (rd_L1 l0 x13_1) _ _ (rd_L1 l1 x13_1) false _ ?side1 ?side2 ?side3 ?side4 A8.out).mono ?_); (case side1 => exact cC HR318_0.out); (case side2 => exact HC318_0.out); (case side3 => exact cC HR319_0.out); (case side4 => exact HC319_0.out); rintro e w' ⟨rfl, ⟨nd, rfl⟩⟩; (try exact dD))); try go_wp2_with (first | (go_at_call 53; (with_reducible refine (laws_dSame.calls k1 _ _ (rd_L1 l0 x13_1) _ _ (rd_L1 l1 x13_1) false _ ?side1 ?side2 ?side3 ?side4 A8.out).mono ?_); (case side1 => exact cC HR318_0.out); (case side2 => exact HC318_0.out); (case side3 => exact cC HR319_0.out); (case side4 => exact HC319_0.out); rintro e w' ⟨rfl, ⟨nd, rfl⟩⟩; (try exact dD))))
         go_ret; exact ⟨e2, dz⟩
       · rw [if_neg c7] at H; exact absurd H (by simp)
      · rw [if_neg c6] at H; exact absurd H (by simp)
     · rw [if_neg c5] at H; exact absurd H (by simp)
    ·
     rw [if_neg c4] at H; have c4b0 := decide_eq_false c4; clear c4; obtain rfl := Option.some.inj H; go_wp2
     repeat (go_quiet (fail); try go_wp2)
     go_ret; exact ⟨e2, dz⟩
 ·
  rw [if_neg c3] at H; have c3b0 : ((l0.length : Int) == (l1.length : Int)) = false := beq_eq_false_iff_ne.mpr c3; have c3b1 : ((l0.length : Int) != (l1.length : Int)) = true := bne_iff_ne.mpr c3; have c3b2 : (l0.length == l1.length) = false := by first | simpa using c3 | (simp at c3 ⊢; omega)
  obtain rfl := Option.some.inj H; go_enter Try.func93, Try.ntmps93; go_wp2
  repeat (go_quiet (fail); try go_wp2)
  go_ret; exact ⟨e2, dz⟩

/-! ### laws_dMatrix: function 31 -/
def laws_dMatrix.f (k : Nat) (l0_0 : List (List Int)) (l1_0 : List (List Int)) : Option (Bool) := (laws_dLists.f k l0_0 l1_0).bind fun t323 => (some t323)
theorem laws_dMatrix.mono : ∀ a0 a1 k, LeO (laws_dMatrix.f k a0 a1) (laws_dMatrix.f (k + 1) a0 a1) := by
 intro a0 a1 k; unfold laws_dMatrix.f
 repeat' with_reducible first | exact laws_dLists.mono _ _ _ | exact LeO.refl _ | exact LeO.none _ | refine LeO.ite ?_ ?_ | refine LeO.bind ?_ (fun _ => ?_)
theorem laws_dMatrix.calls (k : Nat) (A0_0 : Option Addr) (c0_0 : Nat) (l0_0 : List (List Int)) (A1_0 : Option Addr) (c1_0 : Nat) (l1_0 : List (List Int)) (r : Bool) (w : World) (hr0_0 : Kd.C (Kd.slice 3 (Kd.int .i64)) w A0_0 l0_0.length l0_0) (hc0_0 : l0_0.length ≤ c0_0) (hr1_0 : Kd.C (Kd.slice 3 (Kd.int .i64)) w A1_0 l1_0.length l1_0) (hc1_0 : l1_0.length ≤ c1_0) (h : laws_dMatrix.f k l0_0 l1_0 = some r) :
 Calls Try.prog 31 #[.agg #[.slice A0_0 l0_0.length c0_0], .agg #[.slice A1_0 l1_0.length c1_0]] w fun e w' => e = .returned (.bool r) ∧ Below w.heap.size w w' := by
 have hu26 := Try.underlying26; have HR0_0 := Aside0.mk hr0_0; have HC0_0 := Aside0.mk hc0_0; clear hr0_0 hc0_0; have HR1_0 := Aside0.mk hr1_0; have HC1_0 := Aside0.mk hc1_0; clear hr1_0 hc1_0; have HB := Aside0.mk (Below.refl w.heap.size w); have H : ((laws_dLists.f k l0_0 l1_0).bind fun t323 => (some t323)) = some r := h; clear h; replace H := oB H; obtain ⟨t323, A3, H⟩ := H; obtain rfl := Option.some.inj H; go_enter Try.func31, Try.ntmps31; go_wp2_with (first | ((with_reducible refine gate_dst (N := 2) rfl ?_); refine box_event ?hg (N := 2) ?hd (cs := #[.slice A0_0 l0_0.length c0_0]) (t := 26) ?hr ?_; (case hd => rfl); (case hg => rfl); (case hr => exact z98_); intro gb321 hg w4 hbox hb; have BK321 := Aside0.mk (hbox); have GW321 := gW HB hg; have GE321 := gW HB hg; replace HB := sT bq hb; clear hb hbox hg) | ((with_reducible refine gate_dst (N := 3) rfl ?_); refine box_event ?hg (N := 3) ?hd (cs := #[.slice A1_0 l1_0.length c1_0]) (t := 26) ?hr ?_; (case hd => rfl); (case hg => rfl); (case hr => exact z98_); intro gb322 hg w5 hbox hb; have BK322 := Aside0.mk (hbox); have GW322 := gW HB hg; have GE322 := gW HB hg; replace HB := sB HB hb; obtain ⟨NB321_322, NB322_321⟩ := nE BK321 hg; replace BK321 := kA BK321 hb; clear hb hbox hg; obtain ⟨hnb6, hnc6⟩ := nB NB321_322; obtain ⟨hcz7_0, hfz7_0⟩ := bC BK321; obtain ⟨hcz8_0, hfz8_0⟩ := bC BK322) | ((with_reducible refine gate_callee (f := 93) rfl ?_); refine gL (some 9) rfl rfl Try.func93 (by kernel_rfl) rfl #[.slice A0_0 l0_0.length c0_0, .slice A1_0 l1_0.length c1_0] rfl ?_; (with_reducible refine (laws_dLists.calls k _ _ l0_0 _ _ l1_0 t323 _ ?side1 ?side2 ?side3 ?side4 A3.out).mono ?_); (case side1 => exact cC (Kd.C_below HR0_0.out HB.out)); (case side2 => exact HC0_0.out); (case side3 => exact cC (Kd.C_below HR1_0.out HB.out)); (case side4 => exact HC1_0.out); rintro e w' ⟨rfl, ⟨nd, rfl⟩⟩; refine ⟨_, rfl, ?_⟩)); go_ret; exact ⟨e1, kB HB⟩

/-! ### impl_UnitMatrix: function 37 -/
def impl_UnitMatrix.f (a0 : Int) : Option ((List (List Int)) × Bool) := (impl_within.f a0 1 4).bind fun t325 => (if t325 = true then ((impl_unit.f a0).bind fun t326 => (some (t326, true))) else (some (([] : List (List Int)), false)))
theorem impl_UnitMatrix.calls (a0 : Int) (r1 : List (List Int)) (r2 : Bool) (w : World) (h : impl_UnitMatrix.f a0 = some (r1, r2)) :
 Calls Try.prog 37 #[.int .i64 a0] w fun e w' => ∃ v0_ : Value, e = .returned (.tuple #[.agg #[v0_], .bool r2]) ∧ Kd.S (Kd.slice 3 (Kd.int .i64)) 34 w' w.heap.size (fun _ => True) v0_ r1 ∧ Below w.heap.size w w' := by
 have hu26 := Try.underlying26; have HB := Aside0.mk (Below.refl w.heap.size w); have H : ((impl_within.f a0 1 4).bind fun t325 => (if t325 = true then ((impl_unit.f a0).bind fun t326 => (some (t326, true))) else (some (([] : List (List Int)), false)))) = some (r1, r2) := h; clear h; replace H := oB H; obtain ⟨t325, A2, H⟩ := H; by_cases c3 : t325 = true
 · subst c3; rw [if_pos rfl] at H; replace H := oB H; obtain ⟨t326, A4, H⟩ := H; simp only [Option.some.injEq, Prod.mk.injEq] at H; obtain ⟨rfl, rfl⟩ := H; go_enter Try.func37, Try.ntmps37; go_wp2_with (first | ((with_reducible refine gate_dst (N := 2) rfl ?_); refine box_event ?hg (N := 2) ?hd (cs := #[.slice none 0 0]) (t := 26) ?hr ?_; (case hd => rfl); (case hg => rfl); (case hr => exact z98_); intro gb324 hg w5 hbox hb; have BK324 := Aside0.mk (hbox); have GW324 := gW HB hg; have GE324 := gW HB hg; replace HB := sT bq hb; clear hb hbox hg) | ((with_reducible refine gate_callee (f := 79) rfl ?_); refine gL (some 5) rfl rfl Try.func79 (by kernel_rfl) rfl #[.int .i64 a0, .int .i64 1, .int .i64 4] rfl ?_; (with_reducible refine (impl_within.calls a0 1 4 true _ A2.out).mono ?_); rintro e w' ⟨rfl, ⟨nd, rfl⟩⟩; refine ⟨_, rfl, ?_⟩; (try (rw [drewN_self w5]; generalize hq_ : World.drewN w5 _ = w5; have n0_ : Aside0 (w5.heap[gb324]? = some (.cells #[.slice none 0 0] 26 (0, 0))) := ⟨by rw [← hq_]; exact (bA BK324)⟩; have n1_ : Aside0 (Below w.heap.size w w5) := ⟨by rw [← hq_]; exact (kB HB)⟩; clear BK324 HB hq_; have BK324 := n0_; have HB := n1_; clear n0_ n1_))) | ((with_reducible refine gate_callee (f := 82) rfl ?_); refine gL (some 9) rfl rfl Try.func82 (by kernel_rfl) rfl #[.int .i64 a0] rfl ?_; (with_reducible refine (impl_unit.calls a0 t326 _ A4.out).mono ?_); rintro e w6 ⟨v327, rfl, ho0, hb⟩; refine ⟨_, rfl, ?_⟩; have HO328 := Aside0.mk (Kd.S_lower ho0 (below_size (kB HB))); replace BK324 := kA BK324 hb; replace HB := sB HB hb; (try clear hb); (try clear ho0); obtain ⟨Ao7, co7, eo7⟩ := Kd.S_slice HO328.out; subst eo7; obtain ⟨hcz8_0, hfz8_0⟩ := bC BK324)); refine bodyPost_ret (results_ct rfl _ _ gb324 26 #[.slice Ao7 t326.length co7] (0, 0) _ rfl (by refine bR ?_; refine blk_put (cs := #[.slice none 0 0]) ?_ 0 _ rfl; exact bA BK324) Try.underlying26 rfl (by kernel_rfl)) rfl ?_; exact ⟨_, e1, sP (Kd.S_mono (Kd.S_far (p := ⟨gb324, 0, none⟩) (Kd.S_types HO328.out BK324.out (by decide)) (fun _ hk => hk.2) (.slice Ao7 t326.length co7)) (fun _ hk => trivial)), kB HB⟩
 · replace c3 := Bool.eq_false_iff.mpr c3; subst c3; rw [if_neg (show ¬ (false = true) by decide)] at H; simp only [Option.some.injEq, Prod.mk.injEq] at H; obtain ⟨rfl, rfl⟩ := H; go_enter Try.func37, Try.ntmps37; go_wp2_with (first | ((with_reducible refine gate_dst (N := 2) rfl ?_); refine box_event ?hg (N := 2) ?hd (cs := #[.slice none 0 0]) (t := 26) ?hr ?_; (case hd => rfl); (case hg => rfl); (case hr => exact z98_); intro gb324 hg w9 hbox hb; have BK324 := Aside0.mk (hbox); have GW324 := gW HB hg; have GE324 := gW HB hg; replace HB := sT bq hb; clear hb hbox hg) | ((with_reducible refine gate_callee (f := 79) rfl ?_); refine gL (some 5) rfl rfl Try.func79 (by kernel_rfl) rfl #[.int .i64 a0, .int .i64 1, .int .i64 4] rfl ?_; (with_reducible refine (impl_within.calls a0 1 4 false _ A2.out).mono ?_); rintro e w' ⟨rfl, ⟨nd, rfl⟩⟩; refine ⟨_, rfl, ?_⟩; (try (rw [drewN_self w9]; generalize hq_ : World.drewN w9 _ = w9; have n0_ : Aside0 (w9.heap[gb324]? = some (.cells #[.slice none 0 0] 26 (0, 0))) := ⟨by rw [← hq_]; exact (bA BK324)⟩; have n1_ : Aside0 (Below w.heap.size w w9) := ⟨by rw [← hq_]; exact (kB HB)⟩; clear BK324 HB hq_; have BK324 := n0_; have HB := n1_; clear n0_ n1_)); obtain ⟨hcz10_0, hfz10_0⟩ := bC BK324)); refine bodyPost_ret (results_ct rfl _ _ gb324 26 #[.slice none 0 0] (0, 0) _ rfl (by refine bR ?_; refine blk_put (cs := #[.slice none 0 0]) ?_ 0 _ rfl; exact bA BK324) Try.underlying26 rfl (by kernel_rfl)) rfl ?_; exact ⟨_, e1, z65_, kB HB⟩

/-! ### impl_KeepsForm: function 48 -/
def impl_KeepsForm.j0 : Nat → Bool → List (List Int) → List (List Int) → Option (Bool × Bool)
 | 0, _, _, _ => none
 | k + 1, x19, x330000, x331000 => if x19 = true then (some (false, false)) else ((impl_Matrix_transposed.f x330000).bind fun t334 => ((impl_Matrix_times.f t334 x331000).bind fun t337 => ((impl_Matrix_times.f t337 x330000).bind fun t340 => ((impl_sameMatrix.f t340 x331000).bind fun t343 => (some (t343, true))))))
def impl_KeepsForm.f (k : Nat) (l0_0 : List (List Int)) (l1_0 : List (List Int)) : Option (Bool × Bool) := (impl_areAlike.f l0_0 l1_0).bind fun t331 => (if t331 = true then ((impl_Matrix_isSmall.f l0_0 30000).bind fun t332 => (if t332 = true then ((impl_isForm.f l1_0).bind fun t333 => (impl_KeepsForm.j0 k (!t333) l0_0 l1_0)) else (impl_KeepsForm.j0 k true l0_0 l1_0))) else (impl_KeepsForm.j0 k true l0_0 l1_0))
theorem impl_KeepsForm.mono_l : ∀ k, (∀ y0 y1 y2, LeO (impl_KeepsForm.j0 k y0 y1 y2) (impl_KeepsForm.j0 (k + 1) y0 y1 y2))
 | 0 => fun _ _ _ r h => by simp [impl_KeepsForm.j0] at h
 | k + 1 => by
  have ih0 := impl_KeepsForm.mono_l k
  ·
   intro y0 y1 y2; unfold impl_KeepsForm.j0
   repeat' with_reducible first | exact ih0 _ _ _ | exact LeO.refl _ | exact LeO.none _ | refine LeO.ite ?_ ?_ | refine LeO.bind ?_ (fun _ => ?_)
theorem impl_KeepsForm.mono : ∀ a0 a1 k, LeO (impl_KeepsForm.f k a0 a1) (impl_KeepsForm.f (k + 1) a0 a1) := by
 intro a0 a1 k; have ih0 := impl_KeepsForm.mono_l k; unfold impl_KeepsForm.f
 repeat' with_reducible first | exact ih0 _ _ _ | exact LeO.refl _ | exact LeO.none _ | refine LeO.ite ?_ ?_ | refine LeO.bind ?_ (fun _ => ?_)
def impl_KeepsForm.T3 : Bool × List (List Nat × List Nat) := (true, [([], []), ([0], [0]), ([], []), ([1, 2, 1], [1, 2]), ([], []), ([3, 4, 3], [3, 4]), ([], []), ([5, 6, 5], [5, 6]), ([7, 7, 0, 1, 2, 3, 4, 5, 6, 7], [7]), ([8, 0, 1, 2, 3, 4, 5, 6, 7, 8], [])])
def impl_KeepsForm.B3 : List Nat := [0, 1, 0, 7, 0, 31, 0, 127, 255, 511]
theorem impl_KeepsForm.tab3 : rtab .any (opsOf Try.f48 3) = impl_KeepsForm.T3 := by kernel_rfl
theorem impl_KeepsForm.bits3 : waitsOk impl_KeepsForm.T3.2 impl_KeepsForm.B3 = true := by kernel_rfl
theorem impl_KeepsForm.calls (k : Nat) (A0_0 : Option Addr) (c0_0 : Nat) (l0_0 : List (List Int)) (A1_0 : Option Addr) (c1_0 : Nat) (l1_0 : List (List Int)) (r1 : Bool) (r2 : Bool) (w : World) (hr0_0 : Kd.C (Kd.slice 3 (Kd.int .i64)) w A0_0 l0_0.length l0_0) (hc0_0 : l0_0.length ≤ c0_0) (hr1_0 : Kd.C (Kd.slice 3 (Kd.int .i64)) w A1_0 l1_0.length l1_0) (hc1_0 : l1_0.length ≤ c1_0) (h : impl_KeepsForm.f k l0_0 l1_0 = some (r1, r2)) :
 Calls Try.prog 48 #[.agg #[.slice A0_0 l0_0.length c0_0], .agg #[.slice A1_0 l1_0.length c1_0]] w fun e w' => e = .returned (.tuple #[.bool r1, .bool r2]) ∧ Below w.heap.size w w' := by
 have hu26 := Try.underlying26; have HR0_0 := Aside0.mk hr0_0; have HC0_0 := Aside0.mk hc0_0; clear hr0_0 hc0_0; have HR1_0 := Aside0.mk hr1_0; have HC1_0 := Aside0.mk hc1_0; clear hr1_0 hc1_0; have HB := Aside0.mk (Below.refl w.heap.size w); have H : ((impl_areAlike.f l0_0 l1_0).bind fun t331 => (if t331 = true then ((impl_Matrix_isSmall.f l0_0 30000).bind fun t332 => (if t332 = true then ((impl_isForm.f l1_0).bind fun t333 => (impl_KeepsForm.j0 k (!t333) l0_0 l1_0)) else (impl_KeepsForm.j0 k true l0_0 l1_0))) else (impl_KeepsForm.j0 k true l0_0 l1_0))) = some (r1, r2) := h; clear h; have HC3 := Aside0.mk H; clear H; go_enter Try.func48, Try.ntmps48; go_upto_region 1 with (first | ((with_reducible refine gate_dst (N := 2) rfl ?_); refine box_event ?hg (N := 2) ?hd (cs := #[.slice A0_0 l0_0.length c0_0]) (t := 26) ?hr ?_; (case hd => rfl); (case hg => rfl); (case hr => exact z98_); intro gb329 hg w4 hbox hb; have BK329 := Aside0.mk (hbox); have GW329 := gW HB hg; have GE329 := gW HB hg; replace HB := sT bq hb; clear hb hbox hg) | ((with_reducible refine gate_dst (N := 3) rfl ?_); refine box_event ?hg (N := 3) ?hd (cs := #[.slice A1_0 l1_0.length c1_0]) (t := 26) ?hr ?_; (case hd => rfl); (case hg => rfl); (case hr => exact z98_); intro gb330 hg w5 hbox hb; have BK330 := Aside0.mk (hbox); have GW330 := gW HB hg; have GE330 := gW HB hg; replace HB := sB HB hb; obtain ⟨NB329_330, NB330_329⟩ := nE BK329 hg; replace BK329 := kA BK329 hb; clear hb hbox hg))
 (try simp only [Act.put, List.setIfInBounds_toArray, List.set_cons_zero, List.set_cons_succ]); go_cut [19] (fun v19 wc => ∃ (kq : Nat) (x19_2 : Bool), v19 = .bool x19_2 ∧ Aside0 (impl_KeepsForm.j0 kq x19_2 l0_0 l1_0 = some (r1, r2)) ∧ Aside0 (kq ≤ k) ∧ Aside0 (wc.heap[gb329]? = some (.cells #[(.slice A0_0 l0_0.length c0_0)] 26 (0, 0))) ∧ Aside0 (wc.heap[gb330]? = some (.cells #[(.slice A1_0 l1_0.length c1_0)] 26 (0, 0))) ∧ Aside0 (Below w.heap.size w wc))
 case first =>
  have H := HC3.out; clear HC3; replace H := oB H; obtain ⟨t331, A6, H⟩ := H; by_cases c7 : t331 = true
  ·
   subst c7; rw [if_pos rfl] at H; replace H := oB H; obtain ⟨t332, A8, H⟩ := H; by_cases c9 : t332 = true
   ·
    subst c9; rw [if_pos rfl] at H; replace H := oB H; obtain ⟨t333, A10, H⟩ := H; have H' := Aside0.mk H; clear H; obtain ⟨hnb11, hnc11⟩ := nB NB329_330; obtain ⟨hcz12_0, hfz12_0⟩ := bC BK329; obtain ⟨hcz13_0, hfz13_0⟩ := bC BK330; go_wp2_with (first | ((with_reducible refine gate_callee (f := 81) rfl ?_); refine gL (some 8) rfl rfl Try.func81 (by kernel_rfl) rfl #[.agg #[.slice A0_0 l0_0.length c0_0], .agg #[.slice A1_0 l1_0.length c1_0]] rfl ?_; (with_reducible refine (impl_areAlike.calls _ _ l0_0 _ _ l1_0 true _ ?side1 ?side2 ?side3 ?side4 A6.out).mono ?_); (case side1 => exact cC (Kd.C_below HR0_0.out HB.out)); (case side2 => exact HC0_0.out); (case side3 => exact cC (Kd.C_below HR1_0.out HB.out)); (case side4 => exact HC1_0.out); rintro e w14 ⟨rfl, hb⟩; refine ⟨_, rfl, ?_⟩; replace BK329 := kA BK329 hb; replace BK330 := kA BK330 hb; replace HB := sB HB hb; (try clear hb); obtain ⟨hcz15_0, hfz15_0⟩ := bC BK329) | (go_at_call 63; (with_reducible refine (impl_Matrix_isSmall.calls _ _ l0_0 30000 true _ ?side1 ?side2 A8.out).mono ?_); (case side1 => exact cC (Kd.C_below HR0_0.out HB.out)); (case side2 => exact HC0_0.out); rintro e w16 ⟨rfl, hb⟩; replace BK329 := kA BK329 hb; replace BK330 := kA BK330 hb; replace HB := sB HB hb; (try clear hb); obtain ⟨hcz17_0, hfz17_0⟩ := bC BK330) | (go_at_call 102; (with_reducible refine (impl_isForm.calls _ _ l1_0 t333 _ ?side1 ?side2 A10.out).mono ?_); (case side1 => exact cC (Kd.C_below HR1_0.out HB.out)); (case side2 => exact HC1_0.out); rintro e w18 ⟨rfl, hb⟩; replace BK329 := kA BK329 hb; replace BK330 := kA BK330 hb; replace HB := sB HB hb; (try clear hb))); go_meet
    case rel => exact ⟨_, (!t333), e2, H', ⟨z99_⟩, ⟨by exact bA BK329⟩, ⟨by exact bA BK330⟩, ⟨kB HB⟩⟩
   ·
    replace c9 := Bool.eq_false_iff.mpr c9; subst c9; rw [if_neg (show ¬ (false = true) by decide)] at H; have H' := Aside0.mk H; clear H; obtain ⟨hnb19, hnc19⟩ := nB NB329_330; obtain ⟨hcz20_0, hfz20_0⟩ := bC BK329; obtain ⟨hcz21_0, hfz21_0⟩ := bC BK330; go_wp2_with (first | ((with_reducible refine gate_callee (f := 81) rfl ?_); refine gL (some 8) rfl rfl Try.func81 (by kernel_rfl) rfl #[.agg #[.slice A0_0 l0_0.length c0_0], .agg #[.slice A1_0 l1_0.length c1_0]] rfl ?_; (with_reducible refine (impl_areAlike.calls _ _ l0_0 _ _ l1_0 true _ ?side1 ?side2 ?side3 ?side4 A6.out).mono ?_); (case side1 => exact cC (Kd.C_below HR0_0.out HB.out)); (case side2 => exact HC0_0.out); (case side3 => exact cC (Kd.C_below HR1_0.out HB.out)); (case side4 => exact HC1_0.out); rintro e w22 ⟨rfl, hb⟩; refine ⟨_, rfl, ?_⟩; replace BK329 := kA BK329 hb; replace BK330 := kA BK330 hb; replace HB := sB HB hb; (try clear hb); obtain ⟨hcz23_0, hfz23_0⟩ := bC BK329) | (go_at_call 63; (with_reducible refine (impl_Matrix_isSmall.calls _ _ l0_0 30000 false _ ?side1 ?side2 A8.out).mono ?_); (case side1 => exact cC (Kd.C_below HR0_0.out HB.out)); (case side2 => exact HC0_0.out); rintro e w24 ⟨rfl, hb⟩; replace BK329 := kA BK329 hb; replace BK330 := kA BK330 hb; replace HB := sB HB hb; (try clear hb))); go_meet
    case rel => exact ⟨_, (true), e2, H', ⟨z99_⟩, ⟨by exact bA BK329⟩, ⟨by exact bA BK330⟩, ⟨kB HB⟩⟩
  ·
   replace c7 := Bool.eq_false_iff.mpr c7; subst c7; rw [if_neg (show ¬ (false = true) by decide)] at H; have H' := Aside0.mk H; clear H; obtain ⟨hnb25, hnc25⟩ := nB NB329_330; obtain ⟨hcz26_0, hfz26_0⟩ := bC BK329; obtain ⟨hcz27_0, hfz27_0⟩ := bC BK330; go_wp2_with (first | ((with_reducible refine gate_callee (f := 81) rfl ?_); refine gL (some 8) rfl rfl Try.func81 (by kernel_rfl) rfl #[.agg #[.slice A0_0 l0_0.length c0_0], .agg #[.slice A1_0 l1_0.length c1_0]] rfl ?_; (with_reducible refine (impl_areAlike.calls _ _ l0_0 _ _ l1_0 false _ ?side1 ?side2 ?side3 ?side4 A6.out).mono ?_); (case side1 => exact cC (Kd.C_below HR0_0.out HB.out)); (case side2 => exact HC0_0.out); (case side3 => exact cC (Kd.C_below HR1_0.out HB.out)); (case side4 => exact HC1_0.out); rintro e w28 ⟨rfl, hb⟩; refine ⟨_, rfl, ?_⟩; replace BK329 := kA BK329 hb; replace BK330 := kA BK330 hb; replace HB := sB HB hb; (try clear hb))); go_meet
   case rel => exact ⟨_, (true), e2, H', ⟨z99_⟩, ⟨by exact bA BK329⟩, ⟨by exact bA BK330⟩, ⟨kB HB⟩⟩
 case rest =>
  clear HC3; obtain ⟨kq, x19_2, rfl, HA, HJ2, BK329, BK330, HB⟩ := hcut; cases kq with
  | zero => exact absurd HA.out (by simp [impl_KeepsForm.j0])
  | succ kj2 =>
   have H := HA.out; clear HA; simp only [impl_KeepsForm.j0] at H; by_cases c29 : x19_2 = true
   · subst c29; rw [if_pos rfl] at H; simp only [Option.some.injEq, Prod.mk.injEq] at H; obtain ⟨rfl, rfl⟩ := H; go_wp2; go_ret2; exact ⟨e1, kB HB⟩
   ·
    replace c29 := Bool.eq_false_iff.mpr c29; subst c29; rw [if_neg (show ¬ (false = true) by decide)] at H; replace H := oB H; obtain ⟨t334, A30, H⟩ := H; replace H := oB H; obtain ⟨t337, A31, H⟩ := H; replace H := oB H; obtain ⟨t340, A32, H⟩ := H; replace H := oB H; obtain ⟨t343, A33, H⟩ := H; simp only [Option.some.injEq, Prod.mk.injEq] at H; obtain ⟨rfl, rfl⟩ := H
    try go_wp2
    have n0_ := Aside0.mk (blk_drew BK329.out); have n1_ := Aside0.mk (blk_drew BK330.out); have n2_ := Aside0.mk (below_drew1 HB.out); clear BK329; clear BK330; clear HB; have BK329 := n0_; have BK330 := n1_; have HB := n2_; clear n0_ n1_ n2_; refine start_ (n := 10) (S := fun w' => w'.cell? ⟨gb329, 0, none⟩ = some (.slice A0_0 l0_0.length c0_0) ∧ w'.cell? ⟨gb330, 0, none⟩ = some (.slice A1_0 l1_0.length c1_0)) (ds := []) #[O,O,O,O,O,O,O,O,O,O] (by kernel_rfl) rfl rfl ⟨(blk_cell BK329.out 0).trans rfl, (blk_cell BK330.out 0).trans rfl⟩ (fun hHeld => ?_); refine with_tabW impl_KeepsForm.tab3 impl_KeepsForm.bits3 (fun HT_ HW_ => ?_); generalize wc.drew = w34 at BK329 BK330 HB hHeld ⊢; refine tS 0 20 (BM 10 1) hHeld ?_; refine tS 2 22 (BM 10 5) hHeld ?_; refine tS 4 24 (BM 10 21) hHeld ?_; refine tS 6 26 (BM 10 85) hHeld ?_; refine oS 1 21 (BM 10 87) (fun K hK => ?_); refine goes_ Try.func94 (by kernel_rfl) rfl #[.agg #[.slice A0_0 l0_0.length c0_0]] (by rfl) rfl rfl (by (try simp only [List.map_toArray, List.map_cons, List.map_nil]); first | done | rfl | (simp only [List.length_drop, List.length_take]; rfl)) ?_
    with_reducible refine (impl_Matrix_transposed.calls _ _ l0_0 t334 _ ?side1 ?side2 A30.out).mono ?_
    (case side1 => exact cC (Kd.C_below HR0_0.out HB.out)); (case side2 => exact HC0_0.out); rintro e w35 ⟨v335, rfl, ho0, hb⟩; refine ⟨_, rfl, ?_⟩; have n0_ := Aside0.mk (Kd.S_lower ho0 (below_size (kB HB))); have n1_ := kA BK329 hb; have n2_ := kA BK330 hb; have n3_ := sB HB hb; clear BK329; clear BK330; clear HB; have HO336 := n0_; have BK329 := n1_; have BK330 := n2_; have HB := n3_; clear n0_ n1_ n2_ n3_; (try clear hb); (try clear ho0); obtain ⟨Ao36, co36, eo36⟩ := Kd.S_slice HO336.out; (first | subst eo36 | (injection eo36 with f1_ f2_ f3_; have f4_ := f1_.symm; have f5_ := f3_.symm; clear f1_ f2_ f3_; subst f4_; subst f5_)); refine hK.out _ _ ⟨(blk_cell BK329.out 0).trans rfl, (blk_cell BK330.out 0).trans rfl⟩ (fun hHeld => ?_); clear hK K; refine norm_ (a' := ?_) ?_ ?_
    rotate_left
    ·
     show Act.put _ (some 21) _ = _
     simp only [AP]; rfl
    refine oS 3 23 (BM 10 95) (fun K hK => ?_); refine goes_ Try.func92 (by kernel_rfl) rfl #[.agg #[.slice Ao36 t334.length co36], .agg #[.slice A1_0 l1_0.length c1_0]] (by rfl) rfl rfl (by (try simp only [List.map_toArray, List.map_cons, List.map_nil]); first | done | rfl | (simp only [List.length_drop, List.length_take]; rfl)) ?_
    with_reducible refine (impl_Matrix_times.calls _ _ t334 _ _ l1_0 t337 _ ?side1 ?side2 ?side3 ?side4 A31.out).mono ?_
    (case side1 => exact cC (Kd.S_reads' HO336.out).2.2); (case side2 => exact (Kd.S_reads' HO336.out).2.1); (case side3 => exact cC (Kd.C_below HR1_0.out HB.out)); (case side4 => exact HC1_0.out); rintro e w37 ⟨v338, rfl, ho0, hb⟩; refine ⟨_, rfl, ?_⟩; have n0_ := Aside0.mk (Kd.S_elder' z91_ (Kd.S_base ho0) hb); have n1_ := Aside0.mk (Kd.S_lower (Kd.S_new' ho0 (Kd.S_lt z91_)) (below_size (kB HB))); have n2_ := kA BK329 hb; have n3_ := kA BK330 hb; have n4_ := sB HB hb; clear HO336; clear BK329; clear BK330; clear HB; have HO336 := n0_; have HO339 := n1_; have BK329 := n2_; have BK330 := n3_; have HB := n4_; clear n0_ n1_ n2_ n3_ n4_; (try clear hb); (try clear ho0); obtain ⟨Ao38, co38, eo38⟩ := Kd.S_slice HO339.out; (first | subst eo38 | (injection eo38 with f1_ f2_ f3_; have f4_ := f1_.symm; have f5_ := f3_.symm; clear f1_ f2_ f3_; subst f4_; subst f5_)); refine hK.out _ _ ⟨(blk_cell BK329.out 0).trans rfl, (blk_cell BK330.out 0).trans rfl⟩ (fun hHeld => ?_); clear hK K; refine norm_ (a' := ?_) ?_ ?_
    rotate_left
    ·
     show Act.put _ (some 23) _ = _
     simp only [AP]; rfl
    refine oS 5 25 (BM 10 127) (fun K hK => ?_); refine goes_ Try.func92 (by kernel_rfl) rfl #[.agg #[.slice Ao38 t337.length co38], .agg #[.slice A0_0 l0_0.length c0_0]] (by rfl) rfl rfl (by (try simp only [List.map_toArray, List.map_cons, List.map_nil]); first | done | rfl | (simp only [List.length_drop, List.length_take]; rfl)) ?_
    with_reducible refine (impl_Matrix_times.calls _ _ t337 _ _ l0_0 t340 _ ?side1 ?side2 ?side3 ?side4 A32.out).mono ?_
    (case side1 => exact cC (Kd.S_reads' HO339.out).2.2); (case side2 => exact (Kd.S_reads' HO339.out).2.1); (case side3 => exact cC (Kd.C_below HR0_0.out HB.out)); (case side4 => exact HC0_0.out); rintro e w39 ⟨v341, rfl, ho0, hb⟩; refine ⟨_, rfl, ?_⟩; have n0_ := Aside0.mk (Kd.S_elder' z91_ (Kd.S_base ho0) hb); have n1_ := Aside0.mk (Kd.S_elder' z93_ (Kd.S_base ho0) hb); have n2_ := Aside0.mk (Kd.S_lower (Kd.S_new' (Kd.S_new' ho0 (Kd.S_lt z91_)) (Kd.S_lt z93_)) (below_size (kB HB))); have n3_ := kA BK329 hb; have n4_ := kA BK330 hb; have n5_ := sB HB hb; clear HO336; clear HO339; clear BK329; clear BK330; clear HB; have HO336 := n0_; have HO339 := n1_; have HO342 := n2_; have BK329 := n3_; have BK330 := n4_; have HB := n5_; clear n0_ n1_ n2_ n3_ n4_ n5_; (try clear hb); (try clear ho0); obtain ⟨Ao40, co40, eo40⟩ := Kd.S_slice HO342.out; (first | subst eo40 | (injection eo40 with f1_ f2_ f3_; have f4_ := f1_.symm; have f5_ := f3_.symm; clear f1_ f2_ f3_; subst f4_; subst f5_)); refine hK.out _ _ ⟨(blk_cell BK329.out 0).trans rfl, (blk_cell BK330.out 0).trans rfl⟩ (fun hHeld => ?_); clear hK K; refine norm_ (a' := ?_) ?_ ?_
    rotate_left
    ·
     show Act.put _ (some 25) _ = _
     simp only [AP]; rfl
    refine oS 7 27 (BM 10 255) (fun K hK => ?_); refine goes_ Try.func104 (by kernel_rfl) rfl #[.agg #[.slice Ao40 t340.length co40], .agg #[.slice A1_0 l1_0.length c1_0]] (by rfl) rfl rfl (by (try simp only [List.map_toArray, List.map_cons, List.map_nil]); first | done | rfl | (simp only [List.length_drop, List.length_take]; rfl)) ?_
    with_reducible refine (impl_sameMatrix.calls _ _ t340 _ _ l1_0 t343 _ ?side1 ?side2 ?side3 ?side4 A33.out).mono ?_
    (case side1 => exact cC (Kd.S_reads' HO342.out).2.2); (case side2 => exact (Kd.S_reads' HO342.out).2.1); (case side3 => exact cC (Kd.C_below HR1_0.out HB.out)); (case side4 => exact HC1_0.out); rintro e w41 ⟨rfl, hb⟩; refine ⟨_, rfl, ?_⟩; have n0_ := vS z91_ hb; have n1_ := vS z93_ hb; have n2_ := Aside0.mk (Kd.S_below (sP HO342.out) hb); have n3_ := kA BK329 hb; have n4_ := kA BK330 hb; have n5_ := sB HB hb; clear HO336; clear HO339; clear HO342; clear BK329; clear BK330; clear HB; have HO336 := n0_; have HO339 := n1_; have HO342 := n2_; have BK329 := n3_; have BK330 := n4_; have HB := n5_; clear n0_ n1_ n2_ n3_ n4_ n5_; (try clear hb); refine hK.out _ _ ⟨(blk_cell BK329.out 0).trans rfl, (blk_cell BK330.out 0).trans rfl⟩ (fun hHeld => ?_); clear hK K; refine norm_ (a' := ?_) ?_ ?_
    rotate_left
    ·
     show Act.put _ (some 27) _ = _
     simp only [AP]; rfl
    refine pS 8 4 (BM 10 511) ?_; refine pS 9 5 (BM 10 1023) ?_; refine done_ (done_of HT_.out (by kernel_rfl)) ?_
    try go_wp2
    go_ret2; exact ⟨e1, kB HB⟩

end Go.Proofs.Ytldkkfpodldbgaa.P
