-- Written by a program of this session (wip/mkprint.py over the kit's print), out of the translation. Not trusted: Lean checks it.
import Derived.Test.YtldkkfpodldbgaaRx0
namespace Go.Proofs.Ytldkkfpodldbgaa.P
open Go.RowKit Go.Proofs.YtldkkfpodldbgaaW.PrintWords Go.Proofs.YtldkkfpodldbgaaW.PrintLast Go.Proofs.YtldkkfpodldbgaaW.PrintMore
attribute [local go_sem] max2_int min2_int max_two min_two max_three min_three max_four min_four   -- for this text's walks alone
set_option linter.unusedVariables false
set_option linter.unusedSimpArgs false
set_option maxHeartbeats 8000000
set_option maxRecDepth 100000

/-! ### spec_l1In: function 73 -/
def spec_l1In.f (a0 : Int) (a1 : Int) (a2 : Int) : Option (Bool) := if a0 ≥ a1 then (some (decide (a0 ≤ a2))) else (some false)
theorem spec_l1In.calls (a0 : Int) (a1 : Int) (a2 : Int) (r : Bool) (w : World) (h : spec_l1In.f a0 a1 a2 = some r) :
 Calls Try.prog 73 #[.int .i64 a0, .int .i64 a1, .int .i64 a2] w fun e w' => e = .returned (.bool r) ∧ Drawn0 w w' := by
 have H : (if a0 ≥ a1 then (some (decide (a0 ≤ a2))) else (some false)) = some r := h; clear h; by_cases c4 : a0 ≥ a1
 · rw [if_pos c4] at H; have c4b0 := decide_eq_true c4; clear c4; obtain rfl := Option.some.inj H; go_enter Try.func73, Try.ntmps73; go_wp2; go_ret; exact ⟨e2, dz⟩
 · rw [if_neg c4] at H; have c4b0 := decide_eq_false c4; clear c4; obtain rfl := Option.some.inj H; go_enter Try.func73, Try.ntmps73; go_wp2; go_ret; exact ⟨e2, dz⟩

/-! ### spec_l1All: function 74 -/
def spec_l1All.l0 : Nat → Int → Int → List Int → Int → Int → Option (Bool)
 | 0, _, _, _, _, _ => none
 | k + 1, x1, x2, x9, x10, x11 => if x11 < x10 then (if 0 ≤ x11 then (if x11 < (x9.length : Int) then ((spec_l1In.f (rd x9 x11) x1 x2).bind fun t102 => (if t102 = true then (spec_l1All.l0 k x1 x2 x9 x10 (wrap64 (x11 + 1))) else (some false))) else (none)) else (none)) else (some true)
def spec_l1All.f (k : Nat) (l0 : List Int) (a1 : Int) (a2 : Int) : Option (Bool) := spec_l1All.l0 k a1 a2 l0 (l0.length : Int) 0
theorem spec_l1All.mono_l : ∀ k, (∀ y0 y1 y2 y3 y4, LeO (spec_l1All.l0 k y0 y1 y2 y3 y4) (spec_l1All.l0 (k + 1) y0 y1 y2 y3 y4))
 | 0 => fun _ _ _ _ _ r h => by simp [spec_l1All.l0] at h
 | k + 1 => by
  have ih0 := spec_l1All.mono_l k
  ·
   intro y0 y1 y2 y3 y4; unfold spec_l1All.l0
   repeat' with_reducible first | exact ih0 _ _ _ _ _ | exact LeO.refl _ | exact LeO.none _ | refine LeO.ite ?_ ?_ | refine LeO.bind ?_ (fun _ => ?_)
theorem spec_l1All.mono : ∀ a0 a1 a2 k, LeO (spec_l1All.f k a0 a1 a2) (spec_l1All.f (k + 1) a0 a1 a2) := by
 intro a0 a1 a2 k; have ih0 := spec_l1All.mono_l k; unfold spec_l1All.f
 repeat' with_reducible first | exact ih0 _ _ _ _ _ | exact LeO.refl _ | exact LeO.none _ | refine LeO.ite ?_ ?_ | refine LeO.bind ?_ (fun _ => ?_)
theorem spec_l1All.calls (k : Nat) (A0 : Option Addr) (c0 : Nat) (l0 : List Int) (a1 : Int) (a2 : Int) (r : Bool) (w : World) (hr0 : Kd.C (Kd.int .i64) w A0 l0.length l0) (hc0 : l0.length ≤ c0) (h : spec_l1All.f k l0 a1 a2 = some r) :
 Calls Try.prog 74 #[.slice A0 l0.length c0, .int .i64 a1, .int .i64 a2] w fun e w' => e = .returned (.bool r) ∧ Drawn0 w w' := by
 have HR0 := Aside0.mk hr0; have HC0 := Aside0.mk hc0; clear hr0 hc0; have H : (spec_l1All.l0 k a1 a2 l0 (l0.length : Int) 0) = some r := h; clear h; have H' := Aside0.mk H; clear H; go_enter Try.func74, Try.ntmps74; go_wp2; go_loopg [11] k (fun kq v11 w' => ∃ (x11_1 : Int), v11 = .int .i64 x11_1 ∧ Aside0 (spec_l1All.l0 kq a1 a2 l0 (l0.length : Int) x11_1 = some r) ∧ Aside0 (kq ≤ k) ∧ Drawn0 w w')
 case atStart => exact ⟨(0), e2, H', ⟨Nat.le_refl _⟩, dz⟩
 case round =>
  clear H'; obtain ⟨x11_1, rfl, HA, HK1, ⟨m1, rfl⟩⟩ := hrel; cases gk with
  | zero => exact absurd HA.out (by simp [spec_l1All.l0])
  | succ k1 =>
   have H := HA.out; clear HA; simp only [spec_l1All.l0] at H; by_cases c4 : x11_1 < (l0.length : Int)
   ·
    rw [if_pos c4] at H; have c4b0 := decide_eq_true c4; clear c4; by_cases c5 : 0 ≤ x11_1
    ·
     rw [if_pos c5] at H; have c5b0 := decide_eq_true c5; clear c5; by_cases c6 : x11_1 < (l0.length : Int)
     ·
      rw [if_pos c6] at H; have c6b0 := decide_eq_true c6; clear c6; replace H := oB H; obtain ⟨t102, A7, H⟩ := H; by_cases c8 : t102 = true
      ·
       subst c8; rw [if_pos rfl] at H; have H' := Aside0.mk H; clear H; have p101 : 0 ≤ (x11_1 : Int) := od; have q101 : x11_1 < (l0.length : Int) := od; obtain ⟨ad101, e101, hx101_0⟩ := Kd.at_int HR0.out x11_1 p101 q101; cases e101; replace p101 := eq_true p101; replace q101 := eq_true q101; go_wp2_with (first | ((with_reducible refine gate_callee (f := 73) rfl ?_); refine gL (some 18) rfl rfl Try.func73 (by kernel_rfl) rfl #[.int .i64 (rd l0 x11_1), .int .i64 a1, .int .i64 a2] rfl ?_; (with_reducible refine (spec_l1In.calls (rd l0 x11_1) a1 a2 true _ A7.out).mono ?_); rintro e w' ⟨rfl, ⟨nd, rfl⟩⟩; refine ⟨_, rfl, ?_⟩)); go_roundg k1
       case measure => have := HK1.out; omega
       case rel => exact ⟨(wrap64 (x11_1 + 1)), e2, H', ⟨by have := HK1.out; omega⟩, dz⟩
      · replace c8 := Bool.eq_false_iff.mpr c8; subst c8; rw [if_neg (show ¬ (false = true) by decide)] at H; obtain rfl := Option.some.inj H; have p101 : 0 ≤ (x11_1 : Int) := od; have q101 : x11_1 < (l0.length : Int) := od; obtain ⟨ad101, e101, hx101_0⟩ := Kd.at_int HR0.out x11_1 p101 q101; cases e101; replace p101 := eq_true p101; replace q101 := eq_true q101; go_wp2_with (first | ((with_reducible refine gate_callee (f := 73) rfl ?_); refine gL (some 18) rfl rfl Try.func73 (by kernel_rfl) rfl #[.int .i64 (rd l0 x11_1), .int .i64 a1, .int .i64 a2] rfl ?_; (with_reducible refine (spec_l1In.calls (rd l0 x11_1) a1 a2 false _ A7.out).mono ?_); rintro e w' ⟨rfl, ⟨nd, rfl⟩⟩; refine ⟨_, rfl, ?_⟩)); go_ret; exact ⟨e2, dz⟩
     · rw [if_neg c6] at H; exact absurd H (by simp)
    · rw [if_neg c5] at H; exact absurd H (by simp)
   · rw [if_neg c4] at H; have c4b0 := decide_eq_false c4; clear c4; obtain rfl := Option.some.inj H; go_wp2; go_ret; exact ⟨e2, dz⟩

/-! ### spec_foGood: function 78 -/
def spec_foGood.l0 : Nat → List (List Int) → Int → Int → List (List Int) → Option (Bool)
 | 0, _, _, _, _ => none
 | k + 1, x11, x12, x13, x104000 => if x13 < x12 then (if 0 ≤ x13 then (if x13 < (x11.length : Int) then (if ((rd_L1 x11 x13).length : Int) = (x104000.length : Int) then ((spec_l1All.f k (rd_L1 x11 x13) (-1000000) 1000000).bind fun t106 => (if t106 = true then (spec_foGood.l0 k x11 x12 (wrap64 (x13 + 1)) x104000) else (some false))) else (some false)) else (none)) else (none)) else (some true)
def spec_foGood.f (k : Nat) (l0_0 : List (List Int)) : Option (Bool) := (spec_l1In.f (l0_0.length : Int) 1 4).bind fun t104 => (if t104 = true then (spec_foGood.l0 k l0_0 (l0_0.length : Int) 0 l0_0) else (some false))
theorem spec_foGood.mono_l : ∀ k, (∀ y0 y1 y2 y3, LeO (spec_foGood.l0 k y0 y1 y2 y3) (spec_foGood.l0 (k + 1) y0 y1 y2 y3))
 | 0 => fun _ _ _ _ r h => by simp [spec_foGood.l0] at h
 | k + 1 => by
  have ih0 := spec_foGood.mono_l k
  ·
   intro y0 y1 y2 y3; unfold spec_foGood.l0
   repeat' with_reducible first | exact ih0 _ _ _ _ | exact spec_l1All.mono _ _ _ _ | exact LeO.refl _ | exact LeO.none _ | refine LeO.ite ?_ ?_ | refine LeO.bind ?_ (fun _ => ?_)
theorem spec_foGood.mono : ∀ a0 k, LeO (spec_foGood.f k a0) (spec_foGood.f (k + 1) a0) := by
 intro a0 k; have ih0 := spec_foGood.mono_l k; unfold spec_foGood.f
 repeat' with_reducible first | exact ih0 _ _ _ _ | exact spec_l1All.mono _ _ _ _ | exact LeO.refl _ | exact LeO.none _ | refine LeO.ite ?_ ?_ | refine LeO.bind ?_ (fun _ => ?_)
theorem spec_foGood.calls (k : Nat) (A0_0 : Option Addr) (c0_0 : Nat) (l0_0 : List (List Int)) (r : Bool) (w : World) (hr0_0 : Kd.C (Kd.slice 3 (Kd.int .i64)) w A0_0 l0_0.length l0_0) (hc0_0 : l0_0.length ≤ c0_0) (h : spec_foGood.f k l0_0 = some r) :
 Calls Try.prog 78 #[.agg #[.slice A0_0 l0_0.length c0_0]] w fun e w' => e = .returned (.bool r) ∧ Below w.heap.size w w' := by
 have hu26 := Try.underlying26; have HR0_0 := Aside0.mk hr0_0; have HC0_0 := Aside0.mk hc0_0; clear hr0_0 hc0_0; have HB := Aside0.mk (Below.refl w.heap.size w); have H : ((spec_l1In.f (l0_0.length : Int) 1 4).bind fun t104 => (if t104 = true then (spec_foGood.l0 k l0_0 (l0_0.length : Int) 0 l0_0) else (some false))) = some r := h; clear h; replace H := oB H; obtain ⟨t104, A2, H⟩ := H; by_cases c3 : t104 = true
 ·
  subst c3; rw [if_pos rfl] at H; have H' := Aside0.mk H; clear H; go_enter Try.func78, Try.ntmps78; go_wp2_with (first | ((with_reducible refine gate_dst (N := 1) rfl ?_); refine box_event ?hg (N := 1) ?hd (cs := #[.slice A0_0 l0_0.length c0_0]) (t := 26) ?hr ?_; (case hd => rfl); (case hg => rfl); (case hr => exact z98_); intro gb103 hg w4 hbox hb; have BK103 := Aside0.mk (hbox); have GW103 := gW HB hg; have GE103 := gW HB hg; replace HB := sT bq hb; clear hb hbox hg; obtain ⟨hcz5_0, hfz5_0⟩ := bC BK103) | ((with_reducible refine gate_callee (f := 73) rfl ?_); refine gL (some 8) rfl rfl Try.func73 (by kernel_rfl) rfl #[.int .i64 (l0_0.length : Int), .int .i64 1, .int .i64 4] rfl ?_; (with_reducible refine (spec_l1In.calls (l0_0.length : Int) 1 4 true _ A2.out).mono ?_); rintro e w' ⟨rfl, ⟨nd, rfl⟩⟩; refine ⟨_, rfl, ?_⟩)); go_loopg [13] k (fun kq v13 w' => ∃ (x13_1 : Int), v13 = .int .i64 x13_1 ∧ Aside0 (spec_foGood.l0 kq l0_0 (l0_0.length : Int) x13_1 l0_0 = some r) ∧ Aside0 (kq ≤ k) ∧ Aside0 (w'.heap[gb103]? = some (.cells #[(.slice A0_0 l0_0.length c0_0)] 26 (0, 0))) ∧ Aside0 (Below w.heap.size w w'))
  case atStart => exact ⟨(0), e2, H', ⟨Nat.le_refl _⟩, ⟨by exact bA BK103⟩, ⟨kB HB⟩⟩
  case round =>
   clear H'; (try clear c3); (try clear hcz5_0); (try clear hfz5_0); obtain ⟨x13_1, rfl, HA, HK1, BK103, HB⟩ := hrel; cases gk with
   | zero => exact absurd HA.out (by simp [spec_foGood.l0])
   | succ k1 =>
    have H := HA.out; clear HA; simp only [spec_foGood.l0] at H; by_cases c6 : x13_1 < (l0_0.length : Int)
    ·
     rw [if_pos c6] at H; have c6b0 := decide_eq_true c6; clear c6; by_cases c7 : 0 ≤ x13_1
     ·
      rw [if_pos c7] at H; have c7b0 := decide_eq_true c7; clear c7; by_cases c8 : x13_1 < (l0_0.length : Int)
      ·
       rw [if_pos c8] at H; have c8b0 := decide_eq_true c8; clear c8; by_cases c9 : ((rd_L1 l0_0 x13_1).length : Int) = (l0_0.length : Int)
       ·
        rw [if_pos c9] at H; have c9b0 : (((rd_L1 l0_0 x13_1).length : Int) == (l0_0.length : Int)) = true := beq_iff_eq.mpr c9; have c9b1 : (((rd_L1 l0_0 x13_1).length : Int) != (l0_0.length : Int)) = false := bne_eq_false_iff_eq.mpr c9; have c9b2 : ((rd_L1 l0_0 x13_1).length == l0_0.length) = true := by first | simpa using c9 | (simp at c9 ⊢; omega)
        clear c9; replace H := oB H; obtain ⟨t106, A10, H⟩ := H; by_cases c11 : t106 = true
        ·
         subst c11; rw [if_pos rfl] at H; have H' := Aside0.mk H; clear H; have p105 : 0 ≤ (x13_1 : Int) := od; have q105 : x13_1 < (l0_0.length : Int) := od; obtain ⟨ad105, A105_0, c105_0, e105, hx105_0, hl105_0, hi105_0⟩ := at_L1 HR0_0.out x13_1 p105 q105; cases e105; replace hx105_0 := (HB.out.cell (World.block_lt_of_cell? w _ hx105_0)).trans hx105_0; have HR105_0 := Aside0.mk hi105_0; have HC105_0 := Aside0.mk hl105_0; clear hi105_0 hl105_0; replace p105 := eq_true p105; replace q105 := eq_true q105; obtain ⟨hcz12_0, hfz12_0⟩ := bC BK103; go_wp2_with (first | (go_at_call 74; (with_reducible refine (spec_l1All.calls k1 _ _ (rd_L1 l0_0 x13_1) (-1000000) 1000000 true _ ?side1 ?side2 A10.out).mono ?_); (case side1 => exact cC (Kd.C_below HR105_0.out HB.out)); (case side2 => exact HC105_0.out); rintro e w' ⟨rfl, ⟨nd, rfl⟩⟩)); go_roundg k1
         case measure => have := HK1.out; omega
         case rel => exact ⟨(wrap64 (x13_1 + 1)), e2, H', ⟨by have := HK1.out; omega⟩, ⟨by exact bA BK103⟩, ⟨kB HB⟩⟩
        · replace c11 := Bool.eq_false_iff.mpr c11; subst c11; rw [if_neg (show ¬ (false = true) by decide)] at H; obtain rfl := Option.some.inj H; have p105 : 0 ≤ (x13_1 : Int) := od; have q105 : x13_1 < (l0_0.length : Int) := od; obtain ⟨ad105, A105_0, c105_0, e105, hx105_0, hl105_0, hi105_0⟩ := at_L1 HR0_0.out x13_1 p105 q105; cases e105; replace hx105_0 := (HB.out.cell (World.block_lt_of_cell? w _ hx105_0)).trans hx105_0; have HR105_0 := Aside0.mk hi105_0; have HC105_0 := Aside0.mk hl105_0; clear hi105_0 hl105_0; replace p105 := eq_true p105; replace q105 := eq_true q105; obtain ⟨hcz13_0, hfz13_0⟩ := bC BK103; go_wp2_with (first | (go_at_call 74; (with_reducible refine (spec_l1All.calls k1 _ _ (rd_L1 l0_0 x13_1) (-1000000) 1000000 false _ ?side1 ?side2 A10.out).mono ?_); (case side1 => exact cC (Kd.C_below HR105_0.out HB.out)); (case side2 => exact HC105_0.out); rintro e w' ⟨rfl, ⟨nd, rfl⟩⟩)); go_ret; exact ⟨e1, kB HB⟩
       ·
        rw [if_neg c9] at H; have c9b0 : (((rd_L1 l0_0 x13_1).length : Int) == (l0_0.length : Int)) = false := beq_eq_false_iff_ne.mpr c9; have c9b1 : (((rd_L1 l0_0 x13_1).length : Int) != (l0_0.length : Int)) = true := bne_iff_ne.mpr c9; have c9b2 : ((rd_L1 l0_0 x13_1).length == l0_0.length) = false := by first | simpa using c9 | (simp at c9 ⊢; omega)
        obtain rfl := Option.some.inj H; have p105 : 0 ≤ (x13_1 : Int) := od; have q105 : x13_1 < (l0_0.length : Int) := od; obtain ⟨ad105, A105_0, c105_0, e105, hx105_0, hl105_0, hi105_0⟩ := at_L1 HR0_0.out x13_1 p105 q105; cases e105; replace hx105_0 := (HB.out.cell (World.block_lt_of_cell? w _ hx105_0)).trans hx105_0; have HR105_0 := Aside0.mk hi105_0; have HC105_0 := Aside0.mk hl105_0; clear hi105_0 hl105_0; replace p105 := eq_true p105; replace q105 := eq_true q105; obtain ⟨hcz14_0, hfz14_0⟩ := bC BK103; go_wp2; go_ret; exact ⟨e1, kB HB⟩
      · rw [if_neg c8] at H; exact absurd H (by simp)
     · rw [if_neg c7] at H; exact absurd H (by simp)
    · rw [if_neg c6] at H; have c6b0 := decide_eq_false c6; clear c6; obtain rfl := Option.some.inj H; go_wp2; go_ret; exact ⟨e1, kB HB⟩
 · replace c3 := Bool.eq_false_iff.mpr c3; subst c3; rw [if_neg (show ¬ (false = true) by decide)] at H; obtain rfl := Option.some.inj H; go_enter Try.func78, Try.ntmps78; go_wp2_with (first | ((with_reducible refine gate_dst (N := 1) rfl ?_); refine box_event ?hg (N := 1) ?hd (cs := #[.slice A0_0 l0_0.length c0_0]) (t := 26) ?hr ?_; (case hd => rfl); (case hg => rfl); (case hr => exact z98_); intro gb103 hg w15 hbox hb; have BK103 := Aside0.mk (hbox); have GW103 := gW HB hg; have GE103 := gW HB hg; replace HB := sT bq hb; clear hb hbox hg; obtain ⟨hcz16_0, hfz16_0⟩ := bC BK103) | ((with_reducible refine gate_callee (f := 73) rfl ?_); refine gL (some 8) rfl rfl Try.func73 (by kernel_rfl) rfl #[.int .i64 (l0_0.length : Int), .int .i64 1, .int .i64 4] rfl ?_; (with_reducible refine (spec_l1In.calls (l0_0.length : Int) 1 4 false _ A2.out).mono ?_); rintro e w' ⟨rfl, ⟨nd, rfl⟩⟩; refine ⟨_, rfl, ?_⟩)); go_ret; exact ⟨e1, kB HB⟩

/-! ### spec_foPair: function 75 -/
def spec_foPair.f (k : Nat) (l0_0 : List (List Int)) (l1_0 : List (List Int)) : Option (Bool) := (spec_foGood.f k l0_0).bind fun t109 => (if t109 = true then ((spec_foGood.f k l1_0).bind fun t110 => (if t110 = true then (some ((l0_0.length : Int) == (l1_0.length : Int))) else (some false))) else (some false))
theorem spec_foPair.mono : ∀ a0 a1 k, LeO (spec_foPair.f k a0 a1) (spec_foPair.f (k + 1) a0 a1) := by
 intro a0 a1 k; unfold spec_foPair.f
 repeat' with_reducible first | exact spec_foGood.mono _ _ | exact LeO.refl _ | exact LeO.none _ | refine LeO.ite ?_ ?_ | refine LeO.bind ?_ (fun _ => ?_)
theorem spec_foPair.calls (k : Nat) (A0_0 : Option Addr) (c0_0 : Nat) (l0_0 : List (List Int)) (A1_0 : Option Addr) (c1_0 : Nat) (l1_0 : List (List Int)) (r : Bool) (w : World) (hr0_0 : Kd.C (Kd.slice 3 (Kd.int .i64)) w A0_0 l0_0.length l0_0) (hc0_0 : l0_0.length ≤ c0_0) (hr1_0 : Kd.C (Kd.slice 3 (Kd.int .i64)) w A1_0 l1_0.length l1_0) (hc1_0 : l1_0.length ≤ c1_0) (h : spec_foPair.f k l0_0 l1_0 = some r) :
 Calls Try.prog 75 #[.agg #[.slice A0_0 l0_0.length c0_0], .agg #[.slice A1_0 l1_0.length c1_0]] w fun e w' => e = .returned (.bool r) ∧ Below w.heap.size w w' := by
 have hu26 := Try.underlying26; have HR0_0 := Aside0.mk hr0_0; have HC0_0 := Aside0.mk hc0_0; clear hr0_0 hc0_0; have HR1_0 := Aside0.mk hr1_0; have HC1_0 := Aside0.mk hc1_0; clear hr1_0 hc1_0; have HB := Aside0.mk (Below.refl w.heap.size w); have H : ((spec_foGood.f k l0_0).bind fun t109 => (if t109 = true then ((spec_foGood.f k l1_0).bind fun t110 => (if t110 = true then (some ((l0_0.length : Int) == (l1_0.length : Int))) else (some false))) else (some false))) = some r := h; clear h; replace H := oB H; obtain ⟨t109, A3, H⟩ := H; by_cases c4 : t109 = true
 ·
  subst c4; rw [if_pos rfl] at H; replace H := oB H; obtain ⟨t110, A5, H⟩ := H; by_cases c6 : t110 = true
  · subst c6; rw [if_pos rfl] at H; obtain rfl := Option.some.inj H; go_enter Try.func75, Try.ntmps75; go_wp2_with (first | ((with_reducible refine gate_dst (N := 2) rfl ?_); (try (refine gate_guard (by rfl) ?_; dsimp only)); refine box_event ?hg (N := 2) ?hd (cs := #[.slice A0_0 l0_0.length c0_0]) (t := 26) ?hr ?_; (case hd => rfl); (case hg => rfl); (case hr => exact z98_); intro gb107 hg w7 hbox hb; have BK107 := Aside0.mk (hbox); have GW107 := gW HB hg; have GE107 := gW HB hg; replace HB := sT bq hb; clear hb hbox hg) | ((with_reducible refine gate_dst (N := 3) rfl ?_); (try (refine gate_guard (by rfl) ?_; dsimp only)); refine box_event ?hg (N := 3) ?hd (cs := #[.slice A1_0 l1_0.length c1_0]) (t := 26) ?hr ?_; (case hd => rfl); (case hg => rfl); (case hr => exact z98_); intro gb108 hg w8 hbox hb; have BK108 := Aside0.mk (hbox); have GW108 := gW HB hg; have GE108 := gW HB hg; replace HB := sB HB hb; obtain ⟨NB107_108, NB108_107⟩ := nE BK107 hg; replace BK107 := kA BK107 hb; clear hb hbox hg; obtain ⟨hnb9, hnc9⟩ := nB NB107_108; obtain ⟨hcz10_0, hfz10_0⟩ := bC BK107) | ((with_reducible refine gate_callee (f := 78) rfl ?_); refine gL (some 6) rfl rfl Try.func78 (by kernel_rfl) rfl #[.agg #[.slice A0_0 l0_0.length c0_0]] rfl ?_; (with_reducible refine (spec_foGood.calls k _ _ l0_0 true _ ?side1 ?side2 A3.out).mono ?_); (case side1 => exact cC (Kd.C_below HR0_0.out HB.out)); (case side2 => exact HC0_0.out); rintro e w11 ⟨rfl, hb⟩; refine ⟨_, rfl, ?_⟩; replace BK107 := kA BK107 hb; replace BK108 := kA BK108 hb; replace HB := sB HB hb; (try clear hb); obtain ⟨hcz12_0, hfz12_0⟩ := bC BK108) | (go_at_call 78; (with_reducible refine (spec_foGood.calls k _ _ l1_0 true _ ?side1 ?side2 A5.out).mono ?_); (case side1 => exact cC (Kd.C_below HR1_0.out HB.out)); (case side2 => exact HC1_0.out); rintro e w13 ⟨rfl, hb⟩; replace BK107 := kA BK107 hb; replace BK108 := kA BK108 hb; replace HB := sB HB hb; (try clear hb); obtain ⟨hcz14_0, hfz14_0⟩ := bC BK107; obtain ⟨hcz15_0, hfz15_0⟩ := bC BK108)); go_ret; exact ⟨e1, kB HB⟩
  · replace c6 := Bool.eq_false_iff.mpr c6; subst c6; rw [if_neg (show ¬ (false = true) by decide)] at H; obtain rfl := Option.some.inj H; go_enter Try.func75, Try.ntmps75; go_wp2_with (first | ((with_reducible refine gate_dst (N := 2) rfl ?_); (try (refine gate_guard (by rfl) ?_; dsimp only)); refine box_event ?hg (N := 2) ?hd (cs := #[.slice A0_0 l0_0.length c0_0]) (t := 26) ?hr ?_; (case hd => rfl); (case hg => rfl); (case hr => exact z98_); intro gb107 hg w16 hbox hb; have BK107 := Aside0.mk (hbox); have GW107 := gW HB hg; have GE107 := gW HB hg; replace HB := sT bq hb; clear hb hbox hg) | ((with_reducible refine gate_dst (N := 3) rfl ?_); (try (refine gate_guard (by rfl) ?_; dsimp only)); refine box_event ?hg (N := 3) ?hd (cs := #[.slice A1_0 l1_0.length c1_0]) (t := 26) ?hr ?_; (case hd => rfl); (case hg => rfl); (case hr => exact z98_); intro gb108 hg w17 hbox hb; have BK108 := Aside0.mk (hbox); have GW108 := gW HB hg; have GE108 := gW HB hg; replace HB := sB HB hb; obtain ⟨NB107_108, NB108_107⟩ := nE BK107 hg; replace BK107 := kA BK107 hb; clear hb hbox hg; obtain ⟨hnb18, hnc18⟩ := nB NB107_108; obtain ⟨hcz19_0, hfz19_0⟩ := bC BK107) | ((with_reducible refine gate_callee (f := 78) rfl ?_); refine gL (some 6) rfl rfl Try.func78 (by kernel_rfl) rfl #[.agg #[.slice A0_0 l0_0.length c0_0]] rfl ?_; (with_reducible refine (spec_foGood.calls k _ _ l0_0 true _ ?side1 ?side2 A3.out).mono ?_); (case side1 => exact cC (Kd.C_below HR0_0.out HB.out)); (case side2 => exact HC0_0.out); rintro e w20 ⟨rfl, hb⟩; refine ⟨_, rfl, ?_⟩; replace BK107 := kA BK107 hb; replace BK108 := kA BK108 hb; replace HB := sB HB hb; (try clear hb); obtain ⟨hcz21_0, hfz21_0⟩ := bC BK108) | (go_at_call 78; (with_reducible refine (spec_foGood.calls k _ _ l1_0 false _ ?side1 ?side2 A5.out).mono ?_); (case side1 => exact cC (Kd.C_below HR1_0.out HB.out)); (case side2 => exact HC1_0.out); rintro e w22 ⟨rfl, hb⟩; replace BK107 := kA BK107 hb; replace BK108 := kA BK108 hb; replace HB := sB HB hb; (try clear hb))); go_ret; exact ⟨e1, kB HB⟩
 · replace c4 := Bool.eq_false_iff.mpr c4; subst c4; rw [if_neg (show ¬ (false = true) by decide)] at H; obtain rfl := Option.some.inj H; go_enter Try.func75, Try.ntmps75; go_wp2_with (first | ((with_reducible refine gate_dst (N := 2) rfl ?_); (try (refine gate_guard (by rfl) ?_; dsimp only)); refine box_event ?hg (N := 2) ?hd (cs := #[.slice A0_0 l0_0.length c0_0]) (t := 26) ?hr ?_; (case hd => rfl); (case hg => rfl); (case hr => exact z98_); intro gb107 hg w23 hbox hb; have BK107 := Aside0.mk (hbox); have GW107 := gW HB hg; have GE107 := gW HB hg; replace HB := sT bq hb; clear hb hbox hg) | ((with_reducible refine gate_dst (N := 3) rfl ?_); (try (refine gate_guard (by rfl) ?_; dsimp only)); refine box_event ?hg (N := 3) ?hd (cs := #[.slice A1_0 l1_0.length c1_0]) (t := 26) ?hr ?_; (case hd => rfl); (case hg => rfl); (case hr => exact z98_); intro gb108 hg w24 hbox hb; have BK108 := Aside0.mk (hbox); have GW108 := gW HB hg; have GE108 := gW HB hg; replace HB := sB HB hb; obtain ⟨NB107_108, NB108_107⟩ := nE BK107 hg; replace BK107 := kA BK107 hb; clear hb hbox hg; obtain ⟨hnb25, hnc25⟩ := nB NB107_108; obtain ⟨hcz26_0, hfz26_0⟩ := bC BK107) | ((with_reducible refine gate_callee (f := 78) rfl ?_); refine gL (some 6) rfl rfl Try.func78 (by kernel_rfl) rfl #[.agg #[.slice A0_0 l0_0.length c0_0]] rfl ?_; (with_reducible refine (spec_foGood.calls k _ _ l0_0 false _ ?side1 ?side2 A3.out).mono ?_); (case side1 => exact cC (Kd.C_below HR0_0.out HB.out)); (case side2 => exact HC0_0.out); rintro e w27 ⟨rfl, hb⟩; refine ⟨_, rfl, ?_⟩; replace BK107 := kA BK107 hb; replace BK108 := kA BK108 hb; replace HB := sB HB hb; (try clear hb))); go_ret; exact ⟨e1, kB HB⟩

/-! ### spec_foZero: function 59 -/
def spec_foZero.l0 : Nat → Int → Int → List (List Int) → Option ((List (List Int)))
 | 0, _, _, _ => none
 | k + 1, x0, x4, x113000 => if x4 < x0 then (if 0 ≤ x0 then (if (x0 : Int).toNat ≤ 35184372088832 then (if x113000.length < 5864062014805 then (spec_foZero.l0 k x0 (wrap64 (x4 + 1)) (x113000 ++ [(List.replicate (x0 : Int).toNat 0)])) else (none)) else (none)) else (none)) else (some x113000)
def spec_foZero.f (k : Nat) (a0 : Int) : Option ((List (List Int))) := spec_foZero.l0 k a0 0 ([] : List (List Int))
theorem spec_foZero.mono_l : ∀ k, (∀ y0 y1 y2, LeO (spec_foZero.l0 k y0 y1 y2) (spec_foZero.l0 (k + 1) y0 y1 y2))
 | 0 => fun _ _ _ r h => by simp [spec_foZero.l0] at h
 | k + 1 => by
  have ih0 := spec_foZero.mono_l k
  ·
   intro y0 y1 y2; unfold spec_foZero.l0
   repeat' with_reducible first | exact ih0 _ _ _ | exact LeO.refl _ | exact LeO.none _ | refine LeO.ite ?_ ?_ | refine LeO.bind ?_ (fun _ => ?_)
theorem spec_foZero.mono : ∀ a0 k, LeO (spec_foZero.f k a0) (spec_foZero.f (k + 1) a0) := by
 intro a0 k; have ih0 := spec_foZero.mono_l k; unfold spec_foZero.f
 repeat' with_reducible first | exact ih0 _ _ _ | exact LeO.refl _ | exact LeO.none _ | refine LeO.ite ?_ ?_ | refine LeO.bind ?_ (fun _ => ?_)
def spec_foZero.T5 : Bool × List (List Nat × List Nat) := (true, [([], []), ([0], [0]), ([], []), ([2, 2], [2]), ([3], [3]), ([1, 4], [1, 4]), ([0, 1, 2, 3, 4, 5], []), ([6, 5, 5, 0, 1, 2, 3, 4, 5], [5, 6])])
def spec_foZero.B5 : List Nat := [0, 1, 0, 4, 12, 31, 63, 127]
theorem spec_foZero.tab5 : rtab .any (opsOf Try.f59 5) = spec_foZero.T5 := by kernel_rfl
theorem spec_foZero.bits5 : waitsOk spec_foZero.T5.2 spec_foZero.B5 = true := by kernel_rfl
theorem spec_foZero.calls (k : Nat) (a0 : Int) (r : List (List Int)) (w : World) (h : spec_foZero.f k a0 = some r) :
 Calls Try.prog 59 #[.int .i64 a0] w fun e w' => ∃ v0_ : Value, e = .returned (.agg #[v0_]) ∧ Kd.S (Kd.slice 3 (Kd.int .i64)) 34 w' w.heap.size (fun _ => True) v0_ r ∧ Below w.heap.size w w' := by
 have hu26 := Try.underlying26; have HB := Aside0.mk (Below.refl w.heap.size w); have H : (spec_foZero.l0 k a0 0 ([] : List (List Int))) = some r := h; clear h; have H' := Aside0.mk H; clear H; go_enter Try.func59, Try.ntmps59; go_wp2_with (first | ((with_reducible refine gate_dst (N := 2) rfl ?_); refine box_event ?hg (N := 2) ?hd (cs := #[.slice none 0 0]) (t := 26) ?hr ?_; (case hd => rfl); (case hg => rfl); (case hr => exact z98_); intro gb111 hg w2 hbox hb; have BK111 := Aside0.mk (hbox); have GW111 := gW HB hg; have GE111 := gW HB hg; replace HB := sT bq hb; clear hb hbox hg) | ((with_reducible refine gate_dst (N := 3) rfl ?_); refine box_event ?hg (N := 3) ?hd (cs := #[.slice none 0 0]) (t := 26) ?hr ?_; (case hd => rfl); (case hg => rfl); (case hr => exact z98_); intro gb112 hg w3 hbox hb; have BK112 := Aside0.mk (hbox); have GW112 := gW HB hg; have GE112 := gW HB hg; replace HB := sB HB hb; obtain ⟨NB111_112, NB112_111⟩ := nE BK111 hg; replace BK111 := kA BK111 hb; clear hb hbox hg; obtain ⟨hnb4, hnc4⟩ := nB NB112_111; obtain ⟨hcz5_0, hfz5_0⟩ := bC BK112)); go_loopg [4] k (fun kq v4 w' => ∃ (x4_1 : Int) (x113000_1 : List (List Int)) (u113000 : Value), v4 = .int .i64 x4_1 ∧ Aside0 (spec_foZero.l0 kq a0 x4_1 x113000_1 = some r) ∧ Aside0 (kq ≤ k) ∧ Aside0 (Kd.S (Kd.slice 3 (Kd.int .i64)) 34 w' w.heap.size (fun _ => True) u113000 x113000_1) ∧ Aside0 (w'.heap[gb111]? = some (.cells #[(.slice none 0 0)] 26 (0, 0))) ∧ Aside0 (w'.heap[gb112]? = some (.cells #[u113000] 26 (0, 0))) ∧ Aside0 (Below w.heap.size w w'))
 case atStart => exact ⟨(0), (([] : List (List Int))), (.slice none 0 0), e2, H', ⟨Nat.le_refl _⟩, ⟨z65_⟩, ⟨by refine bR ?_; refine blk_far ?_ NB111_112.out _; exact bA BK111⟩, ⟨by refine bR ?_; refine blk_put (cs := #[.slice none 0 0]) ?_ 0 _ rfl; exact bA BK112⟩, ⟨kB HB⟩⟩
 case round =>
  clear H'; (try clear hcz5_0); (try clear hfz5_0); obtain ⟨x4_1, x113000_1, u113000, rfl, HA, HK1, HO_113000, BK111, BK112, HB⟩ := hrel; cases gk with
  | zero => exact absurd HA.out (by simp [spec_foZero.l0])
  | succ k1 =>
   have H := HA.out; clear HA; simp only [spec_foZero.l0] at H; by_cases c6 : x4_1 < a0
   ·
    rw [if_pos c6] at H; have c6b0 := decide_eq_true c6; clear c6; by_cases c7 : 0 ≤ a0
    ·
     rw [if_pos c7] at H; have c7b0 := eq_true c7; have c7b1 : decide (0 ≤ a0) = true := decide_eq_true c7; clear c7; by_cases c8 : (a0 : Int).toNat ≤ 35184372088832
     ·
      rw [if_pos c8] at H; have c8b0 := eq_true c8; have c8b1 : decide ((a0 : Int).toNat ≤ 35184372088832) = true := decide_eq_true c8; clear c8; obtain ⟨y113, hy113⟩ : ∃ y_ : List Int, y_ = (List.replicate (a0 : Int).toNat 0) := ⟨_, rfl⟩; replace H : (if x113000_1.length < 5864062014805 then (spec_foZero.l0 k1 a0 (wrap64 (x4_1 + 1)) (x113000_1 ++ [y113])) else (none)) = some r := rH hy113 H
      have Ny113 := Aside0.mk hy113; clear hy113; by_cases c9 : x113000_1.length < 5864062014805
      ·
       rw [if_pos c9] at H; have LMc9 := Aside0.mk c9; clear c9; obtain ⟨y116, hy116⟩ : ∃ y_ : List (List Int), y_ = (x113000_1 ++ [y113]) := ⟨_, rfl⟩; replace H : (spec_foZero.l0 k1 a0 (wrap64 (x4_1 + 1)) y116) = some r := rH hy116 H
       have Ny116 := Aside0.mk hy116; clear hy116; have H' := Aside0.mk H; clear H
       try go_wp2
       have n0_ := Aside0.mk (Kd.S_drew HO_113000.out); have n1_ := Aside0.mk (blk_drew BK111.out); have n2_ := Aside0.mk (blk_drew BK112.out); have n3_ := Aside0.mk (below_drew1 HB.out); clear HO_113000; clear BK111; clear BK112; clear HB; have HO_113000 := n0_; have BK111 := n1_; have BK112 := n2_; have HB := n3_; clear n0_ n1_ n2_ n3_; refine start_ (n := 8) (S := fun w' => w'.cell? ⟨gb112, 0, none⟩ = some (u113000)) (ds := [7]) #[O,O,O,O,O,O,O,O] (by kernel_rfl) rfl rfl ((blk_cell BK112.out 0).trans rfl) (fun hHeld => ?_); refine with_tabW spec_foZero.tab5 spec_foZero.bits5 (fun HT_ HW_ => ?_); generalize wr.drew = w10 at HO_113000 BK111 BK112 HB hHeld ⊢; refine pS 0 11 (BM 8 1) ?_; refine pS 2 13 (BM 8 5) ?_; refine take_ (i := 1) (N := some 12) (v := ?_) (a' := ?_) (BM 8 7) rfl rfl (take_ofW HT_.out HW_.out (by kernel_rfl)) (fun _ _ _ h => h) (Or.inl ⟨by rfl, ?_⟩) hHeld ?_ ?_
       rotate_left
       ·
        intro w' s0; go_simp
        with_reducible rfl
       rotate_left
       · simp only [AP]; rfl
       refine oS 3 14 (BM 8 15) (fun K hK => ?_); refine Kd.R_make_step (Kd.int .i64) _ 3 (by rfl) (N := 14) rfl 34 _ _ rfl a0 rfl rfl Try.underlying34 (.int .i64 0) 8 info3 rfl (by decide) (by omega) 0 (ok := fun _ => True) (okp := fun _ => True) rfl (fun _ hk => hk) trivial (od) (Nat.le_trans (Nat.mul_le_mul_right _ (od : a0.toNat ≤ 35184372088832)) (by omega)) (Below.refl _ _) (Nat.le_refl _) ?_; intro v114 w11 ho12 hb hg_ hnew_; clear hg_ hnew_; (first | rw [← Ny113.out] at ho12 | (simp only [Int.reduceToNat] at ho12; rw [← Ny113.out] at ho12)); have n0_ := Aside0.mk (Kd.S_elder' (sP HO_113000.out) (Kd.R_base ho12) hb); have n1_ := Aside0.mk (Kd.R_lower ho12 (below_size (kB HB))); have n2_ := kA BK111 hb; have n3_ := kA BK112 hb; have n4_ := sB HB hb; clear HO_113000; clear BK111; clear BK112; clear HB; have HO_113000 := n0_; have HO115 := n1_; have BK111 := n2_; have BK112 := n3_; have HB := n4_; clear n0_ n1_ n2_ n3_ n4_; clear hb ho12; obtain ⟨Ao14, co14, eo14⟩ := Kd.R_slice HO115.out; (first | subst eo14 | (injection eo14 with f1_ f2_ f3_; have f4_ := f1_.symm; have f5_ := f3_.symm; clear f1_ f2_ f3_; subst f4_; subst f5_)); refine hK.out _ _ ((blk_cell BK112.out 0).trans rfl) (fun hHeld => ?_); clear hK K; refine norm_ (a' := ?_) ?_ ?_
       rotate_left
       ·
        show Act.put _ (some 14) _ = _
        simp only [AP]; rfl
       refine oS 4 15 (BM 8 31) (fun K hK => ?_); refine value_ (w1 := ?_) (v := ?_) (by rfl) rfl ?_ ?_
       rotate_left 2
       ·
        go_simp; constructor
        · rfl
        · rfl
       refine hK.out _ _ ((blk_cell (blk_alloc BK112.out _) 0).trans rfl) (fun hHeld => ?_); clear hK K; refine norm_ (a' := ?_) ?_ ?_
       rotate_left
       ·
        show Act.put _ (some 15) _ = _
        simp only [AP]; rfl
       refine oS 5 16 (BM 8 63) (fun K hK => ?_); refine Kd.S_append_step (Kd.slice 3 (Kd.int .i64)) (w0 := w) w.heap.size (by rfl) (.tmp 12) (.tmp 15) 22 34 (.slice none 0 0) 24 rfl Try.underlying22 info34 rfl (by decide) (by omega) u113000 x113000_1 y113 [.slice Ao14 y113.length co14] (fun _ => True) (fun k_ => some k_ = (.slice Ao14 y113.length co14 : Value).ownBlock) rfl rfl ?aP (fun k_ hk_ => ((Kd.R_mono (ok' := fun k_ => ((fun _ => True)) k_ ∧ some k_ ≠ (u113000 : Value).ownBlock) (Kd.R_apart' (HO115.out) (Kd.S_typed HO_113000.out) (by decide)) (fun k_ hk => ⟨trivial, hk.2⟩))).1 k_ hk_.symm) ?aF ?aO ?aB ?aS ?aL ?_; (case aP => exact Kd.M_row (Kd.R_mono (Kd.R_tight rfl (Kd.R_mono (ok' := fun k_ => ((fun _ => True)) k_ ∧ some k_ ≠ (u113000 : Value).ownBlock) (Kd.R_apart' (HO115.out) (Kd.S_typed HO_113000.out) (by decide)) (fun k_ hk => ⟨trivial, hk.2⟩))) (fun _ h_ => h_))); (case aB => exact (kB HB)); (case aF => exact (fun _ _ => trivial)); (case aO => exact (sP (Kd.S_mono HO_113000.out (fun k_ hk => ⟨trivial, fun e_ => hk.2 e_⟩)))); (case aS => exact (below_size (kB HB))); (case aL => have := LMc9.out; omega); intro v117 w13 ho hb hg hat; rw [← Ny116.out] at ho; have n0_ := Aside0.mk (blk_grown (g := gb111) (o := .cells #[.slice none 0 0] 26 (0, 0)) (bA BK111) hg (Kd.S_ne HO_113000.out BK111.out (by decide))); have n1_ := Aside0.mk (blk_grown (g := gb112) (o := .cells #[u113000] 26 (0, 0)) (bA BK112) hg (Kd.S_ne HO_113000.out BK112.out (by decide))); have n2_ := Aside0.mk (hb); have n3_ := Aside0.mk (ho); clear BK111; clear BK112; clear HB; clear HO_113000; clear HO115; have BK111 := n0_; have BK112 := n1_; have HB := n2_; have HO118 := n3_; clear n0_ n1_ n2_ n3_; clear ho hb hg hat; obtain ⟨Ao15, co15, eo15⟩ := Kd.S_slice HO118.out; (first | subst eo15 | (injection eo15 with f1_ f2_ f3_; have f4_ := f1_.symm; have f5_ := f3_.symm; clear f1_ f2_ f3_; subst f4_; subst f5_)); refine hK.out _ _ ((blk_cell BK112.out 0).trans rfl) (fun hHeld => ?_); clear hK K; refine norm_ (a' := ?_) ?_ ?_
       rotate_left
       ·
        show Act.put _ (some 16) _ = _
        simp only [AP]; rfl
       refine pS 6 17 (BM 8 127) ?_; refine last_ (i := 7) (N := none) (BM 8 255) rfl rfl (one_of HT_.out (by kernel_rfl)) (by decide) (fun K hK => ?_); have hs16 : w13.cell? ⟨gb112, 0, none⟩ = some (u113000) := (blk_cell BK112.out 0).trans rfl; have hfs16 := blk_frozen BK112.out 0; have hns16_0 := NB111_112.out; have hms16_0 := NB112_111.out; refine skip_ (w1 := ?_) (by rfl) rfl ?_ ?_
       rotate_left
       · go_simp; rfl
       refine hK.out _ _ ?_; clear hK K; refine done_ (done_of HT_.out (by kernel_rfl)) ?_
       try go_wp2
       go_roundg k1
       case measure => have := HK1.out; omega
       case rel => exact ⟨(wrap64 (x4_1 + 1)), (y116), (.slice Ao15 y116.length co15), e2, H', ⟨by have := HK1.out; omega⟩, ⟨sP (Kd.S_mono (Kd.S_far (p := ⟨gb112, 0, none⟩) (Kd.S_types HO118.out BK112.out (by decide)) (fun _ hk => hk.2) (.slice Ao15 y116.length co15)) (fun _ hk => trivial))⟩, ⟨by refine bR ?_; refine blk_far ?_ NB111_112.out _; exact bA BK111⟩, ⟨by refine bR ?_; refine blk_put (cs := #[u113000]) ?_ 0 _ rfl; exact bA BK112⟩, ⟨kB HB⟩⟩
      · rw [if_neg c9] at H; exact absurd H (by simp)
     · rw [if_neg c8] at H; exact absurd H (by simp)
    · rw [if_neg c7] at H; exact absurd H (by simp)
   · rw [if_neg c6] at H; have c6b0 := decide_eq_false c6; clear c6; obtain rfl := Option.some.inj H; obtain ⟨hnb17, hnc17⟩ := nB NB112_111; obtain ⟨hcz18_0, hfz18_0⟩ := bC BK112; obtain ⟨Ao19, co19, eo19⟩ := Kd.S_slice HO_113000.out; subst eo19; obtain ⟨hcz20_0, hfz20_0⟩ := bC BK111; go_wp2; refine bodyPost_ret (results_cell_row rfl _ _ gb111 26 #[.slice Ao19 x113000_1.length co19] (0, 0) _ rfl (by refine bR ?_; refine blk_put (cs := #[.slice none 0 0]) ?_ 0 _ rfl; exact bA BK111) Try.underlying26 rfl (by kernel_rfl)) rfl ?_; exact ⟨_, e1, sP (Kd.S_mono (Kd.S_far (p := ⟨gb111, 0, none⟩) (Kd.S_types HO_113000.out BK111.out (by decide)) (fun _ hk => hk.2) (.slice Ao19 x113000_1.length co19)) (fun _ hk => trivial)), kB HB⟩

/-! ### spec_foUnit: function 76 -/
def spec_foUnit.l0 : Nat → Int → Int → List (List Int) → Option ((List (List Int)))
 | 0, _, _, _ => none
 | k + 1, x9, x10, x124000 => if x10 < x9 then (if 0 ≤ x10 then (if x10 < (x124000.length : Int) then (if x10 < ((rd_L1 x124000 x10).length : Int) then (spec_foUnit.l0 k x9 (wrap64 (x10 + 1)) (x124000.set (x10 : Int).toNat ((rd_L1 x124000 x10).set (x10 : Int).toNat 1))) else (none)) else (none)) else (none)) else (some x124000)
def spec_foUnit.f (k : Nat) (a0 : Int) : Option ((List (List Int))) := (spec_foZero.f k a0).bind fun t120 => (spec_foUnit.l0 k (t120.length : Int) 0 t120)
theorem spec_foUnit.mono_l : ∀ k, (∀ y0 y1 y2, LeO (spec_foUnit.l0 k y0 y1 y2) (spec_foUnit.l0 (k + 1) y0 y1 y2))
 | 0 => fun _ _ _ r h => by simp [spec_foUnit.l0] at h
 | k + 1 => by
  have ih0 := spec_foUnit.mono_l k
  ·
   intro y0 y1 y2; unfold spec_foUnit.l0
   repeat' with_reducible first | exact ih0 _ _ _ | exact spec_foZero.mono _ _ | exact LeO.refl _ | exact LeO.none _ | refine LeO.ite ?_ ?_ | refine LeO.bind ?_ (fun _ => ?_)
theorem spec_foUnit.mono : ∀ a0 k, LeO (spec_foUnit.f k a0) (spec_foUnit.f (k + 1) a0) := by
 intro a0 k; have ih0 := spec_foUnit.mono_l k; unfold spec_foUnit.f
 repeat' with_reducible first | exact ih0 _ _ _ | exact spec_foZero.mono _ _ | exact LeO.refl _ | exact LeO.none _ | refine LeO.ite ?_ ?_ | refine LeO.bind ?_ (fun _ => ?_)
theorem spec_foUnit.calls (k : Nat) (a0 : Int) (r : List (List Int)) (w : World) (h : spec_foUnit.f k a0 = some r) :
 Calls Try.prog 76 #[.int .i64 a0] w fun e w' => ∃ v0_ : Value, e = .returned (.agg #[v0_]) ∧ Kd.S (Kd.slice 3 (Kd.int .i64)) 34 w' w.heap.size (fun _ => True) v0_ r ∧ Below w.heap.size w w' := by
 have hu26 := Try.underlying26; have HB := Aside0.mk (Below.refl w.heap.size w); have H : ((spec_foZero.f k a0).bind fun t120 => (spec_foUnit.l0 k (t120.length : Int) 0 t120)) = some r := h; clear h; replace H := oB H; obtain ⟨t120, A2, H⟩ := H; have H' := Aside0.mk H; clear H; go_enter Try.func76, Try.ntmps76; go_wp2_with (first | ((with_reducible refine gate_dst (N := 2) rfl ?_); refine box_event ?hg (N := 2) ?hd (cs := #[.slice none 0 0]) (t := 26) ?hr ?_; (case hd => rfl); (case hg => rfl); (case hr => exact z98_); intro gb119 hg w3 hbox hb; have BK119 := Aside0.mk (hbox); have GW119 := gW HB hg; have GE119 := gW HB hg; replace HB := sT bq hb; clear hb hbox hg) | ((with_reducible refine gate_callee (f := 59) rfl ?_); refine gL (some 6) rfl rfl Try.func59 (by kernel_rfl) rfl #[.int .i64 a0] rfl ?_; (with_reducible refine (spec_foZero.calls k a0 t120 _ A2.out).mono ?_); rintro e w4 ⟨v121, rfl, ho0, hb⟩; refine ⟨_, rfl, ?_⟩; have HO122 := Aside0.mk (Kd.S_lower ho0 (below_size (kB HB))); replace BK119 := kA BK119 hb; replace HB := sB HB hb; (try clear hb); (try clear ho0)) | ((with_reducible refine gate_dst (N := 3) rfl ?_); refine box_event ?hg (N := 3) ?hd (cs := #[.slice none 0 0]) (t := 26) ?hr ?_; (case hd => rfl); (case hg => rfl); (case hr => exact z98_); intro gb123 hg w5 hbox hb; replace HO122 := Aside0.mk (Kd.S_below (sP HO122.out) hb); have BK123 := Aside0.mk (hbox); have GW123 := gW HB hg; have GE123 := gW HB hg; replace HB := sB HB hb; obtain ⟨NB119_123, NB123_119⟩ := nE BK119 hg; replace BK119 := kA BK119 hb; clear hb hbox hg; obtain ⟨Ao6, co6, eo6⟩ := Kd.S_slice HO122.out; subst eo6; obtain ⟨hnb7, hnc7⟩ := nB NB123_119; obtain ⟨hcz8_0, hfz8_0⟩ := bC BK123)); go_loopg [10] k (fun kq v10 w' => ∃ (x10_1 : Int) (x124000_1 : List (List Int)) (u124000 : Value), v10 = .int .i64 x10_1 ∧ Aside0 (spec_foUnit.l0 kq (t120.length : Int) x10_1 x124000_1 = some r) ∧ Aside0 (kq ≤ k) ∧ Aside0 (Kd.S (Kd.slice 3 (Kd.int .i64)) 34 w' w.heap.size (fun _ => True) u124000 x124000_1) ∧ Aside0 (w'.heap[gb119]? = some (.cells #[(.slice none 0 0)] 26 (0, 0))) ∧ Aside0 (w'.heap[gb123]? = some (.cells #[u124000] 26 (0, 0))) ∧ Aside0 (Below w.heap.size w w'))
 case atStart => exact ⟨(0), (t120), (.slice Ao6 t120.length co6), e2, H', ⟨Nat.le_refl _⟩, ⟨sP (Kd.S_mono (Kd.S_far (p := ⟨gb123, 0, none⟩) (Kd.S_types HO122.out BK123.out (by decide)) (fun _ hk => hk.2) (.slice Ao6 t120.length co6)) (fun _ hk => trivial))⟩, ⟨by refine bR ?_; refine blk_far ?_ NB119_123.out _; exact bA BK119⟩, ⟨by refine bR ?_; refine blk_put (cs := #[.slice none 0 0]) ?_ 0 _ rfl; exact bA BK123⟩, ⟨kB HB⟩⟩
 case round =>
  clear H'; (try clear hcz8_0); (try clear hfz8_0); obtain ⟨x10_1, x124000_1, u124000, rfl, HA, HK1, HO_124000, BK119, BK123, HB⟩ := hrel; cases gk with
  | zero => exact absurd HA.out (by simp [spec_foUnit.l0])
  | succ k1 =>
   have H := HA.out; clear HA; simp only [spec_foUnit.l0] at H; by_cases c9 : x10_1 < (t120.length : Int)
   ·
    rw [if_pos c9] at H; have c9b0 := decide_eq_true c9; clear c9; by_cases c10 : 0 ≤ x10_1
    ·
     rw [if_pos c10] at H; have c10b0 := decide_eq_true c10; clear c10; by_cases c11 : x10_1 < (x124000_1.length : Int)
     ·
      rw [if_pos c11] at H; have c11b0 := decide_eq_true c11; clear c11; by_cases c12 : x10_1 < ((rd_L1 x124000_1 x10_1).length : Int)
      ·
       rw [if_pos c12] at H; have c12b0 := decide_eq_true c12; clear c12; obtain ⟨y125, hy125⟩ : ∃ y_ : List Int, y_ = ((rd_L1 x124000_1 x10_1).set (x10_1 : Int).toNat 1) := ⟨_, rfl⟩; replace H : (spec_foUnit.l0 k1 (t120.length : Int) (wrap64 (x10_1 + 1)) (x124000_1.set (x10_1 : Int).toNat y125)) = some r := rH hy125 H
       have Ny125 := Aside0.mk hy125; clear hy125; obtain ⟨y127, hy127⟩ : ∃ y_ : List (List Int), y_ = (x124000_1.set (x10_1 : Int).toNat y125) := ⟨_, rfl⟩; replace H : (spec_foUnit.l0 k1 (t120.length : Int) (wrap64 (x10_1 + 1)) y127) = some r := rH hy127 H
       have Ny127 := Aside0.mk hy127; clear hy127; have H' := Aside0.mk H; clear H; obtain ⟨hnb14, hnc14⟩ := nB NB123_119; obtain ⟨hcz15_0, hfz15_0⟩ := bC BK123; obtain ⟨Ao16, co16, eo16⟩ := Kd.S_slice HO_124000.out; subst eo16; have p124 : 0 ≤ (x10_1 : Int) := od; have q124 : x10_1 < (x124000_1.length : Int) := od; obtain ⟨ad124, A124_0, c124_0, e124, hx124_0, hl124_0, hi124_0⟩ := at_L1 (Kd.S_reads' HO_124000.out).2.2 x10_1 p124 q124; cases e124; obtain ⟨ce124, hce124, hMe124, hcc124⟩ := Kd.S_get HO_124000.out [] x10_1 p124 (by first | exact q124 | exact od | (have e_ := (Kd.S_reads' HO_124000.out).1; omega)); obtain ⟨ve124_0, rfl, ge124_0⟩ := hMe124; have hv124_0 := hcc124 0 _ rfl; rw [Nat.add_zero, show ((Kd.slice 3 (Kd.int .i64))).sz = 1 from rfl, Nat.mul_one] at hv124_0; replace hv124_0 := Option.some.inj (hv124_0.symm.trans hx124_0); rw [hv124_0] at ge124_0; have HL124_0 := Aside0.mk (show Kd.R (Kd.int .i64) 3 _ _ _ _ (rd_L1 x124000_1 x10_1) from ge124_0); clear hv124_0 ge124_0; have HX124_0 := Aside0.mk hx124_0; clear hcc124 hce124; have HR124_0 := Aside0.mk hi124_0; have HC124_0 := Aside0.mk hl124_0; clear hi124_0 hl124_0; replace p124 := eq_true p124; replace q124 := eq_true q124; have p13 : 0 ≤ (x10_1 : Int) := od; have q13 : (x10_1 : Int) < (((rd_L1 x124000_1 x10_1).length : Int) : Int) := od; obtain ⟨go13, co13, eo13, gb13, gl13, cl13, HG13⟩ := Kd.R_form HL124_0.out (by omega); (first | cases eo13 | (injection eo13 with ea_ en_ ec_; (first | subst ea_ | (injection ea_ with ea_; subst ea_)); subst ec_; clear en_)); have GB13 := Aside0.mk gb13; have GG13 := Aside0.mk HG13; clear gb13 gl13 HG13; obtain ⟨hx13_0, hf13_0⟩ := Kd.R_celln 0 HL124_0.out (x10_1 : Int) p13 q13; replace p13 := eq_true p13; replace q13 := eq_true q13; have hq17 : (x10_1 : Int) < (x124000_1.length : Int) := (by have h_ : (x10_1 : Int) < ((x124000_1.length : Int) : Int) := od; first | exact h_ | (have e_ := (Kd.S_reads' HO_124000.out).1; omega) | simpa only [List.length_set, List.length_set] using h_); obtain ⟨oki17, ce17, hcl17, hM17, hcc17, hok17, hbk17⟩ := Kd.S_borrow HO_124000.out [] (x10_1 : Int) (od) hq17; obtain ⟨ve17_0, rfl, ge17_0⟩ := hM17; have hv17 := hcc17 0 _ rfl; rw [Nat.add_zero, show ((Kd.slice 3 (Kd.int .i64))).sz = 1 from rfl, Nat.mul_one] at hv17; replace hv17 := Option.some.inj (hv17.symm.trans HX124_0.out); subst hv17; clear hcc17 hcl17; replace ge17_0 := (show Kd.R (Kd.int .i64) 3 _ _ _ _ (rd_L1 x124000_1 x10_1) from ge17_0); have HP17 := Kd.R_putg ge17_0 (x10_1 : Int) 1; go_wp2_with (first | ((with_reducible refine gate_store (t := 3) (p := 19) rfl ?_); refine store_event (t := 3) (p := 19) (v := ?vo_w18) (w1 := (wr.setCell ⟨go13, (x10_1 : Int).toNat, none⟩ (.int .i64 1))) ?hg ?ho ?hn ?hr ?_; (case ho => rfl); (case hg => rfl); (case hn => rfl); (case hr => exact z98_); intro w18 hw; have hg : wr.grownBy w18 (some go13) := (by rw [hw]; exact HP17.2); have hz_ : Kd.R (Kd.int .i64) 3 w18 w.heap.size oki17 (.slice (some ⟨go13, 0, none⟩) (rd_L1 x124000_1 x10_1).length c124_0) y125 := (by rw [hw, Ny125.out]; exact HP17.1); have hp_ : Kd.S (Kd.slice 3 (Kd.int .i64)) 34 w18 w.heap.size (fun _ => True) (.slice (some ad124) x124000_1.length co16) y127 := (by rw [Ny127.out]; exact hbk17 hg (fun k_ e_ => by injection e_ with e_; subst e_; exact ge17_0.1 _ rfl) (Kd.M_row hz_)); have hm_ := Kd.R_mono hz_ hok17; clear HP17 hbk17; replace HO_124000 := Aside0.mk (hp_); replace BK119 := Aside0.mk (blk_grown (g := gb119) (o := .cells #[.slice none 0 0] 26 (0, 0)) (bA BK119) hg (Kd.R_ne HL124_0.out BK119.out (by decide))); replace BK123 := Aside0.mk (blk_grown (g := gb123) (o := .cells #[.slice (some ad124) x124000_1.length co16] 26 (0, 0)) (bA BK123) hg (Kd.R_ne HL124_0.out BK123.out (by decide))); replace HB := Aside0.mk ((by rw [hw]; exact below_set (HB.out) GB13.out : Below w.heap.size w w18)); have HL128 := Aside0.mk (hm_); have HC126 := Aside0.mk ((Kd.R_reads' hm_).2.1); clear HL124_0; clear hg hw hp_ hz_ hm_ hok17)); go_roundg k1
       case measure => have := HK1.out; omega
       case rel => exact ⟨(wrap64 (x10_1 + 1)), (y127), (.slice (some ad124) x124000_1.length co16), e2, H', ⟨by have := HK1.out; omega⟩, ⟨sP HO_124000.out⟩, ⟨by exact bA BK119⟩, ⟨by exact bA BK123⟩, ⟨kB HB⟩⟩
      · rw [if_neg c12] at H; exact absurd H (by simp)
     · rw [if_neg c11] at H; exact absurd H (by simp)
    · rw [if_neg c10] at H; exact absurd H (by simp)
   · rw [if_neg c9] at H; have c9b0 := decide_eq_false c9; clear c9; obtain rfl := Option.some.inj H; obtain ⟨hnb19, hnc19⟩ := nB NB123_119; obtain ⟨hcz20_0, hfz20_0⟩ := bC BK123; obtain ⟨Ao21, co21, eo21⟩ := Kd.S_slice HO_124000.out; subst eo21; obtain ⟨hcz22_0, hfz22_0⟩ := bC BK119; go_wp2; refine bodyPost_ret (results_cell_row rfl _ _ gb119 26 #[.slice Ao21 x124000_1.length co21] (0, 0) _ rfl (by refine bR ?_; refine blk_put (cs := #[.slice none 0 0]) ?_ 0 _ rfl; exact bA BK119) Try.underlying26 rfl (by kernel_rfl)) rfl ?_; exact ⟨_, e1, sP (Kd.S_mono (Kd.S_far (p := ⟨gb119, 0, none⟩) (Kd.S_types HO_124000.out BK119.out (by decide)) (fun _ hk => hk.2) (.slice Ao21 x124000_1.length co21)) (fun _ hk => trivial)), kB HB⟩

end Go.Proofs.Ytldkkfpodldbgaa.P
