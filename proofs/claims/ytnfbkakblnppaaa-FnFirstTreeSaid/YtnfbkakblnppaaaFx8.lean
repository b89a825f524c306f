-- Written by a program of this session (wip/mkprint.py over the kit's print), out of the translation. Not trusted: Lean checks it.
import Derived.Test.YtnfbkakblnppaaaFx0
import Derived.Test.YtnfbkakblnppaaaFx4
import Derived.Test.YtnfbkakblnppaaaFx7
namespace Go.Proofs.Ytnfbkakblnppaaa.P
open Go.RowKit Go.Proofs.YtnfbkakblnppaaaW.PrintWords Go.Proofs.YtnfbkakblnppaaaW.PrintLast Go.Proofs.YtnfbkakblnppaaaW.PrintMore
attribute [local go_sem] max2_int min2_int max_two min_two max_three min_three max_four min_four   -- for this text's walks alone
set_option linter.unusedVariables false
set_option linter.unusedSimpArgs false

/-! ### spec_riGood: function 62 -/
def spec_riGood.j0 : Nat → List Int → Bool → Option (Bool)
 | 0, _, _ => none
 | k + 1, x0, x21 => if x21 = true then (some false) else ((spec_riBack.f k x0).bind fun bt261 => ((spec_riPair.f k bt261.1 bt261.2).bind fun t263 => (if t263 = true then ((spec_riOf.f bt261.1 bt261.2).bind fun t264 => ((spec_l1Same.f k t264 x0).bind fun t267 => (some t267))) else (some false))))
def spec_riGood.f (k : Nat) (l0 : List Int) : Option (Bool) := if (l0.length : Int) = 3 then ((spec_l1All.f k l0 1 1000000000).bind fun t258 => (if t258 = true then (if 2 < (l0.length : Int) then (if 0 < (l0.length : Int) then (spec_riGood.j0 k l0 (decide ((rd l0 2) ≤ (rd l0 0)))) else (none)) else (none)) else (spec_riGood.j0 k l0 true))) else (spec_riGood.j0 k l0 true)
theorem spec_riGood.mono_l : ∀ k, (∀ y0 y1, LeO (spec_riGood.j0 k y0 y1) (spec_riGood.j0 (k + 1) y0 y1))
 | 0 => fun _ _ r h => by simp [spec_riGood.j0] at h
 | k + 1 => by
  have ih0 := spec_riGood.mono_l k
  ·
   intro y0 y1
   unfold spec_riGood.j0
   repeat' first
   | (with_reducible exact ih0 _ _)
   | (with_reducible exact spec_l1All.mono _ _ _ _)
   | (with_reducible exact spec_l1Same.mono _ _ _)
   | (with_reducible exact spec_riBack.mono _ _)
   | (with_reducible exact spec_riPair.mono _ _ _)
   | (with_reducible exact LeO.refl _)
   | (with_reducible exact LeO.none _)
   | (with_reducible refine LeO.ite ?_ ?_)
   | (with_reducible refine LeO.bind ?_ (fun _ => ?_))
   | exact ih0 _ _
   | exact spec_l1All.mono _ _ _ _
   | exact spec_l1Same.mono _ _ _
   | exact spec_riBack.mono _ _
   | exact spec_riPair.mono _ _ _
   | exact LeO.none _
   | refine LeO.ite ?_ ?_
   | refine LeO.bind ?_ (fun _ => ?_)
theorem spec_riGood.mono : ∀ a0 k, LeO (spec_riGood.f k a0) (spec_riGood.f (k + 1) a0) := by
 intro a0 k
 have ih0 := spec_riGood.mono_l k
 unfold spec_riGood.f
 repeat' first
  | (with_reducible exact ih0 _ _)
  | (with_reducible exact spec_l1All.mono _ _ _ _)
  | (with_reducible exact spec_l1Same.mono _ _ _)
  | (with_reducible exact spec_riBack.mono _ _)
  | (with_reducible exact spec_riPair.mono _ _ _)
  | (with_reducible exact LeO.refl _)
  | (with_reducible exact LeO.none _)
  | (with_reducible refine LeO.ite ?_ ?_)
  | (with_reducible refine LeO.bind ?_ (fun _ => ?_))
  | exact ih0 _ _
  | exact spec_l1All.mono _ _ _ _
  | exact spec_l1Same.mono _ _ _
  | exact spec_riBack.mono _ _
  | exact spec_riPair.mono _ _ _
  | exact LeO.none _
  | refine LeO.ite ?_ ?_
  | refine LeO.bind ?_ (fun _ => ?_)
set_option maxHeartbeats 8000000 in
set_option maxRecDepth 100000 in
theorem spec_riGood.calls (k : Nat) (A0 : Option Addr) (c0 : Nat) (l0 : List Int) (r : Bool) (w : World) (hr0 : Kd.C (Kd.int .i64) w A0 l0.length l0) (hc0 : l0.length ≤ c0) (h : spec_riGood.f k l0 = some r) :
 Calls Try.prog 62 #[.slice A0 l0.length c0] w fun e w' => e = .returned (.bool r) ∧ Below w.heap.size w w' := by
 have HR0 := Aside0.mk hr0
 have HC0 := Aside0.mk hc0
 clear hr0 hc0
 have HB := Aside0.mk (Below.refl w.heap.size w)
 have H : (if (l0.length : Int) = 3 then ((spec_l1All.f k l0 1 1000000000).bind fun t258 => (if t258 = true then (if 2 < (l0.length : Int) then (if 0 < (l0.length : Int) then (spec_riGood.j0 k l0 (decide ((rd l0 2) ≤ (rd l0 0)))) else (none)) else (none)) else (spec_riGood.j0 k l0 true))) else (spec_riGood.j0 k l0 true)) = some r := h
 clear h
 have HC2 := Aside0.mk H
 clear H
 go_enter Try.func62, Try.ntmps62
 go_upto_region 1 with (fail)
 repeat (go_quiet (fail); go_upto_region 1 with (fail))
 go_cut [21] (fun v21 wc => ∃ (kq : Nat) (x21_1 : Bool), v21 = .bool x21_1 ∧ Aside0 (spec_riGood.j0 kq l0 x21_1 = some r) ∧ Aside0 (kq ≤ k) ∧ Aside0 (Below w.heap.size w wc))
 case first =>
  have H := HC2.out
  clear HC2
  by_cases c3 : (l0.length : Int) = 3
  ·
   rw [if_pos c3] at H
   have c3b0 : ((l0.length : Int) == 3) = true := beq_iff_eq.mpr c3
   have c3b1 : ((l0.length : Int) != 3) = false := bne_eq_false_iff_eq.mpr c3
   clear c3
   (first | rw [c3b0] | (simp only [i64_w, i32_w]; rw [c3b0]) | skip)
   replace H := Option.bind_eq_some_iff.mp H
   obtain ⟨t258, A40, H⟩ := H
   replace H : (if t258 = true then (if 2 < (l0.length : Int) then (if 0 < (l0.length : Int) then (spec_riGood.j0 k l0 (decide ((rd l0 2) ≤ (rd l0 0)))) else (none)) else (none)) else (spec_riGood.j0 k l0 true)) = some r := H
   have A4 := Aside0.mk A40
   clear A40
   by_cases c5 : t258 = true
   ·
    subst c5
    have H1 : (if 2 < (l0.length : Int) then (if 0 < (l0.length : Int) then (spec_riGood.j0 k l0 (decide ((rd l0 2) ≤ (rd l0 0)))) else (none)) else (none)) = some r := by rw [if_pos rfl] at H; exact H
    clear H
    have H := H1
    clear H1
    by_cases c6 : 2 < (l0.length : Int)
    ·
     rw [if_pos c6] at H
     have c6b0 : decide (2 < (l0.length : Int)) = true := decide_eq_true c6
     have c6b1 : decide (2 < l0.length) = true := decide_eq_true (by omega)
     clear c6
     by_cases c7 : 0 < (l0.length : Int)
     ·
      rw [if_pos c7] at H
      have c7b0 : decide (0 < (l0.length : Int)) = true := decide_eq_true c7
      have c7b1 : decide (0 < l0.length) = true := decide_eq_true (by omega)
      clear c7
      have H' := Aside0.mk H
      clear H
      have p259 : 0 ≤ (2 : Int) := (by omega)
      have q259 : 2 < (l0.length : Int) := od
      obtain ⟨ad259, e259, hx259_0⟩ := Kd.at_int HR0.out 2 p259 q259
      cases e259
      (try simp only [show (2 : Int).toNat = 2 from rfl, Nat.reduceMul, Nat.reduceEqDiff, Go.Addr.add, ↓reduceIte] at hx259_0)
      have qi259 : (2 < l0.length) = True := eq_true (by omega)
      (try rw [show ((2 : Int)).toNat = 2 from rfl] at hx259_0)
      replace hx259_0 := (HB.out.cell (World.block_lt_of_cell? w _ hx259_0)).trans hx259_0
      replace p259 := eq_true p259
      replace q259 := eq_true q259
      have p260 : 0 ≤ (0 : Int) := (by omega)
      have q260 : 0 < (l0.length : Int) := od
      obtain ⟨ad260, e260, hx260_0⟩ := Kd.at_int HR0.out 0 p260 q260
      obtain rfl : ad259 = ad260 := (by injection e260)
      have qi260 : (0 < l0.length) = True := eq_true (by omega)
      (try rw [show ((0 : Int)).toNat = 0 from rfl] at hx260_0)
      (try rw [Addr.add_zero'] at hx260_0)
      replace hx260_0 := (HB.out.cell (World.block_lt_of_cell? w _ hx260_0)).trans hx260_0
      replace p260 := eq_true p260
      replace q260 := eq_true q260
      go_wp2_with (first | (go_at_call 96; (with_reducible refine (spec_l1All.calls k _ _ l0 1 1000000000 true _ ?side1 ?side2 A4.out).mono ?_); (case side1 => exact cC (Kd.C_below HR0.out HB.out)); (case side2 => exact HC0.out); rintro e w' ⟨rfl, ⟨nd, rfl⟩⟩; (try exact dD); have p259 : 0 ≤ (2 : Int) := (by omega); have q259 : 2 < (l0.length : Int) := od; obtain ⟨ad259, e259, hx259_0⟩ := Kd.at_int HR0.out 2 p259 q259; cases e259; (try simp only [show (2 : Int).toNat = 2 from rfl, Nat.reduceMul, Nat.reduceEqDiff, Go.Addr.add, ↓reduceIte] at hx259_0); have qi259 : (2 < l0.length) = True := eq_true (by omega); (try rw [show ((2 : Int)).toNat = 2 from rfl] at hx259_0); replace hx259_0 := (HB.out.cell (World.block_lt_of_cell? w _ hx259_0)).trans hx259_0; replace p259 := eq_true p259; replace q259 := eq_true q259; have p260 : 0 ≤ (0 : Int) := (by omega); have q260 : 0 < (l0.length : Int) := od; obtain ⟨ad260, e260, hx260_0⟩ := Kd.at_int HR0.out 0 p260 q260; obtain rfl : ad259 = ad260 := (by injection e260); have qi260 : (0 < l0.length) = True := eq_true (by omega); (try rw [show ((0 : Int)).toNat = 0 from rfl] at hx260_0); (try rw [Addr.add_zero'] at hx260_0); replace hx260_0 := (HB.out.cell (World.block_lt_of_cell? w _ hx260_0)).trans hx260_0; replace p260 := eq_true p260; replace q260 := eq_true q260))
      repeat (go_quiet (first | (go_at_call 96; (with_reducible refine (spec_l1All.calls k _ _ l0 1 1000000000 true _ ?side1 ?side2 A4.out).mono ?_); (case side1 => exact cC (Kd.C_below HR0.out HB.out)); (case side2 => exact HC0.out); rintro e w' ⟨rfl, ⟨nd, rfl⟩⟩; (try exact dD))); try go_wp2_with (first | (go_at_call 96; (with_reducible refine (spec_l1All.calls k _ _ l0 1 1000000000 true _ ?side1 ?side2 A4.out).mono ?_); (case side1 => exact cC (Kd.C_below HR0.out HB.out)); (case side2 => exact HC0.out); rintro e w' ⟨rfl, ⟨nd, rfl⟩⟩; (try exact dD); have p259 : 0 ≤ (2 : Int) := (by omega); have q259 : 2 < (l0.length : Int) := od; obtain ⟨ad259, e259, hx259_0⟩ := Kd.at_int HR0.out 2 p259 q259; cases e259; (try simp only [show (2 : Int).toNat = 2 from rfl, Nat.reduceMul, Nat.reduceEqDiff, Go.Addr.add, ↓reduceIte] at hx259_0); have qi259 : (2 < l0.length) = True := eq_true (by omega); (try rw [show ((2 : Int)).toNat = 2 from rfl] at hx259_0); replace hx259_0 := (HB.out.cell (World.block_lt_of_cell? w _ hx259_0)).trans hx259_0; replace p259 := eq_true p259; replace q259 := eq_true q259; have p260 : 0 ≤ (0 : Int) := (by omega); have q260 : 0 < (l0.length : Int) := od; obtain ⟨ad260, e260, hx260_0⟩ := Kd.at_int HR0.out 0 p260 q260; obtain rfl : ad259 = ad260 := (by injection e260); have qi260 : (0 < l0.length) = True := eq_true (by omega); (try rw [show ((0 : Int)).toNat = 0 from rfl] at hx260_0); (try rw [Addr.add_zero'] at hx260_0); replace hx260_0 := (HB.out.cell (World.block_lt_of_cell? w _ hx260_0)).trans hx260_0; replace p260 := eq_true p260; replace q260 := eq_true q260)))
      go_meet
      case rel => exact ⟨_, (decide ((rd l0 2) ≤ (rd l0 0))), e2, H', ⟨by first | omega | exact Nat.le_refl _⟩, ⟨bq⟩⟩
     ·
      rw [if_neg c7] at H
      exact absurd H (by simp)
    ·
     rw [if_neg c6] at H
     exact absurd H (by simp)
   ·
    replace c5 := Bool.eq_false_iff.mpr c5
    subst c5
    have H1 : (spec_riGood.j0 k l0 true) = some r := by rw [if_neg (show ¬ (false = true) by decide)] at H; exact H
    clear H
    have H := H1
    clear H1
    have H' := Aside0.mk H
    clear H
    go_wp2_with (first | (go_at_call 96; (with_reducible refine (spec_l1All.calls k _ _ l0 1 1000000000 false _ ?side1 ?side2 A4.out).mono ?_); (case side1 => exact cC (Kd.C_below HR0.out HB.out)); (case side2 => exact HC0.out); rintro e w' ⟨rfl, ⟨nd, rfl⟩⟩; (try exact dD)))
    repeat (go_quiet (first | (go_at_call 96; (with_reducible refine (spec_l1All.calls k _ _ l0 1 1000000000 false _ ?side1 ?side2 A4.out).mono ?_); (case side1 => exact cC (Kd.C_below HR0.out HB.out)); (case side2 => exact HC0.out); rintro e w' ⟨rfl, ⟨nd, rfl⟩⟩; (try exact dD))); try go_wp2_with (first | (go_at_call 96; (with_reducible refine (spec_l1All.calls k _ _ l0 1 1000000000 false _ ?side1 ?side2 A4.out).mono ?_); (case side1 => exact cC (Kd.C_below HR0.out HB.out)); (case side2 => exact HC0.out); rintro e w' ⟨rfl, ⟨nd, rfl⟩⟩; (try exact dD))))
    go_meet
    case rel => exact ⟨_, (true), e2, H', ⟨by first | omega | exact Nat.le_refl _⟩, ⟨bq⟩⟩
  ·
   rw [if_neg c3] at H
   have c3b0 : ((l0.length : Int) == 3) = false := beq_eq_false_iff_ne.mpr c3
   have c3b1 : ((l0.length : Int) != 3) = true := bne_iff_ne.mpr c3
   (first | rw [c3b0] | (simp only [i64_w, i32_w]; rw [c3b0]) | skip)
   have H' := Aside0.mk H
   clear H
   go_wp2
   repeat (go_quiet (fail); try go_wp2)
   go_meet
   case rel => exact ⟨_, (true), e2, H', ⟨by first | omega | exact Nat.le_refl _⟩, ⟨bq⟩⟩
 case rest =>
  clear HC2; (try clear p2); (try clear q2); (try clear hx2); (try clear qi2); (try clear c3); (try clear c3b0); (try clear c3b1); (try clear c5); (try clear c6); (try clear c6b0); (try clear c6b1); (try clear c7); (try clear c7b0); (try clear c7b1); (try clear hx259_0); (try clear hx260_0); (try clear p259); (try clear p260); (try clear q259); (try clear q260)
  obtain ⟨kq, x21_1, rfl, HA, HJ1, HB⟩ := hcut
  cases kq with
  | zero => exact absurd HA.out (by simp [spec_riGood.j0])
  | succ kj1 =>
   have H := HA.out
   clear HA
   simp only [spec_riGood.j0] at H
   by_cases c8 : x21_1 = true
   ·
    subst c8
    have H1 : (some false) = some r := by rw [if_pos rfl] at H; exact H
    clear H
    have H := H1
    clear H1
    obtain rfl := Option.some.inj H
    go_wp2
    repeat (go_quiet (fail); try go_wp2)
    go_ret
    exact ⟨e1, bq⟩
   ·
    replace c8 := Bool.eq_false_iff.mpr c8
    subst c8
    have H1 : ((spec_riBack.f kj1 l0).bind fun bt261 => ((spec_riPair.f kj1 bt261.1 bt261.2).bind fun t263 => (if t263 = true then ((spec_riOf.f bt261.1 bt261.2).bind fun t264 => ((spec_l1Same.f kj1 t264 l0).bind fun t267 => (some t267))) else (some false)))) = some r := by rw [if_neg (show ¬ (false = true) by decide)] at H; exact H
    clear H
    have H := H1
    clear H1
    replace H := Option.bind_eq_some_iff.mp H
    obtain ⟨⟨t261, t262⟩, A90, H⟩ := H
    replace H : ((spec_riPair.f kj1 t261 t262).bind fun t263 => (if t263 = true then ((spec_riOf.f t261 t262).bind fun t264 => ((spec_l1Same.f kj1 t264 l0).bind fun t267 => (some t267))) else (some false))) = some r := H
    have A9 := Aside0.mk A90
    clear A90
    replace H := Option.bind_eq_some_iff.mp H
    obtain ⟨t263, A100, H⟩ := H
    replace H : (if t263 = true then ((spec_riOf.f t261 t262).bind fun t264 => ((spec_l1Same.f kj1 t264 l0).bind fun t267 => (some t267))) else (some false)) = some r := H
    have A10 := Aside0.mk A100
    clear A100
    by_cases c11 : t263 = true
    ·
     subst c11
     have H1 : ((spec_riOf.f t261 t262).bind fun t264 => ((spec_l1Same.f kj1 t264 l0).bind fun t267 => (some t267))) = some r := by rw [if_pos rfl] at H; exact H
     clear H
     have H := H1
     clear H1
     replace H := Option.bind_eq_some_iff.mp H
     obtain ⟨t264, A120, H⟩ := H
     replace H : ((spec_l1Same.f kj1 t264 l0).bind fun t267 => (some t267)) = some r := H
     have A12 := Aside0.mk A120
     clear A120
     replace H := Option.bind_eq_some_iff.mp H
     obtain ⟨t267, A130, H⟩ := H
     replace H : (some t267) = some r := H
     have A13 := Aside0.mk A130
     clear A130
     obtain rfl := Option.some.inj H
     go_wp2_with (first | (go_at_call 64; (with_reducible refine (spec_riBack.calls kj1 _ _ l0 t261 t262 _ ?side1 ?side2 A9.out).mono ?_); (case side1 => exact cC (Kd.C_below HR0.out HB.out)); (case side2 => exact HC0.out); rintro e w' ⟨rfl, ⟨nd, rfl⟩⟩; (try exact dD)) | (go_at_call 94; (with_reducible refine (spec_riPair.calls kj1 t261 t262 true _ A10.out).mono ?_); rintro e w' ⟨rfl, ⟨nd, rfl⟩⟩; (try exact dD)) | (go_at_call 75; (with_reducible refine (spec_riOf.calls t261 t262 t264 _ A12.out).mono ?_); rintro e w14 ⟨v265, rfl, ho0, hb⟩; have n0_ := Aside0.mk (Kd.R_lower ho0 (below_size bq)); have n1_ := Aside0.mk (below_step bq hb); clear HB; have HO266 := n0_; have HB := n1_; clear n0_ n1_; (try clear hb); (try clear hb2); (try clear hk); (try clear hi); (try clear ho0); obtain ⟨Ao15, co15, eo15⟩ := Kd.R_slice HO266.out; subst eo15) | (go_at_call 111; (with_reducible refine (spec_l1Same.calls kj1 _ _ t264 _ _ l0 t267 _ ?side1 ?side2 ?side3 ?side4 A13.out).mono ?_); (case side1 => exact cC (Kd.R_reads' HO266.out).2.2); (case side2 => exact (Kd.R_reads' HO266.out).2.1); (case side3 => exact cC (Kd.C_below HR0.out HB.out)); (case side4 => exact HC0.out); rintro e w' ⟨rfl, ⟨nd, rfl⟩⟩; (try exact dD)))
     repeat (go_quiet (first | (go_at_call 64; (with_reducible refine (spec_riBack.calls kj1 _ _ l0 t261 t262 _ ?side1 ?side2 A9.out).mono ?_); (case side1 => exact cC (Kd.C_below HR0.out HB.out)); (case side2 => exact HC0.out); rintro e w' ⟨rfl, ⟨nd, rfl⟩⟩; (try exact dD)) | (go_at_call 94; (with_reducible refine (spec_riPair.calls kj1 t261 t262 true _ A10.out).mono ?_); rintro e w' ⟨rfl, ⟨nd, rfl⟩⟩; (try exact dD)) | (go_at_call 75; (with_reducible refine (spec_riOf.calls t261 t262 t264 _ A12.out).mono ?_); rintro e w14 ⟨v265, rfl, ho0, hb⟩; have n0_ := Aside0.mk (Kd.R_lower ho0 (below_size bq)); have n1_ := Aside0.mk (below_step bq hb); clear HB; have HO266 := n0_; have HB := n1_; clear n0_ n1_; (try clear hb); (try clear hb2); (try clear hk); (try clear hi); (try clear ho0); obtain ⟨Ao15, co15, eo15⟩ := Kd.R_slice HO266.out; subst eo15) | (go_at_call 111; (with_reducible refine (spec_l1Same.calls kj1 _ _ t264 _ _ l0 t267 _ ?side1 ?side2 ?side3 ?side4 A13.out).mono ?_); (case side1 => exact cC (Kd.R_reads' HO266.out).2.2); (case side2 => exact (Kd.R_reads' HO266.out).2.1); (case side3 => exact cC (Kd.C_below HR0.out HB.out)); (case side4 => exact HC0.out); rintro e w' ⟨rfl, ⟨nd, rfl⟩⟩; (try exact dD))); try go_wp2_with (first | (go_at_call 64; (with_reducible refine (spec_riBack.calls kj1 _ _ l0 t261 t262 _ ?side1 ?side2 A9.out).mono ?_); (case side1 => exact cC (Kd.C_below HR0.out HB.out)); (case side2 => exact HC0.out); rintro e w' ⟨rfl, ⟨nd, rfl⟩⟩; (try exact dD)) | (go_at_call 94; (with_reducible refine (spec_riPair.calls kj1 t261 t262 true _ A10.out).mono ?_); rintro e w' ⟨rfl, ⟨nd, rfl⟩⟩; (try exact dD)) | (go_at_call 75; (with_reducible refine (spec_riOf.calls t261 t262 t264 _ A12.out).mono ?_); rintro e w14 ⟨v265, rfl, ho0, hb⟩; have n0_ := Aside0.mk (Kd.R_lower ho0 (below_size bq)); have n1_ := Aside0.mk (below_step bq hb); clear HB; have HO266 := n0_; have HB := n1_; clear n0_ n1_; (try clear hb); (try clear hb2); (try clear hk); (try clear hi); (try clear ho0); obtain ⟨Ao15, co15, eo15⟩ := Kd.R_slice HO266.out; subst eo15) | (go_at_call 111; (with_reducible refine (spec_l1Same.calls kj1 _ _ t264 _ _ l0 t267 _ ?side1 ?side2 ?side3 ?side4 A13.out).mono ?_); (case side1 => exact cC (Kd.R_reads' HO266.out).2.2); (case side2 => exact (Kd.R_reads' HO266.out).2.1); (case side3 => exact cC (Kd.C_below HR0.out HB.out)); (case side4 => exact HC0.out); rintro e w' ⟨rfl, ⟨nd, rfl⟩⟩; (try exact dD))))
     go_ret
     exact ⟨e1, bq⟩
    ·
     replace c11 := Bool.eq_false_iff.mpr c11
     subst c11
     have H1 : (some false) = some r := by rw [if_neg (show ¬ (false = true) by decide)] at H; exact H
     clear H
     have H := H1
     clear H1
     obtain rfl := Option.some.inj H
     go_wp2_with (first | (go_at_call 64; (with_reducible refine (spec_riBack.calls kj1 _ _ l0 t261 t262 _ ?side1 ?side2 A9.out).mono ?_); (case side1 => exact cC (Kd.C_below HR0.out HB.out)); (case side2 => exact HC0.out); rintro e w' ⟨rfl, ⟨nd, rfl⟩⟩; (try exact dD)) | (go_at_call 94; (with_reducible refine (spec_riPair.calls kj1 t261 t262 false _ A10.out).mono ?_); rintro e w' ⟨rfl, ⟨nd, rfl⟩⟩; (try exact dD)))
     repeat (go_quiet (first | (go_at_call 64; (with_reducible refine (spec_riBack.calls kj1 _ _ l0 t261 t262 _ ?side1 ?side2 A9.out).mono ?_); (case side1 => exact cC (Kd.C_below HR0.out HB.out)); (case side2 => exact HC0.out); rintro e w' ⟨rfl, ⟨nd, rfl⟩⟩; (try exact dD)) | (go_at_call 94; (with_reducible refine (spec_riPair.calls kj1 t261 t262 false _ A10.out).mono ?_); rintro e w' ⟨rfl, ⟨nd, rfl⟩⟩; (try exact dD))); try go_wp2_with (first | (go_at_call 64; (with_reducible refine (spec_riBack.calls kj1 _ _ l0 t261 t262 _ ?side1 ?side2 A9.out).mono ?_); (case side1 => exact cC (Kd.C_below HR0.out HB.out)); (case side2 => exact HC0.out); rintro e w' ⟨rfl, ⟨nd, rfl⟩⟩; (try exact dD)) | (go_at_call 94; (with_reducible refine (spec_riPair.calls kj1 t261 t262 false _ A10.out).mono ?_); rintro e w' ⟨rfl, ⟨nd, rfl⟩⟩; (try exact dD))))
     go_ret
     exact ⟨e1, bq⟩

/-! ### spec_riIf: function 66 -/
def spec_riIf.f (k : Nat) (a0 : Int) (a1 : Int) : Option (List Int × Bool) := (spec_riPair.f k a0 a1).bind fun t268 => (if t268 = true then ((spec_riOf.f a0 a1).bind fun t269 => (some (t269, true))) else (some (([] : List Int), false)))
theorem spec_riIf.mono : ∀ a0 a1 k, LeO (spec_riIf.f k a0 a1) (spec_riIf.f (k + 1) a0 a1) := by
 intro a0 a1 k
 unfold spec_riIf.f
 repeat' first
  | (with_reducible exact spec_riPair.mono _ _ _)
  | (with_reducible exact LeO.refl _)
  | (with_reducible exact LeO.none _)
  | (with_reducible refine LeO.ite ?_ ?_)
  | (with_reducible refine LeO.bind ?_ (fun _ => ?_))
  | exact spec_riPair.mono _ _ _
  | exact LeO.none _
  | refine LeO.ite ?_ ?_
  | refine LeO.bind ?_ (fun _ => ?_)
set_option maxHeartbeats 8000000 in
set_option maxRecDepth 100000 in
theorem spec_riIf.calls (k : Nat) (a0 : Int) (a1 : Int) (r1 : List Int) (r2 : Bool) (w : World) (h : spec_riIf.f k a0 a1 = some (r1, r2)) :
 Calls Try.prog 66 #[.int .i64 a0, .int .i64 a1] w fun e w' => ∃ v0_ : Value, e = .returned (.tuple #[v0_, .bool r2]) ∧ Kd.R (Kd.int .i64) 3 w' w.heap.size (fun _ => True) v0_ r1 ∧ Below w.heap.size w w' := by
 have HB := Aside0.mk (Below.refl w.heap.size w)
 have H : ((spec_riPair.f k a0 a1).bind fun t268 => (if t268 = true then ((spec_riOf.f a0 a1).bind fun t269 => (some (t269, true))) else (some (([] : List Int), false)))) = some (r1, r2) := h
 clear h
 replace H := Option.bind_eq_some_iff.mp H
 obtain ⟨t268, A30, H⟩ := H
 replace H : (if t268 = true then ((spec_riOf.f a0 a1).bind fun t269 => (some (t269, true))) else (some (([] : List Int), false))) = some (r1, r2) := H
 have A3 := Aside0.mk A30
 clear A30
 by_cases c4 : t268 = true
 ·
  subst c4
  have H1 : ((spec_riOf.f a0 a1).bind fun t269 => (some (t269, true))) = some (r1, r2) := by rw [if_pos rfl] at H; exact H
  clear H
  have H := H1
  clear H1
  replace H := Option.bind_eq_some_iff.mp H
  obtain ⟨t269, A50, H⟩ := H
  replace H : (some (t269, true)) = some (r1, r2) := H
  have A5 := Aside0.mk A50
  clear A50
  simp only [Option.some.injEq, Prod.mk.injEq] at H
  obtain ⟨rfl, rfl⟩ := H
  go_enter Try.func66, Try.ntmps66
  go_wp2_with (first | ((with_reducible refine gate_callee (f := 94) rfl ?_); refine gL (some 8) rfl rfl Try.func94 (by kernel_rfl) rfl #[.int .i64 a0, .int .i64 a1] rfl ?_; (with_reducible refine (spec_riPair.calls k a0 a1 true _ A3.out).mono ?_); rintro e w' ⟨rfl, ⟨nd, rfl⟩⟩; refine ⟨_, rfl, ?_⟩) | ((with_reducible refine gate_callee (f := 75) rfl ?_); refine gL (some 12) rfl rfl Try.func75 (by kernel_rfl) rfl #[.int .i64 a0, .int .i64 a1] rfl ?_; (with_reducible refine (spec_riOf.calls a0 a1 t269 _ A5.out).mono ?_); rintro e w6 ⟨v270, rfl, ho0, hb⟩; refine ⟨_, rfl, ?_⟩; have n0_ := Aside0.mk (Kd.R_lower ho0 (below_size bq)); have n1_ := Aside0.mk (below_step bq hb); clear HB; have HO271 := n0_; have HB := n1_; clear n0_ n1_; (try clear hb); (try clear hb2); (try clear hk); (try clear hi); (try clear ho0)))
  go_ret2
  exact ⟨_, e1, by (with_reducible repeat (first | apply Kd.R_alloc | apply Kd.R_drewN | apply Kd.R_drew)); exact HO271.out, bq⟩
 ·
  replace c4 := Bool.eq_false_iff.mpr c4
  subst c4
  have H1 : (some (([] : List Int), false)) = some (r1, r2) := by rw [if_neg (show ¬ (false = true) by decide)] at H; exact H
  clear H
  have H := H1
  clear H1
  simp only [Option.some.injEq, Prod.mk.injEq] at H
  obtain ⟨rfl, rfl⟩ := H
  go_enter Try.func66, Try.ntmps66
  go_wp2_with (first | ((with_reducible refine gate_callee (f := 94) rfl ?_); refine gL (some 8) rfl rfl Try.func94 (by kernel_rfl) rfl #[.int .i64 a0, .int .i64 a1] rfl ?_; (with_reducible refine (spec_riPair.calls k a0 a1 false _ A3.out).mono ?_); rintro e w' ⟨rfl, ⟨nd, rfl⟩⟩; refine ⟨_, rfl, ?_⟩))
  go_ret2
  exact ⟨_, e1, by first | exact Kd.R_nil _ _ _ _ _ | exact Kd.N_nil _ _ _ _ _ | exact Kd.V_nil _ _ _ _ _ | exact Kd.Q_nil _ _ _ _ _ | exact Kd.S_nil _ _ _ _ _, bq⟩

/-! ### spec_BergChild: function 24 -/
def spec_BergChild.j0 : Nat → List Int → Int → Bool → Option (List Int × Bool)
 | 0, _, _, _ => none
 | k + 1, x0, x1, x17 => if x17 = true then (some (([] : List Int), false)) else ((spec_riBack.f k x0).bind fun bt274 => ((spec_riBerg.f bt274.1 bt274.2 x1).bind fun bt276 => ((spec_riIf.f k bt276.1 bt276.2).bind fun bt278 => (some (bt278.1, bt278.2)))))
def spec_BergChild.f (k : Nat) (l0 : List Int) (a1 : Int) : Option (List Int × Bool) := (spec_riGood.f k l0).bind fun t272 => (if t272 = true then ((spec_l1In.f a1 0 2).bind fun t273 => (spec_BergChild.j0 k l0 a1 (!t273))) else (spec_BergChild.j0 k l0 a1 true))
theorem spec_BergChild.mono_l : ∀ k, (∀ y0 y1 y2, LeO (spec_BergChild.j0 k y0 y1 y2) (spec_BergChild.j0 (k + 1) y0 y1 y2))
 | 0 => fun _ _ _ r h => by simp [spec_BergChild.j0] at h
 | k + 1 => by
  have ih0 := spec_BergChild.mono_l k
  ·
   intro y0 y1 y2
   unfold spec_BergChild.j0
   repeat' first
   | (with_reducible exact ih0 _ _ _)
   | (with_reducible exact spec_riBack.mono _ _)
   | (with_reducible exact spec_riGood.mono _ _)
   | (with_reducible exact spec_riIf.mono _ _ _)
   | (with_reducible exact LeO.refl _)
   | (with_reducible exact LeO.none _)
   | (with_reducible refine LeO.ite ?_ ?_)
   | (with_reducible refine LeO.bind ?_ (fun _ => ?_))
   | exact ih0 _ _ _
   | exact spec_riBack.mono _ _
   | exact spec_riGood.mono _ _
   | exact spec_riIf.mono _ _ _
   | exact LeO.none _
   | refine LeO.ite ?_ ?_
   | refine LeO.bind ?_ (fun _ => ?_)
theorem spec_BergChild.mono : ∀ a0 a1 k, LeO (spec_BergChild.f k a0 a1) (spec_BergChild.f (k + 1) a0 a1) := by
 intro a0 a1 k
 have ih0 := spec_BergChild.mono_l k
 unfold spec_BergChild.f
 repeat' first
  | (with_reducible exact ih0 _ _ _)
  | (with_reducible exact spec_riBack.mono _ _)
  | (with_reducible exact spec_riGood.mono _ _)
  | (with_reducible exact spec_riIf.mono _ _ _)
  | (with_reducible exact LeO.refl _)
  | (with_reducible exact LeO.none _)
  | (with_reducible refine LeO.ite ?_ ?_)
  | (with_reducible refine LeO.bind ?_ (fun _ => ?_))
  | exact ih0 _ _ _
  | exact spec_riBack.mono _ _
  | exact spec_riGood.mono _ _
  | exact spec_riIf.mono _ _ _
  | exact LeO.none _
  | refine LeO.ite ?_ ?_
  | refine LeO.bind ?_ (fun _ => ?_)
set_option maxHeartbeats 8000000 in
set_option maxRecDepth 100000 in
theorem spec_BergChild.calls (k : Nat) (A0 : Option Addr) (c0 : Nat) (l0 : List Int) (a1 : Int) (r1 : List Int) (r2 : Bool) (w : World) (hr0 : Kd.C (Kd.int .i64) w A0 l0.length l0) (hc0 : l0.length ≤ c0) (h : spec_BergChild.f k l0 a1 = some (r1, r2)) :
 Calls Try.prog 24 #[.slice A0 l0.length c0, .int .i64 a1] w fun e w' => ∃ v0_ : Value, e = .returned (.tuple #[v0_, .bool r2]) ∧ Kd.R (Kd.int .i64) 3 w' w.heap.size (fun _ => True) v0_ r1 ∧ Below w.heap.size w w' := by
 have HR0 := Aside0.mk hr0
 have HC0 := Aside0.mk hc0
 clear hr0 hc0
 have HB := Aside0.mk (Below.refl w.heap.size w)
 have H : ((spec_riGood.f k l0).bind fun t272 => (if t272 = true then ((spec_l1In.f a1 0 2).bind fun t273 => (spec_BergChild.j0 k l0 a1 (!t273))) else (spec_BergChild.j0 k l0 a1 true))) = some (r1, r2) := h
 clear h
 have HC3 := Aside0.mk H
 clear H
 go_enter Try.func24, Try.ntmps24
 go_upto_region 1 with (fail)
 go_cut [17] (fun v17 wc => ∃ (kq : Nat) (x17_2 : Bool), v17 = .bool x17_2 ∧ Aside0 (spec_BergChild.j0 kq l0 a1 x17_2 = some (r1, r2)) ∧ Aside0 (kq ≤ k) ∧ Aside0 (Below w.heap.size w wc))
 case first =>
  have H := HC3.out
  clear HC3
  replace H := Option.bind_eq_some_iff.mp H
  obtain ⟨t272, A40, H⟩ := H
  replace H : (if t272 = true then ((spec_l1In.f a1 0 2).bind fun t273 => (spec_BergChild.j0 k l0 a1 (!t273))) else (spec_BergChild.j0 k l0 a1 true)) = some (r1, r2) := H
  have A4 := Aside0.mk A40
  clear A40
  by_cases c5 : t272 = true
  ·
   subst c5
   have H1 : ((spec_l1In.f a1 0 2).bind fun t273 => (spec_BergChild.j0 k l0 a1 (!t273))) = some (r1, r2) := by rw [if_pos rfl] at H; exact H
   clear H
   have H := H1
   clear H1
   replace H := Option.bind_eq_some_iff.mp H
   obtain ⟨t273, A60, H⟩ := H
   replace H : (spec_BergChild.j0 k l0 a1 (!t273)) = some (r1, r2) := H
   have A6 := Aside0.mk A60
   clear A60
   have H' := Aside0.mk H
   clear H
   go_wp2_with (first | ((with_reducible refine gate_callee (f := 62) rfl ?_); refine gL (some 11) rfl rfl Try.func62 (by kernel_rfl) rfl #[.slice A0 l0.length c0] rfl ?_; (with_reducible refine (spec_riGood.calls k _ _ l0 true _ ?side1 ?side2 A4.out).mono ?_); (case side1 => exact cC (Kd.C_below HR0.out HB.out)); (case side2 => exact HC0.out); rintro e w7 ⟨rfl, hb⟩; refine ⟨_, rfl, ?_⟩; have n0_ := Aside0.mk (below_step bq hb); clear HB; have HB := n0_; clear n0_; (try clear hb); (try clear hb2); (try clear hk); (try clear hi)) | (go_at_call 63; (with_reducible refine (spec_l1In.calls a1 0 2 t273 _ A6.out).mono ?_); rintro e w' ⟨rfl, ⟨nd, rfl⟩⟩))
   go_meet
   case rel => exact ⟨_, (!t273), e2, H', ⟨by first | omega | exact Nat.le_refl _⟩, ⟨bq⟩⟩
  ·
   replace c5 := Bool.eq_false_iff.mpr c5
   subst c5
   have H1 : (spec_BergChild.j0 k l0 a1 true) = some (r1, r2) := by rw [if_neg (show ¬ (false = true) by decide)] at H; exact H
   clear H
   have H := H1
   clear H1
   have H' := Aside0.mk H
   clear H
   go_wp2_with (first | ((with_reducible refine gate_callee (f := 62) rfl ?_); refine gL (some 11) rfl rfl Try.func62 (by kernel_rfl) rfl #[.slice A0 l0.length c0] rfl ?_; (with_reducible refine (spec_riGood.calls k _ _ l0 false _ ?side1 ?side2 A4.out).mono ?_); (case side1 => exact cC (Kd.C_below HR0.out HB.out)); (case side2 => exact HC0.out); rintro e w8 ⟨rfl, hb⟩; refine ⟨_, rfl, ?_⟩; have n0_ := Aside0.mk (below_step bq hb); clear HB; have HB := n0_; clear n0_; (try clear hb); (try clear hb2); (try clear hk); (try clear hi)))
   go_meet
   case rel => exact ⟨_, (true), e2, H', ⟨by first | omega | exact Nat.le_refl _⟩, ⟨bq⟩⟩
 case rest =>
  clear HC3; (try clear c2); (try clear p2); (try clear c5); (try clear c6)
  obtain ⟨kq, x17_2, rfl, HA, HJ2, HB⟩ := hcut
  cases kq with
  | zero => exact absurd HA.out (by simp [spec_BergChild.j0])
  | succ kj2 =>
   have H := HA.out
   clear HA
   simp only [spec_BergChild.j0] at H
   by_cases c9 : x17_2 = true
   ·
    subst c9
    have H1 : (some (([] : List Int), false)) = some (r1, r2) := by rw [if_pos rfl] at H; exact H
    clear H
    have H := H1
    clear H1
    simp only [Option.some.injEq, Prod.mk.injEq] at H
    obtain ⟨rfl, rfl⟩ := H
    go_wp2
    go_ret2
    exact ⟨_, e1, by first | exact Kd.R_nil _ _ _ _ _ | exact Kd.N_nil _ _ _ _ _ | exact Kd.V_nil _ _ _ _ _ | exact Kd.Q_nil _ _ _ _ _ | exact Kd.S_nil _ _ _ _ _, bq⟩
   ·
    replace c9 := Bool.eq_false_iff.mpr c9
    subst c9
    have H1 : ((spec_riBack.f kj2 l0).bind fun bt274 => ((spec_riBerg.f bt274.1 bt274.2 a1).bind fun bt276 => ((spec_riIf.f kj2 bt276.1 bt276.2).bind fun bt278 => (some (bt278.1, bt278.2))))) = some (r1, r2) := by rw [if_neg (show ¬ (false = true) by decide)] at H; exact H
    clear H
    have H := H1
    clear H1
    replace H := Option.bind_eq_some_iff.mp H
    obtain ⟨⟨t274, t275⟩, A100, H⟩ := H
    replace H : ((spec_riBerg.f t274 t275 a1).bind fun bt276 => ((spec_riIf.f kj2 bt276.1 bt276.2).bind fun bt278 => (some (bt278.1, bt278.2)))) = some (r1, r2) := H
    have A10 := Aside0.mk A100
    clear A100
    replace H := Option.bind_eq_some_iff.mp H
    obtain ⟨⟨t276, t277⟩, A110, H⟩ := H
    replace H : ((spec_riIf.f kj2 t276 t277).bind fun bt278 => (some (bt278.1, bt278.2))) = some (r1, r2) := H
    have A11 := Aside0.mk A110
    clear A110
    replace H := Option.bind_eq_some_iff.mp H
    obtain ⟨⟨t278, t279⟩, A120, H⟩ := H
    replace H : (some (t278, t279)) = some (r1, r2) := H
    have A12 := Aside0.mk A120
    clear A120
    simp only [Option.some.injEq, Prod.mk.injEq] at H
    obtain ⟨rfl, rfl⟩ := H
    go_wp2_with (first | ((with_reducible refine gate_callee (f := 64) rfl ?_); refine gL (some 20) rfl rfl Try.func64 (by kernel_rfl) rfl #[.slice A0 l0.length c0] rfl ?_; (with_reducible refine (spec_riBack.calls kj2 _ _ l0 t274 t275 _ ?side1 ?side2 A10.out).mono ?_); (case side1 => exact cC (Kd.C_below HR0.out HB.out)); (case side2 => exact HC0.out); rintro e w' ⟨rfl, ⟨nd, rfl⟩⟩; refine ⟨_, rfl, ?_⟩) | ((with_reducible refine gate_callee (f := 81) rfl ?_); refine gL (some 27) rfl rfl Try.func81 (by kernel_rfl) rfl #[.int .i64 t274, .int .i64 t275, .int .i64 a1] rfl ?_; (with_reducible refine (spec_riBerg.calls t274 t275 a1 t276 t277 _ A11.out).mono ?_); rintro e w' ⟨rfl, ⟨nd, rfl⟩⟩; refine ⟨_, rfl, ?_⟩) | ((with_reducible refine gate_callee (f := 66) rfl ?_); refine gL (some 32) rfl rfl Try.func66 (by kernel_rfl) rfl #[.int .i64 t276, .int .i64 t277] rfl ?_; (with_reducible refine (spec_riIf.calls kj2 t276 t277 t278 t279 _ A12.out).mono ?_); rintro e w13 ⟨v280, rfl, ho0, hb⟩; refine ⟨_, rfl, ?_⟩; have n0_ := Aside0.mk (Kd.R_lower ho0 (below_size bq)); have n1_ := Aside0.mk (below_step bq hb); clear HB; have HO281 := n0_; have HB := n1_; clear n0_ n1_; (try clear hb); (try clear hb2); (try clear hk); (try clear hi); (try clear ho0)))
    go_ret2
    exact ⟨_, e1, by (with_reducible repeat (first | apply Kd.R_alloc | apply Kd.R_drewN | apply Kd.R_drew)); exact HO281.out, bq⟩

/-! ### spec_DrawBergMatrix: function 25 -/
def spec_DrawBergMatrix.f (l0 : List Int) : Option (Int) := (spec_l1Cur_pick.f l0 0 0 5).bind fun bt283 => (some (wrap64 (bt283.1 - 1)))
set_option maxHeartbeats 8000000 in
set_option maxRecDepth 100000 in
theorem spec_DrawBergMatrix.calls (A0 : Option Addr) (c0 : Nat) (l0 : List Int) (r : Int) (w : World) (hr0 : Kd.C (Kd.int .u8) w A0 l0.length l0) (hc0 : l0.length ≤ c0) (h : spec_DrawBergMatrix.f l0 = some r) :
 Calls Try.prog 25 #[.slice A0 l0.length c0] w fun e w' => e = .returned (.int .i64 r) ∧ Below w.heap.size w w' := by
 have hu79 := Try.underlying79
 have HR0 := Aside0.mk hr0
 have HC0 := Aside0.mk hc0
 clear hr0 hc0
 have HB := Aside0.mk (Below.refl w.heap.size w)
 have H : ((spec_l1Cur_pick.f l0 0 0 5).bind fun bt283 => (some (wrap64 (bt283.1 - 1)))) = some r := h
 clear h
 replace H := Option.bind_eq_some_iff.mp H
 obtain ⟨⟨t283, t284, t285⟩, A20, H⟩ := H
 replace H : (some (wrap64 (t283 - 1))) = some r := H
 have A2 := Aside0.mk A20
 clear A20
 obtain rfl := Option.some.inj H
 go_enter Try.func25, Try.ntmps25
 go_wp2_with (first | ((with_reducible refine gate_dst (N := 6) rfl ?_); refine box_event ?hg (N := 6) ?hd (cs := #[.slice A0 l0.length c0, .int .i64 0, .int .u64 0]) (t := 79) ?hr ?_; (case hd => rfl); (case hg => rfl); (case hr => first | (go_simp; done) | (go_simp; rfl)); intro gb282 hg w3 hbox hb; have n0_ := Aside0.mk (below_step bq hb); have n1_ := Aside0.mk ((by rw [hg]; exact (below_size bq) : w.heap.size ≤ gb282)); have n2_ := Aside0.mk ((by rw [hg]; exact (below_size bq) : w.heap.size ≤ gb282)); have n3_ := Aside0.mk ((show IsS79 w w3 gb282 l0 0 0 from ⟨A0, c0, hbox, (by rw [hg]; exact (below_size bq) : w.heap.size ≤ gb282), HR0.out⟩)); clear HB; have HB := n0_; have GW282 := n1_; have GE282 := n2_; have HI282 := n3_; clear n0_ n1_ n2_ n3_; clear hb hbox hg) | ((with_reducible refine gate_callee (f := 79) rfl ?_); refine gL (some 8) rfl rfl Try.func79 (by kernel_rfl) rfl #[.pointer (some ⟨gb282, 0, none⟩), .int .i64 5] rfl ?_; (with_reducible refine (spec_l1Cur_pick.calls gb282 l0 0 0 5 t283 t284 t285 w _ ?side1 ?side2 A2.out).mono ?_); (case side1 => repeat (first | (with_reducible first | exact HI282.out | apply IsS79.alloc | apply IsS79.drewN | apply IsS79.drew | apply IsS79.set_1 | apply IsS79.set_2) | exact HI282.out)); (case side2 => repeat (first | (with_reducible first | exact HB.out | apply below_alloc | apply pw_below_drewN | apply below_drew1 | refine below_set ?_ (IsS79.ge HI282.out)) | exact HB.out | exact Below.refl _ _)); rintro e w4 ⟨rfl, hi, hb, hk⟩; refine ⟨_, rfl, ?_⟩; have n0_ := Aside0.mk (hb); have n1_ := Aside0.mk (hi); clear HB; clear HI282; have HB := n0_; have HI282 := n1_; clear n0_ n1_; (try clear hb); (try clear hb2); (try clear hk); (try clear hi)))
 go_ret
 exact ⟨e1, by repeat (first | (with_reducible first | exact HB.out | apply below_alloc | apply pw_below_drewN | apply below_drew1 | refine below_set ?_ (IsS79.ge HI282.out)) | exact HB.out | exact Below.refl _ _)⟩

/-! ### impl_BergMatrix: function 26 -/
def impl_BergMatrix.f (a0 : Int) : Option ((List (List Int)) × Bool) := if a0 = 0 then (some ((([(([1, (-2), 2] : List Int)), (([2, (-1), 2] : List Int)), (([2, (-2), 3] : List Int))] : List (List Int))), true)) else (if a0 = 1 then (some ((([(([1, 2, 2] : List Int)), (([2, 1, 2] : List Int)), (([2, 2, 3] : List Int))] : List (List Int))), true)) else (if a0 = 2 then (some ((([(([(-1), 2, 2] : List Int)), (([(-2), 1, 2] : List Int)), (([(-2), 2, 3] : List Int))] : List (List Int))), true)) else (some (([] : List (List Int)), false))))
set_option maxHeartbeats 8000000 in
set_option maxRecDepth 100000 in
theorem impl_BergMatrix.calls (a0 : Int) (r1 : List (List Int)) (r2 : Bool) (w : World) (h : impl_BergMatrix.f a0 = some (r1, r2)) :
 Calls Try.prog 26 #[.int .i64 a0] w fun e w' => ∃ v0_ : Value, e = .returned (.tuple #[.agg #[v0_], .bool r2]) ∧ Kd.N (Kd.slice 3 (Kd.int .i64)) 24 w' w.heap.size (fun k_ => (w.heap.size ≤ k_)) v0_ r1 ∧ Below w.heap.size w w' := by
 have hu33 := Try.underlying33
 have HB := Aside0.mk (Below.refl w.heap.size w)
 have H : (if a0 = 0 then (some ((([(([1, (-2), 2] : List Int)), (([2, (-1), 2] : List Int)), (([2, (-2), 3] : List Int))] : List (List Int))), true)) else (if a0 = 1 then (some ((([(([1, 2, 2] : List Int)), (([2, 1, 2] : List Int)), (([2, 2, 3] : List Int))] : List (List Int))), true)) else (if a0 = 2 then (some ((([(([(-1), 2, 2] : List Int)), (([(-2), 1, 2] : List Int)), (([(-2), 2, 3] : List Int))] : List (List Int))), true)) else (some (([] : List (List Int)), false))))) = some (r1, r2) := h
 clear h
 by_cases c2 : a0 = 0
 ·
  rw [if_pos c2] at H
  have c2b0 : (a0 == 0) = true := beq_iff_eq.mpr c2
  have c2b1 : (a0 != 0) = false := bne_eq_false_iff_eq.mpr c2
  clear c2
  obtain ⟨y287, hy287⟩ : ∃ y_ : List Int, y_ = (([1, (-2), 2] : List Int)) := ⟨_, rfl⟩
  replace H : (some ((([y287, (([2, (-1), 2] : List Int)), (([2, (-2), 3] : List Int))] : List (List Int))), true)) = some (r1, r2) := by first | (rw [hy287]; with_reducible exact H) | (have H2_ := (Option.bind_some _ _).symm.trans H; rw [hy287]; with_reducible exact H2_) | (have H2_ := (Option.bind_some _ _).symm.trans H; with_reducible exact H2_) | with_reducible exact H | (rw [hy287]; exact H) | exact H
  have Ny287 := Aside0.mk hy287
  clear hy287
  obtain ⟨y290, hy290⟩ : ∃ y_ : List Int, y_ = (([2, (-1), 2] : List Int)) := ⟨_, rfl⟩
  replace H : (some ((([y287, y290, (([2, (-2), 3] : List Int))] : List (List Int))), true)) = some (r1, r2) := by first | (rw [hy290]; with_reducible exact H) | (have H2_ := (Option.bind_some _ _).symm.trans H; rw [hy290]; with_reducible exact H2_) | (have H2_ := (Option.bind_some _ _).symm.trans H; with_reducible exact H2_) | with_reducible exact H | (rw [hy290]; exact H) | exact H
  have Ny290 := Aside0.mk hy290
  clear hy290
  obtain ⟨y293, hy293⟩ : ∃ y_ : List Int, y_ = (([2, (-2), 3] : List Int)) := ⟨_, rfl⟩
  replace H : (some ((([y287, y290, y293] : List (List Int))), true)) = some (r1, r2) := by first | (rw [hy293]; with_reducible exact H) | (have H2_ := (Option.bind_some _ _).symm.trans H; rw [hy293]; with_reducible exact H2_) | (have H2_ := (Option.bind_some _ _).symm.trans H; with_reducible exact H2_) | with_reducible exact H | (rw [hy293]; exact H) | exact H
  have Ny293 := Aside0.mk hy293
  clear hy293
  obtain ⟨y296, hy296⟩ : ∃ y_ : List (List Int), y_ = (([y287, y290, y293] : List (List Int))) := ⟨_, rfl⟩
  replace H : (some (y296, true)) = some (r1, r2) := by first | (rw [hy296]; with_reducible exact H) | (have H2_ := (Option.bind_some _ _).symm.trans H; rw [hy296]; with_reducible exact H2_) | (have H2_ := (Option.bind_some _ _).symm.trans H; with_reducible exact H2_) | with_reducible exact H | (rw [hy296]; exact H) | exact H
  have Ny296 := Aside0.mk hy296
  clear hy296
  simp only [Option.some.injEq, Prod.mk.injEq] at H
  obtain ⟨rfl, rfl⟩ := H
  go_enter Try.func26, Try.ntmps26
  go_wp2_with (first | ((with_reducible refine gate_dst (N := 2) rfl ?_); refine box_event ?hg (N := 2) ?hd (cs := #[.slice none 0 0]) (t := 33) ?hr ?_; (case hd => rfl); (case hg => rfl); (case hr => first | (go_simp; done) | (go_simp; rfl)); intro gb286 hg w3 hbox hb; have n0_ := Aside0.mk (below_step bq hb); have n1_ := Aside0.mk (hbox); have n2_ := Aside0.mk ((by rw [hg]; exact (below_size bq) : w.heap.size ≤ gb286)); have n3_ := Aside0.mk ((by rw [hg]; exact (below_size bq) : w.heap.size ≤ gb286)); clear HB; have HB := n0_; have BK286 := n1_; have GW286 := n2_; have GE286 := n3_; clear n0_ n1_ n2_ n3_; clear hb hbox hg) | ((with_reducible refine gate_dst (N := 7) rfl ?_); refine Kd.R_lit (Kd.int .i64) _ 3 ?hg (N := 7) ?hd (xs := ([1, (-2), 2] : List Int)) (inner := [.int .i64 1, .int .i64 (-2), .int .i64 2]) (ok := fun _ => True) (okp := fun _ => True) ?hr ?hp (fun _ hk => hk) trivial (Below.refl _ _) (Nat.le_refl _) (by simp) ?_; (case hd => rfl); (case hg => rfl); (case hr => first | (go_simp; done) | (go_simp; rfl)); (case hp => exact (Reps.one (show Kd.M (Kd.int .i64) _ _ _ 1 [.int .i64 1] from rfl) (Reps.one (show Kd.M (Kd.int .i64) _ _ _ (-2) [.int .i64 (-2)] from rfl) (Reps.one (show Kd.M (Kd.int .i64) _ _ _ 2 [.int .i64 2] from rfl) (Reps.none _ _))))); intro v288 w4 ho5 hb hg_ hnew_; clear hg_ hnew_; (first | rw [← Ny287.out] at ho5 | (simp only [Int.reduceToNat] at ho5; rw [← Ny287.out] at ho5)); have n0_ := Aside0.mk (Kd.R_lower (Kd.R_newM (M := fun k_ => (w.heap.size ≤ k_)) ho5 (below_size (kB HB)) (fun k_ h_ => h_)) (below_size (kB HB))); have n1_ := Aside0.mk (kK BK286 hb); have n2_ := Aside0.mk (below_step (kB HB) hb); clear BK286; clear HB; have HO289 := n0_; have BK286 := n1_; have HB := n2_; clear n0_ n1_ n2_; clear hb ho5) | ((with_reducible refine gate_dst (N := 8) rfl ?_); refine Kd.R_lit (Kd.int .i64) _ 3 ?hg (N := 8) ?hd (xs := ([2, (-1), 2] : List Int)) (inner := [.int .i64 2, .int .i64 (-1), .int .i64 2]) (ok := fun _ => True) (okp := fun _ => True) ?hr ?hp (fun _ hk => hk) trivial (Below.refl _ _) (Nat.le_refl _) (by simp) ?_; (case hd => rfl); (case hg => rfl); (case hr => first | (go_simp; done) | (go_simp; rfl)); (case hp => exact (Reps.one (show Kd.M (Kd.int .i64) _ _ _ 2 [.int .i64 2] from rfl) (Reps.one (show Kd.M (Kd.int .i64) _ _ _ (-1) [.int .i64 (-1)] from rfl) (Reps.one (show Kd.M (Kd.int .i64) _ _ _ 2 [.int .i64 2] from rfl) (Reps.none _ _))))); intro v291 w6 ho7 hb hg_ hnew_; clear hg_ hnew_; (first | rw [← Ny290.out] at ho7 | (simp only [Int.reduceToNat] at ho7; rw [← Ny290.out] at ho7)); have n0_ := Aside0.mk (Kd.R_elder' (rA HO289) (Kd.R_base ho7) hb); have n1_ := Aside0.mk (Kd.R_lower (Kd.R_new' (Kd.R_newM (M := fun k_ => (w.heap.size ≤ k_)) ho7 (below_size (kB HB)) (fun k_ h_ => h_)) (Kd.R_lt (rA HO289))) (below_size (kB HB))); have n2_ := Aside0.mk (kK BK286 hb); have n3_ := Aside0.mk (below_step (kB HB) hb); clear HO289; clear BK286; clear HB; have HO289 := n0_; have HO292 := n1_; have BK286 := n2_; have HB := n3_; clear n0_ n1_ n2_ n3_; clear hb ho7) | ((with_reducible refine gate_dst (N := 9) rfl ?_); refine Kd.R_lit (Kd.int .i64) _ 3 ?hg (N := 9) ?hd (xs := ([2, (-2), 3] : List Int)) (inner := [.int .i64 2, .int .i64 (-2), .int .i64 3]) (ok := fun _ => True) (okp := fun _ => True) ?hr ?hp (fun _ hk => hk) trivial (Below.refl _ _) (Nat.le_refl _) (by simp) ?_; (case hd => rfl); (case hg => rfl); (case hr => first | (go_simp; done) | (go_simp; rfl)); (case hp => exact (Reps.one (show Kd.M (Kd.int .i64) _ _ _ 2 [.int .i64 2] from rfl) (Reps.one (show Kd.M (Kd.int .i64) _ _ _ (-2) [.int .i64 (-2)] from rfl) (Reps.one (show Kd.M (Kd.int .i64) _ _ _ 3 [.int .i64 3] from rfl) (Reps.none _ _))))); intro v294 w8 ho9 hb hg_ hnew_; clear hg_ hnew_; (first | rw [← Ny293.out] at ho9 | (simp only [Int.reduceToNat] at ho9; rw [← Ny293.out] at ho9)); have n0_ := Aside0.mk (Kd.R_elder' (rA HO289) (Kd.R_base ho9) hb); have n1_ := Aside0.mk (Kd.R_elder' (rA HO292) (Kd.R_base ho9) hb); have n2_ := Aside0.mk (Kd.R_lower (Kd.R_new' (Kd.R_new' (Kd.R_newM (M := fun k_ => (w.heap.size ≤ k_)) ho9 (below_size (kB HB)) (fun k_ h_ => h_)) (Kd.R_lt (rA HO289))) (Kd.R_lt (rA HO292))) (below_size (kB HB))); have n3_ := Aside0.mk (kK BK286 hb); have n4_ := Aside0.mk (below_step (kB HB) hb); clear HO289; clear HO292; clear BK286; clear HB; have HO289 := n0_; have HO292 := n1_; have HO295 := n2_; have BK286 := n3_; have HB := n4_; clear n0_ n1_ n2_ n3_ n4_; clear hb ho9; obtain ⟨Ao10, co10, eo10⟩ := Kd.R_slice HO289.out; subst eo10; obtain ⟨Ao11, co11, eo11⟩ := Kd.R_slice HO292.out; subst eo11; obtain ⟨Ao12, co12, eo12⟩ := Kd.R_slice HO295.out; subst eo12) | ((with_reducible refine gate_dst (N := 10) rfl ?_); refine Kd.N_lit (Kd.slice 3 (Kd.int .i64)) _ 24 ?hg (N' := 10) ?hd (xs := ([y287, y290, y293] : List (List Int))) (inner := [.slice Ao10 y287.length co10, .slice Ao11 y290.length co11, .slice Ao12 y293.length co12]) (ok := (fun k_ => (w.heap.size ≤ k_) ∧ k_ ≠ gb286)) (okp := (fun k_ => (w.heap.size ≤ k_) ∧ k_ ≠ gb286)) ?hr ?hp (fun _ hk => hk) ((show ∀ k_, w8.heap.size ≤ k_ → (fun k_ => (w.heap.size ≤ k_) ∧ k_ ≠ gb286) k_ from fun k_ hk => ⟨(Nat.le_trans (below_size (kB HB)) hk), Kd.freshB (g := gb286) (o := .cells #[.slice none 0 0] 33 (0, 0)) (bA BK286) k_ hk⟩) _ (Nat.le_refl _)) (Below.refl _ _) (Nat.le_refl _) (by simp) ?_; (case hd => rfl); (case hg => rfl); (case hr => first | (go_simp; done) | (go_simp; rfl)); (case hp => exact (Reps.one (show Kd.FK (Kd.slice 3 (Kd.int .i64)) _ _ y287 [.slice Ao10 y287.length co10] from (Kd.FK_slice_mk (Kd.R_reads' (Kd.R_mono (ok' := (fun k_ => (w.heap.size ≤ k_) ∧ k_ ≠ gb286)) (Kd.R_types (HO289.out) BK286.out (by decide)) (fun k_ hk => ⟨hk.1.1.1.1, hk.2⟩))).2.1 (Kd.R_F (Kd.R_mono (ok' := (fun k_ => (w.heap.size ≤ k_) ∧ k_ ≠ gb286)) (Kd.R_types (HO289.out) BK286.out (by decide)) (fun k_ hk => ⟨hk.1.1.1.1, hk.2⟩))))) (Reps.one (show Kd.FK (Kd.slice 3 (Kd.int .i64)) _ _ y290 [.slice Ao11 y290.length co11] from (Kd.FK_slice_mk (Kd.R_reads' (Kd.R_mono (ok' := (fun k_ => (w.heap.size ≤ k_) ∧ k_ ≠ gb286)) (Kd.R_types (HO292.out) BK286.out (by decide)) (fun k_ hk => ⟨hk.1.1.1.1, hk.2⟩))).2.1 (Kd.R_F (Kd.R_mono (ok' := (fun k_ => (w.heap.size ≤ k_) ∧ k_ ≠ gb286)) (Kd.R_types (HO292.out) BK286.out (by decide)) (fun k_ hk => ⟨hk.1.1.1.1, hk.2⟩))))) (Reps.one (show Kd.FK (Kd.slice 3 (Kd.int .i64)) _ _ y293 [.slice Ao12 y293.length co12] from (Kd.FK_slice_mk (Kd.R_reads' (Kd.R_mono (ok' := (fun k_ => (w.heap.size ≤ k_) ∧ k_ ≠ gb286)) (Kd.R_types (HO295.out) BK286.out (by decide)) (fun k_ hk => ⟨hk.1.1.1.1, hk.2⟩))).2.1 (Kd.R_F (Kd.R_mono (ok' := (fun k_ => (w.heap.size ≤ k_) ∧ k_ ≠ gb286)) (Kd.R_types (HO295.out) BK286.out (by decide)) (fun k_ hk => ⟨hk.1.1.1.1, hk.2⟩))))) (Reps.none _ _))))); intro v297 w13 ho14 hb hg_ hnew_; clear hg_ hnew_; (first | rw [← Ny296.out] at ho14 | (simp only [Int.reduceToNat] at ho14; rw [← Ny296.out] at ho14)); have n0_ := Aside0.mk (Kd.N_lower ho14 (below_size (kB HB))); have n1_ := Aside0.mk (kK BK286 hb); have n2_ := Aside0.mk (below_step (kB HB) hb); clear BK286; clear HB; clear HO289; clear HO292; clear HO295; have HO298 := n0_; have BK286 := n1_; have HB := n2_; clear n0_ n1_ n2_; clear hb ho14; obtain ⟨Ao15, co15, eo15⟩ := Kd.N_slice HO298.out; subst eo15; have hcz16_0 : w13.cell? ⟨gb286, 0, none⟩ = some (.slice none 0 0) := (blk_cell BK286.out 0).trans rfl; have hfz16_0 := blk_frozen BK286.out 0))
  refine bodyPost_ret (results_ct rfl _ _ gb286 33 #[.slice Ao15 y296.length co15] (0, 0) _ rfl (by (with_reducible repeat (first | refine blk_drewN ?_ _ | refine blk_drew ?_ | refine blk_alloc ?_ _)); refine blk_put (cs := #[.slice none 0 0]) ?_ 0 _ rfl; (with_reducible repeat (first | refine blk_drewN ?_ _ | refine blk_drew ?_ | refine blk_alloc ?_ _)); exact BK286.out) Try.underlying33 rfl (by kernel_rfl)) rfl ?_
  exact ⟨_, e1, by (with_reducible repeat (first | apply Kd.N_alloc | apply Kd.N_drewN | apply Kd.N_drew)); exact Kd.N_mono (Kd.N_far (p := ⟨gb286, 0, none⟩) (Kd.N_mono HO298.out (fun k_ hk => (⟨hk, hk.2⟩ : _ ∧ k_ ≠ gb286))) (fun _ hk => hk.2) (.slice Ao15 y296.length co15)) (fun _ hk => hk.1.1), kB HB⟩
 ·
  rw [if_neg c2] at H
  have c2b0 : (a0 == 0) = false := beq_eq_false_iff_ne.mpr c2
  have c2b1 : (a0 != 0) = true := bne_iff_ne.mpr c2
  by_cases c17 : a0 = 1
  ·
   rw [if_pos c17] at H
   have c17b0 : (a0 == 1) = true := beq_iff_eq.mpr c17
   have c17b1 : (a0 != 1) = false := bne_eq_false_iff_eq.mpr c17
   clear c17
   obtain ⟨y299, hy299⟩ : ∃ y_ : List Int, y_ = (([1, 2, 2] : List Int)) := ⟨_, rfl⟩
   replace H : (some ((([y299, (([2, 1, 2] : List Int)), (([2, 2, 3] : List Int))] : List (List Int))), true)) = some (r1, r2) := by first | (rw [hy299]; with_reducible exact H) | (have H2_ := (Option.bind_some _ _).symm.trans H; rw [hy299]; with_reducible exact H2_) | (have H2_ := (Option.bind_some _ _).symm.trans H; with_reducible exact H2_) | with_reducible exact H | (rw [hy299]; exact H) | exact H
   have Ny299 := Aside0.mk hy299
   clear hy299
   obtain ⟨y302, hy302⟩ : ∃ y_ : List Int, y_ = (([2, 1, 2] : List Int)) := ⟨_, rfl⟩
   replace H : (some ((([y299, y302, (([2, 2, 3] : List Int))] : List (List Int))), true)) = some (r1, r2) := by first | (rw [hy302]; with_reducible exact H) | (have H2_ := (Option.bind_some _ _).symm.trans H; rw [hy302]; with_reducible exact H2_) | (have H2_ := (Option.bind_some _ _).symm.trans H; with_reducible exact H2_) | with_reducible exact H | (rw [hy302]; exact H) | exact H
   have Ny302 := Aside0.mk hy302
   clear hy302
   obtain ⟨y305, hy305⟩ : ∃ y_ : List Int, y_ = (([2, 2, 3] : List Int)) := ⟨_, rfl⟩
   replace H : (some ((([y299, y302, y305] : List (List Int))), true)) = some (r1, r2) := by first | (rw [hy305]; with_reducible exact H) | (have H2_ := (Option.bind_some _ _).symm.trans H; rw [hy305]; with_reducible exact H2_) | (have H2_ := (Option.bind_some _ _).symm.trans H; with_reducible exact H2_) | with_reducible exact H | (rw [hy305]; exact H) | exact H
   have Ny305 := Aside0.mk hy305
   clear hy305
   obtain ⟨y308, hy308⟩ : ∃ y_ : List (List Int), y_ = (([y299, y302, y305] : List (List Int))) := ⟨_, rfl⟩
   replace H : (some (y308, true)) = some (r1, r2) := by first | (rw [hy308]; with_reducible exact H) | (have H2_ := (Option.bind_some _ _).symm.trans H; rw [hy308]; with_reducible exact H2_) | (have H2_ := (Option.bind_some _ _).symm.trans H; with_reducible exact H2_) | with_reducible exact H | (rw [hy308]; exact H) | exact H
   have Ny308 := Aside0.mk hy308
   clear hy308
   simp only [Option.some.injEq, Prod.mk.injEq] at H
   obtain ⟨rfl, rfl⟩ := H
   go_enter Try.func26, Try.ntmps26
   go_wp2_with (first | ((with_reducible refine gate_dst (N := 2) rfl ?_); refine box_event ?hg (N := 2) ?hd (cs := #[.slice none 0 0]) (t := 33) ?hr ?_; (case hd => rfl); (case hg => rfl); (case hr => first | (go_simp; done) | (go_simp; rfl)); intro gb286 hg w18 hbox hb; have n0_ := Aside0.mk (below_step bq hb); have n1_ := Aside0.mk (hbox); have n2_ := Aside0.mk ((by rw [hg]; exact (below_size bq) : w.heap.size ≤ gb286)); have n3_ := Aside0.mk ((by rw [hg]; exact (below_size bq) : w.heap.size ≤ gb286)); clear HB; have HB := n0_; have BK286 := n1_; have GW286 := n2_; have GE286 := n3_; clear n0_ n1_ n2_ n3_; clear hb hbox hg) | ((with_reducible refine gate_dst (N := 14) rfl ?_); refine Kd.R_lit (Kd.int .i64) _ 3 ?hg (N := 14) ?hd (xs := ([1, 2, 2] : List Int)) (inner := [.int .i64 1, .int .i64 2, .int .i64 2]) (ok := fun _ => True) (okp := fun _ => True) ?hr ?hp (fun _ hk => hk) trivial (Below.refl _ _) (Nat.le_refl _) (by simp) ?_; (case hd => rfl); (case hg => rfl); (case hr => first | (go_simp; done) | (go_simp; rfl)); (case hp => exact (Reps.one (show Kd.M (Kd.int .i64) _ _ _ 1 [.int .i64 1] from rfl) (Reps.one (show Kd.M (Kd.int .i64) _ _ _ 2 [.int .i64 2] from rfl) (Reps.one (show Kd.M (Kd.int .i64) _ _ _ 2 [.int .i64 2] from rfl) (Reps.none _ _))))); intro v300 w19 ho20 hb hg_ hnew_; clear hg_ hnew_; (first | rw [← Ny299.out] at ho20 | (simp only [Int.reduceToNat] at ho20; rw [← Ny299.out] at ho20)); have n0_ := Aside0.mk (Kd.R_lower (Kd.R_newM (M := fun k_ => (w.heap.size ≤ k_)) ho20 (below_size (kB HB)) (fun k_ h_ => h_)) (below_size (kB HB))); have n1_ := Aside0.mk (kK BK286 hb); have n2_ := Aside0.mk (below_step (kB HB) hb); clear BK286; clear HB; have HO301 := n0_; have BK286 := n1_; have HB := n2_; clear n0_ n1_ n2_; clear hb ho20) | ((with_reducible refine gate_dst (N := 15) rfl ?_); refine Kd.R_lit (Kd.int .i64) _ 3 ?hg (N := 15) ?hd (xs := ([2, 1, 2] : List Int)) (inner := [.int .i64 2, .int .i64 1, .int .i64 2]) (ok := fun _ => True) (okp := fun _ => True) ?hr ?hp (fun _ hk => hk) trivial (Below.refl _ _) (Nat.le_refl _) (by simp) ?_; (case hd => rfl); (case hg => rfl); (case hr => first | (go_simp; done) | (go_simp; rfl)); (case hp => exact (Reps.one (show Kd.M (Kd.int .i64) _ _ _ 2 [.int .i64 2] from rfl) (Reps.one (show Kd.M (Kd.int .i64) _ _ _ 1 [.int .i64 1] from rfl) (Reps.one (show Kd.M (Kd.int .i64) _ _ _ 2 [.int .i64 2] from rfl) (Reps.none _ _))))); intro v303 w21 ho22 hb hg_ hnew_; clear hg_ hnew_; (first | rw [← Ny302.out] at ho22 | (simp only [Int.reduceToNat] at ho22; rw [← Ny302.out] at ho22)); have n0_ := Aside0.mk (Kd.R_elder' (rA HO301) (Kd.R_base ho22) hb); have n1_ := Aside0.mk (Kd.R_lower (Kd.R_new' (Kd.R_newM (M := fun k_ => (w.heap.size ≤ k_)) ho22 (below_size (kB HB)) (fun k_ h_ => h_)) (Kd.R_lt (rA HO301))) (below_size (kB HB))); have n2_ := Aside0.mk (kK BK286 hb); have n3_ := Aside0.mk (below_step (kB HB) hb); clear HO301; clear BK286; clear HB; have HO301 := n0_; have HO304 := n1_; have BK286 := n2_; have HB := n3_; clear n0_ n1_ n2_ n3_; clear hb ho22) | ((with_reducible refine gate_dst (N := 16) rfl ?_); refine Kd.R_lit (Kd.int .i64) _ 3 ?hg (N := 16) ?hd (xs := ([2, 2, 3] : List Int)) (inner := [.int .i64 2, .int .i64 2, .int .i64 3]) (ok := fun _ => True) (okp := fun _ => True) ?hr ?hp (fun _ hk => hk) trivial (Below.refl _ _) (Nat.le_refl _) (by simp) ?_; (case hd => rfl); (case hg => rfl); (case hr => first | (go_simp; done) | (go_simp; rfl)); (case hp => exact (Reps.one (show Kd.M (Kd.int .i64) _ _ _ 2 [.int .i64 2] from rfl) (Reps.one (show Kd.M (Kd.int .i64) _ _ _ 2 [.int .i64 2] from rfl) (Reps.one (show Kd.M (Kd.int .i64) _ _ _ 3 [.int .i64 3] from rfl) (Reps.none _ _))))); intro v306 w23 ho24 hb hg_ hnew_; clear hg_ hnew_; (first | rw [← Ny305.out] at ho24 | (simp only [Int.reduceToNat] at ho24; rw [← Ny305.out] at ho24)); have n0_ := Aside0.mk (Kd.R_elder' (rA HO301) (Kd.R_base ho24) hb); have n1_ := Aside0.mk (Kd.R_elder' (rA HO304) (Kd.R_base ho24) hb); have n2_ := Aside0.mk (Kd.R_lower (Kd.R_new' (Kd.R_new' (Kd.R_newM (M := fun k_ => (w.heap.size ≤ k_)) ho24 (below_size (kB HB)) (fun k_ h_ => h_)) (Kd.R_lt (rA HO301))) (Kd.R_lt (rA HO304))) (below_size (kB HB))); have n3_ := Aside0.mk (kK BK286 hb); have n4_ := Aside0.mk (below_step (kB HB) hb); clear HO301; clear HO304; clear BK286; clear HB; have HO301 := n0_; have HO304 := n1_; have HO307 := n2_; have BK286 := n3_; have HB := n4_; clear n0_ n1_ n2_ n3_ n4_; clear hb ho24; obtain ⟨Ao25, co25, eo25⟩ := Kd.R_slice HO301.out; subst eo25; obtain ⟨Ao26, co26, eo26⟩ := Kd.R_slice HO304.out; subst eo26; obtain ⟨Ao27, co27, eo27⟩ := Kd.R_slice HO307.out; subst eo27) | ((with_reducible refine gate_dst (N := 17) rfl ?_); refine Kd.N_lit (Kd.slice 3 (Kd.int .i64)) _ 24 ?hg (N' := 17) ?hd (xs := ([y299, y302, y305] : List (List Int))) (inner := [.slice Ao25 y299.length co25, .slice Ao26 y302.length co26, .slice Ao27 y305.length co27]) (ok := (fun k_ => (w.heap.size ≤ k_) ∧ k_ ≠ gb286)) (okp := (fun k_ => (w.heap.size ≤ k_) ∧ k_ ≠ gb286)) ?hr ?hp (fun _ hk => hk) ((show ∀ k_, w23.heap.size ≤ k_ → (fun k_ => (w.heap.size ≤ k_) ∧ k_ ≠ gb286) k_ from fun k_ hk => ⟨(Nat.le_trans (below_size (kB HB)) hk), Kd.freshB (g := gb286) (o := .cells #[.slice none 0 0] 33 (0, 0)) (bA BK286) k_ hk⟩) _ (Nat.le_refl _)) (Below.refl _ _) (Nat.le_refl _) (by simp) ?_; (case hd => rfl); (case hg => rfl); (case hr => first | (go_simp; done) | (go_simp; rfl)); (case hp => exact (Reps.one (show Kd.FK (Kd.slice 3 (Kd.int .i64)) _ _ y299 [.slice Ao25 y299.length co25] from (Kd.FK_slice_mk (Kd.R_reads' (Kd.R_mono (ok' := (fun k_ => (w.heap.size ≤ k_) ∧ k_ ≠ gb286)) (Kd.R_types (HO301.out) BK286.out (by decide)) (fun k_ hk => ⟨hk.1.1.1.1, hk.2⟩))).2.1 (Kd.R_F (Kd.R_mono (ok' := (fun k_ => (w.heap.size ≤ k_) ∧ k_ ≠ gb286)) (Kd.R_types (HO301.out) BK286.out (by decide)) (fun k_ hk => ⟨hk.1.1.1.1, hk.2⟩))))) (Reps.one (show Kd.FK (Kd.slice 3 (Kd.int .i64)) _ _ y302 [.slice Ao26 y302.length co26] from (Kd.FK_slice_mk (Kd.R_reads' (Kd.R_mono (ok' := (fun k_ => (w.heap.size ≤ k_) ∧ k_ ≠ gb286)) (Kd.R_types (HO304.out) BK286.out (by decide)) (fun k_ hk => ⟨hk.1.1.1.1, hk.2⟩))).2.1 (Kd.R_F (Kd.R_mono (ok' := (fun k_ => (w.heap.size ≤ k_) ∧ k_ ≠ gb286)) (Kd.R_types (HO304.out) BK286.out (by decide)) (fun k_ hk => ⟨hk.1.1.1.1, hk.2⟩))))) (Reps.one (show Kd.FK (Kd.slice 3 (Kd.int .i64)) _ _ y305 [.slice Ao27 y305.length co27] from (Kd.FK_slice_mk (Kd.R_reads' (Kd.R_mono (ok' := (fun k_ => (w.heap.size ≤ k_) ∧ k_ ≠ gb286)) (Kd.R_types (HO307.out) BK286.out (by decide)) (fun k_ hk => ⟨hk.1.1.1.1, hk.2⟩))).2.1 (Kd.R_F (Kd.R_mono (ok' := (fun k_ => (w.heap.size ≤ k_) ∧ k_ ≠ gb286)) (Kd.R_types (HO307.out) BK286.out (by decide)) (fun k_ hk => ⟨hk.1.1.1.1, hk.2⟩))))) (Reps.none _ _))))); intro v309 w28 ho29 hb hg_ hnew_; clear hg_ hnew_; (first | rw [← Ny308.out] at ho29 | (simp only [Int.reduceToNat] at ho29; rw [← Ny308.out] at ho29)); have n0_ := Aside0.mk (Kd.N_lower ho29 (below_size (kB HB))); have n1_ := Aside0.mk (kK BK286 hb); have n2_ := Aside0.mk (below_step (kB HB) hb); clear BK286; clear HB; clear HO301; clear HO304; clear HO307; have HO310 := n0_; have BK286 := n1_; have HB := n2_; clear n0_ n1_ n2_; clear hb ho29; obtain ⟨Ao30, co30, eo30⟩ := Kd.N_slice HO310.out; subst eo30; have hcz31_0 : w28.cell? ⟨gb286, 0, none⟩ = some (.slice none 0 0) := (blk_cell BK286.out 0).trans rfl; have hfz31_0 := blk_frozen BK286.out 0))
   refine bodyPost_ret (results_ct rfl _ _ gb286 33 #[.slice Ao30 y308.length co30] (0, 0) _ rfl (by (with_reducible repeat (first | refine blk_drewN ?_ _ | refine blk_drew ?_ | refine blk_alloc ?_ _)); refine blk_put (cs := #[.slice none 0 0]) ?_ 0 _ rfl; (with_reducible repeat (first | refine blk_drewN ?_ _ | refine blk_drew ?_ | refine blk_alloc ?_ _)); exact BK286.out) Try.underlying33 rfl (by kernel_rfl)) rfl ?_
   exact ⟨_, e1, by (with_reducible repeat (first | apply Kd.N_alloc | apply Kd.N_drewN | apply Kd.N_drew)); exact Kd.N_mono (Kd.N_far (p := ⟨gb286, 0, none⟩) (Kd.N_mono HO310.out (fun k_ hk => (⟨hk, hk.2⟩ : _ ∧ k_ ≠ gb286))) (fun _ hk => hk.2) (.slice Ao30 y308.length co30)) (fun _ hk => hk.1.1), kB HB⟩
  ·
   rw [if_neg c17] at H
   have c17b0 : (a0 == 1) = false := beq_eq_false_iff_ne.mpr c17
   have c17b1 : (a0 != 1) = true := bne_iff_ne.mpr c17
   by_cases c32 : a0 = 2
   ·
    rw [if_pos c32] at H
    have c32b0 : (a0 == 2) = true := beq_iff_eq.mpr c32
    have c32b1 : (a0 != 2) = false := bne_eq_false_iff_eq.mpr c32
    clear c32
    obtain ⟨y311, hy311⟩ : ∃ y_ : List Int, y_ = (([(-1), 2, 2] : List Int)) := ⟨_, rfl⟩
    replace H : (some ((([y311, (([(-2), 1, 2] : List Int)), (([(-2), 2, 3] : List Int))] : List (List Int))), true)) = some (r1, r2) := by first | (rw [hy311]; with_reducible exact H) | (have H2_ := (Option.bind_some _ _).symm.trans H; rw [hy311]; with_reducible exact H2_) | (have H2_ := (Option.bind_some _ _).symm.trans H; with_reducible exact H2_) | with_reducible exact H | (rw [hy311]; exact H) | exact H
    have Ny311 := Aside0.mk hy311
    clear hy311
    obtain ⟨y314, hy314⟩ : ∃ y_ : List Int, y_ = (([(-2), 1, 2] : List Int)) := ⟨_, rfl⟩
    replace H : (some ((([y311, y314, (([(-2), 2, 3] : List Int))] : List (List Int))), true)) = some (r1, r2) := by first | (rw [hy314]; with_reducible exact H) | (have H2_ := (Option.bind_some _ _).symm.trans H; rw [hy314]; with_reducible exact H2_) | (have H2_ := (Option.bind_some _ _).symm.trans H; with_reducible exact H2_) | with_reducible exact H | (rw [hy314]; exact H) | exact H
    have Ny314 := Aside0.mk hy314
    clear hy314
    obtain ⟨y317, hy317⟩ : ∃ y_ : List Int, y_ = (([(-2), 2, 3] : List Int)) := ⟨_, rfl⟩
    replace H : (some ((([y311, y314, y317] : List (List Int))), true)) = some (r1, r2) := by first | (rw [hy317]; with_reducible exact H) | (have H2_ := (Option.bind_some _ _).symm.trans H; rw [hy317]; with_reducible exact H2_) | (have H2_ := (Option.bind_some _ _).symm.trans H; with_reducible exact H2_) | with_reducible exact H | (rw [hy317]; exact H) | exact H
    have Ny317 := Aside0.mk hy317
    clear hy317
    obtain ⟨y320, hy320⟩ : ∃ y_ : List (List Int), y_ = (([y311, y314, y317] : List (List Int))) := ⟨_, rfl⟩
    replace H : (some (y320, true)) = some (r1, r2) := by first | (rw [hy320]; with_reducible exact H) | (have H2_ := (Option.bind_some _ _).symm.trans H; rw [hy320]; with_reducible exact H2_) | (have H2_ := (Option.bind_some _ _).symm.trans H; with_reducible exact H2_) | with_reducible exact H | (rw [hy320]; exact H) | exact H
    have Ny320 := Aside0.mk hy320
    clear hy320
    simp only [Option.some.injEq, Prod.mk.injEq] at H
    obtain ⟨rfl, rfl⟩ := H
    go_enter Try.func26, Try.ntmps26
    go_wp2_with (first | ((with_reducible refine gate_dst (N := 2) rfl ?_); refine box_event ?hg (N := 2) ?hd (cs := #[.slice none 0 0]) (t := 33) ?hr ?_; (case hd => rfl); (case hg => rfl); (case hr => first | (go_simp; done) | (go_simp; rfl)); intro gb286 hg w33 hbox hb; have n0_ := Aside0.mk (below_step bq hb); have n1_ := Aside0.mk (hbox); have n2_ := Aside0.mk ((by rw [hg]; exact (below_size bq) : w.heap.size ≤ gb286)); have n3_ := Aside0.mk ((by rw [hg]; exact (below_size bq) : w.heap.size ≤ gb286)); clear HB; have HB := n0_; have BK286 := n1_; have GW286 := n2_; have GE286 := n3_; clear n0_ n1_ n2_ n3_; clear hb hbox hg) | ((with_reducible refine gate_dst (N := 21) rfl ?_); refine Kd.R_lit (Kd.int .i64) _ 3 ?hg (N := 21) ?hd (xs := ([(-1), 2, 2] : List Int)) (inner := [.int .i64 (-1), .int .i64 2, .int .i64 2]) (ok := fun _ => True) (okp := fun _ => True) ?hr ?hp (fun _ hk => hk) trivial (Below.refl _ _) (Nat.le_refl _) (by simp) ?_; (case hd => rfl); (case hg => rfl); (case hr => first | (go_simp; done) | (go_simp; rfl)); (case hp => exact (Reps.one (show Kd.M (Kd.int .i64) _ _ _ (-1) [.int .i64 (-1)] from rfl) (Reps.one (show Kd.M (Kd.int .i64) _ _ _ 2 [.int .i64 2] from rfl) (Reps.one (show Kd.M (Kd.int .i64) _ _ _ 2 [.int .i64 2] from rfl) (Reps.none _ _))))); intro v312 w34 ho35 hb hg_ hnew_; clear hg_ hnew_; (first | rw [← Ny311.out] at ho35 | (simp only [Int.reduceToNat] at ho35; rw [← Ny311.out] at ho35)); have n0_ := Aside0.mk (Kd.R_lower (Kd.R_newM (M := fun k_ => (w.heap.size ≤ k_)) ho35 (below_size (kB HB)) (fun k_ h_ => h_)) (below_size (kB HB))); have n1_ := Aside0.mk (kK BK286 hb); have n2_ := Aside0.mk (below_step (kB HB) hb); clear BK286; clear HB; have HO313 := n0_; have BK286 := n1_; have HB := n2_; clear n0_ n1_ n2_; clear hb ho35) | ((with_reducible refine gate_dst (N := 22) rfl ?_); refine Kd.R_lit (Kd.int .i64) _ 3 ?hg (N := 22) ?hd (xs := ([(-2), 1, 2] : List Int)) (inner := [.int .i64 (-2), .int .i64 1, .int .i64 2]) (ok := fun _ => True) (okp := fun _ => True) ?hr ?hp (fun _ hk => hk) trivial (Below.refl _ _) (Nat.le_refl _) (by simp) ?_; (case hd => rfl); (case hg => rfl); (case hr => first | (go_simp; done) | (go_simp; rfl)); (case hp => exact (Reps.one (show Kd.M (Kd.int .i64) _ _ _ (-2) [.int .i64 (-2)] from rfl) (Reps.one (show Kd.M (Kd.int .i64) _ _ _ 1 [.int .i64 1] from rfl) (Reps.one (show Kd.M (Kd.int .i64) _ _ _ 2 [.int .i64 2] from rfl) (Reps.none _ _))))); intro v315 w36 ho37 hb hg_ hnew_; clear hg_ hnew_; (first | rw [← Ny314.out] at ho37 | (simp only [Int.reduceToNat] at ho37; rw [← Ny314.out] at ho37)); have n0_ := Aside0.mk (Kd.R_elder' (rA HO313) (Kd.R_base ho37) hb); have n1_ := Aside0.mk (Kd.R_lower (Kd.R_new' (Kd.R_newM (M := fun k_ => (w.heap.size ≤ k_)) ho37 (below_size (kB HB)) (fun k_ h_ => h_)) (Kd.R_lt (rA HO313))) (below_size (kB HB))); have n2_ := Aside0.mk (kK BK286 hb); have n3_ := Aside0.mk (below_step (kB HB) hb); clear HO313; clear BK286; clear HB; have HO313 := n0_; have HO316 := n1_; have BK286 := n2_; have HB := n3_; clear n0_ n1_ n2_ n3_; clear hb ho37) | ((with_reducible refine gate_dst (N := 23) rfl ?_); refine Kd.R_lit (Kd.int .i64) _ 3 ?hg (N := 23) ?hd (xs := ([(-2), 2, 3] : List Int)) (inner := [.int .i64 (-2), .int .i64 2, .int .i64 3]) (ok := fun _ => True) (okp := fun _ => True) ?hr ?hp (fun _ hk => hk) trivial (Below.refl _ _) (Nat.le_refl _) (by simp) ?_; (case hd => rfl); (case hg => rfl); (case hr => first | (go_simp; done) | (go_simp; rfl)); (case hp => exact (Reps.one (show Kd.M (Kd.int .i64) _ _ _ (-2) [.int .i64 (-2)] from rfl) (Reps.one (show Kd.M (Kd.int .i64) _ _ _ 2 [.int .i64 2] from rfl) (Reps.one (show Kd.M (Kd.int .i64) _ _ _ 3 [.int .i64 3] from rfl) (Reps.none _ _))))); intro v318 w38 ho39 hb hg_ hnew_; clear hg_ hnew_; (first | rw [← Ny317.out] at ho39 | (simp only [Int.reduceToNat] at ho39; rw [← Ny317.out] at ho39)); have n0_ := Aside0.mk (Kd.R_elder' (rA HO313) (Kd.R_base ho39) hb); have n1_ := Aside0.mk (Kd.R_elder' (rA HO316) (Kd.R_base ho39) hb); have n2_ := Aside0.mk (Kd.R_lower (Kd.R_new' (Kd.R_new' (Kd.R_newM (M := fun k_ => (w.heap.size ≤ k_)) ho39 (below_size (kB HB)) (fun k_ h_ => h_)) (Kd.R_lt (rA HO313))) (Kd.R_lt (rA HO316))) (below_size (kB HB))); have n3_ := Aside0.mk (kK BK286 hb); have n4_ := Aside0.mk (below_step (kB HB) hb); clear HO313; clear HO316; clear BK286; clear HB; have HO313 := n0_; have HO316 := n1_; have HO319 := n2_; have BK286 := n3_; have HB := n4_; clear n0_ n1_ n2_ n3_ n4_; clear hb ho39; obtain ⟨Ao40, co40, eo40⟩ := Kd.R_slice HO313.out; subst eo40; obtain ⟨Ao41, co41, eo41⟩ := Kd.R_slice HO316.out; subst eo41; obtain ⟨Ao42, co42, eo42⟩ := Kd.R_slice HO319.out; subst eo42) | ((with_reducible refine gate_dst (N := 24) rfl ?_); refine Kd.N_lit (Kd.slice 3 (Kd.int .i64)) _ 24 ?hg (N' := 24) ?hd (xs := ([y311, y314, y317] : List (List Int))) (inner := [.slice Ao40 y311.length co40, .slice Ao41 y314.length co41, .slice Ao42 y317.length co42]) (ok := (fun k_ => (w.heap.size ≤ k_) ∧ k_ ≠ gb286)) (okp := (fun k_ => (w.heap.size ≤ k_) ∧ k_ ≠ gb286)) ?hr ?hp (fun _ hk => hk) ((show ∀ k_, w38.heap.size ≤ k_ → (fun k_ => (w.heap.size ≤ k_) ∧ k_ ≠ gb286) k_ from fun k_ hk => ⟨(Nat.le_trans (below_size (kB HB)) hk), Kd.freshB (g := gb286) (o := .cells #[.slice none 0 0] 33 (0, 0)) (bA BK286) k_ hk⟩) _ (Nat.le_refl _)) (Below.refl _ _) (Nat.le_refl _) (by simp) ?_; (case hd => rfl); (case hg => rfl); (case hr => first | (go_simp; done) | (go_simp; rfl)); (case hp => exact (Reps.one (show Kd.FK (Kd.slice 3 (Kd.int .i64)) _ _ y311 [.slice Ao40 y311.length co40] from (Kd.FK_slice_mk (Kd.R_reads' (Kd.R_mono (ok' := (fun k_ => (w.heap.size ≤ k_) ∧ k_ ≠ gb286)) (Kd.R_types (HO313.out) BK286.out (by decide)) (fun k_ hk => ⟨hk.1.1.1.1, hk.2⟩))).2.1 (Kd.R_F (Kd.R_mono (ok' := (fun k_ => (w.heap.size ≤ k_) ∧ k_ ≠ gb286)) (Kd.R_types (HO313.out) BK286.out (by decide)) (fun k_ hk => ⟨hk.1.1.1.1, hk.2⟩))))) (Reps.one (show Kd.FK (Kd.slice 3 (Kd.int .i64)) _ _ y314 [.slice Ao41 y314.length co41] from (Kd.FK_slice_mk (Kd.R_reads' (Kd.R_mono (ok' := (fun k_ => (w.heap.size ≤ k_) ∧ k_ ≠ gb286)) (Kd.R_types (HO316.out) BK286.out (by decide)) (fun k_ hk => ⟨hk.1.1.1.1, hk.2⟩))).2.1 (Kd.R_F (Kd.R_mono (ok' := (fun k_ => (w.heap.size ≤ k_) ∧ k_ ≠ gb286)) (Kd.R_types (HO316.out) BK286.out (by decide)) (fun k_ hk => ⟨hk.1.1.1.1, hk.2⟩))))) (Reps.one (show Kd.FK (Kd.slice 3 (Kd.int .i64)) _ _ y317 [.slice Ao42 y317.length co42] from (Kd.FK_slice_mk (Kd.R_reads' (Kd.R_mono (ok' := (fun k_ => (w.heap.size ≤ k_) ∧ k_ ≠ gb286)) (Kd.R_types (HO319.out) BK286.out (by decide)) (fun k_ hk => ⟨hk.1.1.1.1, hk.2⟩))).2.1 (Kd.R_F (Kd.R_mono (ok' := (fun k_ => (w.heap.size ≤ k_) ∧ k_ ≠ gb286)) (Kd.R_types (HO319.out) BK286.out (by decide)) (fun k_ hk => ⟨hk.1.1.1.1, hk.2⟩))))) (Reps.none _ _))))); intro v321 w43 ho44 hb hg_ hnew_; clear hg_ hnew_; (first | rw [← Ny320.out] at ho44 | (simp only [Int.reduceToNat] at ho44; rw [← Ny320.out] at ho44)); have n0_ := Aside0.mk (Kd.N_lower ho44 (below_size (kB HB))); have n1_ := Aside0.mk (kK BK286 hb); have n2_ := Aside0.mk (below_step (kB HB) hb); clear BK286; clear HB; clear HO313; clear HO316; clear HO319; have HO322 := n0_; have BK286 := n1_; have HB := n2_; clear n0_ n1_ n2_; clear hb ho44; obtain ⟨Ao45, co45, eo45⟩ := Kd.N_slice HO322.out; subst eo45; have hcz46_0 : w43.cell? ⟨gb286, 0, none⟩ = some (.slice none 0 0) := (blk_cell BK286.out 0).trans rfl; have hfz46_0 := blk_frozen BK286.out 0))
    refine bodyPost_ret (results_ct rfl _ _ gb286 33 #[.slice Ao45 y320.length co45] (0, 0) _ rfl (by (with_reducible repeat (first | refine blk_drewN ?_ _ | refine blk_drew ?_ | refine blk_alloc ?_ _)); refine blk_put (cs := #[.slice none 0 0]) ?_ 0 _ rfl; (with_reducible repeat (first | refine blk_drewN ?_ _ | refine blk_drew ?_ | refine blk_alloc ?_ _)); exact BK286.out) Try.underlying33 rfl (by kernel_rfl)) rfl ?_
    exact ⟨_, e1, by (with_reducible repeat (first | apply Kd.N_alloc | apply Kd.N_drewN | apply Kd.N_drew)); exact Kd.N_mono (Kd.N_far (p := ⟨gb286, 0, none⟩) (Kd.N_mono HO322.out (fun k_ hk => (⟨hk, hk.2⟩ : _ ∧ k_ ≠ gb286))) (fun _ hk => hk.2) (.slice Ao45 y320.length co45)) (fun _ hk => hk.1.1), kB HB⟩
   ·
    rw [if_neg c32] at H
    have c32b0 : (a0 == 2) = false := beq_eq_false_iff_ne.mpr c32
    have c32b1 : (a0 != 2) = true := bne_iff_ne.mpr c32
    simp only [Option.some.injEq, Prod.mk.injEq] at H
    obtain ⟨rfl, rfl⟩ := H
    go_enter Try.func26, Try.ntmps26
    go_wp2_with (first | ((with_reducible refine gate_dst (N := 2) rfl ?_); refine box_event ?hg (N := 2) ?hd (cs := #[.slice none 0 0]) (t := 33) ?hr ?_; (case hd => rfl); (case hg => rfl); (case hr => first | (go_simp; done) | (go_simp; rfl)); intro gb286 hg w47 hbox hb; have n0_ := Aside0.mk (below_step bq hb); have n1_ := Aside0.mk (hbox); have n2_ := Aside0.mk ((by rw [hg]; exact (below_size bq) : w.heap.size ≤ gb286)); have n3_ := Aside0.mk ((by rw [hg]; exact (below_size bq) : w.heap.size ≤ gb286)); clear HB; have HB := n0_; have BK286 := n1_; have GW286 := n2_; have GE286 := n3_; clear n0_ n1_ n2_ n3_; clear hb hbox hg; have hcz48_0 : w47.cell? ⟨gb286, 0, none⟩ = some (.slice none 0 0) := (blk_cell BK286.out 0).trans rfl; have hfz48_0 := blk_frozen BK286.out 0))
    refine bodyPost_ret (results_ct rfl _ _ gb286 33 #[.slice none 0 0] (0, 0) _ rfl (by (with_reducible repeat (first | refine blk_drewN ?_ _ | refine blk_drew ?_ | refine blk_alloc ?_ _)); refine blk_put (cs := #[.slice none 0 0]) ?_ 0 _ rfl; (with_reducible repeat (first | refine blk_drewN ?_ _ | refine blk_drew ?_ | refine blk_alloc ?_ _)); exact BK286.out) Try.underlying33 rfl (by kernel_rfl)) rfl ?_
    exact ⟨_, e1, by first | exact Kd.S_nil _ _ _ _ _ | exact Kd.N_nil _ _ _ _ _ | exact Kd.V_nil _ _ _ _ _ | exact Kd.Q_nil _ _ _ _ _ | exact Kd.R_nil _ _ _ _ _, kB HB⟩

/-! ### spec_BergMatrix: function 27 -/
def spec_BergMatrix.f (a0 : Int) : Option ((List (List Int)) × Bool) := if a0 = 0 then (some ((([(([1, (-2), 2] : List Int)), (([2, (-1), 2] : List Int)), (([2, (-2), 3] : List Int))] : List (List Int))), true)) else (if a0 = 1 then (some ((([(([1, 2, 2] : List Int)), (([2, 1, 2] : List Int)), (([2, 2, 3] : List Int))] : List (List Int))), true)) else (if a0 = 2 then (some ((([(([(-1), 2, 2] : List Int)), (([(-2), 1, 2] : List Int)), (([(-2), 2, 3] : List Int))] : List (List Int))), true)) else (some (([] : List (List Int)), false))))
set_option maxHeartbeats 8000000 in
set_option maxRecDepth 100000 in
theorem spec_BergMatrix.calls (a0 : Int) (r1 : List (List Int)) (r2 : Bool) (w : World) (h : spec_BergMatrix.f a0 = some (r1, r2)) :
 Calls Try.prog 27 #[.int .i64 a0] w fun e w' => ∃ v0_ : Value, e = .returned (.tuple #[.agg #[v0_], .bool r2]) ∧ Kd.N (Kd.slice 3 (Kd.int .i64)) 24 w' w.heap.size (fun k_ => (w.heap.size ≤ k_)) v0_ r1 ∧ Below w.heap.size w w' := by
 have hu33 := Try.underlying33
 have HB := Aside0.mk (Below.refl w.heap.size w)
 have H : (if a0 = 0 then (some ((([(([1, (-2), 2] : List Int)), (([2, (-1), 2] : List Int)), (([2, (-2), 3] : List Int))] : List (List Int))), true)) else (if a0 = 1 then (some ((([(([1, 2, 2] : List Int)), (([2, 1, 2] : List Int)), (([2, 2, 3] : List Int))] : List (List Int))), true)) else (if a0 = 2 then (some ((([(([(-1), 2, 2] : List Int)), (([(-2), 1, 2] : List Int)), (([(-2), 2, 3] : List Int))] : List (List Int))), true)) else (some (([] : List (List Int)), false))))) = some (r1, r2) := h
 clear h
 by_cases c2 : a0 = 0
 ·
  rw [if_pos c2] at H
  have c2b0 : (a0 == 0) = true := beq_iff_eq.mpr c2
  have c2b1 : (a0 != 0) = false := bne_eq_false_iff_eq.mpr c2
  clear c2
  obtain ⟨y324, hy324⟩ : ∃ y_ : List Int, y_ = (([1, (-2), 2] : List Int)) := ⟨_, rfl⟩
  replace H : (some ((([y324, (([2, (-1), 2] : List Int)), (([2, (-2), 3] : List Int))] : List (List Int))), true)) = some (r1, r2) := by first | (rw [hy324]; with_reducible exact H) | (have H2_ := (Option.bind_some _ _).symm.trans H; rw [hy324]; with_reducible exact H2_) | (have H2_ := (Option.bind_some _ _).symm.trans H; with_reducible exact H2_) | with_reducible exact H | (rw [hy324]; exact H) | exact H
  have Ny324 := Aside0.mk hy324
  clear hy324
  obtain ⟨y327, hy327⟩ : ∃ y_ : List Int, y_ = (([2, (-1), 2] : List Int)) := ⟨_, rfl⟩
  replace H : (some ((([y324, y327, (([2, (-2), 3] : List Int))] : List (List Int))), true)) = some (r1, r2) := by first | (rw [hy327]; with_reducible exact H) | (have H2_ := (Option.bind_some _ _).symm.trans H; rw [hy327]; with_reducible exact H2_) | (have H2_ := (Option.bind_some _ _).symm.trans H; with_reducible exact H2_) | with_reducible exact H | (rw [hy327]; exact H) | exact H
  have Ny327 := Aside0.mk hy327
  clear hy327
  obtain ⟨y330, hy330⟩ : ∃ y_ : List Int, y_ = (([2, (-2), 3] : List Int)) := ⟨_, rfl⟩
  replace H : (some ((([y324, y327, y330] : List (List Int))), true)) = some (r1, r2) := by first | (rw [hy330]; with_reducible exact H) | (have H2_ := (Option.bind_some _ _).symm.trans H; rw [hy330]; with_reducible exact H2_) | (have H2_ := (Option.bind_some _ _).symm.trans H; with_reducible exact H2_) | with_reducible exact H | (rw [hy330]; exact H) | exact H
  have Ny330 := Aside0.mk hy330
  clear hy330
  obtain ⟨y333, hy333⟩ : ∃ y_ : List (List Int), y_ = (([y324, y327, y330] : List (List Int))) := ⟨_, rfl⟩
  replace H : (some (y333, true)) = some (r1, r2) := by first | (rw [hy333]; with_reducible exact H) | (have H2_ := (Option.bind_some _ _).symm.trans H; rw [hy333]; with_reducible exact H2_) | (have H2_ := (Option.bind_some _ _).symm.trans H; with_reducible exact H2_) | with_reducible exact H | (rw [hy333]; exact H) | exact H
  have Ny333 := Aside0.mk hy333
  clear hy333
  simp only [Option.some.injEq, Prod.mk.injEq] at H
  obtain ⟨rfl, rfl⟩ := H
  go_enter Try.func27, Try.ntmps27
  go_wp2_with (first | ((with_reducible refine gate_dst (N := 2) rfl ?_); refine box_event ?hg (N := 2) ?hd (cs := #[.slice none 0 0]) (t := 33) ?hr ?_; (case hd => rfl); (case hg => rfl); (case hr => first | (go_simp; done) | (go_simp; rfl)); intro gb323 hg w3 hbox hb; have n0_ := Aside0.mk (below_step bq hb); have n1_ := Aside0.mk (hbox); have n2_ := Aside0.mk ((by rw [hg]; exact (below_size bq) : w.heap.size ≤ gb323)); have n3_ := Aside0.mk ((by rw [hg]; exact (below_size bq) : w.heap.size ≤ gb323)); clear HB; have HB := n0_; have BK323 := n1_; have GW323 := n2_; have GE323 := n3_; clear n0_ n1_ n2_ n3_; clear hb hbox hg) | ((with_reducible refine gate_dst (N := 7) rfl ?_); refine Kd.R_lit (Kd.int .i64) _ 3 ?hg (N := 7) ?hd (xs := ([1, (-2), 2] : List Int)) (inner := [.int .i64 1, .int .i64 (-2), .int .i64 2]) (ok := fun _ => True) (okp := fun _ => True) ?hr ?hp (fun _ hk => hk) trivial (Below.refl _ _) (Nat.le_refl _) (by simp) ?_; (case hd => rfl); (case hg => rfl); (case hr => first | (go_simp; done) | (go_simp; rfl)); (case hp => exact (Reps.one (show Kd.M (Kd.int .i64) _ _ _ 1 [.int .i64 1] from rfl) (Reps.one (show Kd.M (Kd.int .i64) _ _ _ (-2) [.int .i64 (-2)] from rfl) (Reps.one (show Kd.M (Kd.int .i64) _ _ _ 2 [.int .i64 2] from rfl) (Reps.none _ _))))); intro v325 w4 ho5 hb hg_ hnew_; clear hg_ hnew_; (first | rw [← Ny324.out] at ho5 | (simp only [Int.reduceToNat] at ho5; rw [← Ny324.out] at ho5)); have n0_ := Aside0.mk (Kd.R_lower (Kd.R_newM (M := fun k_ => (w.heap.size ≤ k_)) ho5 (below_size (kB HB)) (fun k_ h_ => h_)) (below_size (kB HB))); have n1_ := Aside0.mk (kK BK323 hb); have n2_ := Aside0.mk (below_step (kB HB) hb); clear BK323; clear HB; have HO326 := n0_; have BK323 := n1_; have HB := n2_; clear n0_ n1_ n2_; clear hb ho5) | ((with_reducible refine gate_dst (N := 8) rfl ?_); refine Kd.R_lit (Kd.int .i64) _ 3 ?hg (N := 8) ?hd (xs := ([2, (-1), 2] : List Int)) (inner := [.int .i64 2, .int .i64 (-1), .int .i64 2]) (ok := fun _ => True) (okp := fun _ => True) ?hr ?hp (fun _ hk => hk) trivial (Below.refl _ _) (Nat.le_refl _) (by simp) ?_; (case hd => rfl); (case hg => rfl); (case hr => first | (go_simp; done) | (go_simp; rfl)); (case hp => exact (Reps.one (show Kd.M (Kd.int .i64) _ _ _ 2 [.int .i64 2] from rfl) (Reps.one (show Kd.M (Kd.int .i64) _ _ _ (-1) [.int .i64 (-1)] from rfl) (Reps.one (show Kd.M (Kd.int .i64) _ _ _ 2 [.int .i64 2] from rfl) (Reps.none _ _))))); intro v328 w6 ho7 hb hg_ hnew_; clear hg_ hnew_; (first | rw [← Ny327.out] at ho7 | (simp only [Int.reduceToNat] at ho7; rw [← Ny327.out] at ho7)); have n0_ := Aside0.mk (Kd.R_elder' (rA HO326) (Kd.R_base ho7) hb); have n1_ := Aside0.mk (Kd.R_lower (Kd.R_new' (Kd.R_newM (M := fun k_ => (w.heap.size ≤ k_)) ho7 (below_size (kB HB)) (fun k_ h_ => h_)) (Kd.R_lt (rA HO326))) (below_size (kB HB))); have n2_ := Aside0.mk (kK BK323 hb); have n3_ := Aside0.mk (below_step (kB HB) hb); clear HO326; clear BK323; clear HB; have HO326 := n0_; have HO329 := n1_; have BK323 := n2_; have HB := n3_; clear n0_ n1_ n2_ n3_; clear hb ho7) | ((with_reducible refine gate_dst (N := 9) rfl ?_); refine Kd.R_lit (Kd.int .i64) _ 3 ?hg (N := 9) ?hd (xs := ([2, (-2), 3] : List Int)) (inner := [.int .i64 2, .int .i64 (-2), .int .i64 3]) (ok := fun _ => True) (okp := fun _ => True) ?hr ?hp (fun _ hk => hk) trivial (Below.refl _ _) (Nat.le_refl _) (by simp) ?_; (case hd => rfl); (case hg => rfl); (case hr => first | (go_simp; done) | (go_simp; rfl)); (case hp => exact (Reps.one (show Kd.M (Kd.int .i64) _ _ _ 2 [.int .i64 2] from rfl) (Reps.one (show Kd.M (Kd.int .i64) _ _ _ (-2) [.int .i64 (-2)] from rfl) (Reps.one (show Kd.M (Kd.int .i64) _ _ _ 3 [.int .i64 3] from rfl) (Reps.none _ _))))); intro v331 w8 ho9 hb hg_ hnew_; clear hg_ hnew_; (first | rw [← Ny330.out] at ho9 | (simp only [Int.reduceToNat] at ho9; rw [← Ny330.out] at ho9)); have n0_ := Aside0.mk (Kd.R_elder' (rA HO326) (Kd.R_base ho9) hb); have n1_ := Aside0.mk (Kd.R_elder' (rA HO329) (Kd.R_base ho9) hb); have n2_ := Aside0.mk (Kd.R_lower (Kd.R_new' (Kd.R_new' (Kd.R_newM (M := fun k_ => (w.heap.size ≤ k_)) ho9 (below_size (kB HB)) (fun k_ h_ => h_)) (Kd.R_lt (rA HO326))) (Kd.R_lt (rA HO329))) (below_size (kB HB))); have n3_ := Aside0.mk (kK BK323 hb); have n4_ := Aside0.mk (below_step (kB HB) hb); clear HO326; clear HO329; clear BK323; clear HB; have HO326 := n0_; have HO329 := n1_; have HO332 := n2_; have BK323 := n3_; have HB := n4_; clear n0_ n1_ n2_ n3_ n4_; clear hb ho9; obtain ⟨Ao10, co10, eo10⟩ := Kd.R_slice HO326.out; subst eo10; obtain ⟨Ao11, co11, eo11⟩ := Kd.R_slice HO329.out; subst eo11; obtain ⟨Ao12, co12, eo12⟩ := Kd.R_slice HO332.out; subst eo12) | ((with_reducible refine gate_dst (N := 10) rfl ?_); refine Kd.N_lit (Kd.slice 3 (Kd.int .i64)) _ 24 ?hg (N' := 10) ?hd (xs := ([y324, y327, y330] : List (List Int))) (inner := [.slice Ao10 y324.length co10, .slice Ao11 y327.length co11, .slice Ao12 y330.length co12]) (ok := (fun k_ => (w.heap.size ≤ k_) ∧ k_ ≠ gb323)) (okp := (fun k_ => (w.heap.size ≤ k_) ∧ k_ ≠ gb323)) ?hr ?hp (fun _ hk => hk) ((show ∀ k_, w8.heap.size ≤ k_ → (fun k_ => (w.heap.size ≤ k_) ∧ k_ ≠ gb323) k_ from fun k_ hk => ⟨(Nat.le_trans (below_size (kB HB)) hk), Kd.freshB (g := gb323) (o := .cells #[.slice none 0 0] 33 (0, 0)) (bA BK323) k_ hk⟩) _ (Nat.le_refl _)) (Below.refl _ _) (Nat.le_refl _) (by simp) ?_; (case hd => rfl); (case hg => rfl); (case hr => first | (go_simp; done) | (go_simp; rfl)); (case hp => exact (Reps.one (show Kd.FK (Kd.slice 3 (Kd.int .i64)) _ _ y324 [.slice Ao10 y324.length co10] from (Kd.FK_slice_mk (Kd.R_reads' (Kd.R_mono (ok' := (fun k_ => (w.heap.size ≤ k_) ∧ k_ ≠ gb323)) (Kd.R_types (HO326.out) BK323.out (by decide)) (fun k_ hk => ⟨hk.1.1.1.1, hk.2⟩))).2.1 (Kd.R_F (Kd.R_mono (ok' := (fun k_ => (w.heap.size ≤ k_) ∧ k_ ≠ gb323)) (Kd.R_types (HO326.out) BK323.out (by decide)) (fun k_ hk => ⟨hk.1.1.1.1, hk.2⟩))))) (Reps.one (show Kd.FK (Kd.slice 3 (Kd.int .i64)) _ _ y327 [.slice Ao11 y327.length co11] from (Kd.FK_slice_mk (Kd.R_reads' (Kd.R_mono (ok' := (fun k_ => (w.heap.size ≤ k_) ∧ k_ ≠ gb323)) (Kd.R_types (HO329.out) BK323.out (by decide)) (fun k_ hk => ⟨hk.1.1.1.1, hk.2⟩))).2.1 (Kd.R_F (Kd.R_mono (ok' := (fun k_ => (w.heap.size ≤ k_) ∧ k_ ≠ gb323)) (Kd.R_types (HO329.out) BK323.out (by decide)) (fun k_ hk => ⟨hk.1.1.1.1, hk.2⟩))))) (Reps.one (show Kd.FK (Kd.slice 3 (Kd.int .i64)) _ _ y330 [.slice Ao12 y330.length co12] from (Kd.FK_slice_mk (Kd.R_reads' (Kd.R_mono (ok' := (fun k_ => (w.heap.size ≤ k_) ∧ k_ ≠ gb323)) (Kd.R_types (HO332.out) BK323.out (by decide)) (fun k_ hk => ⟨hk.1.1.1.1, hk.2⟩))).2.1 (Kd.R_F (Kd.R_mono (ok' := (fun k_ => (w.heap.size ≤ k_) ∧ k_ ≠ gb323)) (Kd.R_types (HO332.out) BK323.out (by decide)) (fun k_ hk => ⟨hk.1.1.1.1, hk.2⟩))))) (Reps.none _ _))))); intro v334 w13 ho14 hb hg_ hnew_; clear hg_ hnew_; (first | rw [← Ny333.out] at ho14 | (simp only [Int.reduceToNat] at ho14; rw [← Ny333.out] at ho14)); have n0_ := Aside0.mk (Kd.N_lower ho14 (below_size (kB HB))); have n1_ := Aside0.mk (kK BK323 hb); have n2_ := Aside0.mk (below_step (kB HB) hb); clear BK323; clear HB; clear HO326; clear HO329; clear HO332; have HO335 := n0_; have BK323 := n1_; have HB := n2_; clear n0_ n1_ n2_; clear hb ho14; obtain ⟨Ao15, co15, eo15⟩ := Kd.N_slice HO335.out; subst eo15; have hcz16_0 : w13.cell? ⟨gb323, 0, none⟩ = some (.slice none 0 0) := (blk_cell BK323.out 0).trans rfl; have hfz16_0 := blk_frozen BK323.out 0))
  refine bodyPost_ret (results_ct rfl _ _ gb323 33 #[.slice Ao15 y333.length co15] (0, 0) _ rfl (by (with_reducible repeat (first | refine blk_drewN ?_ _ | refine blk_drew ?_ | refine blk_alloc ?_ _)); refine blk_put (cs := #[.slice none 0 0]) ?_ 0 _ rfl; (with_reducible repeat (first | refine blk_drewN ?_ _ | refine blk_drew ?_ | refine blk_alloc ?_ _)); exact BK323.out) Try.underlying33 rfl (by kernel_rfl)) rfl ?_
  exact ⟨_, e1, by (with_reducible repeat (first | apply Kd.N_alloc | apply Kd.N_drewN | apply Kd.N_drew)); exact Kd.N_mono (Kd.N_far (p := ⟨gb323, 0, none⟩) (Kd.N_mono HO335.out (fun k_ hk => (⟨hk, hk.2⟩ : _ ∧ k_ ≠ gb323))) (fun _ hk => hk.2) (.slice Ao15 y333.length co15)) (fun _ hk => hk.1.1), kB HB⟩
 ·
  rw [if_neg c2] at H
  have c2b0 : (a0 == 0) = false := beq_eq_false_iff_ne.mpr c2
  have c2b1 : (a0 != 0) = true := bne_iff_ne.mpr c2
  by_cases c17 : a0 = 1
  ·
   rw [if_pos c17] at H
   have c17b0 : (a0 == 1) = true := beq_iff_eq.mpr c17
   have c17b1 : (a0 != 1) = false := bne_eq_false_iff_eq.mpr c17
   clear c17
   obtain ⟨y336, hy336⟩ : ∃ y_ : List Int, y_ = (([1, 2, 2] : List Int)) := ⟨_, rfl⟩
   replace H : (some ((([y336, (([2, 1, 2] : List Int)), (([2, 2, 3] : List Int))] : List (List Int))), true)) = some (r1, r2) := by first | (rw [hy336]; with_reducible exact H) | (have H2_ := (Option.bind_some _ _).symm.trans H; rw [hy336]; with_reducible exact H2_) | (have H2_ := (Option.bind_some _ _).symm.trans H; with_reducible exact H2_) | with_reducible exact H | (rw [hy336]; exact H) | exact H
   have Ny336 := Aside0.mk hy336
   clear hy336
   obtain ⟨y339, hy339⟩ : ∃ y_ : List Int, y_ = (([2, 1, 2] : List Int)) := ⟨_, rfl⟩
   replace H : (some ((([y336, y339, (([2, 2, 3] : List Int))] : List (List Int))), true)) = some (r1, r2) := by first | (rw [hy339]; with_reducible exact H) | (have H2_ := (Option.bind_some _ _).symm.trans H; rw [hy339]; with_reducible exact H2_) | (have H2_ := (Option.bind_some _ _).symm.trans H; with_reducible exact H2_) | with_reducible exact H | (rw [hy339]; exact H) | exact H
   have Ny339 := Aside0.mk hy339
   clear hy339
   obtain ⟨y342, hy342⟩ : ∃ y_ : List Int, y_ = (([2, 2, 3] : List Int)) := ⟨_, rfl⟩
   replace H : (some ((([y336, y339, y342] : List (List Int))), true)) = some (r1, r2) := by first | (rw [hy342]; with_reducible exact H) | (have H2_ := (Option.bind_some _ _).symm.trans H; rw [hy342]; with_reducible exact H2_) | (have H2_ := (Option.bind_some _ _).symm.trans H; with_reducible exact H2_) | with_reducible exact H | (rw [hy342]; exact H) | exact H
   have Ny342 := Aside0.mk hy342
   clear hy342
   obtain ⟨y345, hy345⟩ : ∃ y_ : List (List Int), y_ = (([y336, y339, y342] : List (List Int))) := ⟨_, rfl⟩
   replace H : (some (y345, true)) = some (r1, r2) := by first | (rw [hy345]; with_reducible exact H) | (have H2_ := (Option.bind_some _ _).symm.trans H; rw [hy345]; with_reducible exact H2_) | (have H2_ := (Option.bind_some _ _).symm.trans H; with_reducible exact H2_) | with_reducible exact H | (rw [hy345]; exact H) | exact H
   have Ny345 := Aside0.mk hy345
   clear hy345
   simp only [Option.some.injEq, Prod.mk.injEq] at H
   obtain ⟨rfl, rfl⟩ := H
   go_enter Try.func27, Try.ntmps27
   go_wp2_with (first | ((with_reducible refine gate_dst (N := 2) rfl ?_); refine box_event ?hg (N := 2) ?hd (cs := #[.slice none 0 0]) (t := 33) ?hr ?_; (case hd => rfl); (case hg => rfl); (case hr => first | (go_simp; done) | (go_simp; rfl)); intro gb323 hg w18 hbox hb; have n0_ := Aside0.mk (below_step bq hb); have n1_ := Aside0.mk (hbox); have n2_ := Aside0.mk ((by rw [hg]; exact (below_size bq) : w.heap.size ≤ gb323)); have n3_ := Aside0.mk ((by rw [hg]; exact (below_size bq) : w.heap.size ≤ gb323)); clear HB; have HB := n0_; have BK323 := n1_; have GW323 := n2_; have GE323 := n3_; clear n0_ n1_ n2_ n3_; clear hb hbox hg) | ((with_reducible refine gate_dst (N := 14) rfl ?_); refine Kd.R_lit (Kd.int .i64) _ 3 ?hg (N := 14) ?hd (xs := ([1, 2, 2] : List Int)) (inner := [.int .i64 1, .int .i64 2, .int .i64 2]) (ok := fun _ => True) (okp := fun _ => True) ?hr ?hp (fun _ hk => hk) trivial (Below.refl _ _) (Nat.le_refl _) (by simp) ?_; (case hd => rfl); (case hg => rfl); (case hr => first | (go_simp; done) | (go_simp; rfl)); (case hp => exact (Reps.one (show Kd.M (Kd.int .i64) _ _ _ 1 [.int .i64 1] from rfl) (Reps.one (show Kd.M (Kd.int .i64) _ _ _ 2 [.int .i64 2] from rfl) (Reps.one (show Kd.M (Kd.int .i64) _ _ _ 2 [.int .i64 2] from rfl) (Reps.none _ _))))); intro v337 w19 ho20 hb hg_ hnew_; clear hg_ hnew_; (first | rw [← Ny336.out] at ho20 | (simp only [Int.reduceToNat] at ho20; rw [← Ny336.out] at ho20)); have n0_ := Aside0.mk (Kd.R_lower (Kd.R_newM (M := fun k_ => (w.heap.size ≤ k_)) ho20 (below_size (kB HB)) (fun k_ h_ => h_)) (below_size (kB HB))); have n1_ := Aside0.mk (kK BK323 hb); have n2_ := Aside0.mk (below_step (kB HB) hb); clear BK323; clear HB; have HO338 := n0_; have BK323 := n1_; have HB := n2_; clear n0_ n1_ n2_; clear hb ho20) | ((with_reducible refine gate_dst (N := 15) rfl ?_); refine Kd.R_lit (Kd.int .i64) _ 3 ?hg (N := 15) ?hd (xs := ([2, 1, 2] : List Int)) (inner := [.int .i64 2, .int .i64 1, .int .i64 2]) (ok := fun _ => True) (okp := fun _ => True) ?hr ?hp (fun _ hk => hk) trivial (Below.refl _ _) (Nat.le_refl _) (by simp) ?_; (case hd => rfl); (case hg => rfl); (case hr => first | (go_simp; done) | (go_simp; rfl)); (case hp => exact (Reps.one (show Kd.M (Kd.int .i64) _ _ _ 2 [.int .i64 2] from rfl) (Reps.one (show Kd.M (Kd.int .i64) _ _ _ 1 [.int .i64 1] from rfl) (Reps.one (show Kd.M (Kd.int .i64) _ _ _ 2 [.int .i64 2] from rfl) (Reps.none _ _))))); intro v340 w21 ho22 hb hg_ hnew_; clear hg_ hnew_; (first | rw [← Ny339.out] at ho22 | (simp only [Int.reduceToNat] at ho22; rw [← Ny339.out] at ho22)); have n0_ := Aside0.mk (Kd.R_elder' (rA HO338) (Kd.R_base ho22) hb); have n1_ := Aside0.mk (Kd.R_lower (Kd.R_new' (Kd.R_newM (M := fun k_ => (w.heap.size ≤ k_)) ho22 (below_size (kB HB)) (fun k_ h_ => h_)) (Kd.R_lt (rA HO338))) (below_size (kB HB))); have n2_ := Aside0.mk (kK BK323 hb); have n3_ := Aside0.mk (below_step (kB HB) hb); clear HO338; clear BK323; clear HB; have HO338 := n0_; have HO341 := n1_; have BK323 := n2_; have HB := n3_; clear n0_ n1_ n2_ n3_; clear hb ho22) | ((with_reducible refine gate_dst (N := 16) rfl ?_); refine Kd.R_lit (Kd.int .i64) _ 3 ?hg (N := 16) ?hd (xs := ([2, 2, 3] : List Int)) (inner := [.int .i64 2, .int .i64 2, .int .i64 3]) (ok := fun _ => True) (okp := fun _ => True) ?hr ?hp (fun _ hk => hk) trivial (Below.refl _ _) (Nat.le_refl _) (by simp) ?_; (case hd => rfl); (case hg => rfl); (case hr => first | (go_simp; done) | (go_simp; rfl)); (case hp => exact (Reps.one (show Kd.M (Kd.int .i64) _ _ _ 2 [.int .i64 2] from rfl) (Reps.one (show Kd.M (Kd.int .i64) _ _ _ 2 [.int .i64 2] from rfl) (Reps.one (show Kd.M (Kd.int .i64) _ _ _ 3 [.int .i64 3] from rfl) (Reps.none _ _))))); intro v343 w23 ho24 hb hg_ hnew_; clear hg_ hnew_; (first | rw [← Ny342.out] at ho24 | (simp only [Int.reduceToNat] at ho24; rw [← Ny342.out] at ho24)); have n0_ := Aside0.mk (Kd.R_elder' (rA HO338) (Kd.R_base ho24) hb); have n1_ := Aside0.mk (Kd.R_elder' (rA HO341) (Kd.R_base ho24) hb); have n2_ := Aside0.mk (Kd.R_lower (Kd.R_new' (Kd.R_new' (Kd.R_newM (M := fun k_ => (w.heap.size ≤ k_)) ho24 (below_size (kB HB)) (fun k_ h_ => h_)) (Kd.R_lt (rA HO338))) (Kd.R_lt (rA HO341))) (below_size (kB HB))); have n3_ := Aside0.mk (kK BK323 hb); have n4_ := Aside0.mk (below_step (kB HB) hb); clear HO338; clear HO341; clear BK323; clear HB; have HO338 := n0_; have HO341 := n1_; have HO344 := n2_; have BK323 := n3_; have HB := n4_; clear n0_ n1_ n2_ n3_ n4_; clear hb ho24; obtain ⟨Ao25, co25, eo25⟩ := Kd.R_slice HO338.out; subst eo25; obtain ⟨Ao26, co26, eo26⟩ := Kd.R_slice HO341.out; subst eo26; obtain ⟨Ao27, co27, eo27⟩ := Kd.R_slice HO344.out; subst eo27) | ((with_reducible refine gate_dst (N := 17) rfl ?_); refine Kd.N_lit (Kd.slice 3 (Kd.int .i64)) _ 24 ?hg (N' := 17) ?hd (xs := ([y336, y339, y342] : List (List Int))) (inner := [.slice Ao25 y336.length co25, .slice Ao26 y339.length co26, .slice Ao27 y342.length co27]) (ok := (fun k_ => (w.heap.size ≤ k_) ∧ k_ ≠ gb323)) (okp := (fun k_ => (w.heap.size ≤ k_) ∧ k_ ≠ gb323)) ?hr ?hp (fun _ hk => hk) ((show ∀ k_, w23.heap.size ≤ k_ → (fun k_ => (w.heap.size ≤ k_) ∧ k_ ≠ gb323) k_ from fun k_ hk => ⟨(Nat.le_trans (below_size (kB HB)) hk), Kd.freshB (g := gb323) (o := .cells #[.slice none 0 0] 33 (0, 0)) (bA BK323) k_ hk⟩) _ (Nat.le_refl _)) (Below.refl _ _) (Nat.le_refl _) (by simp) ?_; (case hd => rfl); (case hg => rfl); (case hr => first | (go_simp; done) | (go_simp; rfl)); (case hp => exact (Reps.one (show Kd.FK (Kd.slice 3 (Kd.int .i64)) _ _ y336 [.slice Ao25 y336.length co25] from (Kd.FK_slice_mk (Kd.R_reads' (Kd.R_mono (ok' := (fun k_ => (w.heap.size ≤ k_) ∧ k_ ≠ gb323)) (Kd.R_types (HO338.out) BK323.out (by decide)) (fun k_ hk => ⟨hk.1.1.1.1, hk.2⟩))).2.1 (Kd.R_F (Kd.R_mono (ok' := (fun k_ => (w.heap.size ≤ k_) ∧ k_ ≠ gb323)) (Kd.R_types (HO338.out) BK323.out (by decide)) (fun k_ hk => ⟨hk.1.1.1.1, hk.2⟩))))) (Reps.one (show Kd.FK (Kd.slice 3 (Kd.int .i64)) _ _ y339 [.slice Ao26 y339.length co26] from (Kd.FK_slice_mk (Kd.R_reads' (Kd.R_mono (ok' := (fun k_ => (w.heap.size ≤ k_) ∧ k_ ≠ gb323)) (Kd.R_types (HO341.out) BK323.out (by decide)) (fun k_ hk => ⟨hk.1.1.1.1, hk.2⟩))).2.1 (Kd.R_F (Kd.R_mono (ok' := (fun k_ => (w.heap.size ≤ k_) ∧ k_ ≠ gb323)) (Kd.R_types (HO341.out) BK323.out (by decide)) (fun k_ hk => ⟨hk.1.1.1.1, hk.2⟩))))) (Reps.one (show Kd.FK (Kd.slice 3 (Kd.int .i64)) _ _ y342 [.slice Ao27 y342.length co27] from (Kd.FK_slice_mk (Kd.R_reads' (Kd.R_mono (ok' := (fun k_ => (w.heap.size ≤ k_) ∧ k_ ≠ gb323)) (Kd.R_types (HO344.out) BK323.out (by decide)) (fun k_ hk => ⟨hk.1.1.1.1, hk.2⟩))).2.1 (Kd.R_F (Kd.R_mono (ok' := (fun k_ => (w.heap.size ≤ k_) ∧ k_ ≠ gb323)) (Kd.R_types (HO344.out) BK323.out (by decide)) (fun k_ hk => ⟨hk.1.1.1.1, hk.2⟩))))) (Reps.none _ _))))); intro v346 w28 ho29 hb hg_ hnew_; clear hg_ hnew_; (first | rw [← Ny345.out] at ho29 | (simp only [Int.reduceToNat] at ho29; rw [← Ny345.out] at ho29)); have n0_ := Aside0.mk (Kd.N_lower ho29 (below_size (kB HB))); have n1_ := Aside0.mk (kK BK323 hb); have n2_ := Aside0.mk (below_step (kB HB) hb); clear BK323; clear HB; clear HO338; clear HO341; clear HO344; have HO347 := n0_; have BK323 := n1_; have HB := n2_; clear n0_ n1_ n2_; clear hb ho29; obtain ⟨Ao30, co30, eo30⟩ := Kd.N_slice HO347.out; subst eo30; have hcz31_0 : w28.cell? ⟨gb323, 0, none⟩ = some (.slice none 0 0) := (blk_cell BK323.out 0).trans rfl; have hfz31_0 := blk_frozen BK323.out 0))
   refine bodyPost_ret (results_ct rfl _ _ gb323 33 #[.slice Ao30 y345.length co30] (0, 0) _ rfl (by (with_reducible repeat (first | refine blk_drewN ?_ _ | refine blk_drew ?_ | refine blk_alloc ?_ _)); refine blk_put (cs := #[.slice none 0 0]) ?_ 0 _ rfl; (with_reducible repeat (first | refine blk_drewN ?_ _ | refine blk_drew ?_ | refine blk_alloc ?_ _)); exact BK323.out) Try.underlying33 rfl (by kernel_rfl)) rfl ?_
   exact ⟨_, e1, by (with_reducible repeat (first | apply Kd.N_alloc | apply Kd.N_drewN | apply Kd.N_drew)); exact Kd.N_mono (Kd.N_far (p := ⟨gb323, 0, none⟩) (Kd.N_mono HO347.out (fun k_ hk => (⟨hk, hk.2⟩ : _ ∧ k_ ≠ gb323))) (fun _ hk => hk.2) (.slice Ao30 y345.length co30)) (fun _ hk => hk.1.1), kB HB⟩
  ·
   rw [if_neg c17] at H
   have c17b0 : (a0 == 1) = false := beq_eq_false_iff_ne.mpr c17
   have c17b1 : (a0 != 1) = true := bne_iff_ne.mpr c17
   by_cases c32 : a0 = 2
   ·
    rw [if_pos c32] at H
    have c32b0 : (a0 == 2) = true := beq_iff_eq.mpr c32
    have c32b1 : (a0 != 2) = false := bne_eq_false_iff_eq.mpr c32
    clear c32
    obtain ⟨y348, hy348⟩ : ∃ y_ : List Int, y_ = (([(-1), 2, 2] : List Int)) := ⟨_, rfl⟩
    replace H : (some ((([y348, (([(-2), 1, 2] : List Int)), (([(-2), 2, 3] : List Int))] : List (List Int))), true)) = some (r1, r2) := by first | (rw [hy348]; with_reducible exact H) | (have H2_ := (Option.bind_some _ _).symm.trans H; rw [hy348]; with_reducible exact H2_) | (have H2_ := (Option.bind_some _ _).symm.trans H; with_reducible exact H2_) | with_reducible exact H | (rw [hy348]; exact H) | exact H
    have Ny348 := Aside0.mk hy348
    clear hy348
    obtain ⟨y351, hy351⟩ : ∃ y_ : List Int, y_ = (([(-2), 1, 2] : List Int)) := ⟨_, rfl⟩
    replace H : (some ((([y348, y351, (([(-2), 2, 3] : List Int))] : List (List Int))), true)) = some (r1, r2) := by first | (rw [hy351]; with_reducible exact H) | (have H2_ := (Option.bind_some _ _).symm.trans H; rw [hy351]; with_reducible exact H2_) | (have H2_ := (Option.bind_some _ _).symm.trans H; with_reducible exact H2_) | with_reducible exact H | (rw [hy351]; exact H) | exact H
    have Ny351 := Aside0.mk hy351
    clear hy351
    obtain ⟨y354, hy354⟩ : ∃ y_ : List Int, y_ = (([(-2), 2, 3] : List Int)) := ⟨_, rfl⟩
    replace H : (some ((([y348, y351, y354] : List (List Int))), true)) = some (r1, r2) := by first | (rw [hy354]; with_reducible exact H) | (have H2_ := (Option.bind_some _ _).symm.trans H; rw [hy354]; with_reducible exact H2_) | (have H2_ := (Option.bind_some _ _).symm.trans H; with_reducible exact H2_) | with_reducible exact H | (rw [hy354]; exact H) | exact H
    have Ny354 := Aside0.mk hy354
    clear hy354
    obtain ⟨y357, hy357⟩ : ∃ y_ : List (List Int), y_ = (([y348, y351, y354] : List (List Int))) := ⟨_, rfl⟩
    replace H : (some (y357, true)) = some (r1, r2) := by first | (rw [hy357]; with_reducible exact H) | (have H2_ := (Option.bind_some _ _).symm.trans H; rw [hy357]; with_reducible exact H2_) | (have H2_ := (Option.bind_some _ _).symm.trans H; with_reducible exact H2_) | with_reducible exact H | (rw [hy357]; exact H) | exact H
    have Ny357 := Aside0.mk hy357
    clear hy357
    simp only [Option.some.injEq, Prod.mk.injEq] at H
    obtain ⟨rfl, rfl⟩ := H
    go_enter Try.func27, Try.ntmps27
    go_wp2_with (first | ((with_reducible refine gate_dst (N := 2) rfl ?_); refine box_event ?hg (N := 2) ?hd (cs := #[.slice none 0 0]) (t := 33) ?hr ?_; (case hd => rfl); (case hg => rfl); (case hr => first | (go_simp; done) | (go_simp; rfl)); intro gb323 hg w33 hbox hb; have n0_ := Aside0.mk (below_step bq hb); have n1_ := Aside0.mk (hbox); have n2_ := Aside0.mk ((by rw [hg]; exact (below_size bq) : w.heap.size ≤ gb323)); have n3_ := Aside0.mk ((by rw [hg]; exact (below_size bq) : w.heap.size ≤ gb323)); clear HB; have HB := n0_; have BK323 := n1_; have GW323 := n2_; have GE323 := n3_; clear n0_ n1_ n2_ n3_; clear hb hbox hg) | ((with_reducible refine gate_dst (N := 21) rfl ?_); refine Kd.R_lit (Kd.int .i64) _ 3 ?hg (N := 21) ?hd (xs := ([(-1), 2, 2] : List Int)) (inner := [.int .i64 (-1), .int .i64 2, .int .i64 2]) (ok := fun _ => True) (okp := fun _ => True) ?hr ?hp (fun _ hk => hk) trivial (Below.refl _ _) (Nat.le_refl _) (by simp) ?_; (case hd => rfl); (case hg => rfl); (case hr => first | (go_simp; done) | (go_simp; rfl)); (case hp => exact (Reps.one (show Kd.M (Kd.int .i64) _ _ _ (-1) [.int .i64 (-1)] from rfl) (Reps.one (show Kd.M (Kd.int .i64) _ _ _ 2 [.int .i64 2] from rfl) (Reps.one (show Kd.M (Kd.int .i64) _ _ _ 2 [.int .i64 2] from rfl) (Reps.none _ _))))); intro v349 w34 ho35 hb hg_ hnew_; clear hg_ hnew_; (first | rw [← Ny348.out] at ho35 | (simp only [Int.reduceToNat] at ho35; rw [← Ny348.out] at ho35)); have n0_ := Aside0.mk (Kd.R_lower (Kd.R_newM (M := fun k_ => (w.heap.size ≤ k_)) ho35 (below_size (kB HB)) (fun k_ h_ => h_)) (below_size (kB HB))); have n1_ := Aside0.mk (kK BK323 hb); have n2_ := Aside0.mk (below_step (kB HB) hb); clear BK323; clear HB; have HO350 := n0_; have BK323 := n1_; have HB := n2_; clear n0_ n1_ n2_; clear hb ho35) | ((with_reducible refine gate_dst (N := 22) rfl ?_); refine Kd.R_lit (Kd.int .i64) _ 3 ?hg (N := 22) ?hd (xs := ([(-2), 1, 2] : List Int)) (inner := [.int .i64 (-2), .int .i64 1, .int .i64 2]) (ok := fun _ => True) (okp := fun _ => True) ?hr ?hp (fun _ hk => hk) trivial (Below.refl _ _) (Nat.le_refl _) (by simp) ?_; (case hd => rfl); (case hg => rfl); (case hr => first | (go_simp; done) | (go_simp; rfl)); (case hp => exact (Reps.one (show Kd.M (Kd.int .i64) _ _ _ (-2) [.int .i64 (-2)] from rfl) (Reps.one (show Kd.M (Kd.int .i64) _ _ _ 1 [.int .i64 1] from rfl) (Reps.one (show Kd.M (Kd.int .i64) _ _ _ 2 [.int .i64 2] from rfl) (Reps.none _ _))))); intro v352 w36 ho37 hb hg_ hnew_; clear hg_ hnew_; (first | rw [← Ny351.out] at ho37 | (simp only [Int.reduceToNat] at ho37; rw [← Ny351.out] at ho37)); have n0_ := Aside0.mk (Kd.R_elder' (rA HO350) (Kd.R_base ho37) hb); have n1_ := Aside0.mk (Kd.R_lower (Kd.R_new' (Kd.R_newM (M := fun k_ => (w.heap.size ≤ k_)) ho37 (below_size (kB HB)) (fun k_ h_ => h_)) (Kd.R_lt (rA HO350))) (below_size (kB HB))); have n2_ := Aside0.mk (kK BK323 hb); have n3_ := Aside0.mk (below_step (kB HB) hb); clear HO350; clear BK323; clear HB; have HO350 := n0_; have HO353 := n1_; have BK323 := n2_; have HB := n3_; clear n0_ n1_ n2_ n3_; clear hb ho37) | ((with_reducible refine gate_dst (N := 23) rfl ?_); refine Kd.R_lit (Kd.int .i64) _ 3 ?hg (N := 23) ?hd (xs := ([(-2), 2, 3] : List Int)) (inner := [.int .i64 (-2), .int .i64 2, .int .i64 3]) (ok := fun _ => True) (okp := fun _ => True) ?hr ?hp (fun _ hk => hk) trivial (Below.refl _ _) (Nat.le_refl _) (by simp) ?_; (case hd => rfl); (case hg => rfl); (case hr => first | (go_simp; done) | (go_simp; rfl)); (case hp => exact (Reps.one (show Kd.M (Kd.int .i64) _ _ _ (-2) [.int .i64 (-2)] from rfl) (Reps.one (show Kd.M (Kd.int .i64) _ _ _ 2 [.int .i64 2] from rfl) (Reps.one (show Kd.M (Kd.int .i64) _ _ _ 3 [.int .i64 3] from rfl) (Reps.none _ _))))); intro v355 w38 ho39 hb hg_ hnew_; clear hg_ hnew_; (first | rw [← Ny354.out] at ho39 | (simp only [Int.reduceToNat] at ho39; rw [← Ny354.out] at ho39)); have n0_ := Aside0.mk (Kd.R_elder' (rA HO350) (Kd.R_base ho39) hb); have n1_ := Aside0.mk (Kd.R_elder' (rA HO353) (Kd.R_base ho39) hb); have n2_ := Aside0.mk (Kd.R_lower (Kd.R_new' (Kd.R_new' (Kd.R_newM (M := fun k_ => (w.heap.size ≤ k_)) ho39 (below_size (kB HB)) (fun k_ h_ => h_)) (Kd.R_lt (rA HO350))) (Kd.R_lt (rA HO353))) (below_size (kB HB))); have n3_ := Aside0.mk (kK BK323 hb); have n4_ := Aside0.mk (below_step (kB HB) hb); clear HO350; clear HO353; clear BK323; clear HB; have HO350 := n0_; have HO353 := n1_; have HO356 := n2_; have BK323 := n3_; have HB := n4_; clear n0_ n1_ n2_ n3_ n4_; clear hb ho39; obtain ⟨Ao40, co40, eo40⟩ := Kd.R_slice HO350.out; subst eo40; obtain ⟨Ao41, co41, eo41⟩ := Kd.R_slice HO353.out; subst eo41; obtain ⟨Ao42, co42, eo42⟩ := Kd.R_slice HO356.out; subst eo42) | ((with_reducible refine gate_dst (N := 24) rfl ?_); refine Kd.N_lit (Kd.slice 3 (Kd.int .i64)) _ 24 ?hg (N' := 24) ?hd (xs := ([y348, y351, y354] : List (List Int))) (inner := [.slice Ao40 y348.length co40, .slice Ao41 y351.length co41, .slice Ao42 y354.length co42]) (ok := (fun k_ => (w.heap.size ≤ k_) ∧ k_ ≠ gb323)) (okp := (fun k_ => (w.heap.size ≤ k_) ∧ k_ ≠ gb323)) ?hr ?hp (fun _ hk => hk) ((show ∀ k_, w38.heap.size ≤ k_ → (fun k_ => (w.heap.size ≤ k_) ∧ k_ ≠ gb323) k_ from fun k_ hk => ⟨(Nat.le_trans (below_size (kB HB)) hk), Kd.freshB (g := gb323) (o := .cells #[.slice none 0 0] 33 (0, 0)) (bA BK323) k_ hk⟩) _ (Nat.le_refl _)) (Below.refl _ _) (Nat.le_refl _) (by simp) ?_; (case hd => rfl); (case hg => rfl); (case hr => first | (go_simp; done) | (go_simp; rfl)); (case hp => exact (Reps.one (show Kd.FK (Kd.slice 3 (Kd.int .i64)) _ _ y348 [.slice Ao40 y348.length co40] from (Kd.FK_slice_mk (Kd.R_reads' (Kd.R_mono (ok' := (fun k_ => (w.heap.size ≤ k_) ∧ k_ ≠ gb323)) (Kd.R_types (HO350.out) BK323.out (by decide)) (fun k_ hk => ⟨hk.1.1.1.1, hk.2⟩))).2.1 (Kd.R_F (Kd.R_mono (ok' := (fun k_ => (w.heap.size ≤ k_) ∧ k_ ≠ gb323)) (Kd.R_types (HO350.out) BK323.out (by decide)) (fun k_ hk => ⟨hk.1.1.1.1, hk.2⟩))))) (Reps.one (show Kd.FK (Kd.slice 3 (Kd.int .i64)) _ _ y351 [.slice Ao41 y351.length co41] from (Kd.FK_slice_mk (Kd.R_reads' (Kd.R_mono (ok' := (fun k_ => (w.heap.size ≤ k_) ∧ k_ ≠ gb323)) (Kd.R_types (HO353.out) BK323.out (by decide)) (fun k_ hk => ⟨hk.1.1.1.1, hk.2⟩))).2.1 (Kd.R_F (Kd.R_mono (ok' := (fun k_ => (w.heap.size ≤ k_) ∧ k_ ≠ gb323)) (Kd.R_types (HO353.out) BK323.out (by decide)) (fun k_ hk => ⟨hk.1.1.1.1, hk.2⟩))))) (Reps.one (show Kd.FK (Kd.slice 3 (Kd.int .i64)) _ _ y354 [.slice Ao42 y354.length co42] from (Kd.FK_slice_mk (Kd.R_reads' (Kd.R_mono (ok' := (fun k_ => (w.heap.size ≤ k_) ∧ k_ ≠ gb323)) (Kd.R_types (HO356.out) BK323.out (by decide)) (fun k_ hk => ⟨hk.1.1.1.1, hk.2⟩))).2.1 (Kd.R_F (Kd.R_mono (ok' := (fun k_ => (w.heap.size ≤ k_) ∧ k_ ≠ gb323)) (Kd.R_types (HO356.out) BK323.out (by decide)) (fun k_ hk => ⟨hk.1.1.1.1, hk.2⟩))))) (Reps.none _ _))))); intro v358 w43 ho44 hb hg_ hnew_; clear hg_ hnew_; (first | rw [← Ny357.out] at ho44 | (simp only [Int.reduceToNat] at ho44; rw [← Ny357.out] at ho44)); have n0_ := Aside0.mk (Kd.N_lower ho44 (below_size (kB HB))); have n1_ := Aside0.mk (kK BK323 hb); have n2_ := Aside0.mk (below_step (kB HB) hb); clear BK323; clear HB; clear HO350; clear HO353; clear HO356; have HO359 := n0_; have BK323 := n1_; have HB := n2_; clear n0_ n1_ n2_; clear hb ho44; obtain ⟨Ao45, co45, eo45⟩ := Kd.N_slice HO359.out; subst eo45; have hcz46_0 : w43.cell? ⟨gb323, 0, none⟩ = some (.slice none 0 0) := (blk_cell BK323.out 0).trans rfl; have hfz46_0 := blk_frozen BK323.out 0))
    refine bodyPost_ret (results_ct rfl _ _ gb323 33 #[.slice Ao45 y357.length co45] (0, 0) _ rfl (by (with_reducible repeat (first | refine blk_drewN ?_ _ | refine blk_drew ?_ | refine blk_alloc ?_ _)); refine blk_put (cs := #[.slice none 0 0]) ?_ 0 _ rfl; (with_reducible repeat (first | refine blk_drewN ?_ _ | refine blk_drew ?_ | refine blk_alloc ?_ _)); exact BK323.out) Try.underlying33 rfl (by kernel_rfl)) rfl ?_
    exact ⟨_, e1, by (with_reducible repeat (first | apply Kd.N_alloc | apply Kd.N_drewN | apply Kd.N_drew)); exact Kd.N_mono (Kd.N_far (p := ⟨gb323, 0, none⟩) (Kd.N_mono HO359.out (fun k_ hk => (⟨hk, hk.2⟩ : _ ∧ k_ ≠ gb323))) (fun _ hk => hk.2) (.slice Ao45 y357.length co45)) (fun _ hk => hk.1.1), kB HB⟩
   ·
    rw [if_neg c32] at H
    have c32b0 : (a0 == 2) = false := beq_eq_false_iff_ne.mpr c32
    have c32b1 : (a0 != 2) = true := bne_iff_ne.mpr c32
    simp only [Option.some.injEq, Prod.mk.injEq] at H
    obtain ⟨rfl, rfl⟩ := H
    go_enter Try.func27, Try.ntmps27
    go_wp2_with (first | ((with_reducible refine gate_dst (N := 2) rfl ?_); refine box_event ?hg (N := 2) ?hd (cs := #[.slice none 0 0]) (t := 33) ?hr ?_; (case hd => rfl); (case hg => rfl); (case hr => first | (go_simp; done) | (go_simp; rfl)); intro gb323 hg w47 hbox hb; have n0_ := Aside0.mk (below_step bq hb); have n1_ := Aside0.mk (hbox); have n2_ := Aside0.mk ((by rw [hg]; exact (below_size bq) : w.heap.size ≤ gb323)); have n3_ := Aside0.mk ((by rw [hg]; exact (below_size bq) : w.heap.size ≤ gb323)); clear HB; have HB := n0_; have BK323 := n1_; have GW323 := n2_; have GE323 := n3_; clear n0_ n1_ n2_ n3_; clear hb hbox hg; have hcz48_0 : w47.cell? ⟨gb323, 0, none⟩ = some (.slice none 0 0) := (blk_cell BK323.out 0).trans rfl; have hfz48_0 := blk_frozen BK323.out 0))
    refine bodyPost_ret (results_ct rfl _ _ gb323 33 #[.slice none 0 0] (0, 0) _ rfl (by (with_reducible repeat (first | refine blk_drewN ?_ _ | refine blk_drew ?_ | refine blk_alloc ?_ _)); refine blk_put (cs := #[.slice none 0 0]) ?_ 0 _ rfl; (with_reducible repeat (first | refine blk_drewN ?_ _ | refine blk_drew ?_ | refine blk_alloc ?_ _)); exact BK323.out) Try.underlying33 rfl (by kernel_rfl)) rfl ?_
    exact ⟨_, e1, by first | exact Kd.S_nil _ _ _ _ _ | exact Kd.N_nil _ _ _ _ _ | exact Kd.V_nil _ _ _ _ _ | exact Kd.Q_nil _ _ _ _ _ | exact Kd.R_nil _ _ _ _ _, kB HB⟩

end Go.Proofs.Ytnfbkakblnppaaa.P
