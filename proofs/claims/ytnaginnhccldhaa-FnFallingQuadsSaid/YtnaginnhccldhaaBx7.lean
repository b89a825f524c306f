-- Written by a program of this session (wip/mkprint.py over the kit's print), out of the translation. Not trusted: Lean checks it.
import Derived.Test.YtnaginnhccldhaaBx0
import Derived.Test.YtnaginnhccldhaaBx6
namespace Go.Proofs.Ytnaginnhccldhaa.P
open Go.RowKit Go.Proofs.YtnaginnhccldhaaW.PrintWords Go.Proofs.YtnaginnhccldhaaW.PrintLast Go.Proofs.YtnaginnhccldhaaW.PrintMore
attribute [local go_sem] max2_int min2_int max_two min_two max_three min_three max_four min_four   -- for this text's walks alone
set_option linter.unusedVariables false
set_option linter.unusedSimpArgs false

/-! ### spec_DownWord: function 30 -/
def spec_DownWord.l0 : Nat → List Int → List (List Int) → Int → Int → Option (List Int × Bool)
 | 0, _, _, _, _ => none
 | k + 1, x6, x20, x21, x22 => if x22 < x21 then (if 0 ≤ x22 then (if x22 < (x20.length : Int) then ((spec_apDown.f k (rd_L2 x20 x22)).bind fun t344 => (if x6.length < 17592186044416 then (spec_DownWord.l0 k (x6 ++ [t344]) x20 x21 (wrap64 (x22 + 1))) else (none))) else (none)) else (none)) else (some (x6, true))
def spec_DownWord.f (k : Nat) (l0 : List Int) : Option (List Int × Bool) := (spec_DownPath.f k l0).bind fun bt334 => (if bt334.2 = true then (if 0 ≤ (wrap64 ((bt334.1.length : Int) - 1)) then (if (wrap64 ((bt334.1.length : Int) - 1)) ≤ (bt334.1.length : Int) then ((some (bt334.1.take ((wrap64 ((bt334.1.length : Int) - 1)) : Int).toNat : List (List Int))).bind fun y338 => (spec_DownWord.l0 k ([] : List Int) y338 (y338.length : Int) 0)) else (none)) else (none)) else (some (([] : List Int), false)))
theorem spec_DownWord.mono_l : ∀ k, (∀ y0 y1 y2 y3, LeO (spec_DownWord.l0 k y0 y1 y2 y3) (spec_DownWord.l0 (k + 1) y0 y1 y2 y3))
 | 0 => fun _ _ _ _ r h => by simp [spec_DownWord.l0] at h
 | k + 1 => by
  have ih0 := spec_DownWord.mono_l k
  ·
   intro y0 y1 y2 y3
   unfold spec_DownWord.l0
   repeat' first
   | (with_reducible exact ih0 _ _ _ _)
   | (with_reducible exact spec_DownPath.mono _ _)
   | (with_reducible exact spec_apDown.mono _ _)
   | (with_reducible exact LeO.refl _)
   | (with_reducible exact LeO.none _)
   | (with_reducible refine LeO.ite ?_ ?_)
   | (with_reducible refine LeO.bind ?_ (fun _ => ?_))
   | exact ih0 _ _ _ _
   | exact spec_DownPath.mono _ _
   | exact spec_apDown.mono _ _
   | exact LeO.none _
   | refine LeO.ite ?_ ?_
   | refine LeO.bind ?_ (fun _ => ?_)
theorem spec_DownWord.mono : ∀ a0 k, LeO (spec_DownWord.f k a0) (spec_DownWord.f (k + 1) a0) := by
 intro a0 k
 have ih0 := spec_DownWord.mono_l k
 unfold spec_DownWord.f
 repeat' first
  | (with_reducible exact ih0 _ _ _ _)
  | (with_reducible exact spec_DownPath.mono _ _)
  | (with_reducible exact spec_apDown.mono _ _)
  | (with_reducible exact LeO.refl _)
  | (with_reducible exact LeO.none _)
  | (with_reducible refine LeO.ite ?_ ?_)
  | (with_reducible refine LeO.bind ?_ (fun _ => ?_))
  | exact ih0 _ _ _ _
  | exact spec_DownPath.mono _ _
  | exact spec_apDown.mono _ _
  | exact LeO.none _
  | refine LeO.ite ?_ ?_
  | refine LeO.bind ?_ (fun _ => ?_)
set_option maxHeartbeats 8000000 in
set_option maxRecDepth 100000 in
theorem spec_DownWord.calls (k : Nat) (A0 : Option Addr) (c0 : Nat) (l0 : List Int) (r1 : List Int) (r2 : Bool) (w : World) (hr0 : Kd.C (Kd.int .i64) w A0 l0.length l0) (hc0 : l0.length ≤ c0) (h : spec_DownWord.f k l0 = some (r1, r2)) :
 Calls Try.prog 30 #[.slice A0 l0.length c0] w fun e w' => ∃ v0_ : Value, e = .returned (.tuple #[v0_, .bool r2]) ∧ Kd.R (Kd.int .i64) 3 w' w.heap.size (fun _ => True) v0_ r1 ∧ Below w.heap.size w w' := by
 have HR0 := Aside0.mk hr0
 have HC0 := Aside0.mk hc0
 clear hr0 hc0
 have HB := Aside0.mk (Below.refl w.heap.size w)
 have H : ((spec_DownPath.f k l0).bind fun bt334 => (if bt334.2 = true then (if 0 ≤ (wrap64 ((bt334.1.length : Int) - 1)) then (if (wrap64 ((bt334.1.length : Int) - 1)) ≤ (bt334.1.length : Int) then ((some (bt334.1.take ((wrap64 ((bt334.1.length : Int) - 1)) : Int).toNat : List (List Int))).bind fun y338 => (spec_DownWord.l0 k ([] : List Int) y338 (y338.length : Int) 0)) else (none)) else (none)) else (some (([] : List Int), false)))) = some (r1, r2) := h
 clear h
 replace H := Option.bind_eq_some_iff.mp H
 obtain ⟨⟨t334, t337⟩, A20, H⟩ := H
 replace H : (if t337 = true then (if 0 ≤ (wrap64 ((t334.length : Int) - 1)) then (if (wrap64 ((t334.length : Int) - 1)) ≤ (t334.length : Int) then ((some (t334.take ((wrap64 ((t334.length : Int) - 1)) : Int).toNat : List (List Int))).bind fun y338 => (spec_DownWord.l0 k ([] : List Int) y338 (y338.length : Int) 0)) else (none)) else (none)) else (some (([] : List Int), false))) = some (r1, r2) := H
 have A2 := Aside0.mk A20
 clear A20
 by_cases c3 : t337 = true
 ·
  subst c3
  have H1 : (if 0 ≤ (wrap64 ((t334.length : Int) - 1)) then (if (wrap64 ((t334.length : Int) - 1)) ≤ (t334.length : Int) then ((some (t334.take ((wrap64 ((t334.length : Int) - 1)) : Int).toNat : List (List Int))).bind fun y338 => (spec_DownWord.l0 k ([] : List Int) y338 (y338.length : Int) 0)) else (none)) else (none)) = some (r1, r2) := by rw [if_pos rfl] at H; exact H
  clear H
  have H := H1
  clear H1
  obtain ⟨ji4, hji4⟩ : ∃ j_ : Int, (wrap64 ((t334.length : Int) - 1)) = j_ := ⟨_, rfl⟩
  replace H : (if 0 ≤ (ji4) then (if (ji4) ≤ (t334.length : Int) then ((some (t334.take ((ji4) : Int).toNat : List (List Int))).bind fun y338 => (spec_DownWord.l0 k ([] : List Int) y338 (y338.length : Int) 0)) else (none)) else (none)) = some (r1, r2) := by first | (rw [hji4] at H; exact H) | (simp only [hji4] at H ⊢; exact H)
  (try rw [hji4] at A2)
  have hji4w : (IntKind.i64.wrap ((t334.length : Int) - 1)) = ji4 := (i64_w _).trans hji4
  by_cases c5 : 0 ≤ (ji4)
  ·
   rw [if_pos c5] at H
   have c5b0 := eq_true c5
   have c5b1 : decide (0 ≤ (ji4)) = true := decide_eq_true c5
   clear c5
   by_cases c6 : (ji4) ≤ (t334.length : Int)
   ·
    rw [if_pos c6] at H
    have c6b0 := eq_true c6
    have c6b1 : decide ((ji4) ≤ (t334.length : Int)) = true := decide_eq_true c6
    clear c6
    obtain ⟨y338, hy338⟩ : ∃ y_ : List (List Int), y_ = (t334.take ((ji4) : Int).toNat) := ⟨_, rfl⟩
    replace H : (spec_DownWord.l0 k ([] : List Int) y338 (y338.length : Int) 0) = some (r1, r2) := by first | (rw [hy338]; with_reducible exact H) | (have H2_ := (Option.bind_some _ _).symm.trans H; rw [hy338]; with_reducible exact H2_) | (have H2_ := (Option.bind_some _ _).symm.trans H; with_reducible exact H2_) | with_reducible exact H | (rw [hy338]; exact H) | exact H
    have Ny338 := Aside0.mk hy338
    clear hy338
    have H' := Aside0.mk H
    clear H
    go_enter Try.func30, Try.ntmps30
    go_wp2_with (first | ((with_reducible refine gate_callee (f := 28) rfl ?_); refine gL (some 11) rfl rfl Try.func28 (by kernel_rfl) rfl #[.slice A0 l0.length c0] rfl ?_; (with_reducible refine (spec_DownPath.calls k (fun k_ => k_ < w.heap.size) _ _ l0 t334 true _ ?side1 A2.out).mono ?_); (case side1 => exact Kd.V_mk HC0.out (Kd.F_below (Kd.C_F (Kd.heap_int .i64) HR0.out) bq)); rintro e w7 ⟨v335, rfl, ho0, hb⟩; refine ⟨_, rfl, ?_⟩; have n0_ := Aside0.mk (Kd.N_lower (Kd.N_mono (ok' := fun k_ => True) ho0 (fun k_ hk_ => trivial)) (below_size bq)); have n1_ := Aside0.mk (below_step bq hb); clear HB; have HO336 := n0_; have HB := n1_; clear n0_ n1_; (try clear hb); (try clear hb2); (try clear hk); (try clear hi); (try clear ho0); obtain ⟨Ao8, co8, eo8⟩ := Kd.N_slice HO336.out; subst eo8; have q9 : ((ji4) : Int) ≤ ((t334.length : Int) : Int) := od; obtain ⟨i09, hi09, _, hsz9, _⟩ := info_parts info35; have hroom9 : t334.length ≤ co8 := (Kd.N_reads' HO336.out).2.1; have hC9 : Kd.F (Kd.slice 3 (Kd.int .i64)) _ _ Ao8 t334.length t334 := (Kd.V_at (base := w.heap.size) (Kd.N_V HO336.out)).2.2; have hcut9 := cut_to (P := Try.prog) 24 35 .i64 Try.underlying24 hi09 Ao8 t334.length co8 (ji4) (od) q9 hroom9; have hr9 := Kd.F_take (m := ((ji4) : Int).toNat) hC9 (by omega); have hy9 : y338.length = ((ji4) : Int).toNat := (by rw [Ny338.out, List.length_take]; omega); rw [← Ny338.out] at hr9; rw [← hy9] at hcut9; have HO342 := Aside0.mk (show Kd.V (Kd.slice 3 (Kd.int .i64)) 35 _ w.heap.size _ (.slice Ao8 y338.length co8) y338 from Kd.V_mk (by omega) hr9); have HC342 := Aside0.mk (show y338.length ≤ co8 from by omega); clear hr9 hC9 hroom9 hi09 hsz9; have KY9 := Aside0.mk hy9; clear hy9; replace q9 := eq_true q9))
    go_loopg [6, 22] k (fun kq v6 v22 w' => ∃ (x6_1 : List Int) (x22_1 : Int), v22 = .int .i64 x22_1 ∧ Aside0 (spec_DownWord.l0 kq x6_1 y338 (y338.length : Int) x22_1 = some (r1, r2)) ∧ Aside0 (kq ≤ k) ∧ Aside0 (Kd.R (Kd.int .i64) 3 w' w.heap.size (fun _ => True) v6 x6_1) ∧ Aside0 (Kd.V (Kd.slice 3 (Kd.int .i64)) 35 w' w.heap.size (fun k_ => some k_ ≠ (v6 : Value).ownBlock) (.slice Ao8 y338.length co8) y338) ∧ Aside0 (Below w.heap.size w w'))
    case atStart => exact ⟨(([] : List Int)), (0), e2, H', ⟨Nat.le_refl _⟩, ⟨by first | exact Kd.R_nil _ _ _ _ _ | exact Kd.N_nil _ _ _ _ _ | exact Kd.V_nil _ _ _ _ _ | exact Kd.Q_nil _ _ _ _ _ | exact Kd.S_nil _ _ _ _ _⟩, ⟨by (with_reducible repeat (first | apply Kd.V_alloc | apply Kd.V_drewN | apply Kd.V_drew)); exact Kd.V_mono HO342.out (fun _ hk => (by simp [Value.ownBlock]))⟩, ⟨bq⟩⟩
    case round =>
     clear H'; (try clear c2); (try clear p2); (try clear c3); (try clear c5); (try clear c5b0); (try clear c5b1); (try clear c6); (try clear c6b0); (try clear c6b1); (try clear p6); (try clear q9); (try clear q9)
     obtain ⟨x6_1, x22_1, rfl, HA, HK1, HO_6, HO_20, HB⟩ := hrel
     cases gk with
     | zero => exact absurd HA.out (by simp [spec_DownWord.l0])
     | succ k1 =>
      have H := HA.out
      clear HA
      simp only [spec_DownWord.l0] at H
      by_cases c10 : x22_1 < (y338.length : Int)
      ·
       rw [if_pos c10] at H
       have c10b0 : decide (x22_1 < (y338.length : Int)) = true := decide_eq_true c10
       clear c10
       by_cases c11 : 0 ≤ x22_1
       ·
        rw [if_pos c11] at H
        have c11b0 : decide (0 ≤ x22_1) = true := decide_eq_true c11
        clear c11
        by_cases c12 : x22_1 < (y338.length : Int)
        ·
         rw [if_pos c12] at H
         have c12b0 : decide (x22_1 < (y338.length : Int)) = true := decide_eq_true c12
         clear c12
         replace H := Option.bind_eq_some_iff.mp H
         obtain ⟨t344, A130, H⟩ := H
         replace H : (if x6_1.length < 17592186044416 then (spec_DownWord.l0 k1 (x6_1 ++ [t344]) y338 (y338.length : Int) (wrap64 (x22_1 + 1))) else (none)) = some (r1, r2) := H
         have A13 := Aside0.mk A130
         clear A130
         by_cases c14 : x6_1.length < 17592186044416
         ·
          rw [if_pos c14] at H
          have LMc14 := Aside0.mk c14
          clear c14
          obtain ⟨y345, hy345⟩ : ∃ y_ : List Int, y_ = (x6_1 ++ [t344]) := ⟨_, rfl⟩
          replace H : (spec_DownWord.l0 k1 y345 y338 (y338.length : Int) (wrap64 (x22_1 + 1))) = some (r1, r2) := by first | (rw [hy345]; with_reducible exact H) | (have H2_ := (Option.bind_some _ _).symm.trans H; rw [hy345]; with_reducible exact H2_) | (have H2_ := (Option.bind_some _ _).symm.trans H; with_reducible exact H2_) | with_reducible exact H | (rw [hy345]; exact H) | exact H
          have Ny345 := Aside0.mk hy345
          clear hy345
          have H' := Aside0.mk H
          clear H
          have p343 : 0 ≤ (x22_1 : Int) := od
          have q343 : x22_1 < (y338.length : Int) := od
          obtain ⟨ad343, A343_0, c343_0, e343, hx343_0, hl343_0, hi343_0⟩ := at_L2 (Kd.V_reads' HO_20.out).2.2 x22_1 p343 q343
          cases e343
          obtain ⟨ce343, hce343, hMe343, hcc343⟩ := Kd.V_get HO_20.out [] x22_1 p343 (by first | exact q343 | exact od | (have e_ := (Kd.V_reads' HO_20.out).1; omega))
          obtain ⟨ua343_0, uc343_0, rfl, ul343_0, ge343_0⟩ := Kd.FK_slice_open hMe343
          have hv343_0 := hcc343 0 _ rfl
          rw [Nat.add_zero, show ((Kd.slice 3 (Kd.int .i64))).sz = 1 from rfl, Nat.mul_one] at hv343_0
          replace hv343_0 := Option.some.inj (hv343_0.symm.trans hx343_0)
          injection hv343_0 with hva_ hvn_ hvc_
          rw [hva_] at ge343_0
          rw [hvc_] at ul343_0
          have HL343_0 := Aside0.mk (show Kd.V (Kd.int .i64) 3 _ w.heap.size _ _ (rd_L2 y338 x22_1) from Kd.V_mk ul343_0 ge343_0)
          clear hva_ hvn_ hvc_ ge343_0 ul343_0
          clear hcc343 hce343
          have HR343_0 := Aside0.mk hi343_0
          have HC343_0 := Aside0.mk hl343_0
          clear hi343_0 hl343_0
          replace p343 := eq_true p343
          replace q343 := eq_true q343
          go_wp2_with (first | ((with_reducible refine gate_callee (f := 88) rfl ?_); refine gL (some 28) rfl rfl Try.func88 (by kernel_rfl) rfl #[.slice A343_0 (rd_L2 y338 x22_1).length c343_0] rfl ?_; (with_reducible refine (spec_apDown.calls k1 _ _ (rd_L2 y338 x22_1) t344 _ ?side1 ?side2 A13.out).mono ?_); (case side1 => repeat (first | exact (by repeat (first | (with_reducible exact HR343_0.out) | (with_reducible refine Kd.C_alloc ?_ _) | (with_reducible refine Kd.C_drewN ?_ _) | (with_reducible refine Kd.C_drew ?_) | exact HR343_0.out)) | (with_reducible refine Kd.C_alloc ?_ _) | (with_reducible refine Kd.C_drewN ?_ _) | (with_reducible refine Kd.C_drew ?_))); (case side2 => exact HC343_0.out); rintro e w15 ⟨rfl, hb⟩; refine ⟨_, rfl, ?_⟩; have n0_ := Aside0.mk (Kd.R_below (rA HO_6) hb); have n1_ := Aside0.mk (Kd.V_below (by (with_reducible repeat (first | apply Kd.V_alloc | apply Kd.V_drewN | apply Kd.V_drew)); exact HO_20.out) hb); have n2_ := Aside0.mk (Kd.V_below (by (with_reducible repeat (first | apply Kd.V_alloc | apply Kd.V_drewN | apply Kd.V_drew)); exact HL343_0.out) hb); have n3_ := Aside0.mk ((by with_reducible first | exact Kd.C_below HR343_0.out hb | exact Kd.C_below (Kd.C_drewN HR343_0.out _) hb | exact Kd.C_below (Kd.C_alloc HR343_0.out _) hb | exact Kd.C_below (Kd.C_drewN (Kd.C_drewN HR343_0.out _) _) hb)); have n4_ := Aside0.mk (below_step bq hb); clear HO_6; clear HO_20; clear HL343_0; clear HR343_0; clear HB; have HO_6 := n0_; have HO_20 := n1_; have HL343_0 := n2_; have HR343_0 := n3_; have HB := n4_; clear n0_ n1_ n2_ n3_ n4_; (try clear hb); (try clear hb2); (try clear hk); (try clear hi)) | ((with_reducible refine gate_builtin (b := .append) (xs := #[.tmp 26, .tmp 29]) rfl ?_); at_builtin; refine Kd.R_append (Kd.int .i64) (w0 := w) w.heap.size rfl (.tmp 26) (.tmp 29) 35 3 (.int .i64 0) 8 rfl Try.underlying35 info3 rfl (by decide) (by omega) u6 x6_1 t344 [.int .i64 t344] (fun _ => True) (fun _ => False) rfl rfl ?aP (fun _ hk => hk.elim) ?aF ?aO ?aB ?aS ?aL ?_; (case aP => exact rfl); (case aB => exact bq); (case aF => exact (fun _ _ => trivial)); (case aO => exact (rA HO_6)); (case aS => exact (below_size bq)); (case aL => have := LMc14.out; omega); intro v346 w16 ho hb hg hat; rw [← Ny345.out] at ho; have n0_ := Aside0.mk (Kd.V_afterv (ok := (fun _ => True)) (by (with_reducible repeat (first | apply Kd.V_alloc | apply Kd.V_drewN | apply Kd.V_drew)); exact Kd.V_mono HO_20.out (fun _ hk => ⟨trivial, hk⟩)) hg hat); have n1_ := Aside0.mk (Kd.V_afterv (ok := (fun _ => True)) (by (with_reducible repeat (first | apply Kd.V_alloc | apply Kd.V_drewN | apply Kd.V_drew)); exact Kd.V_mono HL343_0.out (fun _ hk => ⟨trivial, hk⟩)) hg hat); have n2_ := Aside0.mk (hb); have n3_ := Aside0.mk (ho); clear HO_20; clear HL343_0; clear HB; clear HO_6; have HO_20 := n0_; have HL343_0 := n1_; have HB := n2_; have HO347 := n3_; clear n0_ n1_ n2_ n3_; clear ho hb hg hat))
          go_roundg k1
          case measure => have := HK1.out; omega
          case rel => exact ⟨(y345), (wrap64 (x22_1 + 1)), e2, H', ⟨by have := HK1.out; omega⟩, ⟨by (with_reducible repeat (first | apply Kd.R_alloc | apply Kd.R_drewN | apply Kd.R_drew)); exact HO347.out⟩, ⟨by (with_reducible repeat (first | apply Kd.V_alloc | apply Kd.V_drewN | apply Kd.V_drew)); exact Kd.V_mono HO_20.out (fun _ hk => hk.2)⟩, ⟨bq⟩⟩
         ·
          rw [if_neg c14] at H
          exact absurd H (by simp)
        ·
         rw [if_neg c12] at H
         exact absurd H (by simp)
       ·
        rw [if_neg c11] at H
        exact absurd H (by simp)
      ·
       rw [if_neg c10] at H
       have c10b0 : decide (x22_1 < (y338.length : Int)) = false := decide_eq_false c10
       clear c10
       simp only [Option.some.injEq, Prod.mk.injEq] at H
       obtain ⟨rfl, rfl⟩ := H
       go_wp2
       go_ret2
       exact ⟨_, by first | rfl | (simp [errW_none, errW_some] <;> rfl) | (simp only [← hji4]; first | rfl | (simp [errW_none, errW_some] <;> rfl)) | (simp [*, errW_none, errW_some] <;> rfl), by (with_reducible repeat (first | apply Kd.R_alloc | apply Kd.R_drewN | apply Kd.R_drew)); exact HO_6.out, bq⟩
   ·
    rw [if_neg c6] at H
    exact absurd H (by simp)
  ·
   rw [if_neg c5] at H
   exact absurd H (by simp)
 ·
  replace c3 := Bool.eq_false_iff.mpr c3
  subst c3
  have H1 : (some (([] : List Int), false)) = some (r1, r2) := by rw [if_neg (show ¬ (false = true) by decide)] at H; exact H
  clear H
  have H := H1
  clear H1
  simp only [Option.some.injEq, Prod.mk.injEq] at H
  obtain ⟨rfl, rfl⟩ := H
  go_enter Try.func30, Try.ntmps30
  go_wp2_with (first | ((with_reducible refine gate_callee (f := 28) rfl ?_); refine gL (some 11) rfl rfl Try.func28 (by kernel_rfl) rfl #[.slice A0 l0.length c0] rfl ?_; (with_reducible refine (spec_DownPath.calls k (fun k_ => k_ < w.heap.size) _ _ l0 t334 false _ ?side1 A2.out).mono ?_); (case side1 => exact Kd.V_mk HC0.out (Kd.F_below (Kd.C_F (Kd.heap_int .i64) HR0.out) bq)); rintro e w17 ⟨v335, rfl, ho0, hb⟩; refine ⟨_, rfl, ?_⟩; have n0_ := Aside0.mk (Kd.N_lower (Kd.N_mono (ok' := fun k_ => True) ho0 (fun k_ hk_ => trivial)) (below_size bq)); have n1_ := Aside0.mk (below_step bq hb); clear HB; have HO336 := n0_; have HB := n1_; clear n0_ n1_; (try clear hb); (try clear hb2); (try clear hk); (try clear hi); (try clear ho0)))
  go_ret2
  exact ⟨_, e1, by first | exact Kd.R_nil _ _ _ _ _ | exact Kd.N_nil _ _ _ _ _ | exact Kd.V_nil _ _ _ _ _ | exact Kd.Q_nil _ _ _ _ _ | exact Kd.S_nil _ _ _ _ _, bq⟩

-- NOT PRINTED: function 125 (slices_AppendSeq_int_int)

-- NOT PRINTED: function 114 (slices_Collect_int)

/-! ### cmp_isNaN_int: function 146 -/
/-! ### cmp_Less_int: function 135 -/
end Go.Proofs.Ytnaginnhccldhaa.P
