-- Written by a program of this session (wip/mkprint.py over the kit's print), out of the translation. Not trusted: Lean checks it.
import Derived.Test.YtljlplohicffpaaGreatKx0
import Derived.Test.YtljlplohicffpaaGreatKx22
import Derived.Test.YtljlplohicffpaaGreatKx23
namespace Go.Proofs.YtljlplohicffpaaGreat.P
open Go.RowKit Go.Proofs.YtljlplohicffpaaGreatW.PrintWords Go.Proofs.YtljlplohicffpaaGreatW.PrintLast Go.Proofs.YtljlplohicffpaaGreatW.PrintMore
attribute [local go_sem] max2_int min2_int max_two min_two max_three min_three max_four min_four   -- for this text's walks alone
set_option linter.unusedVariables false
set_option linter.unusedSimpArgs false

/-! ### spec_MarkovWord: function 41 -/
mutual
def spec_MarkovWord.j0 : Nat → List Int → Bool → Option (ByteArray × Bool)
 | 0, _, _ => none
 | k + 1, x0, x15 => if x15 = true then (some ((⟨#[]⟩ : ByteArray), false)) else ((spec_mkPath.f k x0).bind fun t674 => (spec_MarkovWord.l0 k t674 (⟨#[]⟩ : ByteArray) (wrap64 ((t674.length : Int) - 4))))
def spec_MarkovWord.l0 : Nat → List (List Int) → ByteArray → Int → Option (ByteArray × Bool)
 | 0, _, _, _ => none
 | k + 1, x4, x5, x6 => if x6 ≥ 0 then (if 0 ≤ x6 then (if x6 < (x4.length : Int) then (if 0 < ((rd_L4 x4 x6).length : Int) then (if 0 ≤ (wrap64 (x6 + 1)) then (if (wrap64 (x6 + 1)) < (x4.length : Int) then (if 0 < ((rd_L4 x4 (wrap64 (x6 + 1))).length : Int) then (if (rd (rd_L4 x4 x6) 0) = (rd (rd_L4 x4 (wrap64 (x6 + 1))) 0) then (if x5.size + 1 ≤ 9223372036854775807 then (spec_MarkovWord.l0 k x4 (x5 ++ (⟨#[108]⟩ : ByteArray)) (wrap64 (x6 - 1))) else (none)) else (if x5.size + 1 ≤ 9223372036854775807 then (spec_MarkovWord.l0 k x4 (x5 ++ (⟨#[114]⟩ : ByteArray)) (wrap64 (x6 - 1))) else (none))) else (none)) else (none)) else (none)) else (none)) else (none)) else (none)) else (if (x5.size : Int) > 40 then (some ((⟨#[]⟩ : ByteArray), false)) else (some (x5, true)))
end
def spec_MarkovWord.f (k : Nat) (l0 : List Int) : Option (ByteArray × Bool) := (spec_mkGood.f k l0).bind fun t672 => (if t672 = true then (if 2 < (l0.length : Int) then (spec_MarkovWord.j0 k l0 (decide ((rd l0 2) < 5))) else (none)) else (spec_MarkovWord.j0 k l0 true))
theorem spec_MarkovWord.mono_l : ∀ k, (∀ y0 y1, LeO (spec_MarkovWord.j0 k y0 y1) (spec_MarkovWord.j0 (k + 1) y0 y1)) ∧ (∀ y0 y1 y2, LeO (spec_MarkovWord.l0 k y0 y1 y2) (spec_MarkovWord.l0 (k + 1) y0 y1 y2))
 | 0 => ⟨fun _ _ r h => by simp [spec_MarkovWord.j0] at h, fun _ _ _ r h => by simp [spec_MarkovWord.l0] at h⟩
 | k + 1 => by
  obtain ⟨ih0, ih1⟩ := spec_MarkovWord.mono_l k; refine ⟨?_, ?_⟩
  all_goals
   intros
   first | unfold spec_MarkovWord.j0 | unfold spec_MarkovWord.l0
   repeat' with_reducible first | exact ih0 _ _ | exact ih1 _ _ _ | exact spec_mkGood.mono _ _ | exact spec_mkPath.mono _ _ | exact LeO.refl _ | exact LeO.none _ | refine LeO.ite ?_ ?_ | refine LeO.bind ?_ (fun _ => ?_)
theorem spec_MarkovWord.mono : ∀ a0 k, LeO (spec_MarkovWord.f k a0) (spec_MarkovWord.f (k + 1) a0) := by
 intro a0 k; obtain ⟨ih0, ih1⟩ := spec_MarkovWord.mono_l k; unfold spec_MarkovWord.f
 repeat' with_reducible first | exact ih0 _ _ | exact ih1 _ _ _ | exact spec_mkGood.mono _ _ | exact spec_mkPath.mono _ _ | exact LeO.refl _ | exact LeO.none _ | refine LeO.ite ?_ ?_ | refine LeO.bind ?_ (fun _ => ?_)
set_option maxHeartbeats 8000000 in
set_option maxRecDepth 100000 in
theorem spec_MarkovWord.calls (k : Nat) (A0 : Option Addr) (c0 : Nat) (l0 : List Int) (r1 : ByteArray) (r2 : Bool) (w : World) (hr0 : Kd.C (Kd.int .i64) w A0 l0.length l0) (hc0 : l0.length ≤ c0) (h : spec_MarkovWord.f k l0 = some (r1, r2)) :
 Calls Tryz.prog 41 #[.slice A0 l0.length c0] w fun e w' => e = .returned (.tuple #[.string r1, .bool r2]) ∧ Below w.heap.size w w' := by
 have HR0 := Aside0.mk hr0; have HC0 := Aside0.mk hc0; clear hr0 hc0; have HB := Aside0.mk (Below.refl w.heap.size w); have H : ((spec_mkGood.f k l0).bind fun t672 => (if t672 = true then (if 2 < (l0.length : Int) then (spec_MarkovWord.j0 k l0 (decide ((rd l0 2) < 5))) else (none)) else (spec_MarkovWord.j0 k l0 true))) = some (r1, r2) := h; clear h; have HC2 := Aside0.mk H; clear H; go_enter Tryz.func41, Tryz.ntmps41; go_upto_region 1 with (fail)
 repeat (go_quiet (fail); go_upto_region 1 with (fail))
 go_cut [15] (fun v15 wc => ∃ (kq : Nat) (x15_1 : Bool), v15 = .bool x15_1 ∧ Aside0 (spec_MarkovWord.j0 kq l0 x15_1 = some (r1, r2)) ∧ Aside0 (kq ≤ k) ∧ Aside0 (Below w.heap.size w wc))
 case first =>
  have H := HC2.out; clear HC2; replace H := oB H; obtain ⟨t672, A3, H⟩ := H; by_cases c4 : t672 = true
  ·
   subst c4; rw [if_pos rfl] at H; by_cases c5 : 2 < (l0.length : Int)
   ·
    rw [if_pos c5] at H; have c5b0 := decide_eq_true c5; have c5b1 : decide (2 < l0.length) = true := decide_eq_true (by omega); clear c5; (first | rw [c5b0] | (simp only [i64_w, i32_w]; rw [c5b0]) | skip); have H' := Aside0.mk H; clear H; go_wp2_with (first | (go_at_call 73; (with_reducible refine (spec_mkGood.calls k _ _ l0 true _ ?side1 ?side2 A3.out).mono ?_); (case side1 => exact cC (Kd.C_below HR0.out HB.out)); (case side2 => exact HC0.out); rintro e w6 ⟨rfl, hb⟩; replace HB := sT bq hb; (try clear hb); have p673 : 0 ≤ (2 : Int) := (by omega); have q673 : 2 < (l0.length : Int) := od; obtain ⟨ad673, e673, hx673_0⟩ := Kd.at_int HR0.out 2 p673 q673; cases e673; (try simp only [show (2 : Int).toNat = 2 from rfl, Nat.reduceMul, Nat.reduceEqDiff, Go.Addr.add, ↓reduceIte] at hx673_0); have qi673 : (2 < l0.length) = True := eq_true (by omega); (try rw [show ((2 : Int)).toNat = 2 from rfl] at hx673_0); replace hx673_0 := (HB.out.cell (World.block_lt_of_cell? w _ hx673_0)).trans hx673_0; replace p673 := eq_true p673; replace q673 := eq_true q673))
    repeat (go_quiet (first | (go_at_call 73; (with_reducible refine (spec_mkGood.calls k _ _ l0 true _ ?side1 ?side2 A3.out).mono ?_); (case side1 => exact cC (Kd.C_below HR0.out HB.out)); (case side2 => exact HC0.out); rintro e w6 ⟨rfl, hb⟩; replace HB := sT bq hb; (try clear hb); have p673 : 0 ≤ (2 : Int) := (by omega); have q673 : 2 < (l0.length : Int) := od; obtain ⟨ad673, e673, hx673_0⟩ := Kd.at_int HR0.out 2 p673 q673; cases e673; (try simp only [show (2 : Int).toNat = 2 from rfl, Nat.reduceMul, Nat.reduceEqDiff, Go.Addr.add, ↓reduceIte] at hx673_0); have qi673 : (2 < l0.length) = True := eq_true (by omega); (try rw [show ((2 : Int)).toNat = 2 from rfl] at hx673_0); replace hx673_0 := (HB.out.cell (World.block_lt_of_cell? w _ hx673_0)).trans hx673_0; replace p673 := eq_true p673; replace q673 := eq_true q673)); try go_wp2_with (first | (go_at_call 73; (with_reducible refine (spec_mkGood.calls k _ _ l0 true _ ?side1 ?side2 A3.out).mono ?_); (case side1 => exact cC (Kd.C_below HR0.out HB.out)); (case side2 => exact HC0.out); rintro e w6 ⟨rfl, hb⟩; replace HB := sT bq hb; (try clear hb); have p673 : 0 ≤ (2 : Int) := (by omega); have q673 : 2 < (l0.length : Int) := od; obtain ⟨ad673, e673, hx673_0⟩ := Kd.at_int HR0.out 2 p673 q673; cases e673; (try simp only [show (2 : Int).toNat = 2 from rfl, Nat.reduceMul, Nat.reduceEqDiff, Go.Addr.add, ↓reduceIte] at hx673_0); have qi673 : (2 < l0.length) = True := eq_true (by omega); (try rw [show ((2 : Int)).toNat = 2 from rfl] at hx673_0); replace hx673_0 := (HB.out.cell (World.block_lt_of_cell? w _ hx673_0)).trans hx673_0; replace p673 := eq_true p673; replace q673 := eq_true q673)))
    go_meet
    case rel => exact ⟨_, (decide ((rd l0 2) < 5)), e2, H', ⟨z70_⟩, ⟨bq⟩⟩
   · rw [if_neg c5] at H; exact absurd H (by simp)
  ·
   replace c4 := Bool.eq_false_iff.mpr c4; subst c4; rw [if_neg (show ¬ (false = true) by decide)] at H; have H' := Aside0.mk H; clear H; go_wp2_with (first | (go_at_call 73; (with_reducible refine (spec_mkGood.calls k _ _ l0 false _ ?side1 ?side2 A3.out).mono ?_); (case side1 => exact cC (Kd.C_below HR0.out HB.out)); (case side2 => exact HC0.out); rintro e w7 ⟨rfl, hb⟩; replace HB := sT bq hb; (try clear hb)))
   repeat (go_quiet (first | (go_at_call 73; (with_reducible refine (spec_mkGood.calls k _ _ l0 false _ ?side1 ?side2 A3.out).mono ?_); (case side1 => exact cC (Kd.C_below HR0.out HB.out)); (case side2 => exact HC0.out); rintro e w7 ⟨rfl, hb⟩; replace HB := sT bq hb; (try clear hb))); try go_wp2_with (first | (go_at_call 73; (with_reducible refine (spec_mkGood.calls k _ _ l0 false _ ?side1 ?side2 A3.out).mono ?_); (case side1 => exact cC (Kd.C_below HR0.out HB.out)); (case side2 => exact HC0.out); rintro e w7 ⟨rfl, hb⟩; replace HB := sT bq hb; (try clear hb))))
   go_meet
   case rel => exact ⟨_, (true), e2, H', ⟨z70_⟩, ⟨bq⟩⟩
 case rest =>
  clear HC2; obtain ⟨kq, x15_1, rfl, HA, HJ1, HB⟩ := hcut; cases kq with
  | zero => exact absurd HA.out (by simp [spec_MarkovWord.j0])
  | succ kj1 =>
   have H := HA.out; clear HA; simp only [spec_MarkovWord.j0] at H; by_cases c8 : x15_1 = true
   ·
    subst c8; rw [if_pos rfl] at H; simp only [Option.some.injEq, Prod.mk.injEq] at H; obtain ⟨rfl, rfl⟩ := H; go_wp2
    repeat (go_quiet (fail); try go_wp2)
    go_ret2; exact ⟨e1, bq⟩
   ·
    replace c8 := Bool.eq_false_iff.mpr c8; subst c8; rw [if_neg (show ¬ (false = true) by decide)] at H; replace H := oB H; obtain ⟨t674, A9, H⟩ := H; have H' := Aside0.mk H; clear H; go_wp2_with (first | (go_at_call 74; (with_reducible refine (spec_mkPath.calls kj1 (fun k_ => k_ < w.heap.size) _ _ l0 t674 _ ?side1 A9.out).mono ?_); (case side1 => exact Kd.V_mk HC0.out (Kd.F_below (Kd.C_F (Kd.heap_int .i64) HR0.out) bq)); rintro e w10 ⟨v675, rfl, ho0, hb⟩; have HO676 := Aside0.mk (Kd.N_lower (Kd.N_mono (ok' := fun k_ => True) ho0 (fun k_ hk_ => trivial)) (below_size bq)); replace HB := sT bq hb; (try clear hb); (try clear ho0); obtain ⟨Ao11, co11, eo11⟩ := Kd.N_slice HO676.out; subst eo11))
    repeat (go_quiet (first | (go_at_call 74; (with_reducible refine (spec_mkPath.calls kj1 (fun k_ => k_ < w.heap.size) _ _ l0 t674 _ ?side1 A9.out).mono ?_); (case side1 => exact Kd.V_mk HC0.out (Kd.F_below (Kd.C_F (Kd.heap_int .i64) HR0.out) bq)); rintro e w10 ⟨v675, rfl, ho0, hb⟩; have HO676 := Aside0.mk (Kd.N_lower (Kd.N_mono (ok' := fun k_ => True) ho0 (fun k_ hk_ => trivial)) (below_size bq)); replace HB := sT bq hb; (try clear hb); (try clear ho0); obtain ⟨Ao11, co11, eo11⟩ := Kd.N_slice HO676.out; subst eo11)); try go_wp2_with (first | (go_at_call 74; (with_reducible refine (spec_mkPath.calls kj1 (fun k_ => k_ < w.heap.size) _ _ l0 t674 _ ?side1 A9.out).mono ?_); (case side1 => exact Kd.V_mk HC0.out (Kd.F_below (Kd.C_F (Kd.heap_int .i64) HR0.out) bq)); rintro e w10 ⟨v675, rfl, ho0, hb⟩; have HO676 := Aside0.mk (Kd.N_lower (Kd.N_mono (ok' := fun k_ => True) ho0 (fun k_ hk_ => trivial)) (below_size bq)); replace HB := sT bq hb; (try clear hb); (try clear ho0); obtain ⟨Ao11, co11, eo11⟩ := Kd.N_slice HO676.out; subst eo11)))
    go_loopg [5, 6] kj1 (fun kq v5 v6 w' => ∃ (x5_2 : ByteArray) (x6_2 : Int), v5 = .string x5_2 ∧ v6 = .int .i64 x6_2 ∧ Aside0 (spec_MarkovWord.l0 kq t674 x5_2 x6_2 = some (r1, r2)) ∧ Aside0 (kq ≤ kj1) ∧ Aside0 (Kd.N (Kd.slice 3 (Kd.int .i64)) 32 w' w.heap.size (fun _ => True) (.slice Ao11 t674.length co11) t674) ∧ Aside0 (Below w.heap.size w w'))
    case atStart => exact ⟨((⟨#[]⟩ : ByteArray)), (wrap64 ((t674.length : Int) - 4)), e2, e2, H', ⟨Nat.le_refl _⟩, ⟨nP HO676.out⟩, ⟨bq⟩⟩
    case round =>
     clear H'; (try clear c8); obtain ⟨x5_2, x6_2, rfl, rfl, HA, HK2, HO_4, HB⟩ := hrel; cases gk with
     | zero => exact absurd HA.out (by simp [spec_MarkovWord.l0])
     | succ k2 =>
      have H := HA.out; clear HA; simp only [spec_MarkovWord.l0] at H; by_cases c12 : x6_2 ≥ 0
      ·
       rw [if_pos c12] at H; have c12b0 : decide (0 ≤ x6_2) = true := decide_eq_true c12; clear c12; by_cases c13 : 0 ≤ x6_2
       ·
        rw [if_pos c13] at H; have c13b0 := decide_eq_true c13; clear c13; by_cases c14 : x6_2 < (t674.length : Int)
        ·
         rw [if_pos c14] at H; have c14b0 := decide_eq_true c14; clear c14; by_cases c15 : 0 < ((rd_L4 t674 x6_2).length : Int)
         ·
          rw [if_pos c15] at H; have c15b0 := decide_eq_true c15; have c15b1 : decide (0 < (rd_L4 t674 x6_2).length) = true := decide_eq_true (by omega); clear c15; obtain ⟨ji16, hji16⟩ : ∃ j_ : Int, (wrap64 (x6_2 + 1)) = j_ := ⟨_, rfl⟩; replace H : (if 0 ≤ (ji16) then (if (ji16) < (t674.length : Int) then (if 0 < ((rd_L4 t674 (ji16)).length : Int) then (if (rd (rd_L4 t674 x6_2) 0) = (rd (rd_L4 t674 (ji16)) 0) then (if x5_2.size + 1 ≤ 9223372036854775807 then (spec_MarkovWord.l0 k2 t674 (x5_2 ++ (⟨#[108]⟩ : ByteArray)) (wrap64 (x6_2 - 1))) else (none)) else (if x5_2.size + 1 ≤ 9223372036854775807 then (spec_MarkovWord.l0 k2 t674 (x5_2 ++ (⟨#[114]⟩ : ByteArray)) (wrap64 (x6_2 - 1))) else (none))) else (none)) else (none)) else (none)) = some (r1, r2) := by first | (rw [hji16] at H; exact H) | (simp only [hji16] at H ⊢; exact H)
          have hji16w : (IntKind.i64.wrap (x6_2 + 1)) = ji16 := (i64_w _).trans hji16; by_cases c17 : 0 ≤ (ji16)
          ·
           rw [if_pos c17] at H; have c17b0 := decide_eq_true c17; clear c17; by_cases c18 : (ji16) < (t674.length : Int)
           ·
            rw [if_pos c18] at H; have c18b0 := decide_eq_true c18; clear c18; by_cases c19 : 0 < ((rd_L4 t674 (ji16)).length : Int)
            ·
             rw [if_pos c19] at H; have c19b0 := decide_eq_true c19; have c19b1 : decide (0 < (rd_L4 t674 (ji16)).length) = true := decide_eq_true (by omega); clear c19; by_cases c20 : (rd (rd_L4 t674 x6_2) 0) = (rd (rd_L4 t674 (ji16)) 0)
             ·
              rw [if_pos c20] at H; have c20b0 : ((rd (rd_L4 t674 x6_2) 0) == (rd (rd_L4 t674 (ji16)) 0)) = true := beq_iff_eq.mpr c20; have c20b1 : ((rd (rd_L4 t674 x6_2) 0) != (rd (rd_L4 t674 (ji16)) 0)) = false := bne_eq_false_iff_eq.mpr c20; clear c20; by_cases c21 : x5_2.size + 1 ≤ 9223372036854775807
              ·
               rw [if_pos c21] at H; have c21b0 := eq_true c21; have c21b1 : decide (x5_2.size + 1 ≤ 9223372036854775807) = true := decide_eq_true c21
               try have c21b2 : (9223372036854775807 < x5_2.size + 1) = False := eq_false (Nat.not_lt.2 c21)
               have H' := Aside0.mk H; clear H; have p677 : 0 ≤ (x6_2 : Int) := od; have q677 : x6_2 < (t674.length : Int) := od; obtain ⟨ad677, A677_0, c677_0, e677, hx677_0, hl677_0, hi677_0⟩ := at_L4 (Kd.N_reads' HO_4.out).2.2 x6_2 p677 q677; cases e677; obtain ⟨ce677, hce677, hMe677, hcc677⟩ := Kd.N_get HO_4.out [] x6_2 p677 (by first | exact q677 | exact od | (have e_ := (Kd.N_reads' HO_4.out).1; omega)); obtain ⟨ua677_0, uc677_0, rfl, ul677_0, ge677_0⟩ := Kd.FK_slice_open hMe677; have hv677_0 := hcc677 0 _ rfl; rw [Nat.add_zero, show ((Kd.slice 3 (Kd.int .i64))).sz = 1 from rfl, Nat.mul_one] at hv677_0; replace hv677_0 := Option.some.inj (hv677_0.symm.trans hx677_0); injection hv677_0 with hva_ hvn_ hvc_
               rw [hva_] at ge677_0; rw [hvc_] at ul677_0; have HL677_0 := Aside0.mk (show Kd.V (Kd.int .i64) 3 _ w.heap.size _ _ (rd_L4 t674 x6_2) from Kd.V_mk ul677_0 ge677_0); clear hva_ hvn_ hvc_ ge677_0 ul677_0; clear hcc677 hce677; have HR677_0 := Aside0.mk hi677_0; have HC677_0 := Aside0.mk hl677_0; clear hi677_0 hl677_0; replace p677 := eq_true p677; replace q677 := eq_true q677; have p678 : 0 ≤ (0 : Int) := (by omega); have q678 : 0 < ((rd_L4 t674 x6_2).length : Int) := od; obtain ⟨ad678, e678, hx678_0⟩ := Kd.at_int z36_ 0 p678 q678; cases e678; have qi678 : (0 < (rd_L4 t674 x6_2).length) = True := eq_true (by omega); (try rw [show ((0 : Int)).toNat = 0 from rfl] at hx678_0); (try rw [Addr.add_zero'] at hx678_0); replace p678 := eq_true p678; replace q678 := eq_true q678; have p679 : 0 ≤ ((ji16) : Int) := od; have q679 : (ji16) < (t674.length : Int) := od; obtain ⟨ad679, A679_0, c679_0, e679, hx679_0, hl679_0, hi679_0⟩ := at_L4 (Kd.N_reads' HO_4.out).2.2 (ji16) p679 q679; obtain rfl : ad677 = ad679 := (by injection e679); obtain ⟨ce679, hce679, hMe679, hcc679⟩ := Kd.N_get HO_4.out [] (ji16) p679 (by first | exact q679 | exact od | (have e_ := (Kd.N_reads' HO_4.out).1; omega)); obtain ⟨ua679_0, uc679_0, rfl, ul679_0, ge679_0⟩ := Kd.FK_slice_open hMe679; have hv679_0 := hcc679 0 _ rfl; rw [Nat.add_zero, show ((Kd.slice 3 (Kd.int .i64))).sz = 1 from rfl, Nat.mul_one] at hv679_0; replace hv679_0 := Option.some.inj (hv679_0.symm.trans hx679_0); injection hv679_0 with hva_ hvn_ hvc_
               rw [hva_] at ge679_0; rw [hvc_] at ul679_0; have HL679_0 := Aside0.mk (show Kd.V (Kd.int .i64) 3 _ w.heap.size _ _ (rd_L4 t674 (ji16)) from Kd.V_mk ul679_0 ge679_0); clear hva_ hvn_ hvc_ ge679_0 ul679_0; clear hcc679 hce679; have HR679_0 := Aside0.mk hi679_0; have HC679_0 := Aside0.mk hl679_0; clear hi679_0 hl679_0; replace p679 := eq_true p679; replace q679 := eq_true q679; have p680 : 0 ≤ (0 : Int) := (by omega); have q680 : 0 < ((rd_L4 t674 (ji16)).length : Int) := od; obtain ⟨ad680, e680, hx680_0⟩ := Kd.at_int z32_ 0 p680 q680; cases e680; have qi680 : (0 < (rd_L4 t674 (ji16)).length) = True := eq_true (by omega); (try rw [show ((0 : Int)).toNat = 0 from rfl] at hx680_0); (try rw [Addr.add_zero'] at hx680_0); replace p680 := eq_true p680; replace q680 := eq_true q680; go_wp2
               repeat (go_quiet (fail); try go_wp2)
               go_roundg k2
               case measure => have := HJ1.out; have := HK2.out; omega
               case rel => exact ⟨(x5_2 ++ (⟨#[108]⟩ : ByteArray)), (wrap64 (x6_2 - 1)), e2, e2, H', ⟨by have := HJ1.out; have := HK2.out; omega⟩, ⟨z64_⟩, ⟨bq⟩⟩
              · rw [if_neg c21] at H; exact absurd H (by simp)
             ·
              rw [if_neg c20] at H; have c20b0 : ((rd (rd_L4 t674 x6_2) 0) == (rd (rd_L4 t674 (ji16)) 0)) = false := beq_eq_false_iff_ne.mpr c20; have c20b1 : ((rd (rd_L4 t674 x6_2) 0) != (rd (rd_L4 t674 (ji16)) 0)) = true := bne_iff_ne.mpr c20; by_cases c22 : x5_2.size + 1 ≤ 9223372036854775807
              ·
               rw [if_pos c22] at H; have c22b0 := eq_true c22; have c22b1 : decide (x5_2.size + 1 ≤ 9223372036854775807) = true := decide_eq_true c22
               try have c22b2 : (9223372036854775807 < x5_2.size + 1) = False := eq_false (Nat.not_lt.2 c22)
               have H' := Aside0.mk H; clear H; have p677 : 0 ≤ (x6_2 : Int) := od; have q677 : x6_2 < (t674.length : Int) := od; obtain ⟨ad677, A677_0, c677_0, e677, hx677_0, hl677_0, hi677_0⟩ := at_L4 (Kd.N_reads' HO_4.out).2.2 x6_2 p677 q677; cases e677; obtain ⟨ce677, hce677, hMe677, hcc677⟩ := Kd.N_get HO_4.out [] x6_2 p677 (by first | exact q677 | exact od | (have e_ := (Kd.N_reads' HO_4.out).1; omega)); obtain ⟨ua677_0, uc677_0, rfl, ul677_0, ge677_0⟩ := Kd.FK_slice_open hMe677; have hv677_0 := hcc677 0 _ rfl; rw [Nat.add_zero, show ((Kd.slice 3 (Kd.int .i64))).sz = 1 from rfl, Nat.mul_one] at hv677_0; replace hv677_0 := Option.some.inj (hv677_0.symm.trans hx677_0); injection hv677_0 with hva_ hvn_ hvc_
               rw [hva_] at ge677_0; rw [hvc_] at ul677_0; have HL677_0 := Aside0.mk (show Kd.V (Kd.int .i64) 3 _ w.heap.size _ _ (rd_L4 t674 x6_2) from Kd.V_mk ul677_0 ge677_0); clear hva_ hvn_ hvc_ ge677_0 ul677_0; clear hcc677 hce677; have HR677_0 := Aside0.mk hi677_0; have HC677_0 := Aside0.mk hl677_0; clear hi677_0 hl677_0; replace p677 := eq_true p677; replace q677 := eq_true q677; have p678 : 0 ≤ (0 : Int) := (by omega); have q678 : 0 < ((rd_L4 t674 x6_2).length : Int) := od; obtain ⟨ad678, e678, hx678_0⟩ := Kd.at_int z36_ 0 p678 q678; cases e678; have qi678 : (0 < (rd_L4 t674 x6_2).length) = True := eq_true (by omega); (try rw [show ((0 : Int)).toNat = 0 from rfl] at hx678_0); (try rw [Addr.add_zero'] at hx678_0); replace p678 := eq_true p678; replace q678 := eq_true q678; have p679 : 0 ≤ ((ji16) : Int) := od; have q679 : (ji16) < (t674.length : Int) := od; obtain ⟨ad679, A679_0, c679_0, e679, hx679_0, hl679_0, hi679_0⟩ := at_L4 (Kd.N_reads' HO_4.out).2.2 (ji16) p679 q679; obtain rfl : ad677 = ad679 := (by injection e679); obtain ⟨ce679, hce679, hMe679, hcc679⟩ := Kd.N_get HO_4.out [] (ji16) p679 (by first | exact q679 | exact od | (have e_ := (Kd.N_reads' HO_4.out).1; omega)); obtain ⟨ua679_0, uc679_0, rfl, ul679_0, ge679_0⟩ := Kd.FK_slice_open hMe679; have hv679_0 := hcc679 0 _ rfl; rw [Nat.add_zero, show ((Kd.slice 3 (Kd.int .i64))).sz = 1 from rfl, Nat.mul_one] at hv679_0; replace hv679_0 := Option.some.inj (hv679_0.symm.trans hx679_0); injection hv679_0 with hva_ hvn_ hvc_
               rw [hva_] at ge679_0; rw [hvc_] at ul679_0; have HL679_0 := Aside0.mk (show Kd.V (Kd.int .i64) 3 _ w.heap.size _ _ (rd_L4 t674 (ji16)) from Kd.V_mk ul679_0 ge679_0); clear hva_ hvn_ hvc_ ge679_0 ul679_0; clear hcc679 hce679; have HR679_0 := Aside0.mk hi679_0; have HC679_0 := Aside0.mk hl679_0; clear hi679_0 hl679_0; replace p679 := eq_true p679; replace q679 := eq_true q679; have p680 : 0 ≤ (0 : Int) := (by omega); have q680 : 0 < ((rd_L4 t674 (ji16)).length : Int) := od; obtain ⟨ad680, e680, hx680_0⟩ := Kd.at_int z32_ 0 p680 q680; cases e680; have qi680 : (0 < (rd_L4 t674 (ji16)).length) = True := eq_true (by omega); (try rw [show ((0 : Int)).toNat = 0 from rfl] at hx680_0); (try rw [Addr.add_zero'] at hx680_0); replace p680 := eq_true p680; replace q680 := eq_true q680; go_wp2
               repeat (go_quiet (fail); try go_wp2)
               go_roundg k2
               case measure => have := HJ1.out; have := HK2.out; omega
               case rel => exact ⟨(x5_2 ++ (⟨#[114]⟩ : ByteArray)), (wrap64 (x6_2 - 1)), e2, e2, H', ⟨by have := HJ1.out; have := HK2.out; omega⟩, ⟨z64_⟩, ⟨bq⟩⟩
              · rw [if_neg c22] at H; exact absurd H (by simp)
            · rw [if_neg c19] at H; exact absurd H (by simp)
           · rw [if_neg c18] at H; exact absurd H (by simp)
          · rw [if_neg c17] at H; exact absurd H (by simp)
         · rw [if_neg c15] at H; exact absurd H (by simp)
        · rw [if_neg c14] at H; exact absurd H (by simp)
       · rw [if_neg c13] at H; exact absurd H (by simp)
      ·
       rw [if_neg c12] at H; have c12b0 : decide (0 ≤ x6_2) = false := decide_eq_false c12; clear c12; by_cases c23 : (x5_2.size : Int) > 40
       ·
        rw [if_pos c23] at H; have c23b0 : decide (40 < (x5_2.size : Int)) = true := decide_eq_true c23; have c23b1 : decide (40 < x5_2.size) = true := decide_eq_true (by omega); clear c23; simp only [Option.some.injEq, Prod.mk.injEq] at H; obtain ⟨rfl, rfl⟩ := H; go_wp2
        repeat (go_quiet (fail); try go_wp2)
        go_ret2; exact ⟨e1, bq⟩
       ·
        rw [if_neg c23] at H; have c23b0 : decide (40 < (x5_2.size : Int)) = false := decide_eq_false c23; have c23b1 : decide (40 < x5_2.size) = false := decide_eq_false (by omega); clear c23; simp only [Option.some.injEq, Prod.mk.injEq] at H; obtain ⟨rfl, rfl⟩ := H; go_wp2
        repeat (go_quiet (fail); try go_wp2)
        go_ret2; exact ⟨e1, bq⟩

end Go.Proofs.YtljlplohicffpaaGreat.P
