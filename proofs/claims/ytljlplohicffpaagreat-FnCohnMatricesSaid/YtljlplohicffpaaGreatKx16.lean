-- Written by a program of this session (wip/mkprint.py over the kit's print), out of the translation. Not trusted: Lean checks it.
import Derived.Test.YtljlplohicffpaaGreatKx0
import Derived.Test.YtljlplohicffpaaGreatKx2
import Derived.Test.YtljlplohicffpaaGreatKx5
import Derived.Test.YtljlplohicffpaaGreatKx6
import Derived.Test.YtljlplohicffpaaGreatKx15
import Derived.Test.YtljlplohicffpaaGreatGA
namespace Go.Proofs.YtljlplohicffpaaGreat.P
open Go.RowKit Go.Proofs.YtljlplohicffpaaGreatW.PrintWords Go.Proofs.YtljlplohicffpaaGreatW.PrintLast Go.Proofs.YtljlplohicffpaaGreatW.PrintMore
attribute [local go_sem] max2_int min2_int max_two min_two max_three min_three max_four min_four   -- for this text's walks alone
set_option linter.unusedVariables false
set_option linter.unusedSimpArgs false
set_option maxHeartbeats 8000000
set_option maxRecDepth 100000

/-! ### spec_TripleOfWord: function 10 -/
def spec_TripleOfWord.j0 : Nat → ByteArray → ByteArray → Bool → List (List Int) → Option (List Int × Bool)
 | 0, _, _, _, _ => none
 | k + 1, x4, x5, x29, x465000 => if x29 = true then (some (([] : List Int), false)) else ((spec_NumberOfWord.f k x4).bind fun bt465 => ((spec_NumberOfWord.f k x5).bind fun bt467 => (if 0 < (x465000.length : Int) then (if 1 < ((rd_L4 x465000 0).length : Int) then ((spec_mkSort.f bt465.1 bt467.1 (rd (rd_L4 x465000 0) 1)).bind fun t471 => (some (t471, true))) else (none)) else (none))))
def spec_TripleOfWord.f (k : Nat) (a0 : ByteArray) : Option (List Int × Bool) := (spec_FactorsOf.f k a0).bind fun bt457 => ((spec_CohnMatrix.f k a0).bind fun bt460 => (if bt457.2.2 = true then (spec_TripleOfWord.j0 k bt457.1 bt457.2.1 (!bt460.2) bt460.1) else (spec_TripleOfWord.j0 k bt457.1 bt457.2.1 true bt460.1)))
theorem spec_TripleOfWord.mono_l : ∀ k, (∀ y0 y1 y2 y3, LeO (spec_TripleOfWord.j0 k y0 y1 y2 y3) (spec_TripleOfWord.j0 (k + 1) y0 y1 y2 y3))
 | 0 => fun _ _ _ _ r h => by simp [spec_TripleOfWord.j0] at h
 | k + 1 => by
  have ih0 := spec_TripleOfWord.mono_l k
  ·
   intro y0 y1 y2 y3; unfold spec_TripleOfWord.j0
   repeat' with_reducible first | exact ih0 _ _ _ _ | exact spec_CohnMatrix.mono _ _ | exact spec_FactorsOf.mono _ _ | exact spec_NumberOfWord.mono _ _ | exact LeO.refl _ | exact LeO.none _ | refine LeO.ite ?_ ?_ | refine LeO.bind ?_ (fun _ => ?_)
theorem spec_TripleOfWord.mono : ∀ a0 k, LeO (spec_TripleOfWord.f k a0) (spec_TripleOfWord.f (k + 1) a0) := by
 intro a0 k; have ih0 := spec_TripleOfWord.mono_l k; unfold spec_TripleOfWord.f
 repeat' with_reducible first | exact ih0 _ _ _ _ | exact spec_CohnMatrix.mono _ _ | exact spec_FactorsOf.mono _ _ | exact spec_NumberOfWord.mono _ _ | exact LeO.refl _ | exact LeO.none _ | refine LeO.ite ?_ ?_ | refine LeO.bind ?_ (fun _ => ?_)
theorem spec_TripleOfWord.calls (k : Nat) (a0 : ByteArray) (r1 : List Int) (r2 : Bool) (w : World) (h : spec_TripleOfWord.f k a0 = some (r1, r2)) :
 Calls Tryz.prog 10 #[.string a0] w fun e w' => ∃ v0_ : Value, e = .returned (.tuple #[v0_, .bool r2]) ∧ Kd.R (Kd.int .i64) 3 w' w.heap.size (fun _ => True) v0_ r1 ∧ Below w.heap.size w w' := by
 have hu27 := Tryz.underlying27; have HB := Aside0.mk (Below.refl w.heap.size w); have H : ((spec_FactorsOf.f k a0).bind fun bt457 => ((spec_CohnMatrix.f k a0).bind fun bt460 => (if bt457.2.2 = true then (spec_TripleOfWord.j0 k bt457.1 bt457.2.1 (!bt460.2) bt460.1) else (spec_TripleOfWord.j0 k bt457.1 bt457.2.1 true bt460.1)))) = some (r1, r2) := h; clear h; replace H := oB H; obtain ⟨⟨t457, t458, t459⟩, A2, H⟩ := H; (try dsimp only at H); replace H := oB H; obtain ⟨⟨t460, t463⟩, A3, H⟩ := H; (try dsimp only at H); have HC4 := Aside0.mk H; clear H; go_enter Tryz.func10, Tryz.ntmps10; go_upto_region 3 with (first | ((with_reducible refine gate_callee (f := 29) rfl ?_); refine gL (some 15) rfl rfl Tryz.func29 (by kernel_rfl) rfl #[.string a0] rfl ?_; (with_reducible refine (spec_FactorsOf.calls k a0 t457 t458 t459 _ A2.out).mono ?_); rintro e w' ⟨rfl, ⟨nd, rfl⟩⟩; refine ⟨_, rfl, ?_⟩) | ((with_reducible refine gate_callee (f := 7) rfl ?_); refine gL (some 21) rfl rfl Tryz.func7 (by kernel_rfl) rfl #[.string a0] rfl ?_; (with_reducible refine (spec_CohnMatrix.calls k a0 t460 t463 _ A3.out).mono ?_); rintro e w5 ⟨v461, rfl, ho0, hb⟩; refine ⟨_, rfl, ?_⟩; have HO462 := Aside0.mk (Kd.N_lower (Kd.N_mono (ok' := fun k_ => True) ho0 (fun k_ hk_ => trivial)) (below_size bq)); replace HB := sT bq hb; (try clear hb); (try clear ho0)) | ((with_reducible refine gate_dst (N := 7) rfl ?_); refine box_event ?hg (N := 7) ?hd (cs := #[.slice none 0 0]) (t := 27) ?hr ?_; (case hd => rfl); (case hg => rfl); (case hr => exact z69_); intro gb464 hg w6 hbox hb; replace HO462 := Aside0.mk (Kd.N_below (Kd.N_elderB (nA HO462) gb464 (Nat.le_of_eq hg.symm)) hb); have BK464 := Aside0.mk (hbox); have GW464 := gW HB hg; have GE464 := gW HB hg; replace HB := sT bq hb; clear hb hbox hg; obtain ⟨Ao7, co7, eo7⟩ := Kd.N_slice HO462.out; subst eo7; obtain ⟨hcz8_0, hfz8_0⟩ := bC BK464))
 (try simp only [Act.put, List.setIfInBounds_toArray, List.set_cons_zero, List.set_cons_succ]); go_cut [29] (fun v29 wc => ∃ (kq : Nat) (x29_3 : Bool), v29 = .bool x29_3 ∧ Aside0 (spec_TripleOfWord.j0 kq t457 t458 x29_3 t460 = some (r1, r2)) ∧ Aside0 (kq ≤ k) ∧ Aside0 (Kd.N (Kd.slice 3 (Kd.int .i64)) 32 wc w.heap.size (fun k_ => k_ ≠ gb464) (.slice Ao7 t460.length co7) t460) ∧ Aside0 (wc.heap[gb464]? = some (.cells #[(.slice Ao7 t460.length co7)] 27 (0, 0))) ∧ Aside0 (Below w.heap.size w wc))
 case first =>
  have H := HC4.out; clear HC4; by_cases c9 : t459 = true
  ·
   subst c9; rw [if_pos rfl] at H; have H' := Aside0.mk H; clear H; go_wp2; go_meet
   case rel => exact ⟨_, (!t463), e2, H', ⟨z70_⟩, ⟨z24_⟩, ⟨by refine bR ?_; refine blk_put (cs := #[.slice none 0 0]) ?_ 0 _ rfl; exact bA BK464⟩, ⟨kB HB⟩⟩
  ·
   replace c9 := Bool.eq_false_iff.mpr c9; subst c9; rw [if_neg (show ¬ (false = true) by decide)] at H; have H' := Aside0.mk H; clear H; go_wp2; go_meet
   case rel => exact ⟨_, (true), e2, H', ⟨z70_⟩, ⟨z24_⟩, ⟨by refine bR ?_; refine blk_put (cs := #[.slice none 0 0]) ?_ 0 _ rfl; exact bA BK464⟩, ⟨kB HB⟩⟩
 case rest =>
  clear HC4; (try clear hcz8_0); (try clear hfz8_0); obtain ⟨kq, x29_3, rfl, HA, HJ3, HO_465000, BK464, HB⟩ := hcut; cases kq with
  | zero => exact absurd HA.out (by simp [spec_TripleOfWord.j0])
  | succ kj3 =>
   have H := HA.out; clear HA; simp only [spec_TripleOfWord.j0] at H; by_cases c10 : x29_3 = true
   · subst c10; rw [if_pos rfl] at H; simp only [Option.some.injEq, Prod.mk.injEq] at H; obtain ⟨rfl, rfl⟩ := H; go_wp2; go_ret2; exact ⟨_, e1, z52_, kB HB⟩
   ·
    replace c10 := Bool.eq_false_iff.mpr c10; subst c10; rw [if_neg (show ¬ (false = true) by decide)] at H; replace H := oB H; obtain ⟨⟨t465, t466⟩, A11, H⟩ := H; (try dsimp only at H); replace H := oB H; obtain ⟨⟨t467, t468⟩, A12, H⟩ := H; (try dsimp only at H); by_cases c13 : 0 < (t460.length : Int)
    ·
     rw [if_pos c13] at H; have c13b0 := decide_eq_true c13; have c13b1 : decide (0 < t460.length) = true := decide_eq_true (by omega); clear c13; by_cases c14 : 1 < ((rd_L4 t460 0).length : Int)
     · rw [if_pos c14] at H; have c14b0 := decide_eq_true c14; have c14b1 : decide (1 < (rd_L4 t460 0).length) = true := decide_eq_true (by omega); clear c14; replace H := oB H; obtain ⟨t471, A15, H⟩ := H; simp only [Option.some.injEq, Prod.mk.injEq] at H; obtain ⟨rfl, rfl⟩ := H; go_wp2_with (first | ((with_reducible refine gate_callee (f := 30) rfl ?_); refine gL (some 32) rfl rfl Tryz.func30 (by kernel_rfl) rfl #[.string t457] rfl ?_; (with_reducible refine (spec_NumberOfWord.calls kj3 t457 t465 t466 _ A11.out).mono ?_); rintro e w16 ⟨rfl, hb⟩; refine ⟨_, rfl, ?_⟩; replace HO_465000 := Aside0.mk (Kd.N_below (nA HO_465000) hb); replace BK464 := kA BK464 hb; replace HB := sB HB hb; (try clear hb)) | ((with_reducible refine gate_callee (f := 30) rfl ?_); refine gL (some 37) rfl rfl Tryz.func30 (by kernel_rfl) rfl #[.string t458] rfl ?_; (with_reducible refine (spec_NumberOfWord.calls kj3 t458 t467 t468 _ A12.out).mono ?_); rintro e w17 ⟨rfl, hb⟩; refine ⟨_, rfl, ?_⟩; replace HO_465000 := Aside0.mk (Kd.N_below (nA HO_465000) hb); replace BK464 := kA BK464 hb; replace HB := sB HB hb; (try clear hb); obtain ⟨hcz18_0, hfz18_0⟩ := bC BK464; have p469 : 0 ≤ (0 : Int) := (by omega); have q469 : 0 < (t460.length : Int) := od; obtain ⟨ad469, A469_0, c469_0, e469, hx469_0, hl469_0, hi469_0⟩ := at_L4 (Kd.N_reads' HO_465000.out).2.2 0 p469 q469; cases e469; obtain ⟨ce469, hce469, hMe469, hcc469⟩ := Kd.N_get HO_465000.out [] 0 p469 (by first | exact q469 | exact od | (have e_ := (Kd.N_reads' HO_465000.out).1; omega)); obtain ⟨ua469_0, uc469_0, rfl, ul469_0, ge469_0⟩ := Kd.FK_slice_open hMe469; have hv469_0 := hcc469 0 _ rfl; rw [Nat.add_zero, show ((Kd.slice 3 (Kd.int .i64))).sz = 1 from rfl, Nat.mul_one] at hv469_0; replace hv469_0 := Option.some.inj (hv469_0.symm.trans hx469_0); injection hv469_0 with hva_ hvn_ hvc_; rw [hva_] at ge469_0; rw [hvc_] at ul469_0; have HL469_0 := Aside0.mk (show Kd.V (Kd.int .i64) 3 _ w.heap.size _ _ (rd_L4 t460 0) from Kd.V_mk ul469_0 ge469_0); clear hva_ hvn_ hvc_ ge469_0 ul469_0; clear hcc469 hce469; have qi469 : (0 < t460.length) = True := eq_true (by omega); (try rw [show ((0 : Int)).toNat = 0 from rfl] at hx469_0); (try rw [Addr.add_zero'] at hx469_0); have HR469_0 := Aside0.mk hi469_0; have HC469_0 := Aside0.mk hl469_0; clear hi469_0 hl469_0; replace p469 := eq_true p469; replace q469 := eq_true q469; have p470 : 0 ≤ (1 : Int) := (by omega); have q470 : 1 < ((rd_L4 t460 0).length : Int) := od; obtain ⟨ad470, e470, hx470_0⟩ := Kd.at_int (by repeat (first | (with_reducible exact HR469_0.out) | (with_reducible refine Kd.C_alloc ?_ _) | (with_reducible refine Kd.C_drewN ?_ _) | (with_reducible refine Kd.C_drew ?_) | exact HR469_0.out)) 1 p470 q470; cases e470; (try simp only [show (1 : Int).toNat = 1 from rfl, Nat.reduceMul, Nat.reduceEqDiff, Go.Addr.add, ↓reduceIte] at hx470_0); have qi470 : (1 < (rd_L4 t460 0).length) = True := eq_true (by omega); (try rw [show ((1 : Int)).toNat = 1 from rfl] at hx470_0); replace p470 := eq_true p470; replace q470 := eq_true q470) | ((with_reducible refine gate_callee (f := 31) rfl ?_); refine gL (some 48) rfl rfl Tryz.func31 (by kernel_rfl) rfl #[.int .i64 t465, .int .i64 t467, .int .i64 (rd (rd_L4 t460 0) 1)] rfl ?_; (with_reducible refine (spec_mkSort.calls t465 t467 (rd (rd_L4 t460 0) 1) t471 _ A15.out).mono ?_); rintro e w19 ⟨v472, rfl, ho0, hb⟩; refine ⟨_, rfl, ?_⟩; replace HO_465000 := Aside0.mk (Kd.N_elder' (nA HO_465000) (Kd.R_base ho0) hb); replace HL469_0 := Aside0.mk (Kd.V_elder' (vP HL469_0.out) (Kd.R_base ho0) hb); have HO473 := Aside0.mk (Kd.R_lower ho0 (below_size (kB HB))); replace BK464 := kA BK464 hb; replace HR469_0 := Aside0.mk ((by with_reducible first | exact Kd.C_below HR469_0.out hb | exact Kd.C_below (Kd.C_drewN HR469_0.out _) hb | exact Kd.C_below (Kd.C_alloc HR469_0.out _) hb | exact Kd.C_below (Kd.C_drewN (Kd.C_drewN HR469_0.out _) _) hb)); replace HB := sB HB hb; (try clear hb); (try clear ho0))); go_ret2; exact ⟨_, e1, rP HO473.out, kB HB⟩
     · rw [if_neg c14] at H; exact absurd H (by simp)
    · rw [if_neg c13] at H; exact absurd H (by simp)

/-! ### laws_dSame: function 12 -/
def laws_dSame.l0 : Nat → List Int → List Int → Int → Int → Option (Bool)
 | 0, _, _, _, _ => none
 | k + 1, x0, x1, x12, x13 => if x13 < x12 then (if 0 ≤ x13 then (if x13 < (x0.length : Int) then (if x13 < (x1.length : Int) then (if (rd x0 x13) = (rd x1 x13) then (laws_dSame.l0 k x0 x1 x12 (wrap64 (x13 + 1))) else (some false)) else (none)) else (none)) else (none)) else (some true)
def laws_dSame.f (k : Nat) (l0 : List Int) (l1 : List Int) : Option (Bool) := if (l0.length : Int) = (l1.length : Int) then (laws_dSame.l0 k l0 l1 (l0.length : Int) 0) else (some false)
theorem laws_dSame.mono_l : ∀ k, (∀ y0 y1 y2 y3, LeO (laws_dSame.l0 k y0 y1 y2 y3) (laws_dSame.l0 (k + 1) y0 y1 y2 y3))
 | 0 => fun _ _ _ _ r h => by simp [laws_dSame.l0] at h
 | k + 1 => by
  have ih0 := laws_dSame.mono_l k
  ·
   intro y0 y1 y2 y3; unfold laws_dSame.l0
   repeat' with_reducible first | exact ih0 _ _ _ _ | exact LeO.refl _ | exact LeO.none _ | refine LeO.ite ?_ ?_ | refine LeO.bind ?_ (fun _ => ?_)
theorem laws_dSame.mono : ∀ a0 a1 k, LeO (laws_dSame.f k a0 a1) (laws_dSame.f (k + 1) a0 a1) := by
 intro a0 a1 k; have ih0 := laws_dSame.mono_l k; unfold laws_dSame.f
 repeat' with_reducible first | exact ih0 _ _ _ _ | exact LeO.refl _ | exact LeO.none _ | refine LeO.ite ?_ ?_ | refine LeO.bind ?_ (fun _ => ?_)
theorem laws_dSame.calls (k : Nat) (A0 : Option Addr) (c0 : Nat) (l0 : List Int) (A1 : Option Addr) (c1 : Nat) (l1 : List Int) (r : Bool) (w : World) (hr0 : Kd.C (Kd.int .i64) w A0 l0.length l0) (hc0 : l0.length ≤ c0) (hr1 : Kd.C (Kd.int .i64) w A1 l1.length l1) (hc1 : l1.length ≤ c1) (h : laws_dSame.f k l0 l1 = some r) :
 Calls Tryz.prog 12 #[.slice A0 l0.length c0, .slice A1 l1.length c1] w fun e w' => e = .returned (.bool r) ∧ Drawn0 w w' := by
 have HR0 := Aside0.mk hr0; have HC0 := Aside0.mk hc0; clear hr0 hc0; have HR1 := Aside0.mk hr1; have HC1 := Aside0.mk hc1; clear hr1 hc1; have H : (if (l0.length : Int) = (l1.length : Int) then (laws_dSame.l0 k l0 l1 (l0.length : Int) 0) else (some false)) = some r := h; clear h; by_cases c3 : (l0.length : Int) = (l1.length : Int)
 ·
  rw [if_pos c3] at H; have c3b0 : ((l0.length : Int) == (l1.length : Int)) = true := beq_iff_eq.mpr c3; have c3b1 : ((l0.length : Int) != (l1.length : Int)) = false := bne_eq_false_iff_eq.mpr c3; have c3b2 : (l0.length == l1.length) = true := by first | simpa using c3 | (simp at c3 ⊢; omega)
  clear c3; have H' := Aside0.mk H; clear H; go_enter Tryz.func12, Tryz.ntmps12; go_wp2
  repeat (go_quiet (fail); try go_wp2)
  go_loopg [13] k (fun kq v13 w' => ∃ (x13_1 : Int), v13 = .int .i64 x13_1 ∧ Aside0 (laws_dSame.l0 kq l0 l1 (l0.length : Int) x13_1 = some r) ∧ Aside0 (kq ≤ k) ∧ Drawn0 w w')
  case atStart => exact ⟨(0), e2, H', ⟨Nat.le_refl _⟩, dz⟩
  case round =>
   clear H'; (try clear c3); (try clear c3b0); (try clear c3b1); (try clear c3b2); obtain ⟨x13_1, rfl, HA, HK1, ⟨m1, rfl⟩⟩ := hrel; cases gk with
   | zero => exact absurd HA.out (by simp [laws_dSame.l0])
   | succ k1 =>
    have H := HA.out; clear HA; simp only [laws_dSame.l0] at H; by_cases c4 : x13_1 < (l0.length : Int)
    ·
     rw [if_pos c4] at H; have c4b0 := decide_eq_true c4; clear c4; by_cases c5 : 0 ≤ x13_1
     ·
      rw [if_pos c5] at H; have c5b0 := decide_eq_true c5; clear c5; by_cases c6 : x13_1 < (l0.length : Int)
      ·
       rw [if_pos c6] at H; have c6b0 := decide_eq_true c6; clear c6; by_cases c7 : x13_1 < (l1.length : Int)
       ·
        rw [if_pos c7] at H; have c7b0 := decide_eq_true c7; clear c7; by_cases c8 : (rd l0 x13_1) = (rd l1 x13_1)
        ·
         rw [if_pos c8] at H; have c8b0 : ((rd l0 x13_1) == (rd l1 x13_1)) = true := beq_iff_eq.mpr c8; have c8b1 : ((rd l0 x13_1) != (rd l1 x13_1)) = false := bne_eq_false_iff_eq.mpr c8; clear c8; have H' := Aside0.mk H; clear H; have p474 : 0 ≤ (x13_1 : Int) := od; have q474 : x13_1 < (l0.length : Int) := od; obtain ⟨ad474, e474, hx474_0⟩ := Kd.at_int HR0.out x13_1 p474 q474; cases e474; replace p474 := eq_true p474; replace q474 := eq_true q474; have p475 : 0 ≤ (x13_1 : Int) := od; have q475 : x13_1 < (l1.length : Int) := od; obtain ⟨ad475, e475, hx475_0⟩ := Kd.at_int HR1.out x13_1 p475 q475; cases e475; replace p475 := eq_true p475; replace q475 := eq_true q475; go_wp2
         repeat (go_quiet (fail); try go_wp2)
         go_roundg k1
         case measure => have := HK1.out; omega
         case rel => exact ⟨(wrap64 (x13_1 + 1)), e2, H', ⟨by have := HK1.out; omega⟩, dz⟩
        ·
         rw [if_neg c8] at H; have c8b0 : ((rd l0 x13_1) == (rd l1 x13_1)) = false := beq_eq_false_iff_ne.mpr c8; have c8b1 : ((rd l0 x13_1) != (rd l1 x13_1)) = true := bne_iff_ne.mpr c8; obtain rfl := Option.some.inj H; have p474 : 0 ≤ (x13_1 : Int) := od; have q474 : x13_1 < (l0.length : Int) := od; obtain ⟨ad474, e474, hx474_0⟩ := Kd.at_int HR0.out x13_1 p474 q474; cases e474; replace p474 := eq_true p474; replace q474 := eq_true q474; have p475 : 0 ≤ (x13_1 : Int) := od; have q475 : x13_1 < (l1.length : Int) := od; obtain ⟨ad475, e475, hx475_0⟩ := Kd.at_int HR1.out x13_1 p475 q475; cases e475; replace p475 := eq_true p475; replace q475 := eq_true q475; go_wp2
         repeat (go_quiet (fail); try go_wp2)
         go_ret; exact ⟨e2, dz⟩
       · rw [if_neg c7] at H; exact absurd H (by simp)
      · rw [if_neg c6] at H; exact absurd H (by simp)
     · rw [if_neg c5] at H; exact absurd H (by simp)
    ·
     rw [if_neg c4] at H; have c4b0 := decide_eq_false c4; clear c4; obtain rfl := Option.some.inj H; go_wp2
     repeat (go_quiet (fail); try go_wp2)
     go_ret; exact ⟨e2, dz⟩
 ·
  rw [if_neg c3] at H; have c3b0 : ((l0.length : Int) == (l1.length : Int)) = false := beq_eq_false_iff_ne.mpr c3; have c3b1 : ((l0.length : Int) != (l1.length : Int)) = true := bne_iff_ne.mpr c3; have c3b2 : (l0.length == l1.length) = false := by first | simpa using c3 | (simp at c3 ⊢; omega)
  obtain rfl := Option.some.inj H; go_enter Tryz.func12, Tryz.ntmps12; go_wp2
  repeat (go_quiet (fail); try go_wp2)
  go_ret; exact ⟨e2, dz⟩

/-! ### laws_dLists: function 32 -/
def laws_dLists.l0 : Nat → List (List Int) → List (List Int) → Int → Int → Option (Bool)
 | 0, _, _, _, _ => none
 | k + 1, x0, x1, x12, x13 => if x13 < x12 then (if 0 ≤ x13 then (if x13 < (x0.length : Int) then (if x13 < (x1.length : Int) then ((laws_dSame.f k (rd_L4 x0 x13) (rd_L4 x1 x13)).bind fun t478 => (if t478 = true then (laws_dLists.l0 k x0 x1 x12 (wrap64 (x13 + 1))) else (some false))) else (none)) else (none)) else (none)) else (some true)
def laws_dLists.f (k : Nat) (l0 : List (List Int)) (l1 : List (List Int)) : Option (Bool) := if (l0.length : Int) = (l1.length : Int) then (laws_dLists.l0 k l0 l1 (l0.length : Int) 0) else (some false)
theorem laws_dLists.mono_l : ∀ k, (∀ y0 y1 y2 y3, LeO (laws_dLists.l0 k y0 y1 y2 y3) (laws_dLists.l0 (k + 1) y0 y1 y2 y3))
 | 0 => fun _ _ _ _ r h => by simp [laws_dLists.l0] at h
 | k + 1 => by
  have ih0 := laws_dLists.mono_l k
  ·
   intro y0 y1 y2 y3; unfold laws_dLists.l0
   repeat' with_reducible first | exact ih0 _ _ _ _ | exact laws_dSame.mono _ _ _ | exact LeO.refl _ | exact LeO.none _ | refine LeO.ite ?_ ?_ | refine LeO.bind ?_ (fun _ => ?_)
theorem laws_dLists.mono : ∀ a0 a1 k, LeO (laws_dLists.f k a0 a1) (laws_dLists.f (k + 1) a0 a1) := by
 intro a0 a1 k; have ih0 := laws_dLists.mono_l k; unfold laws_dLists.f
 repeat' with_reducible first | exact ih0 _ _ _ _ | exact laws_dSame.mono _ _ _ | exact LeO.refl _ | exact LeO.none _ | refine LeO.ite ?_ ?_ | refine LeO.bind ?_ (fun _ => ?_)
theorem laws_dLists.calls (k : Nat) (A0 : Option Addr) (c0 : Nat) (l0 : List (List Int)) (A1 : Option Addr) (c1 : Nat) (l1 : List (List Int)) (r : Bool) (w : World) (hr0 : Kd.C (Kd.slice 3 (Kd.int .i64)) w A0 l0.length l0) (hc0 : l0.length ≤ c0) (hr1 : Kd.C (Kd.slice 3 (Kd.int .i64)) w A1 l1.length l1) (hc1 : l1.length ≤ c1) (h : laws_dLists.f k l0 l1 = some r) :
 Calls Tryz.prog 32 #[.slice A0 l0.length c0, .slice A1 l1.length c1] w fun e w' => e = .returned (.bool r) ∧ Drawn0 w w' := by
 have HR0 := Aside0.mk hr0; have HC0 := Aside0.mk hc0; clear hr0 hc0; have HR1 := Aside0.mk hr1; have HC1 := Aside0.mk hc1; clear hr1 hc1; have H : (if (l0.length : Int) = (l1.length : Int) then (laws_dLists.l0 k l0 l1 (l0.length : Int) 0) else (some false)) = some r := h; clear h; by_cases c3 : (l0.length : Int) = (l1.length : Int)
 ·
  rw [if_pos c3] at H; have c3b0 : ((l0.length : Int) == (l1.length : Int)) = true := beq_iff_eq.mpr c3; have c3b1 : ((l0.length : Int) != (l1.length : Int)) = false := bne_eq_false_iff_eq.mpr c3; have c3b2 : (l0.length == l1.length) = true := by first | simpa using c3 | (simp at c3 ⊢; omega)
  clear c3; have H' := Aside0.mk H; clear H; go_enter Tryz.func32, Tryz.ntmps32; go_wp2
  repeat (go_quiet (fail); try go_wp2)
  go_loopg [13] k (fun kq v13 w' => ∃ (x13_1 : Int), v13 = .int .i64 x13_1 ∧ Aside0 (laws_dLists.l0 kq l0 l1 (l0.length : Int) x13_1 = some r) ∧ Aside0 (kq ≤ k) ∧ Drawn0 w w')
  case atStart => exact ⟨(0), e2, H', ⟨Nat.le_refl _⟩, dz⟩
  case round =>
   clear H'; (try clear c3); (try clear c3b0); (try clear c3b1); (try clear c3b2); obtain ⟨x13_1, rfl, HA, HK1, ⟨m1, rfl⟩⟩ := hrel; cases gk with
   | zero => exact absurd HA.out (by simp [laws_dLists.l0])
   | succ k1 =>
    have H := HA.out; clear HA; simp only [laws_dLists.l0] at H; by_cases c4 : x13_1 < (l0.length : Int)
    ·
     rw [if_pos c4] at H; have c4b0 := decide_eq_true c4; clear c4; by_cases c5 : 0 ≤ x13_1
     ·
      rw [if_pos c5] at H; have c5b0 := decide_eq_true c5; clear c5; by_cases c6 : x13_1 < (l0.length : Int)
      ·
       rw [if_pos c6] at H; have c6b0 := decide_eq_true c6; clear c6; by_cases c7 : x13_1 < (l1.length : Int)
       ·
        rw [if_pos c7] at H; have c7b0 := decide_eq_true c7; clear c7; replace H := oB H; obtain ⟨t478, A8, H⟩ := H; by_cases c9 : t478 = true
        ·
         subst c9; rw [if_pos rfl] at H; have H' := Aside0.mk H; clear H; have p476 : 0 ≤ (x13_1 : Int) := od; have q476 : x13_1 < (l0.length : Int) := od; obtain ⟨ad476, A476_0, c476_0, e476, hx476_0, hl476_0, hi476_0⟩ := at_L4 HR0.out x13_1 p476 q476; cases e476; have HR476_0 := Aside0.mk hi476_0; have HC476_0 := Aside0.mk hl476_0; clear hi476_0 hl476_0; replace p476 := eq_true p476; replace q476 := eq_true q476; have p477 : 0 ≤ (x13_1 : Int) := od; have q477 : x13_1 < (l1.length : Int) := od; obtain ⟨ad477, A477_0, c477_0, e477, hx477_0, hl477_0, hi477_0⟩ := at_L4 HR1.out x13_1 p477 q477; cases e477; have HR477_0 := Aside0.mk hi477_0; have HC477_0 := Aside0.mk hl477_0; clear hi477_0 hl477_0; replace p477 := eq_true p477; replace q477 := eq_true q477; go_wp2_with (first | (go_at_call 12; (with_reducible refine (laws_dSame.calls k1 _ _ (rd_L4 l0 x13_1) _ _ (rd_L4 l1 x13_1) true _ ?side1 ?side2 ?side3 ?side4 A8.out).mono ?_); (case side1 => exact cC HR476_0.out); (case side2 => exact HC476_0.out); (case side3 => exact cC HR477_0.out); (case side4 => exact HC477_0.out); rintro e w' ⟨rfl, ⟨nd, rfl⟩⟩; (try exact dD)))
         repeat (go_quiet (first | (go_at_call 12; (with_reducible refine (laws_dSame.calls k1 _ _ (rd_L4 l0 x13_1) _ _ (rd_L4 l1 x13_1) true _ ?side1 ?side2 ?side3 ?side4 A8.out).mono ?_); (case side1 => exact cC HR476_0.out); (case side2 => exact HC476_0.out); (case side3 => exact cC HR477_0.out); (case side4 => exact HC477_0.out); rintro e w' ⟨rfl, ⟨nd, rfl⟩⟩; (try exact dD))); try go_wp2_with (first | (go_at_call 12; (with_reducible refine (laws_dSame.calls k1 _ _ (rd_L4 l0 x13_1) _ _ (rd_L4 l1 x13_1) true _ ?side1 ?side2 ?side3 ?side4 A8.out).mono ?_); (case side1 => exact cC HR476_0.out); (case side2 => exact HC476_0.out); (case side3 => exact cC HR477_0.out); (case side4 => exact HC477_0.out); rintro e w' ⟨rfl, ⟨nd, rfl⟩⟩; (try exact dD))))
         go_roundg k1
         case measure => have := HK1.out; omega
         case rel => exact ⟨(wrap64 (x13_1 + 1)), e2, H', ⟨by have := HK1.out; omega⟩, dz⟩
        ·
         replace c9 := Bool.eq_false_iff.mpr c9; subst c9; rw [if_neg (show ¬ (false = true) by decide)] at H; obtain rfl := Option.some.inj H; have p476 : 0 ≤ (x13_1 : Int) := od; have q476 : x13_1 < (l0.length : Int) := od; obtain ⟨ad476, A476_0, c476_0, e476, hx476_0, hl476_0, hi476_0⟩ := at_L4 HR0.out x13_1 p476 q476; cases e476; have HR476_0 := Aside0.mk hi476_0; have HC476_0 := Aside0.mk hl476_0; clear hi476_0 hl476_0; replace p476 := eq_true p476; replace q476 := eq_true q476; have p477 : 0 ≤ (x13_1 : Int) := od; have q477 : x13_1 < (l1.length : Int) := od; obtain ⟨ad477, A477_0, c477_0, e477, hx477_0, hl477_0, hi477_0⟩ := at_L4 HR1.out x13_1 p477 q477; cases e477; have HR477_0 := Aside0.mk hi477_0; have HC477_0 := Aside0.mk hl477_0; clear hi477_0 hl477_0; replace p477 := eq_true p477; replace q477 := eq_true q477; go_wp2_with (first | (go_at_call 12; (with_reducible refine (laws_dSame.calls k1 _ _ (rd_L4 l0 x13_1) _ _ (rd_L4 l1 x13_1) false _ ?side1 ?side2 ?side3 ?side4 A8.out).mono ?_); (case side1 => exact cC HR476_0.out); (case side2 => exact HC476_0.out); (case side3 => exact cC HR477_0.out); (case side4 => exact HC477_0.out); rintro e w' ⟨rfl, ⟨nd, rfl⟩⟩; (try exact dD)))
         repeat (go_quiet (first | (go_at_call 12; (with_reducible refine (laws_dSame.calls k1 _ _ (rd_L4 l0 x13_1) _ _ (rd_L4 l1 x13_1) false _ ?side1 ?side2 ?side3 ?side4 A8.out).mono ?_); (case side1 => exact cC HR476_0.out); (case side2 => exact HC476_0.out); (case side3 => exact cC HR477_0.out); (case side4 => exact HC477_0.out); rintro e w' ⟨rfl, ⟨nd, rfl⟩⟩; (try exact dD))); try go_wp2_with (first | (go_at_call 12; (with_reducible refine (laws_dSame.calls k1 _ _ (rd_L4 l0 x13_1) _ _ (rd_L4 l1 x13_1) false _ ?side1 ?side2 ?side3 ?side4 A8.out).mono ?_); (case side1 => exact cC HR476_0.out); (case side2 => exact HC476_0.out); (case side3 => exact cC HR477_0.out); (case side4 => exact HC477_0.out); rintro e w' ⟨rfl, ⟨nd, rfl⟩⟩; (try exact dD))))
         go_ret; exact ⟨e2, dz⟩
       · rw [if_neg c7] at H; exact absurd H (by simp)
      · rw [if_neg c6] at H; exact absurd H (by simp)
     · rw [if_neg c5] at H; exact absurd H (by simp)
    ·
     rw [if_neg c4] at H; have c4b0 := decide_eq_false c4; clear c4; obtain rfl := Option.some.inj H; go_wp2
     repeat (go_quiet (fail); try go_wp2)
     go_ret; exact ⟨e2, dz⟩
 ·
  rw [if_neg c3] at H; have c3b0 : ((l0.length : Int) == (l1.length : Int)) = false := beq_eq_false_iff_ne.mpr c3; have c3b1 : ((l0.length : Int) != (l1.length : Int)) = true := bne_iff_ne.mpr c3; have c3b2 : (l0.length == l1.length) = false := by first | simpa using c3 | (simp at c3 ⊢; omega)
  obtain rfl := Option.some.inj H; go_enter Tryz.func32, Tryz.ntmps32; go_wp2
  repeat (go_quiet (fail); try go_wp2)
  go_ret; exact ⟨e2, dz⟩

/-! ### laws_dMatrix: function 11 -/
def laws_dMatrix.f (k : Nat) (l0_0 : List (List Int)) (l1_0 : List (List Int)) : Option (Bool) := (laws_dLists.f k l0_0 l1_0).bind fun t481 => (some t481)
theorem laws_dMatrix.mono : ∀ a0 a1 k, LeO (laws_dMatrix.f k a0 a1) (laws_dMatrix.f (k + 1) a0 a1) := by
 intro a0 a1 k; unfold laws_dMatrix.f
 repeat' with_reducible first | exact laws_dLists.mono _ _ _ | exact LeO.refl _ | exact LeO.none _ | refine LeO.ite ?_ ?_ | refine LeO.bind ?_ (fun _ => ?_)
theorem laws_dMatrix.calls (k : Nat) (A0_0 : Option Addr) (c0_0 : Nat) (l0_0 : List (List Int)) (A1_0 : Option Addr) (c1_0 : Nat) (l1_0 : List (List Int)) (r : Bool) (w : World) (hr0_0 : Kd.C (Kd.slice 3 (Kd.int .i64)) w A0_0 l0_0.length l0_0) (hc0_0 : l0_0.length ≤ c0_0) (hr1_0 : Kd.C (Kd.slice 3 (Kd.int .i64)) w A1_0 l1_0.length l1_0) (hc1_0 : l1_0.length ≤ c1_0) (h : laws_dMatrix.f k l0_0 l1_0 = some r) :
 Calls Tryz.prog 11 #[.agg #[.slice A0_0 l0_0.length c0_0], .agg #[.slice A1_0 l1_0.length c1_0]] w fun e w' => e = .returned (.bool r) ∧ Below w.heap.size w w' := by
 have hu27 := Tryz.underlying27; have HR0_0 := Aside0.mk hr0_0; have HC0_0 := Aside0.mk hc0_0; clear hr0_0 hc0_0; have HR1_0 := Aside0.mk hr1_0; have HC1_0 := Aside0.mk hc1_0; clear hr1_0 hc1_0; have HB := Aside0.mk (Below.refl w.heap.size w); have H : ((laws_dLists.f k l0_0 l1_0).bind fun t481 => (some t481)) = some r := h; clear h; replace H := oB H; obtain ⟨t481, A3, H⟩ := H; obtain rfl := Option.some.inj H; go_enter Tryz.func11, Tryz.ntmps11; go_wp2_with (first | ((with_reducible refine gate_dst (N := 2) rfl ?_); refine box_event ?hg (N := 2) ?hd (cs := #[.slice A0_0 l0_0.length c0_0]) (t := 27) ?hr ?_; (case hd => rfl); (case hg => rfl); (case hr => exact z69_); intro gb479 hg w4 hbox hb; have BK479 := Aside0.mk (hbox); have GW479 := gW HB hg; have GE479 := gW HB hg; replace HB := sT bq hb; clear hb hbox hg) | ((with_reducible refine gate_dst (N := 3) rfl ?_); refine box_event ?hg (N := 3) ?hd (cs := #[.slice A1_0 l1_0.length c1_0]) (t := 27) ?hr ?_; (case hd => rfl); (case hg => rfl); (case hr => exact z69_); intro gb480 hg w5 hbox hb; have BK480 := Aside0.mk (hbox); have GW480 := gW HB hg; have GE480 := gW HB hg; replace HB := sB HB hb; obtain ⟨NB479_480, NB480_479⟩ := nE BK479 hg; replace BK479 := kA BK479 hb; clear hb hbox hg; obtain ⟨hnb6, hnc6⟩ := nB NB479_480; obtain ⟨hcz7_0, hfz7_0⟩ := bC BK479; obtain ⟨hcz8_0, hfz8_0⟩ := bC BK480) | ((with_reducible refine gate_callee (f := 32) rfl ?_); refine gL (some 9) rfl rfl Tryz.func32 (by kernel_rfl) rfl #[.slice A0_0 l0_0.length c0_0, .slice A1_0 l1_0.length c1_0] rfl ?_; (with_reducible refine (laws_dLists.calls k _ _ l0_0 _ _ l1_0 t481 _ ?side1 ?side2 ?side3 ?side4 A3.out).mono ?_); (case side1 => exact cC (Kd.C_below HR0_0.out HB.out)); (case side2 => exact HC0_0.out); (case side3 => exact cC (Kd.C_below HR1_0.out HB.out)); (case side4 => exact HC1_0.out); rintro e w' ⟨rfl, ⟨nd, rfl⟩⟩; refine ⟨_, rfl, ?_⟩)); go_ret; exact ⟨e1, kB HB⟩

/-! ### impl_IsChristoffel: function 13 -/
def impl_IsChristoffel.f (k : Nat) (a0 : ByteArray) : Option (Bool × Bool) := (impl_IsLetters.f a0).bind fun t482 => (if t482 = true then ((impl_isChristoffel.f k a0).bind fun t483 => (some (t483, true))) else (some (false, false)))
theorem impl_IsChristoffel.mono : ∀ a0 k, LeO (impl_IsChristoffel.f k a0) (impl_IsChristoffel.f (k + 1) a0) := by
 intro a0 k; unfold impl_IsChristoffel.f
 repeat' with_reducible first | exact impl_isChristoffel.mono _ _ | exact LeO.refl _ | exact LeO.none _ | refine LeO.ite ?_ ?_ | refine LeO.bind ?_ (fun _ => ?_)
theorem impl_IsChristoffel.calls (k : Nat) (a0 : ByteArray) (r1 : Bool) (r2 : Bool) (w : World) (h : impl_IsChristoffel.f k a0 = some (r1, r2)) :
 Calls Tryz.prog 13 #[.string a0] w fun e w' => e = .returned (.tuple #[.bool r1, .bool r2]) ∧ Below w.heap.size w w' := by
 have HB := Aside0.mk (Below.refl w.heap.size w); have H : ((impl_IsLetters.f a0).bind fun t482 => (if t482 = true then ((impl_isChristoffel.f k a0).bind fun t483 => (some (t483, true))) else (some (false, false)))) = some (r1, r2) := h; clear h; replace H := oB H; obtain ⟨t482, A2, H⟩ := H; by_cases c3 : t482 = true
 · subst c3; rw [if_pos rfl] at H; replace H := oB H; obtain ⟨t483, A4, H⟩ := H; simp only [Option.some.injEq, Prod.mk.injEq] at H; obtain ⟨rfl, rfl⟩ := H; go_enter Tryz.func13, Tryz.ntmps13; go_wp2_with (first | ((with_reducible refine gate_callee (f := 22) rfl ?_); refine gL (some 5) rfl rfl Tryz.func22 (by kernel_rfl) rfl #[.string a0] rfl ?_; (with_reducible refine (impl_IsLetters.calls a0 true _ A2.out).mono ?_); rintro e w5 ⟨rfl, hb⟩; refine ⟨_, rfl, ?_⟩; replace HB := sT bq hb; (try clear hb)) | ((with_reducible refine gate_callee (f := 33) rfl ?_); refine gL (some 8) rfl rfl Tryz.func33 (by kernel_rfl) rfl #[.string a0] rfl ?_; (with_reducible refine (impl_isChristoffel.calls k a0 t483 _ A4.out).mono ?_); rintro e w6 ⟨rfl, hb⟩; refine ⟨_, rfl, ?_⟩; replace HB := sT bq hb; (try clear hb))); go_ret2; exact ⟨e1, bq⟩
 · replace c3 := Bool.eq_false_iff.mpr c3; subst c3; rw [if_neg (show ¬ (false = true) by decide)] at H; simp only [Option.some.injEq, Prod.mk.injEq] at H; obtain ⟨rfl, rfl⟩ := H; go_enter Tryz.func13, Tryz.ntmps13; go_wp2_with (first | ((with_reducible refine gate_callee (f := 22) rfl ?_); refine gL (some 5) rfl rfl Tryz.func22 (by kernel_rfl) rfl #[.string a0] rfl ?_; (with_reducible refine (impl_IsLetters.calls a0 false _ A2.out).mono ?_); rintro e w7 ⟨rfl, hb⟩; refine ⟨_, rfl, ?_⟩; replace HB := sT bq hb; (try clear hb))); go_ret2; exact ⟨e1, bq⟩

/-! ### impl_TraceOf: function 14 -/
def impl_TraceOf.l0 : Nat → Int → List (List Int) → Int → Int → Option (Int × Bool)
 | 0, _, _, _, _ => none
 | k + 1, x4, x11, x12, x13 => if x13 < x12 then (if 0 ≤ x13 then (if x13 < (x11.length : Int) then (if x13 < ((rd_L4 x11 x13).length : Int) then (impl_TraceOf.l0 k (wrap64 (x4 + (rd (rd_L4 x11 x13) x13))) x11 x12 (wrap64 (x13 + 1))) else (none)) else (none)) else (none)) else (some (x4, true))
def impl_TraceOf.f (k : Nat) (l0_0 : List (List Int)) : Option (Int × Bool) := (impl_IsMatrix.f l0_0).bind fun t485 => (if t485 = true then (impl_TraceOf.l0 k 0 l0_0 (l0_0.length : Int) 0) else (some (0, false)))
theorem impl_TraceOf.mono_l : ∀ k, (∀ y0 y1 y2 y3, LeO (impl_TraceOf.l0 k y0 y1 y2 y3) (impl_TraceOf.l0 (k + 1) y0 y1 y2 y3))
 | 0 => fun _ _ _ _ r h => by simp [impl_TraceOf.l0] at h
 | k + 1 => by
  have ih0 := impl_TraceOf.mono_l k
  ·
   intro y0 y1 y2 y3; unfold impl_TraceOf.l0
   repeat' with_reducible first | exact ih0 _ _ _ _ | exact LeO.refl _ | exact LeO.none _ | refine LeO.ite ?_ ?_ | refine LeO.bind ?_ (fun _ => ?_)
theorem impl_TraceOf.mono : ∀ a0 k, LeO (impl_TraceOf.f k a0) (impl_TraceOf.f (k + 1) a0) := by
 intro a0 k; have ih0 := impl_TraceOf.mono_l k; unfold impl_TraceOf.f
 repeat' with_reducible first | exact ih0 _ _ _ _ | exact LeO.refl _ | exact LeO.none _ | refine LeO.ite ?_ ?_ | refine LeO.bind ?_ (fun _ => ?_)
theorem impl_TraceOf.calls (k : Nat) (A0_0 : Option Addr) (c0_0 : Nat) (l0_0 : List (List Int)) (r1 : Int) (r2 : Bool) (w : World) (hr0_0 : Kd.C (Kd.slice 3 (Kd.int .i64)) w A0_0 l0_0.length l0_0) (hc0_0 : l0_0.length ≤ c0_0) (h : impl_TraceOf.f k l0_0 = some (r1, r2)) :
 Calls Tryz.prog 14 #[.agg #[.slice A0_0 l0_0.length c0_0]] w fun e w' => e = .returned (.tuple #[.int .i64 r1, .bool r2]) ∧ Below w.heap.size w w' := by
 have hu27 := Tryz.underlying27; have HR0_0 := Aside0.mk hr0_0; have HC0_0 := Aside0.mk hc0_0; clear hr0_0 hc0_0; have HB := Aside0.mk (Below.refl w.heap.size w); have H : ((impl_IsMatrix.f l0_0).bind fun t485 => (if t485 = true then (impl_TraceOf.l0 k 0 l0_0 (l0_0.length : Int) 0) else (some (0, false)))) = some (r1, r2) := h; clear h; replace H := oB H; obtain ⟨t485, A2, H⟩ := H; by_cases c3 : t485 = true
 ·
  subst c3; rw [if_pos rfl] at H; have H' := Aside0.mk H; clear H; go_enter Tryz.func14, Tryz.ntmps14; go_wp2_with (first | ((with_reducible refine gate_dst (N := 1) rfl ?_); refine box_event ?hg (N := 1) ?hd (cs := #[.slice A0_0 l0_0.length c0_0]) (t := 27) ?hr ?_; (case hd => rfl); (case hg => rfl); (case hr => exact z69_); intro gb484 hg w4 hbox hb; have BK484 := Aside0.mk (hbox); have GW484 := gW HB hg; have GE484 := gW HB hg; replace HB := sT bq hb; clear hb hbox hg; obtain ⟨hcz5_0, hfz5_0⟩ := bC BK484) | ((with_reducible refine gate_callee (f := 25) rfl ?_); refine gL (some 8) rfl rfl Tryz.func25 (by kernel_rfl) rfl #[.agg #[.slice A0_0 l0_0.length c0_0]] rfl ?_; (with_reducible refine (impl_IsMatrix.calls _ _ l0_0 true _ ?side1 ?side2 A2.out).mono ?_); (case side1 => exact cC (Kd.C_below HR0_0.out HB.out)); (case side2 => exact HC0_0.out); rintro e w6 ⟨rfl, hb⟩; refine ⟨_, rfl, ?_⟩; replace BK484 := kA BK484 hb; replace HB := sB HB hb; (try clear hb); obtain ⟨hcz7_0, hfz7_0⟩ := bC BK484)); go_loopg [4, 13] k (fun kq v4 v13 w' => ∃ (x4_1 : Int) (x13_1 : Int), v4 = .int .i64 x4_1 ∧ v13 = .int .i64 x13_1 ∧ Aside0 (impl_TraceOf.l0 kq x4_1 l0_0 (l0_0.length : Int) x13_1 = some (r1, r2)) ∧ Aside0 (kq ≤ k) ∧ Aside0 (w'.heap[gb484]? = some (.cells #[(.slice A0_0 l0_0.length c0_0)] 27 (0, 0))) ∧ Aside0 (Below w.heap.size w w'))
  case atStart => exact ⟨(0), (0), e2, e2, H', ⟨Nat.le_refl _⟩, ⟨by exact bA BK484⟩, ⟨kB HB⟩⟩
  case round =>
   clear H'; (try clear c3); (try clear hcz5_0); (try clear hcz7_0); (try clear hfz5_0); (try clear hfz7_0); obtain ⟨x4_1, x13_1, rfl, rfl, HA, HK1, BK484, HB⟩ := hrel; cases gk with
   | zero => exact absurd HA.out (by simp [impl_TraceOf.l0])
   | succ k1 =>
    have H := HA.out; clear HA; simp only [impl_TraceOf.l0] at H; by_cases c8 : x13_1 < (l0_0.length : Int)
    ·
     rw [if_pos c8] at H; have c8b0 := decide_eq_true c8; clear c8; by_cases c9 : 0 ≤ x13_1
     ·
      rw [if_pos c9] at H; have c9b0 := decide_eq_true c9; clear c9; by_cases c10 : x13_1 < (l0_0.length : Int)
      ·
       rw [if_pos c10] at H; have c10b0 := decide_eq_true c10; clear c10; by_cases c11 : x13_1 < ((rd_L4 l0_0 x13_1).length : Int)
       ·
        rw [if_pos c11] at H; have c11b0 := decide_eq_true c11; clear c11; have H' := Aside0.mk H; clear H; have p486 : 0 ≤ (x13_1 : Int) := od; have q486 : x13_1 < (l0_0.length : Int) := od; obtain ⟨ad486, A486_0, c486_0, e486, hx486_0, hl486_0, hi486_0⟩ := at_L4 HR0_0.out x13_1 p486 q486; cases e486; replace hx486_0 := (HB.out.cell (World.block_lt_of_cell? w _ hx486_0)).trans hx486_0; have HR486_0 := Aside0.mk hi486_0; have HC486_0 := Aside0.mk hl486_0; clear hi486_0 hl486_0; replace p486 := eq_true p486; replace q486 := eq_true q486; have p487 : 0 ≤ (x13_1 : Int) := od; have q487 : x13_1 < ((rd_L4 l0_0 x13_1).length : Int) := od; obtain ⟨ad487, e487, hx487_0⟩ := Kd.at_int HR486_0.out x13_1 p487 q487; cases e487; replace hx487_0 := (HB.out.cell (World.block_lt_of_cell? w _ hx487_0)).trans hx487_0; replace p487 := eq_true p487; replace q487 := eq_true q487; go_wp2; go_roundg k1
        case measure => have := HK1.out; omega
        case rel => exact ⟨(wrap64 (x4_1 + (rd (rd_L4 l0_0 x13_1) x13_1))), (wrap64 (x13_1 + 1)), e2, e2, H', ⟨by have := HK1.out; omega⟩, ⟨by exact bA BK484⟩, ⟨kB HB⟩⟩
       · rw [if_neg c11] at H; exact absurd H (by simp)
      · rw [if_neg c10] at H; exact absurd H (by simp)
     · rw [if_neg c9] at H; exact absurd H (by simp)
    · rw [if_neg c8] at H; have c8b0 := decide_eq_false c8; clear c8; simp only [Option.some.injEq, Prod.mk.injEq] at H; obtain ⟨rfl, rfl⟩ := H; go_wp2; go_ret2; exact ⟨e1, kB HB⟩
 · replace c3 := Bool.eq_false_iff.mpr c3; subst c3; rw [if_neg (show ¬ (false = true) by decide)] at H; simp only [Option.some.injEq, Prod.mk.injEq] at H; obtain ⟨rfl, rfl⟩ := H; go_enter Tryz.func14, Tryz.ntmps14; go_wp2_with (first | ((with_reducible refine gate_dst (N := 1) rfl ?_); refine box_event ?hg (N := 1) ?hd (cs := #[.slice A0_0 l0_0.length c0_0]) (t := 27) ?hr ?_; (case hd => rfl); (case hg => rfl); (case hr => exact z69_); intro gb484 hg w12 hbox hb; have BK484 := Aside0.mk (hbox); have GW484 := gW HB hg; have GE484 := gW HB hg; replace HB := sT bq hb; clear hb hbox hg; obtain ⟨hcz13_0, hfz13_0⟩ := bC BK484) | ((with_reducible refine gate_callee (f := 25) rfl ?_); refine gL (some 8) rfl rfl Tryz.func25 (by kernel_rfl) rfl #[.agg #[.slice A0_0 l0_0.length c0_0]] rfl ?_; (with_reducible refine (impl_IsMatrix.calls _ _ l0_0 false _ ?side1 ?side2 A2.out).mono ?_); (case side1 => exact cC (Kd.C_below HR0_0.out HB.out)); (case side2 => exact HC0_0.out); rintro e w14 ⟨rfl, hb⟩; refine ⟨_, rfl, ?_⟩; replace BK484 := kA BK484 hb; replace HB := sB HB hb; (try clear hb))); go_ret2; exact ⟨e1, kB HB⟩

-- NOT PRINTED: function 115 (slices_IndexFunc_int_int_115)

-- NOT PRINTED: function 96 (slices_ContainsFunc_int_int_96)

/-! ### impl_allWithin: function 68 -/
def impl_allWithin.f (l0 : List Int) (a1 : Int) (a2 : Int) : Option (Bool) := some (l0.all (Go.Proofs.YtljlplohicffpaaGreat.G.inB a1 a2))
theorem impl_allWithin.calls (A0 : Option Addr) (c0 : Nat) (l0 : List Int) (a1 : Int) (a2 : Int) (r : Bool) (w : World) (hr0 : Kd.C (Kd.int .i64) w A0 l0.length l0) (hc0 : l0.length ≤ c0) (h : impl_allWithin.f l0 a1 a2 = some r) :
 Calls Tryz.prog 68 #[.slice A0 l0.length c0, .int .i64 a1, .int .i64 a2] w fun e w' => e = .returned (.bool r) ∧ Below w.heap.size w w' := by
 obtain rfl := Option.some.inj h; exact Go.Proofs.YtljlplohicffpaaGreat.G.allWithin_any A0 c0 l0 a1 a2 w hr0

/-! ### impl_areThree: function 35 -/
def impl_areThree.f (l0 : List Int) : Option (Bool) := if (l0.length : Int) = 3 then ((impl_allWithin.f l0 1 1000000000).bind fun t488 => (some t488)) else (some false)
theorem impl_areThree.calls (A0 : Option Addr) (c0 : Nat) (l0 : List Int) (r : Bool) (w : World) (hr0 : Kd.C (Kd.int .i64) w A0 l0.length l0) (hc0 : l0.length ≤ c0) (h : impl_areThree.f l0 = some r) :
 Calls Tryz.prog 35 #[.slice A0 l0.length c0] w fun e w' => e = .returned (.bool r) ∧ Below w.heap.size w w' := by
 have HR0 := Aside0.mk hr0; have HC0 := Aside0.mk hc0; clear hr0 hc0; have HB := Aside0.mk (Below.refl w.heap.size w); have H : (if (l0.length : Int) = 3 then ((impl_allWithin.f l0 1 1000000000).bind fun t488 => (some t488)) else (some false)) = some r := h; clear h; by_cases c2 : (l0.length : Int) = 3
 · rw [if_pos c2] at H; have c2b0 : ((l0.length : Int) == 3) = true := beq_iff_eq.mpr c2; have c2b1 : ((l0.length : Int) != 3) = false := bne_eq_false_iff_eq.mpr c2; clear c2; replace H := oB H; obtain ⟨t488, A3, H⟩ := H; obtain rfl := Option.some.inj H; go_enter Tryz.func35, Tryz.ntmps35; go_wp2_with (first | (go_at_call 68; (with_reducible refine (impl_allWithin.calls _ _ l0 1 1000000000 t488 _ ?side1 ?side2 A3.out).mono ?_); (case side1 => exact cC HR0.out); (case side2 => exact HC0.out); rintro e w4 ⟨rfl, hb⟩; replace HB := sT bq hb; (try clear hb))); go_ret; exact ⟨e1, bq⟩
 · rw [if_neg c2] at H; have c2b0 : ((l0.length : Int) == 3) = false := beq_eq_false_iff_ne.mpr c2; have c2b1 : ((l0.length : Int) != 3) = true := bne_iff_ne.mpr c2; obtain rfl := Option.some.inj H; go_enter Tryz.func35, Tryz.ntmps35; go_wp2; go_ret; exact ⟨e1, bq⟩

end Go.Proofs.YtljlplohicffpaaGreat.P
