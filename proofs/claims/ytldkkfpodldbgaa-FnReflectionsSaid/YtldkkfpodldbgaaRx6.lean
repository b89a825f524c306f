-- Written by a program of this session (wip/mkprint.py over the kit's print), out of the translation. Not trusted: Lean checks it.
import Derived.Test.YtldkkfpodldbgaaRx0
import Derived.Test.YtldkkfpodldbgaaRx1
namespace Go.Proofs.Ytldkkfpodldbgaa.P
open Go.RowKit Go.Proofs.YtldkkfpodldbgaaW.PrintWords Go.Proofs.YtldkkfpodldbgaaW.PrintLast Go.Proofs.YtldkkfpodldbgaaW.PrintMore
attribute [local go_sem] max2_int min2_int max_two min_two max_three min_three max_four min_four   -- for this text's walks alone
set_option linter.unusedVariables false
set_option linter.unusedSimpArgs false
set_option maxHeartbeats 8000000
set_option maxRecDepth 100000

/-! ### spec_foIf: function 61 -/
def spec_foIf.f (k : Nat) (l0_0 : List (List Int)) : Option ((List (List Int)) × Bool) := (spec_foGood.f k l0_0).bind fun t211 => (if t211 = true then (some (l0_0, true)) else (some (([] : List (List Int)), false)))
theorem spec_foIf.mono : ∀ a0 k, LeO (spec_foIf.f k a0) (spec_foIf.f (k + 1) a0) := by
 intro a0 k; unfold spec_foIf.f
 repeat' with_reducible first | exact spec_foGood.mono _ _ | exact LeO.refl _ | exact LeO.none _ | refine LeO.ite ?_ ?_ | refine LeO.bind ?_ (fun _ => ?_)
theorem spec_foIf.calls (k : Nat) (P0_0_ : Nat → Prop) (A0_0 : Option Addr) (c0_0 : Nat) (l0_0 : List (List Int)) (r1 : List (List Int)) (r2 : Bool) (w : World) (hs0_0 : Kd.V (Kd.slice 3 (Kd.int .i64)) 34 w w.heap.size (fun k_ => P0_0_ k_) (.slice A0_0 l0_0.length c0_0) l0_0) (h : spec_foIf.f k l0_0 = some (r1, r2)) :
 Calls Try.prog 61 #[.agg #[.slice A0_0 l0_0.length c0_0]] w fun e w' => ∃ v0_ : Value, e = .returned (.tuple #[.agg #[v0_], .bool r2]) ∧ Kd.V (Kd.slice 3 (Kd.int .i64)) 34 w' w.heap.size (fun k_ => (P0_0_ k_ ∨ w.heap.size ≤ k_)) v0_ r1 ∧ Below w.heap.size w w' := by
 have hu26 := Try.underlying26; have HO0_0 := Aside0.mk (show Kd.V (Kd.slice 3 (Kd.int .i64)) 34 w w.heap.size (fun k_ => (P0_0_ k_ ∨ w.heap.size ≤ k_)) (.slice A0_0 l0_0.length c0_0) l0_0 from Kd.V_mono hs0_0 (fun k_ hk => .inl hk)); have HB := Aside0.mk (Below.refl w.heap.size w); have H : ((spec_foGood.f k l0_0).bind fun t211 => (if t211 = true then (some (l0_0, true)) else (some (([] : List (List Int)), false)))) = some (r1, r2) := h; clear h; replace H := oB H; obtain ⟨t211, A2, H⟩ := H; by_cases c3 : t211 = true
 · subst c3; rw [if_pos rfl] at H; simp only [Option.some.injEq, Prod.mk.injEq] at H; obtain ⟨rfl, rfl⟩ := H; go_enter Try.func61, Try.ntmps61; go_wp2_with (first | ((with_reducible refine gate_dst (N := 1) rfl ?_); refine box_event ?hg (N := 1) ?hd (cs := #[.slice A0_0 l0_0.length c0_0]) (t := 26) ?hr ?_; (case hd => rfl); (case hg => rfl); (case hr => exact z98_); intro gb209 hg w4 hbox hb; replace HO0_0 := Aside0.mk (Kd.V_below (Kd.V_elderB z87_ gb209 (Nat.le_of_eq hg.symm)) hb); have BK209 := Aside0.mk (hbox); have GW209 := gW HB hg; have GE209 := gW HB hg; replace HB := sT bq hb; clear hb hbox hg) | ((with_reducible refine gate_dst (N := 2) rfl ?_); refine box_event ?hg (N := 2) ?hd (cs := #[.slice none 0 0]) (t := 26) ?hr ?_; (case hd => rfl); (case hg => rfl); (case hr => exact z98_); intro gb210 hg w5 hbox hb; replace HO0_0 := Aside0.mk (Kd.V_below (Kd.V_elderB z87_ gb210 (Nat.le_of_eq hg.symm)) hb); have BK210 := Aside0.mk (hbox); have GW210 := gW HB hg; have GE210 := gW HB hg; replace HB := sB HB hb; obtain ⟨NB209_210, NB210_209⟩ := nE BK209 hg; replace BK209 := kA BK209 hb; clear hb hbox hg; obtain ⟨hnb6, hnc6⟩ := nB NB209_210; obtain ⟨hcz7_0, hfz7_0⟩ := bC BK209) | ((with_reducible refine gate_callee (f := 78) rfl ?_); refine gL (some 5) rfl rfl Try.func78 (by kernel_rfl) rfl #[.agg #[.slice A0_0 l0_0.length c0_0]] rfl ?_; (with_reducible refine (spec_foGood.calls k _ _ l0_0 true _ ?side1 ?side2 A2.out).mono ?_); (case side1 => repeat (first | exact (Kd.V_reads' HO0_0.out).2.2 | (with_reducible refine Kd.C_alloc ?_ _) | (with_reducible refine Kd.C_drewN ?_ _) | (with_reducible refine Kd.C_drew ?_))); (case side2 => exact (Kd.V_reads' HO0_0.out).2.1); rintro e w8 ⟨rfl, hb⟩; refine ⟨_, rfl, ?_⟩; replace HO0_0 := vB z87_ hb; replace BK209 := kA BK209 hb; replace BK210 := kA BK210 hb; replace HB := sB HB hb; (try clear hb); obtain ⟨hcz9_0, hfz9_0⟩ := bC BK209; obtain ⟨hcz10_0, hfz10_0⟩ := bC BK210)); refine bodyPost_ret (results_ct rfl _ _ gb210 26 #[.slice A0_0 l0_0.length c0_0] (0, 0) _ rfl (by refine bR ?_; refine blk_put (cs := #[.slice none 0 0]) ?_ 0 _ rfl; exact bA BK210) Try.underlying26 rfl (by kernel_rfl)) rfl ?_; exact ⟨_, e1, vP (Kd.V_mono (vF HO0_0 (fun _ hk => hk.2) (.slice A0_0 l0_0.length c0_0)) (fun _ hk => hk.1.1)), kB HB⟩
 · replace c3 := Bool.eq_false_iff.mpr c3; subst c3; rw [if_neg (show ¬ (false = true) by decide)] at H; simp only [Option.some.injEq, Prod.mk.injEq] at H; obtain ⟨rfl, rfl⟩ := H; go_enter Try.func61, Try.ntmps61; go_wp2_with (first | ((with_reducible refine gate_dst (N := 1) rfl ?_); refine box_event ?hg (N := 1) ?hd (cs := #[.slice A0_0 l0_0.length c0_0]) (t := 26) ?hr ?_; (case hd => rfl); (case hg => rfl); (case hr => exact z98_); intro gb209 hg w11 hbox hb; replace HO0_0 := Aside0.mk (Kd.V_below (Kd.V_elderB z87_ gb209 (Nat.le_of_eq hg.symm)) hb); have BK209 := Aside0.mk (hbox); have GW209 := gW HB hg; have GE209 := gW HB hg; replace HB := sT bq hb; clear hb hbox hg) | ((with_reducible refine gate_dst (N := 2) rfl ?_); refine box_event ?hg (N := 2) ?hd (cs := #[.slice none 0 0]) (t := 26) ?hr ?_; (case hd => rfl); (case hg => rfl); (case hr => exact z98_); intro gb210 hg w12 hbox hb; replace HO0_0 := Aside0.mk (Kd.V_below (Kd.V_elderB z87_ gb210 (Nat.le_of_eq hg.symm)) hb); have BK210 := Aside0.mk (hbox); have GW210 := gW HB hg; have GE210 := gW HB hg; replace HB := sB HB hb; obtain ⟨NB209_210, NB210_209⟩ := nE BK209 hg; replace BK209 := kA BK209 hb; clear hb hbox hg; obtain ⟨hnb13, hnc13⟩ := nB NB209_210; obtain ⟨hcz14_0, hfz14_0⟩ := bC BK209) | ((with_reducible refine gate_callee (f := 78) rfl ?_); refine gL (some 5) rfl rfl Try.func78 (by kernel_rfl) rfl #[.agg #[.slice A0_0 l0_0.length c0_0]] rfl ?_; (with_reducible refine (spec_foGood.calls k _ _ l0_0 false _ ?side1 ?side2 A2.out).mono ?_); (case side1 => repeat (first | exact (Kd.V_reads' HO0_0.out).2.2 | (with_reducible refine Kd.C_alloc ?_ _) | (with_reducible refine Kd.C_drewN ?_ _) | (with_reducible refine Kd.C_drew ?_))); (case side2 => exact (Kd.V_reads' HO0_0.out).2.1); rintro e w15 ⟨rfl, hb⟩; refine ⟨_, rfl, ?_⟩; replace HO0_0 := vB z87_ hb; replace BK209 := kA BK209 hb; replace BK210 := kA BK210 hb; replace HB := sB HB hb; (try clear hb); obtain ⟨hcz16_0, hfz16_0⟩ := bC BK210)); refine bodyPost_ret (results_ct rfl _ _ gb210 26 #[.slice none 0 0] (0, 0) _ rfl (by refine bR ?_; refine blk_put (cs := #[.slice none 0 0]) ?_ 0 _ rfl; exact bA BK210) Try.underlying26 rfl (by kernel_rfl)) rfl ?_; exact ⟨_, e1, Kd.V_nil _ _ _ _ _, kB HB⟩

/-! ### spec_foSmall: function 57 -/
def spec_foSmall.l0 : Nat → Int → List (List Int) → Int → Int → Option (Bool)
 | 0, _, _, _, _ => none
 | k + 1, x1, x11, x12, x13 => if x13 < x12 then (if 0 ≤ x13 then (if x13 < (x11.length : Int) then ((spec_l1All.f k (rd_L1 x11 x13) (wrap64 (-x1)) x1).bind fun t215 => (if t215 = true then (spec_foSmall.l0 k x1 x11 x12 (wrap64 (x13 + 1))) else (some false))) else (none)) else (none)) else (some true)
def spec_foSmall.f (k : Nat) (l0_0 : List (List Int)) (a1 : Int) : Option (Bool) := (spec_foGood.f k l0_0).bind fun t213 => (if t213 = true then (spec_foSmall.l0 k a1 l0_0 (l0_0.length : Int) 0) else (some false))
theorem spec_foSmall.mono_l : ∀ k, (∀ y0 y1 y2 y3, LeO (spec_foSmall.l0 k y0 y1 y2 y3) (spec_foSmall.l0 (k + 1) y0 y1 y2 y3))
 | 0 => fun _ _ _ _ r h => by simp [spec_foSmall.l0] at h
 | k + 1 => by
  have ih0 := spec_foSmall.mono_l k
  ·
   intro y0 y1 y2 y3; unfold spec_foSmall.l0
   repeat' with_reducible first | exact ih0 _ _ _ _ | exact spec_foGood.mono _ _ | exact spec_l1All.mono _ _ _ _ | exact LeO.refl _ | exact LeO.none _ | refine LeO.ite ?_ ?_ | refine LeO.bind ?_ (fun _ => ?_)
theorem spec_foSmall.mono : ∀ a0 a1 k, LeO (spec_foSmall.f k a0 a1) (spec_foSmall.f (k + 1) a0 a1) := by
 intro a0 a1 k; have ih0 := spec_foSmall.mono_l k; unfold spec_foSmall.f
 repeat' with_reducible first | exact ih0 _ _ _ _ | exact spec_foGood.mono _ _ | exact spec_l1All.mono _ _ _ _ | exact LeO.refl _ | exact LeO.none _ | refine LeO.ite ?_ ?_ | refine LeO.bind ?_ (fun _ => ?_)
theorem spec_foSmall.calls (k : Nat) (A0_0 : Option Addr) (c0_0 : Nat) (l0_0 : List (List Int)) (a1 : Int) (r : Bool) (w : World) (hr0_0 : Kd.C (Kd.slice 3 (Kd.int .i64)) w A0_0 l0_0.length l0_0) (hc0_0 : l0_0.length ≤ c0_0) (h : spec_foSmall.f k l0_0 a1 = some r) :
 Calls Try.prog 57 #[.agg #[.slice A0_0 l0_0.length c0_0], .int .i64 a1] w fun e w' => e = .returned (.bool r) ∧ Below w.heap.size w w' := by
 have hu26 := Try.underlying26; have HR0_0 := Aside0.mk hr0_0; have HC0_0 := Aside0.mk hc0_0; clear hr0_0 hc0_0; have HB := Aside0.mk (Below.refl w.heap.size w); have H : ((spec_foGood.f k l0_0).bind fun t213 => (if t213 = true then (spec_foSmall.l0 k a1 l0_0 (l0_0.length : Int) 0) else (some false))) = some r := h; clear h; replace H := oB H; obtain ⟨t213, A3, H⟩ := H; by_cases c4 : t213 = true
 ·
  subst c4; rw [if_pos rfl] at H; have H' := Aside0.mk H; clear H; go_enter Try.func57, Try.ntmps57; go_wp2_with (first | ((with_reducible refine gate_dst (N := 2) rfl ?_); refine box_event ?hg (N := 2) ?hd (cs := #[.slice A0_0 l0_0.length c0_0]) (t := 26) ?hr ?_; (case hd => rfl); (case hg => rfl); (case hr => exact z98_); intro gb212 hg w5 hbox hb; have BK212 := Aside0.mk (hbox); have GW212 := gW HB hg; have GE212 := gW HB hg; replace HB := sT bq hb; clear hb hbox hg; obtain ⟨hcz6_0, hfz6_0⟩ := bC BK212) | ((with_reducible refine gate_callee (f := 78) rfl ?_); refine gL (some 8) rfl rfl Try.func78 (by kernel_rfl) rfl #[.agg #[.slice A0_0 l0_0.length c0_0]] rfl ?_; (with_reducible refine (spec_foGood.calls k _ _ l0_0 true _ ?side1 ?side2 A3.out).mono ?_); (case side1 => exact cC (Kd.C_below HR0_0.out HB.out)); (case side2 => exact HC0_0.out); rintro e w7 ⟨rfl, hb⟩; refine ⟨_, rfl, ?_⟩; replace BK212 := kA BK212 hb; replace HB := sB HB hb; (try clear hb); obtain ⟨hcz8_0, hfz8_0⟩ := bC BK212)); go_loopg [13] k (fun kq v13 w' => ∃ (x13_1 : Int), v13 = .int .i64 x13_1 ∧ Aside0 (spec_foSmall.l0 kq a1 l0_0 (l0_0.length : Int) x13_1 = some r) ∧ Aside0 (kq ≤ k) ∧ Aside0 (w'.heap[gb212]? = some (.cells #[(.slice A0_0 l0_0.length c0_0)] 26 (0, 0))) ∧ Aside0 (Below w.heap.size w w'))
  case atStart => exact ⟨(0), e2, H', ⟨Nat.le_refl _⟩, ⟨by exact bA BK212⟩, ⟨kB HB⟩⟩
  case round =>
   clear H'; (try clear c4); (try clear hcz6_0); (try clear hcz8_0); (try clear hfz6_0); (try clear hfz8_0); obtain ⟨x13_1, rfl, HA, HK1, BK212, HB⟩ := hrel; cases gk with
   | zero => exact absurd HA.out (by simp [spec_foSmall.l0])
   | succ k1 =>
    have H := HA.out; clear HA; simp only [spec_foSmall.l0] at H; by_cases c9 : x13_1 < (l0_0.length : Int)
    ·
     rw [if_pos c9] at H; have c9b0 := decide_eq_true c9; clear c9; by_cases c10 : 0 ≤ x13_1
     ·
      rw [if_pos c10] at H; have c10b0 := decide_eq_true c10; clear c10; by_cases c11 : x13_1 < (l0_0.length : Int)
      ·
       rw [if_pos c11] at H; have c11b0 := decide_eq_true c11; clear c11; replace H := oB H; obtain ⟨t215, A12, H⟩ := H; by_cases c13 : t215 = true
       ·
        subst c13; rw [if_pos rfl] at H; have H' := Aside0.mk H; clear H; have p214 : 0 ≤ (x13_1 : Int) := od; have q214 : x13_1 < (l0_0.length : Int) := od; obtain ⟨ad214, A214_0, c214_0, e214, hx214_0, hl214_0, hi214_0⟩ := at_L1 HR0_0.out x13_1 p214 q214; cases e214; replace hx214_0 := (HB.out.cell (World.block_lt_of_cell? w _ hx214_0)).trans hx214_0; have HR214_0 := Aside0.mk hi214_0; have HC214_0 := Aside0.mk hl214_0; clear hi214_0 hl214_0; replace p214 := eq_true p214; replace q214 := eq_true q214; go_wp2_with (first | ((with_reducible refine gate_callee (f := 74) rfl ?_); refine gL (some 21) rfl rfl Try.func74 (by kernel_rfl) rfl #[.slice A214_0 (rd_L1 l0_0 x13_1).length c214_0, .int .i64 (wrap64 (-a1)), .int .i64 a1] rfl ?_; (with_reducible refine (spec_l1All.calls k1 _ _ (rd_L1 l0_0 x13_1) (wrap64 (-a1)) a1 true _ ?side1 ?side2 A12.out).mono ?_); (case side1 => exact cC (Kd.C_below HR214_0.out HB.out)); (case side2 => exact HC214_0.out); rintro e w' ⟨rfl, ⟨nd, rfl⟩⟩; refine ⟨_, rfl, ?_⟩)); go_roundg k1
        case measure => have := HK1.out; omega
        case rel => exact ⟨(wrap64 (x13_1 + 1)), e2, H', ⟨by have := HK1.out; omega⟩, ⟨by exact bA BK212⟩, ⟨kB HB⟩⟩
       · replace c13 := Bool.eq_false_iff.mpr c13; subst c13; rw [if_neg (show ¬ (false = true) by decide)] at H; obtain rfl := Option.some.inj H; have p214 : 0 ≤ (x13_1 : Int) := od; have q214 : x13_1 < (l0_0.length : Int) := od; obtain ⟨ad214, A214_0, c214_0, e214, hx214_0, hl214_0, hi214_0⟩ := at_L1 HR0_0.out x13_1 p214 q214; cases e214; replace hx214_0 := (HB.out.cell (World.block_lt_of_cell? w _ hx214_0)).trans hx214_0; have HR214_0 := Aside0.mk hi214_0; have HC214_0 := Aside0.mk hl214_0; clear hi214_0 hl214_0; replace p214 := eq_true p214; replace q214 := eq_true q214; go_wp2_with (first | ((with_reducible refine gate_callee (f := 74) rfl ?_); refine gL (some 21) rfl rfl Try.func74 (by kernel_rfl) rfl #[.slice A214_0 (rd_L1 l0_0 x13_1).length c214_0, .int .i64 (wrap64 (-a1)), .int .i64 a1] rfl ?_; (with_reducible refine (spec_l1All.calls k1 _ _ (rd_L1 l0_0 x13_1) (wrap64 (-a1)) a1 false _ ?side1 ?side2 A12.out).mono ?_); (case side1 => exact cC (Kd.C_below HR214_0.out HB.out)); (case side2 => exact HC214_0.out); rintro e w' ⟨rfl, ⟨nd, rfl⟩⟩; refine ⟨_, rfl, ?_⟩)); go_ret; exact ⟨e1, kB HB⟩
      · rw [if_neg c11] at H; exact absurd H (by simp)
     · rw [if_neg c10] at H; exact absurd H (by simp)
    · rw [if_neg c9] at H; have c9b0 := decide_eq_false c9; clear c9; obtain rfl := Option.some.inj H; go_wp2; go_ret; exact ⟨e1, kB HB⟩
 · replace c4 := Bool.eq_false_iff.mpr c4; subst c4; rw [if_neg (show ¬ (false = true) by decide)] at H; obtain rfl := Option.some.inj H; go_enter Try.func57, Try.ntmps57; go_wp2_with (first | ((with_reducible refine gate_dst (N := 2) rfl ?_); refine box_event ?hg (N := 2) ?hd (cs := #[.slice A0_0 l0_0.length c0_0]) (t := 26) ?hr ?_; (case hd => rfl); (case hg => rfl); (case hr => exact z98_); intro gb212 hg w14 hbox hb; have BK212 := Aside0.mk (hbox); have GW212 := gW HB hg; have GE212 := gW HB hg; replace HB := sT bq hb; clear hb hbox hg; obtain ⟨hcz15_0, hfz15_0⟩ := bC BK212) | ((with_reducible refine gate_callee (f := 78) rfl ?_); refine gL (some 8) rfl rfl Try.func78 (by kernel_rfl) rfl #[.agg #[.slice A0_0 l0_0.length c0_0]] rfl ?_; (with_reducible refine (spec_foGood.calls k _ _ l0_0 false _ ?side1 ?side2 A3.out).mono ?_); (case side1 => exact cC (Kd.C_below HR0_0.out HB.out)); (case side2 => exact HC0_0.out); rintro e w16 ⟨rfl, hb⟩; refine ⟨_, rfl, ?_⟩; replace BK212 := kA BK212 hb; replace HB := sB HB hb; (try clear hb))); go_ret; exact ⟨e1, kB HB⟩

/-! ### spec_l1Same: function 123 -/
def spec_l1Same.l0 : Nat → List Int → List Int → Int → Int → Option (Bool)
 | 0, _, _, _, _ => none
 | k + 1, x0, x1, x12, x13 => if x13 < x12 then (if 0 ≤ x13 then (if x13 < (x0.length : Int) then (if x13 < (x1.length : Int) then (if (rd x0 x13) = (rd x1 x13) then (spec_l1Same.l0 k x0 x1 x12 (wrap64 (x13 + 1))) else (some false)) else (none)) else (none)) else (none)) else (some true)
def spec_l1Same.f (k : Nat) (l0 : List Int) (l1 : List Int) : Option (Bool) := if (l0.length : Int) = (l1.length : Int) then (spec_l1Same.l0 k l0 l1 (l0.length : Int) 0) else (some false)
theorem spec_l1Same.mono_l : ∀ k, (∀ y0 y1 y2 y3, LeO (spec_l1Same.l0 k y0 y1 y2 y3) (spec_l1Same.l0 (k + 1) y0 y1 y2 y3))
 | 0 => fun _ _ _ _ r h => by simp [spec_l1Same.l0] at h
 | k + 1 => by
  have ih0 := spec_l1Same.mono_l k
  ·
   intro y0 y1 y2 y3; unfold spec_l1Same.l0
   repeat' with_reducible first | exact ih0 _ _ _ _ | exact LeO.refl _ | exact LeO.none _ | refine LeO.ite ?_ ?_ | refine LeO.bind ?_ (fun _ => ?_)
theorem spec_l1Same.mono : ∀ a0 a1 k, LeO (spec_l1Same.f k a0 a1) (spec_l1Same.f (k + 1) a0 a1) := by
 intro a0 a1 k; have ih0 := spec_l1Same.mono_l k; unfold spec_l1Same.f
 repeat' with_reducible first | exact ih0 _ _ _ _ | exact LeO.refl _ | exact LeO.none _ | refine LeO.ite ?_ ?_ | refine LeO.bind ?_ (fun _ => ?_)
theorem spec_l1Same.calls (k : Nat) (A0 : Option Addr) (c0 : Nat) (l0 : List Int) (A1 : Option Addr) (c1 : Nat) (l1 : List Int) (r : Bool) (w : World) (hr0 : Kd.C (Kd.int .i64) w A0 l0.length l0) (hc0 : l0.length ≤ c0) (hr1 : Kd.C (Kd.int .i64) w A1 l1.length l1) (hc1 : l1.length ≤ c1) (h : spec_l1Same.f k l0 l1 = some r) :
 Calls Try.prog 123 #[.slice A0 l0.length c0, .slice A1 l1.length c1] w fun e w' => e = .returned (.bool r) ∧ Drawn0 w w' := by
 have HR0 := Aside0.mk hr0; have HC0 := Aside0.mk hc0; clear hr0 hc0; have HR1 := Aside0.mk hr1; have HC1 := Aside0.mk hc1; clear hr1 hc1; have H : (if (l0.length : Int) = (l1.length : Int) then (spec_l1Same.l0 k l0 l1 (l0.length : Int) 0) else (some false)) = some r := h; clear h; by_cases c3 : (l0.length : Int) = (l1.length : Int)
 ·
  rw [if_pos c3] at H; have c3b0 : ((l0.length : Int) == (l1.length : Int)) = true := beq_iff_eq.mpr c3; have c3b1 : ((l0.length : Int) != (l1.length : Int)) = false := bne_eq_false_iff_eq.mpr c3; have c3b2 : (l0.length == l1.length) = true := by first | simpa using c3 | (simp at c3 ⊢; omega)
  clear c3; have H' := Aside0.mk H; clear H; go_enter Try.func123, Try.ntmps123; go_wp2
  repeat (go_quiet (fail); try go_wp2)
  go_loopg [13] k (fun kq v13 w' => ∃ (x13_1 : Int), v13 = .int .i64 x13_1 ∧ Aside0 (spec_l1Same.l0 kq l0 l1 (l0.length : Int) x13_1 = some r) ∧ Aside0 (kq ≤ k) ∧ Drawn0 w w')
  case atStart => exact ⟨(0), e2, H', ⟨Nat.le_refl _⟩, dz⟩
  case round =>
   clear H'; (try clear c3); (try clear c3b0); (try clear c3b1); (try clear c3b2); obtain ⟨x13_1, rfl, HA, HK1, ⟨m1, rfl⟩⟩ := hrel; cases gk with
   | zero => exact absurd HA.out (by simp [spec_l1Same.l0])
   | succ k1 =>
    have H := HA.out; clear HA; simp only [spec_l1Same.l0] at H; by_cases c4 : x13_1 < (l0.length : Int)
    ·
     rw [if_pos c4] at H; have c4b0 := decide_eq_true c4; clear c4; by_cases c5 : 0 ≤ x13_1
     ·
      rw [if_pos c5] at H; have c5b0 := decide_eq_true c5; clear c5; by_cases c6 : x13_1 < (l0.length : Int)
      ·
       rw [if_pos c6] at H; have c6b0 := decide_eq_true c6; clear c6; by_cases c7 : x13_1 < (l1.length : Int)
       ·
        rw [if_pos c7] at H; have c7b0 := decide_eq_true c7; clear c7; by_cases c8 : (rd l0 x13_1) = (rd l1 x13_1)
        ·
         rw [if_pos c8] at H; have c8b0 : ((rd l0 x13_1) == (rd l1 x13_1)) = true := beq_iff_eq.mpr c8; have c8b1 : ((rd l0 x13_1) != (rd l1 x13_1)) = false := bne_eq_false_iff_eq.mpr c8; clear c8; have H' := Aside0.mk H; clear H; have p216 : 0 ≤ (x13_1 : Int) := od; have q216 : x13_1 < (l0.length : Int) := od; obtain ⟨ad216, e216, hx216_0⟩ := Kd.at_int HR0.out x13_1 p216 q216; cases e216; replace p216 := eq_true p216; replace q216 := eq_true q216; have p217 : 0 ≤ (x13_1 : Int) := od; have q217 : x13_1 < (l1.length : Int) := od; obtain ⟨ad217, e217, hx217_0⟩ := Kd.at_int HR1.out x13_1 p217 q217; cases e217; replace p217 := eq_true p217; replace q217 := eq_true q217; go_wp2
         repeat (go_quiet (fail); try go_wp2)
         go_roundg k1
         case measure => have := HK1.out; omega
         case rel => exact ⟨(wrap64 (x13_1 + 1)), e2, H', ⟨by have := HK1.out; omega⟩, dz⟩
        ·
         rw [if_neg c8] at H; have c8b0 : ((rd l0 x13_1) == (rd l1 x13_1)) = false := beq_eq_false_iff_ne.mpr c8; have c8b1 : ((rd l0 x13_1) != (rd l1 x13_1)) = true := bne_iff_ne.mpr c8; obtain rfl := Option.some.inj H; have p216 : 0 ≤ (x13_1 : Int) := od; have q216 : x13_1 < (l0.length : Int) := od; obtain ⟨ad216, e216, hx216_0⟩ := Kd.at_int HR0.out x13_1 p216 q216; cases e216; replace p216 := eq_true p216; replace q216 := eq_true q216; have p217 : 0 ≤ (x13_1 : Int) := od; have q217 : x13_1 < (l1.length : Int) := od; obtain ⟨ad217, e217, hx217_0⟩ := Kd.at_int HR1.out x13_1 p217 q217; cases e217; replace p217 := eq_true p217; replace q217 := eq_true q217; go_wp2
         repeat (go_quiet (fail); try go_wp2)
         go_ret; exact ⟨e2, dz⟩
       · rw [if_neg c7] at H; exact absurd H (by simp)
      · rw [if_neg c6] at H; exact absurd H (by simp)
     · rw [if_neg c5] at H; exact absurd H (by simp)
    ·
     rw [if_neg c4] at H; have c4b0 := decide_eq_false c4; clear c4; obtain rfl := Option.some.inj H; go_wp2
     repeat (go_quiet (fail); try go_wp2)
     go_ret; exact ⟨e2, dz⟩
 ·
  rw [if_neg c3] at H; have c3b0 : ((l0.length : Int) == (l1.length : Int)) = false := beq_eq_false_iff_ne.mpr c3; have c3b1 : ((l0.length : Int) != (l1.length : Int)) = true := bne_iff_ne.mpr c3; have c3b2 : (l0.length == l1.length) = false := by first | simpa using c3 | (simp at c3 ⊢; omega)
  obtain rfl := Option.some.inj H; go_enter Try.func123, Try.ntmps123; go_wp2
  repeat (go_quiet (fail); try go_wp2)
  go_ret; exact ⟨e2, dz⟩

/-! ### spec_foSame: function 105 -/
def spec_foSame.l0 : Nat → List (List Int) → Int → Int → List (List Int) → List (List Int) → Option (Bool)
 | 0, _, _, _, _, _ => none
 | k + 1, x8, x9, x10, x219000, x220000 => if x10 < x9 then (if 0 ≤ x10 then (if x10 < (x8.length : Int) then (if x10 < (x220000.length : Int) then ((spec_l1Same.f k (rd_L1 x8 x10) (rd_L1 x220000 x10)).bind fun t222 => (if t222 = true then (spec_foSame.l0 k x8 x9 (wrap64 (x10 + 1)) x219000 x220000) else (some false))) else (none)) else (none)) else (none)) else (some ((x219000.length : Int) == (x220000.length : Int)))
def spec_foSame.f (k : Nat) (l0_0 : List (List Int)) (l1_0 : List (List Int)) : Option (Bool) := spec_foSame.l0 k l0_0 (l0_0.length : Int) 0 l0_0 l1_0
theorem spec_foSame.mono_l : ∀ k, (∀ y0 y1 y2 y3 y4, LeO (spec_foSame.l0 k y0 y1 y2 y3 y4) (spec_foSame.l0 (k + 1) y0 y1 y2 y3 y4))
 | 0 => fun _ _ _ _ _ r h => by simp [spec_foSame.l0] at h
 | k + 1 => by
  have ih0 := spec_foSame.mono_l k
  ·
   intro y0 y1 y2 y3 y4; unfold spec_foSame.l0
   repeat' with_reducible first | exact ih0 _ _ _ _ _ | exact spec_l1Same.mono _ _ _ | exact LeO.refl _ | exact LeO.none _ | refine LeO.ite ?_ ?_ | refine LeO.bind ?_ (fun _ => ?_)
theorem spec_foSame.mono : ∀ a0 a1 k, LeO (spec_foSame.f k a0 a1) (spec_foSame.f (k + 1) a0 a1) := by
 intro a0 a1 k; have ih0 := spec_foSame.mono_l k; unfold spec_foSame.f
 repeat' with_reducible first | exact ih0 _ _ _ _ _ | exact spec_l1Same.mono _ _ _ | exact LeO.refl _ | exact LeO.none _ | refine LeO.ite ?_ ?_ | refine LeO.bind ?_ (fun _ => ?_)
theorem spec_foSame.calls (k : Nat) (A0_0 : Option Addr) (c0_0 : Nat) (l0_0 : List (List Int)) (A1_0 : Option Addr) (c1_0 : Nat) (l1_0 : List (List Int)) (r : Bool) (w : World) (hr0_0 : Kd.C (Kd.slice 3 (Kd.int .i64)) w A0_0 l0_0.length l0_0) (hc0_0 : l0_0.length ≤ c0_0) (hr1_0 : Kd.C (Kd.slice 3 (Kd.int .i64)) w A1_0 l1_0.length l1_0) (hc1_0 : l1_0.length ≤ c1_0) (h : spec_foSame.f k l0_0 l1_0 = some r) :
 Calls Try.prog 105 #[.agg #[.slice A0_0 l0_0.length c0_0], .agg #[.slice A1_0 l1_0.length c1_0]] w fun e w' => e = .returned (.bool r) ∧ Below w.heap.size w w' := by
 have hu26 := Try.underlying26; have HR0_0 := Aside0.mk hr0_0; have HC0_0 := Aside0.mk hc0_0; clear hr0_0 hc0_0; have HR1_0 := Aside0.mk hr1_0; have HC1_0 := Aside0.mk hc1_0; clear hr1_0 hc1_0; have HB := Aside0.mk (Below.refl w.heap.size w); have H : (spec_foSame.l0 k l0_0 (l0_0.length : Int) 0 l0_0 l1_0) = some r := h; clear h; have H' := Aside0.mk H; clear H; go_enter Try.func105, Try.ntmps105; go_wp2_with (first | ((with_reducible refine gate_dst (N := 2) rfl ?_); refine box_event ?hg (N := 2) ?hd (cs := #[.slice A0_0 l0_0.length c0_0]) (t := 26) ?hr ?_; (case hd => rfl); (case hg => rfl); (case hr => exact z98_); intro gb218 hg w3 hbox hb; have BK218 := Aside0.mk (hbox); have GW218 := gW HB hg; have GE218 := gW HB hg; replace HB := sT bq hb; clear hb hbox hg) | ((with_reducible refine gate_dst (N := 3) rfl ?_); refine box_event ?hg (N := 3) ?hd (cs := #[.slice A1_0 l1_0.length c1_0]) (t := 26) ?hr ?_; (case hd => rfl); (case hg => rfl); (case hr => exact z98_); intro gb219 hg w4 hbox hb; have BK219 := Aside0.mk (hbox); have GW219 := gW HB hg; have GE219 := gW HB hg; replace HB := sB HB hb; obtain ⟨NB218_219, NB219_218⟩ := nE BK218 hg; replace BK218 := kA BK218 hb; clear hb hbox hg; obtain ⟨hnb5, hnc5⟩ := nB NB218_219; obtain ⟨hcz6_0, hfz6_0⟩ := bC BK218)); go_loopg [10] k (fun kq v10 w' => ∃ (x10_1 : Int), v10 = .int .i64 x10_1 ∧ Aside0 (spec_foSame.l0 kq l0_0 (l0_0.length : Int) x10_1 l0_0 l1_0 = some r) ∧ Aside0 (kq ≤ k) ∧ Aside0 (w'.heap[gb218]? = some (.cells #[(.slice A0_0 l0_0.length c0_0)] 26 (0, 0))) ∧ Aside0 (w'.heap[gb219]? = some (.cells #[(.slice A1_0 l1_0.length c1_0)] 26 (0, 0))) ∧ Aside0 (Below w.heap.size w w'))
 case atStart => exact ⟨(0), e2, H', ⟨Nat.le_refl _⟩, ⟨by exact bA BK218⟩, ⟨by exact bA BK219⟩, ⟨kB HB⟩⟩
 case round =>
  clear H'; (try clear hcz6_0); (try clear hfz6_0); obtain ⟨x10_1, rfl, HA, HK1, BK218, BK219, HB⟩ := hrel; cases gk with
  | zero => exact absurd HA.out (by simp [spec_foSame.l0])
  | succ k1 =>
   have H := HA.out; clear HA; simp only [spec_foSame.l0] at H; by_cases c7 : x10_1 < (l0_0.length : Int)
   ·
    rw [if_pos c7] at H; have c7b0 := decide_eq_true c7; clear c7; by_cases c8 : 0 ≤ x10_1
    ·
     rw [if_pos c8] at H; have c8b0 := decide_eq_true c8; clear c8; by_cases c9 : x10_1 < (l0_0.length : Int)
     ·
      rw [if_pos c9] at H; have c9b0 := decide_eq_true c9; clear c9; by_cases c10 : x10_1 < (l1_0.length : Int)
      ·
       rw [if_pos c10] at H; have c10b0 := decide_eq_true c10; clear c10; replace H := oB H; obtain ⟨t222, A11, H⟩ := H; by_cases c12 : t222 = true
       ·
        subst c12; rw [if_pos rfl] at H; have H' := Aside0.mk H; clear H; have p220 : 0 ≤ (x10_1 : Int) := od; have q220 : x10_1 < (l0_0.length : Int) := od; obtain ⟨ad220, A220_0, c220_0, e220, hx220_0, hl220_0, hi220_0⟩ := at_L1 HR0_0.out x10_1 p220 q220; cases e220; replace hx220_0 := (HB.out.cell (World.block_lt_of_cell? w _ hx220_0)).trans hx220_0; have HR220_0 := Aside0.mk hi220_0; have HC220_0 := Aside0.mk hl220_0; clear hi220_0 hl220_0; replace p220 := eq_true p220; replace q220 := eq_true q220; obtain ⟨hnb13, hnc13⟩ := nB NB219_218; obtain ⟨hcz14_0, hfz14_0⟩ := bC BK219; have p221 : 0 ≤ (x10_1 : Int) := od; have q221 : x10_1 < (l1_0.length : Int) := od; obtain ⟨ad221, A221_0, c221_0, e221, hx221_0, hl221_0, hi221_0⟩ := at_L1 HR1_0.out x10_1 p221 q221; cases e221; replace hx221_0 := (HB.out.cell (World.block_lt_of_cell? w _ hx221_0)).trans hx221_0; have HR221_0 := Aside0.mk hi221_0; have HC221_0 := Aside0.mk hl221_0; clear hi221_0 hl221_0; replace p221 := eq_true p221; replace q221 := eq_true q221; go_wp2_with (first | ((with_reducible refine gate_callee (f := 123) rfl ?_); refine gL (some 21) rfl rfl Try.func123 (by kernel_rfl) rfl #[.slice A220_0 (rd_L1 l0_0 x10_1).length c220_0, .slice A221_0 (rd_L1 l1_0 x10_1).length c221_0] rfl ?_; (with_reducible refine (spec_l1Same.calls k1 _ _ (rd_L1 l0_0 x10_1) _ _ (rd_L1 l1_0 x10_1) true _ ?side1 ?side2 ?side3 ?side4 A11.out).mono ?_); (case side1 => exact cC (Kd.C_below HR220_0.out HB.out)); (case side2 => exact HC220_0.out); (case side3 => exact cC (Kd.C_below HR221_0.out HB.out)); (case side4 => exact HC221_0.out); rintro e w' ⟨rfl, ⟨nd, rfl⟩⟩; refine ⟨_, rfl, ?_⟩)); go_roundg k1
        case measure => have := HK1.out; omega
        case rel => exact ⟨(wrap64 (x10_1 + 1)), e2, H', ⟨by have := HK1.out; omega⟩, ⟨by exact bA BK218⟩, ⟨by exact bA BK219⟩, ⟨kB HB⟩⟩
       · replace c12 := Bool.eq_false_iff.mpr c12; subst c12; rw [if_neg (show ¬ (false = true) by decide)] at H; obtain rfl := Option.some.inj H; have p220 : 0 ≤ (x10_1 : Int) := od; have q220 : x10_1 < (l0_0.length : Int) := od; obtain ⟨ad220, A220_0, c220_0, e220, hx220_0, hl220_0, hi220_0⟩ := at_L1 HR0_0.out x10_1 p220 q220; cases e220; replace hx220_0 := (HB.out.cell (World.block_lt_of_cell? w _ hx220_0)).trans hx220_0; have HR220_0 := Aside0.mk hi220_0; have HC220_0 := Aside0.mk hl220_0; clear hi220_0 hl220_0; replace p220 := eq_true p220; replace q220 := eq_true q220; obtain ⟨hnb15, hnc15⟩ := nB NB219_218; obtain ⟨hcz16_0, hfz16_0⟩ := bC BK219; have p221 : 0 ≤ (x10_1 : Int) := od; have q221 : x10_1 < (l1_0.length : Int) := od; obtain ⟨ad221, A221_0, c221_0, e221, hx221_0, hl221_0, hi221_0⟩ := at_L1 HR1_0.out x10_1 p221 q221; cases e221; replace hx221_0 := (HB.out.cell (World.block_lt_of_cell? w _ hx221_0)).trans hx221_0; have HR221_0 := Aside0.mk hi221_0; have HC221_0 := Aside0.mk hl221_0; clear hi221_0 hl221_0; replace p221 := eq_true p221; replace q221 := eq_true q221; go_wp2_with (first | ((with_reducible refine gate_callee (f := 123) rfl ?_); refine gL (some 21) rfl rfl Try.func123 (by kernel_rfl) rfl #[.slice A220_0 (rd_L1 l0_0 x10_1).length c220_0, .slice A221_0 (rd_L1 l1_0 x10_1).length c221_0] rfl ?_; (with_reducible refine (spec_l1Same.calls k1 _ _ (rd_L1 l0_0 x10_1) _ _ (rd_L1 l1_0 x10_1) false _ ?side1 ?side2 ?side3 ?side4 A11.out).mono ?_); (case side1 => exact cC (Kd.C_below HR220_0.out HB.out)); (case side2 => exact HC220_0.out); (case side3 => exact cC (Kd.C_below HR221_0.out HB.out)); (case side4 => exact HC221_0.out); rintro e w' ⟨rfl, ⟨nd, rfl⟩⟩; refine ⟨_, rfl, ?_⟩)); go_ret; exact ⟨e1, kB HB⟩
      · rw [if_neg c10] at H; exact absurd H (by simp)
     · rw [if_neg c9] at H; exact absurd H (by simp)
    · rw [if_neg c8] at H; exact absurd H (by simp)
   · rw [if_neg c7] at H; have c7b0 := decide_eq_false c7; clear c7; obtain rfl := Option.some.inj H; obtain ⟨hnb17, hnc17⟩ := nB NB218_219; obtain ⟨hcz18_0, hfz18_0⟩ := bC BK218; obtain ⟨hcz19_0, hfz19_0⟩ := bC BK219; go_wp2; go_ret; exact ⟨e1, kB HB⟩

/-! ### spec_foTranspose: function 106 -/
mutual
def spec_foTranspose.l0 : Nat → List (List Int) → Int → Int → List (List Int) → Option ((List (List Int)))
 | 0, _, _, _, _ => none
 | k + 1, x13, x14, x15, x229000 => if x15 < x14 then (if 0 ≤ x15 then (if x15 < (x13.length : Int) then (spec_foTranspose.l1 k x15 x13 x14 x15 (rd_L1 x13 x15) ((rd_L1 x13 x15).length : Int) 0 x229000) else (none)) else (none)) else (some x229000)
def spec_foTranspose.l1 : Nat → Int → List (List Int) → Int → Int → List Int → Int → Int → List (List Int) → Option ((List (List Int)))
 | 0, _, _, _, _, _, _, _, _ => none
 | k + 1, x4, x13, x14, x15, x20, x21, x22, x229000 => if x22 < x21 then (if 0 ≤ x22 then (if x22 < (x20.length : Int) then (if x22 < (x229000.length : Int) then (if 0 ≤ x4 then (if x4 < ((rd_L1 x229000 x22).length : Int) then (spec_foTranspose.l1 k x4 x13 x14 x15 x20 x21 (wrap64 (x22 + 1)) (x229000.set (x22 : Int).toNat ((rd_L1 x229000 x22).set (x4 : Int).toNat (rd x20 x22)))) else (none)) else (none)) else (none)) else (none)) else (none)) else (spec_foTranspose.l0 k x13 x14 (wrap64 (x15 + 1)) x229000)
end
def spec_foTranspose.f (k : Nat) (l0_0 : List (List Int)) : Option ((List (List Int))) := (spec_foZero.f k (l0_0.length : Int)).bind fun t225 => (spec_foTranspose.l0 k l0_0 (l0_0.length : Int) 0 t225)
theorem spec_foTranspose.mono_l : ∀ k, (∀ y0 y1 y2 y3, LeO (spec_foTranspose.l0 k y0 y1 y2 y3) (spec_foTranspose.l0 (k + 1) y0 y1 y2 y3)) ∧ (∀ y0 y1 y2 y3 y4 y5 y6 y7, LeO (spec_foTranspose.l1 k y0 y1 y2 y3 y4 y5 y6 y7) (spec_foTranspose.l1 (k + 1) y0 y1 y2 y3 y4 y5 y6 y7))
 | 0 => ⟨fun _ _ _ _ r h => by simp [spec_foTranspose.l0] at h, fun _ _ _ _ _ _ _ _ r h => by simp [spec_foTranspose.l1] at h⟩
 | k + 1 => by
  obtain ⟨ih0, ih1⟩ := spec_foTranspose.mono_l k; refine ⟨?_, ?_⟩
  all_goals
   intros
   first | unfold spec_foTranspose.l0 | unfold spec_foTranspose.l1
   repeat' with_reducible first | exact ih0 _ _ _ _ | exact ih1 _ _ _ _ _ _ _ _ | exact spec_foZero.mono _ _ | exact LeO.refl _ | exact LeO.none _ | refine LeO.ite ?_ ?_ | refine LeO.bind ?_ (fun _ => ?_)
theorem spec_foTranspose.mono : ∀ a0 k, LeO (spec_foTranspose.f k a0) (spec_foTranspose.f (k + 1) a0) := by
 intro a0 k; obtain ⟨ih0, ih1⟩ := spec_foTranspose.mono_l k; unfold spec_foTranspose.f
 repeat' with_reducible first | exact ih0 _ _ _ _ | exact ih1 _ _ _ _ _ _ _ _ | exact spec_foZero.mono _ _ | exact LeO.refl _ | exact LeO.none _ | refine LeO.ite ?_ ?_ | refine LeO.bind ?_ (fun _ => ?_)
theorem spec_foTranspose.calls (k : Nat) (A0_0 : Option Addr) (c0_0 : Nat) (l0_0 : List (List Int)) (r : List (List Int)) (w : World) (hr0_0 : Kd.C (Kd.slice 3 (Kd.int .i64)) w A0_0 l0_0.length l0_0) (hc0_0 : l0_0.length ≤ c0_0) (h : spec_foTranspose.f k l0_0 = some r) :
 Calls Try.prog 106 #[.agg #[.slice A0_0 l0_0.length c0_0]] w fun e w' => ∃ v0_ : Value, e = .returned (.agg #[v0_]) ∧ Kd.S (Kd.slice 3 (Kd.int .i64)) 34 w' w.heap.size (fun _ => True) v0_ r ∧ Below w.heap.size w w' := by
 have hu26 := Try.underlying26; have HR0_0 := Aside0.mk hr0_0; have HC0_0 := Aside0.mk hc0_0; clear hr0_0 hc0_0; have HB := Aside0.mk (Below.refl w.heap.size w); have H : ((spec_foZero.f k (l0_0.length : Int)).bind fun t225 => (spec_foTranspose.l0 k l0_0 (l0_0.length : Int) 0 t225)) = some r := h; clear h; replace H := oB H; obtain ⟨t225, A2, H⟩ := H; have H' := Aside0.mk H; clear H; go_enter Try.func106, Try.ntmps106; go_wp2_with (first | ((with_reducible refine gate_dst (N := 1) rfl ?_); refine box_event ?hg (N := 1) ?hd (cs := #[.slice A0_0 l0_0.length c0_0]) (t := 26) ?hr ?_; (case hd => rfl); (case hg => rfl); (case hr => exact z98_); intro gb223 hg w3 hbox hb; have BK223 := Aside0.mk (hbox); have GW223 := gW HB hg; have GE223 := gW HB hg; replace HB := sT bq hb; clear hb hbox hg) | ((with_reducible refine gate_dst (N := 2) rfl ?_); refine box_event ?hg (N := 2) ?hd (cs := #[.slice none 0 0]) (t := 26) ?hr ?_; (case hd => rfl); (case hg => rfl); (case hr => exact z98_); intro gb224 hg w4 hbox hb; have BK224 := Aside0.mk (hbox); have GW224 := gW HB hg; have GE224 := gW HB hg; replace HB := sB HB hb; obtain ⟨NB223_224, NB224_223⟩ := nE BK223 hg; replace BK223 := kA BK223 hb; clear hb hbox hg; obtain ⟨hnb5, hnc5⟩ := nB NB223_224; obtain ⟨hcz6_0, hfz6_0⟩ := bC BK223) | ((with_reducible refine gate_callee (f := 59) rfl ?_); refine gL (some 11) rfl rfl Try.func59 (by kernel_rfl) rfl #[.int .i64 (l0_0.length : Int)] rfl ?_; (with_reducible refine (spec_foZero.calls k (l0_0.length : Int) t225 _ A2.out).mono ?_); rintro e w7 ⟨v226, rfl, ho0, hb⟩; refine ⟨_, rfl, ?_⟩; have HO227 := Aside0.mk (Kd.S_lower ho0 (below_size (kB HB))); replace BK223 := kA BK223 hb; replace BK224 := kA BK224 hb; replace HB := sB HB hb; (try clear hb); (try clear ho0)) | ((with_reducible refine gate_dst (N := 3) rfl ?_); refine box_event ?hg (N := 3) ?hd (cs := #[.slice none 0 0]) (t := 26) ?hr ?_; (case hd => rfl); (case hg => rfl); (case hr => exact z98_); intro gb228 hg w8 hbox hb; replace HO227 := Aside0.mk (Kd.S_below (sP HO227.out) hb); have BK228 := Aside0.mk (hbox); have GW228 := gW HB hg; have GE228 := gW HB hg; replace HB := sB HB hb; obtain ⟨NB223_228, NB228_223⟩ := nE BK223 hg; replace BK223 := kA BK223 hb; obtain ⟨NB224_228, NB228_224⟩ := nE BK224 hg; replace BK224 := kA BK224 hb; clear hb hbox hg; obtain ⟨Ao9, co9, eo9⟩ := Kd.S_slice HO227.out; subst eo9; obtain ⟨hnb10, hnc10⟩ := nB NB228_223; obtain ⟨hnb11, hnc11⟩ := nB NB228_224; obtain ⟨hcz12_0, hfz12_0⟩ := bC BK228; obtain ⟨hcz13_0, hfz13_0⟩ := bC BK223)); go_loopg [15] k (fun kq v15 w' => ∃ (x15_1 : Int) (x229000_1 : List (List Int)) (u229000 : Value), v15 = .int .i64 x15_1 ∧ Aside0 (spec_foTranspose.l0 kq l0_0 (l0_0.length : Int) x15_1 x229000_1 = some r) ∧ Aside0 (kq ≤ k) ∧ Aside0 (Kd.S (Kd.slice 3 (Kd.int .i64)) 34 w' w.heap.size (fun _ => True) u229000 x229000_1) ∧ Aside0 (w'.heap[gb223]? = some (.cells #[(.slice A0_0 l0_0.length c0_0)] 26 (0, 0))) ∧ Aside0 (w'.heap[gb224]? = some (.cells #[(.slice none 0 0)] 26 (0, 0))) ∧ Aside0 (w'.heap[gb228]? = some (.cells #[u229000] 26 (0, 0))) ∧ Aside0 (Below w.heap.size w w'))
 case atStart => exact ⟨(0), (t225), (.slice Ao9 t225.length co9), e2, H', ⟨Nat.le_refl _⟩, ⟨sP (Kd.S_mono (Kd.S_far (p := ⟨gb228, 0, none⟩) (Kd.S_types HO227.out BK228.out (by decide)) (fun _ hk => hk.2) (.slice Ao9 t225.length co9)) (fun _ hk => trivial))⟩, ⟨by refine bR ?_; refine blk_far ?_ NB223_228.out _; exact bA BK223⟩, ⟨by refine bR ?_; refine blk_far ?_ NB224_228.out _; exact bA BK224⟩, ⟨by refine bR ?_; refine blk_put (cs := #[.slice none 0 0]) ?_ 0 _ rfl; exact bA BK228⟩, ⟨kB HB⟩⟩
 case round =>
  clear H'; (try clear hcz12_0); (try clear hcz13_0); (try clear hcz6_0); (try clear hfz12_0); (try clear hfz13_0); (try clear hfz6_0); obtain ⟨x15_1, x229000_1, u229000, rfl, HA, HK1, HO_229000, BK223, BK224, BK228, HB⟩ := hrel; cases gk with
  | zero => exact absurd HA.out (by simp [spec_foTranspose.l0])
  | succ k1 =>
   have H := HA.out; clear HA; simp only [spec_foTranspose.l0] at H; by_cases c14 : x15_1 < (l0_0.length : Int)
   ·
    rw [if_pos c14] at H; have c14b0 := decide_eq_true c14; clear c14; by_cases c15 : 0 ≤ x15_1
    ·
     rw [if_pos c15] at H; have c15b0 := decide_eq_true c15; clear c15; by_cases c16 : x15_1 < (l0_0.length : Int)
     ·
      rw [if_pos c16] at H; have c16b0 := decide_eq_true c16; clear c16; have H' := Aside0.mk H; clear H; have p229 : 0 ≤ (x15_1 : Int) := od; have q229 : x15_1 < (l0_0.length : Int) := od; obtain ⟨ad229, A229_0, c229_0, e229, hx229_0, hl229_0, hi229_0⟩ := at_L1 HR0_0.out x15_1 p229 q229; cases e229; replace hx229_0 := (HB.out.cell (World.block_lt_of_cell? w _ hx229_0)).trans hx229_0; have HR229_0 := Aside0.mk hi229_0; have HC229_0 := Aside0.mk hl229_0; clear hi229_0 hl229_0; replace p229 := eq_true p229; replace q229 := eq_true q229; go_wp2; go_loopg [22] k1 (fun kq v22 w' => ∃ (x22_2 : Int) (x229000_2 : List (List Int)) (u229000 : Value), v22 = .int .i64 x22_2 ∧ Aside0 (spec_foTranspose.l1 kq x15_1 l0_0 (l0_0.length : Int) x15_1 (rd_L1 l0_0 x15_1) ((rd_L1 l0_0 x15_1).length : Int) x22_2 x229000_2 = some r) ∧ Aside0 (kq ≤ k1) ∧ Aside0 (Kd.S (Kd.slice 3 (Kd.int .i64)) 34 w' w.heap.size (fun _ => True) u229000 x229000_2) ∧ Aside0 (w'.heap[gb223]? = some (.cells #[(.slice (some ad229) l0_0.length c0_0)] 26 (0, 0))) ∧ Aside0 (w'.heap[gb224]? = some (.cells #[(.slice none 0 0)] 26 (0, 0))) ∧ Aside0 (w'.heap[gb228]? = some (.cells #[u229000] 26 (0, 0))) ∧ Aside0 (Below w.heap.size w w'))
      case atStart => exact ⟨(0), (x229000_1), (u229000), e2, H', ⟨Nat.le_refl _⟩, ⟨z78_⟩, ⟨by exact bA BK223⟩, ⟨by exact bA BK224⟩, ⟨by exact bA BK228⟩, ⟨kB HB⟩⟩
      case round =>
       clear H'; (try clear c14); (try clear c14b0); (try clear c15); (try clear c15b0); (try clear c16); (try clear c16b0); (try clear hcz12_0); (try clear hcz13_0); (try clear hcz6_0); (try clear hfz12_0); (try clear hfz13_0); (try clear hfz6_0); (try clear hx229_0); (try clear p229); (try clear q229); obtain ⟨x22_2, x229000_2, u229000, rfl, HA, HK2, HO_229000, BK223, BK224, BK228, HB⟩ := hrel; cases gk with
       | zero => exact absurd HA.out (by simp [spec_foTranspose.l1])
       | succ k2 =>
        have H := HA.out; clear HA; simp only [spec_foTranspose.l1] at H; by_cases c17 : x22_2 < ((rd_L1 l0_0 x15_1).length : Int)
        ·
         rw [if_pos c17] at H; have c17b0 := decide_eq_true c17; clear c17; by_cases c18 : 0 ≤ x22_2
         ·
          rw [if_pos c18] at H; have c18b0 := decide_eq_true c18; clear c18; by_cases c19 : x22_2 < ((rd_L1 l0_0 x15_1).length : Int)
          ·
           rw [if_pos c19] at H; have c19b0 := decide_eq_true c19; clear c19; by_cases c20 : x22_2 < (x229000_2.length : Int)
           ·
            rw [if_pos c20] at H; have c20b0 := decide_eq_true c20; clear c20; by_cases c21 : 0 ≤ x15_1
            ·
             rw [if_pos c21] at H; have c21b0 := decide_eq_true c21; clear c21; by_cases c22 : x15_1 < ((rd_L1 x229000_2 x22_2).length : Int)
             ·
              rw [if_pos c22] at H; have c22b0 := decide_eq_true c22; clear c22; obtain ⟨y232, hy232⟩ : ∃ y_ : List Int, y_ = ((rd_L1 x229000_2 x22_2).set (x15_1 : Int).toNat (rd (rd_L1 l0_0 x15_1) x22_2)) := ⟨_, rfl⟩; replace H : (spec_foTranspose.l1 k2 x15_1 l0_0 (l0_0.length : Int) x15_1 (rd_L1 l0_0 x15_1) ((rd_L1 l0_0 x15_1).length : Int) (wrap64 (x22_2 + 1)) (x229000_2.set (x22_2 : Int).toNat y232)) = some r := rH hy232 H
              have Ny232 := Aside0.mk hy232; clear hy232; obtain ⟨y234, hy234⟩ : ∃ y_ : List (List Int), y_ = (x229000_2.set (x22_2 : Int).toNat y232) := ⟨_, rfl⟩; replace H : (spec_foTranspose.l1 k2 x15_1 l0_0 (l0_0.length : Int) x15_1 (rd_L1 l0_0 x15_1) ((rd_L1 l0_0 x15_1).length : Int) (wrap64 (x22_2 + 1)) y234) = some r := rH hy234 H
              have Ny234 := Aside0.mk hy234; clear hy234; have H' := Aside0.mk H; clear H; have p230 : 0 ≤ (x22_2 : Int) := od; have q230 : x22_2 < ((rd_L1 l0_0 x15_1).length : Int) := od; obtain ⟨ad230, e230, hx230_0⟩ := Kd.at_int HR229_0.out x22_2 p230 q230; cases e230; replace hx230_0 := (HB.out.cell (World.block_lt_of_cell? w _ hx230_0)).trans hx230_0; replace p230 := eq_true p230; replace q230 := eq_true q230; obtain ⟨hnb24, hnc24⟩ := nB NB228_223; obtain ⟨hnb25, hnc25⟩ := nB NB228_224; obtain ⟨hcz26_0, hfz26_0⟩ := bC BK228; obtain ⟨Ao27, co27, eo27⟩ := Kd.S_slice HO_229000.out; subst eo27; have p231 : 0 ≤ (x22_2 : Int) := od; have q231 : x22_2 < (x229000_2.length : Int) := od; obtain ⟨ad231, A231_0, c231_0, e231, hx231_0, hl231_0, hi231_0⟩ := at_L1 (Kd.S_reads' HO_229000.out).2.2 x22_2 p231 q231; cases e231; obtain ⟨ce231, hce231, hMe231, hcc231⟩ := Kd.S_get HO_229000.out [] x22_2 p231 (by first | exact q231 | exact od | (have e_ := (Kd.S_reads' HO_229000.out).1; omega)); obtain ⟨ve231_0, rfl, ge231_0⟩ := hMe231; have hv231_0 := hcc231 0 _ rfl; rw [Nat.add_zero, show ((Kd.slice 3 (Kd.int .i64))).sz = 1 from rfl, Nat.mul_one] at hv231_0; replace hv231_0 := Option.some.inj (hv231_0.symm.trans hx231_0); rw [hv231_0] at ge231_0; have HL231_0 := Aside0.mk (show Kd.R (Kd.int .i64) 3 _ _ _ _ (rd_L1 x229000_2 x22_2) from ge231_0); clear hv231_0 ge231_0; have HX231_0 := Aside0.mk hx231_0; clear hcc231 hce231; have HR231_0 := Aside0.mk hi231_0; have HC231_0 := Aside0.mk hl231_0; clear hi231_0 hl231_0; replace p231 := eq_true p231; replace q231 := eq_true q231; have p23 : 0 ≤ (x15_1 : Int) := od; have q23 : (x15_1 : Int) < (((rd_L1 x229000_2 x22_2).length : Int) : Int) := od; obtain ⟨go23, co23, eo23, gb23, gl23, cl23, HG23⟩ := Kd.R_form HL231_0.out (by omega); (first | cases eo23 | (injection eo23 with ea_ en_ ec_; (first | subst ea_ | (injection ea_ with ea_; subst ea_)); subst ec_; clear en_)); have GB23 := Aside0.mk gb23; have GG23 := Aside0.mk HG23; clear gb23 gl23 HG23; obtain ⟨hx23_0, hf23_0⟩ := Kd.R_celln 0 HL231_0.out (x15_1 : Int) p23 q23; replace p23 := eq_true p23; replace q23 := eq_true q23; have hq28 : (x22_2 : Int) < (x229000_2.length : Int) := (by have h_ : (x22_2 : Int) < ((x229000_2.length : Int) : Int) := od; first | exact h_ | (have e_ := (Kd.S_reads' HO_229000.out).1; omega) | simpa only [List.length_set, List.length_set] using h_); obtain ⟨oki28, ce28, hcl28, hM28, hcc28, hok28, hbk28⟩ := Kd.S_borrow HO_229000.out [] (x22_2 : Int) (od) hq28; obtain ⟨ve28_0, rfl, ge28_0⟩ := hM28; have hv28 := hcc28 0 _ rfl; rw [Nat.add_zero, show ((Kd.slice 3 (Kd.int .i64))).sz = 1 from rfl, Nat.mul_one] at hv28; replace hv28 := Option.some.inj (hv28.symm.trans HX231_0.out); subst hv28; clear hcc28 hcl28; replace ge28_0 := (show Kd.R (Kd.int .i64) 3 _ _ _ _ (rd_L1 x229000_2 x22_2) from ge28_0); have HP28 := Kd.R_putg ge28_0 (x15_1 : Int) (rd (rd_L1 l0_0 x15_1) x22_2); go_wp2_with (first | ((with_reducible refine gate_store (t := 3) (p := 34) rfl ?_); refine store_event (t := 3) (p := 34) (v := ?vo_w29) (w1 := (wr.setCell ⟨go23, (x15_1 : Int).toNat, none⟩ (.int .i64 (rd (rd_L1 l0_0 x15_1) x22_2)))) ?hg ?ho ?hn ?hr ?_; (case ho => rfl); (case hg => rfl); (case hn => rfl); (case hr => exact z98_); intro w29 hw; have hg : wr.grownBy w29 (some go23) := (by rw [hw]; exact HP28.2); have hz_ : Kd.R (Kd.int .i64) 3 w29 w.heap.size oki28 (.slice (some ⟨go23, 0, none⟩) (rd_L1 x229000_2 x22_2).length c231_0) y232 := (by rw [hw, Ny232.out]; exact HP28.1); have hp_ : Kd.S (Kd.slice 3 (Kd.int .i64)) 34 w29 w.heap.size (fun _ => True) (.slice (some ad231) x229000_2.length co27) y234 := (by rw [Ny234.out]; exact hbk28 hg (fun k_ e_ => by injection e_ with e_; subst e_; exact ge28_0.1 _ rfl) (Kd.M_row hz_)); have hm_ := Kd.R_mono hz_ hok28; clear HP28 hbk28; replace HO_229000 := Aside0.mk (hp_); replace BK223 := Aside0.mk (blk_grown (g := gb223) (o := .cells #[.slice (some ad229) l0_0.length c0_0] 26 (0, 0)) (bA BK223) hg (Kd.R_ne HL231_0.out BK223.out (by decide))); replace BK224 := Aside0.mk (blk_grown (g := gb224) (o := .cells #[.slice none 0 0] 26 (0, 0)) (bA BK224) hg (Kd.R_ne HL231_0.out BK224.out (by decide))); replace BK228 := Aside0.mk (blk_grown (g := gb228) (o := .cells #[.slice (some ad231) x229000_2.length co27] 26 (0, 0)) (bA BK228) hg (Kd.R_ne HL231_0.out BK228.out (by decide))); replace HB := Aside0.mk ((by rw [hw]; exact below_set (HB.out) GB23.out : Below w.heap.size w w29)); have HL235 := Aside0.mk (hm_); have HC233 := Aside0.mk ((Kd.R_reads' hm_).2.1); clear HL231_0; clear hg hw hp_ hz_ hm_ hok28)); go_roundg k2
              case measure => have := HK1.out; have := HK2.out; omega
              case rel => exact ⟨(wrap64 (x22_2 + 1)), (y234), (.slice (some ad231) x229000_2.length co27), e2, H', ⟨by have := HK1.out; have := HK2.out; omega⟩, ⟨z78_⟩, ⟨by exact bA BK223⟩, ⟨by exact bA BK224⟩, ⟨by exact bA BK228⟩, ⟨kB HB⟩⟩
             · rw [if_neg c22] at H; exact absurd H (by simp)
            · rw [if_neg c21] at H; exact absurd H (by simp)
           · rw [if_neg c20] at H; exact absurd H (by simp)
          · rw [if_neg c19] at H; exact absurd H (by simp)
         · rw [if_neg c18] at H; exact absurd H (by simp)
        ·
         rw [if_neg c17] at H; have c17b0 := decide_eq_false c17; clear c17; have H' := Aside0.mk H; clear H; go_wp2; go_roundg k2
         case measure => have := HK1.out; have := HK2.out; omega
         case rel => exact ⟨(wrap64 (x15_1 + 1)), (x229000_2), (u229000), e2, H', ⟨by have := HK1.out; have := HK2.out; omega⟩, ⟨z78_⟩, ⟨by exact bA BK223⟩, ⟨by exact bA BK224⟩, ⟨by exact bA BK228⟩, ⟨kB HB⟩⟩
     · rw [if_neg c16] at H; exact absurd H (by simp)
    · rw [if_neg c15] at H; exact absurd H (by simp)
   · rw [if_neg c14] at H; have c14b0 := decide_eq_false c14; clear c14; obtain rfl := Option.some.inj H; obtain ⟨hnb30, hnc30⟩ := nB NB228_223; obtain ⟨hnb31, hnc31⟩ := nB NB228_224; obtain ⟨hcz32_0, hfz32_0⟩ := bC BK228; obtain ⟨Ao33, co33, eo33⟩ := Kd.S_slice HO_229000.out; subst eo33; obtain ⟨hnb34, hnc34⟩ := nB NB224_223; obtain ⟨hcz35_0, hfz35_0⟩ := bC BK224; go_wp2; refine bodyPost_ret (results_cell_row rfl _ _ gb224 26 #[.slice Ao33 x229000_1.length co33] (0, 0) _ rfl (by refine bR ?_; refine blk_put (cs := #[.slice none 0 0]) ?_ 0 _ rfl; exact bA BK224) Try.underlying26 rfl (by kernel_rfl)) rfl ?_; exact ⟨_, e1, sP (Kd.S_mono (Kd.S_far (p := ⟨gb224, 0, none⟩) (Kd.S_types HO_229000.out BK224.out (by decide)) (fun _ hk => hk.2) (.slice Ao33 x229000_1.length co33)) (fun _ hk => trivial)), kB HB⟩

end Go.Proofs.Ytldkkfpodldbgaa.P
