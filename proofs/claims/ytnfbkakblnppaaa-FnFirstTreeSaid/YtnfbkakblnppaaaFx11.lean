-- Written by a program of this session (wip/mkprint.py over the kit's print), out of the translation. Not trusted: Lean checks it.
import Derived.Test.YtnfbkakblnppaaaFx0
import Derived.Test.YtnfbkakblnppaaaFx1
import Derived.Test.YtnfbkakblnppaaaFx9
import Derived.Test.YtnfbkakblnppaaaFx10
import Derived.Test.YtnfbkakblnppaaaGA
namespace Go.Proofs.Ytnfbkakblnppaaa.P
open Go.RowKit Go.Proofs.YtnfbkakblnppaaaW.PrintWords Go.Proofs.YtnfbkakblnppaaaW.PrintLast Go.Proofs.YtnfbkakblnppaaaW.PrintMore
attribute [local go_sem] max2_int min2_int max_two min_two max_three min_three max_four min_four   -- for this text's walks alone
set_option linter.unusedVariables false
set_option linter.unusedSimpArgs false

/-! ### impl_KeepsForm: function 28 -/
def impl_KeepsForm.j0 : Nat → Bool → List (List Int) → List (List Int) → Option (Bool × Bool)
 | 0, _, _, _ => none
 | k + 1, x19, x376000, x377000 => if x19 = true then (some (false, false)) else ((impl_Matrix_transposed.f x376000).bind fun t380 => ((impl_Matrix_times.f t380 x377000).bind fun t383 => ((impl_Matrix_times.f t383 x376000).bind fun t386 => ((impl_sameMatrix.f t386 x377000).bind fun t389 => (some (t389, true))))))
def impl_KeepsForm.f (k : Nat) (l0_0 : List (List Int)) (l1_0 : List (List Int)) : Option (Bool × Bool) := (impl_areAlike.f l0_0 l1_0).bind fun t377 => (if t377 = true then ((impl_Matrix_isSmall.f l0_0 30000).bind fun t378 => (if t378 = true then ((impl_isForm.f l1_0).bind fun t379 => (impl_KeepsForm.j0 k (!t379) l0_0 l1_0)) else (impl_KeepsForm.j0 k true l0_0 l1_0))) else (impl_KeepsForm.j0 k true l0_0 l1_0))
theorem impl_KeepsForm.mono_l : ∀ k, (∀ y0 y1 y2, LeO (impl_KeepsForm.j0 k y0 y1 y2) (impl_KeepsForm.j0 (k + 1) y0 y1 y2))
 | 0 => fun _ _ _ r h => by simp [impl_KeepsForm.j0] at h
 | k + 1 => by
  have ih0 := impl_KeepsForm.mono_l k
  ·
   intro y0 y1 y2
   unfold impl_KeepsForm.j0
   repeat' first
   | (with_reducible exact ih0 _ _ _)
   | (with_reducible exact LeO.refl _)
   | (with_reducible exact LeO.none _)
   | (with_reducible refine LeO.ite ?_ ?_)
   | (with_reducible refine LeO.bind ?_ (fun _ => ?_))
   | exact ih0 _ _ _
   | exact LeO.none _
   | refine LeO.ite ?_ ?_
   | refine LeO.bind ?_ (fun _ => ?_)
theorem impl_KeepsForm.mono : ∀ a0 a1 k, LeO (impl_KeepsForm.f k a0 a1) (impl_KeepsForm.f (k + 1) a0 a1) := by
 intro a0 a1 k
 have ih0 := impl_KeepsForm.mono_l k
 unfold impl_KeepsForm.f
 repeat' first
  | (with_reducible exact ih0 _ _ _)
  | (with_reducible exact LeO.refl _)
  | (with_reducible exact LeO.none _)
  | (with_reducible refine LeO.ite ?_ ?_)
  | (with_reducible refine LeO.bind ?_ (fun _ => ?_))
  | exact ih0 _ _ _
  | exact LeO.none _
  | refine LeO.ite ?_ ?_
  | refine LeO.bind ?_ (fun _ => ?_)
def impl_KeepsForm.T3 : Bool × List (List Nat × List Nat) := (true, [([], []), ([0], [0]), ([], []), ([1, 2, 1], [1, 2]), ([], []), ([3, 4, 3], [3, 4]), ([], []), ([5, 6, 5], [5, 6]), ([7, 7, 0, 1, 2, 3, 4, 5, 6, 7], [7]), ([8, 0, 1, 2, 3, 4, 5, 6, 7, 8], [])])
def impl_KeepsForm.B3 : List Nat := [0, 1, 0, 7, 0, 31, 0, 127, 255, 511]
theorem impl_KeepsForm.tab3 : rtab .any (opsOf Try.f28 3) = impl_KeepsForm.T3 := by kernel_rfl
theorem impl_KeepsForm.bits3 : waitsOk impl_KeepsForm.T3.2 impl_KeepsForm.B3 = true := by kernel_rfl
set_option maxHeartbeats 8000000 in
set_option maxRecDepth 100000 in
theorem impl_KeepsForm.calls (k : Nat) (A0_0 : Option Addr) (c0_0 : Nat) (l0_0 : List (List Int)) (A1_0 : Option Addr) (c1_0 : Nat) (l1_0 : List (List Int)) (r1 : Bool) (r2 : Bool) (w : World) (hr0_0 : Kd.C (Kd.slice 3 (Kd.int .i64)) w A0_0 l0_0.length l0_0) (hc0_0 : l0_0.length ≤ c0_0) (hr1_0 : Kd.C (Kd.slice 3 (Kd.int .i64)) w A1_0 l1_0.length l1_0) (hc1_0 : l1_0.length ≤ c1_0) (h : impl_KeepsForm.f k l0_0 l1_0 = some (r1, r2)) :
 Calls Try.prog 28 #[.agg #[.slice A0_0 l0_0.length c0_0], .agg #[.slice A1_0 l1_0.length c1_0]] w fun e w' => e = .returned (.tuple #[.bool r1, .bool r2]) ∧ Below w.heap.size w w' := by
 have hu33 := Try.underlying33
 have HR0_0 := Aside0.mk hr0_0
 have HC0_0 := Aside0.mk hc0_0
 clear hr0_0 hc0_0
 have HR1_0 := Aside0.mk hr1_0
 have HC1_0 := Aside0.mk hc1_0
 clear hr1_0 hc1_0
 have HB := Aside0.mk (Below.refl w.heap.size w)
 have H : ((impl_areAlike.f l0_0 l1_0).bind fun t377 => (if t377 = true then ((impl_Matrix_isSmall.f l0_0 30000).bind fun t378 => (if t378 = true then ((impl_isForm.f l1_0).bind fun t379 => (impl_KeepsForm.j0 k (!t379) l0_0 l1_0)) else (impl_KeepsForm.j0 k true l0_0 l1_0))) else (impl_KeepsForm.j0 k true l0_0 l1_0))) = some (r1, r2) := h
 clear h
 have HC3 := Aside0.mk H
 clear H
 go_enter Try.func28, Try.ntmps28
 go_upto_region 1 with (first | ((with_reducible refine gate_dst (N := 2) rfl ?_); refine box_event ?hg (N := 2) ?hd (cs := #[.slice A0_0 l0_0.length c0_0]) (t := 33) ?hr ?_; (case hd => rfl); (case hg => rfl); (case hr => first | (go_simp; done) | (go_simp; rfl)); intro gb375 hg w4 hbox hb; have n0_ := Aside0.mk (below_step bq hb); have n1_ := Aside0.mk (hbox); have n2_ := Aside0.mk ((by rw [hg]; exact (below_size bq) : w.heap.size ≤ gb375)); have n3_ := Aside0.mk ((by rw [hg]; exact (below_size bq) : w.heap.size ≤ gb375)); clear HB; have HB := n0_; have BK375 := n1_; have GW375 := n2_; have GE375 := n3_; clear n0_ n1_ n2_ n3_; clear hb hbox hg) | ((with_reducible refine gate_dst (N := 3) rfl ?_); refine box_event ?hg (N := 3) ?hd (cs := #[.slice A1_0 l1_0.length c1_0]) (t := 33) ?hr ?_; (case hd => rfl); (case hg => rfl); (case hr => first | (go_simp; done) | (go_simp; rfl)); intro gb376 hg w5 hbox hb; have n0_ := Aside0.mk (kK BK375 hb); have n1_ := Aside0.mk (below_step (kB HB) hb); have n2_ := Aside0.mk (hbox); have n3_ := Aside0.mk ((by rw [hg]; exact (below_size (kB HB)) : w.heap.size ≤ gb376)); have n4_ := Aside0.mk ((by rw [hg]; exact (below_size (kB HB)) : w.heap.size ≤ gb376)); have n5_ := Aside0.mk ((by rw [hg]; exact Nat.ne_of_lt (blk_lt (g := gb375) (o := .cells #[.slice A0_0 l0_0.length c0_0] 33 (0, 0)) (bA BK375)) : gb375 ≠ gb376)); have n6_ := Aside0.mk ((by rw [hg]; exact Nat.ne_of_gt (blk_lt (g := gb375) (o := .cells #[.slice A0_0 l0_0.length c0_0] 33 (0, 0)) (bA BK375)) : gb376 ≠ gb375)); clear BK375; clear HB; have BK375 := n0_; have HB := n1_; have BK376 := n2_; have GW376 := n3_; have GE376 := n4_; have NB375_376 := n5_; have NB376_375 := n6_; clear n0_ n1_ n2_ n3_ n4_ n5_ n6_; clear hb hbox hg))
 (try simp only [Act.put, List.setIfInBounds_toArray, List.set_cons_zero, List.set_cons_succ])
 go_cut [19] (fun v19 wc => ∃ (kq : Nat) (x19_2 : Bool), v19 = .bool x19_2 ∧ Aside0 (impl_KeepsForm.j0 kq x19_2 l0_0 l1_0 = some (r1, r2)) ∧ Aside0 (kq ≤ k) ∧ Aside0 (wc.heap[gb375]? = some (.cells #[(.slice A0_0 l0_0.length c0_0)] 33 (0, 0))) ∧ Aside0 (wc.heap[gb376]? = some (.cells #[(.slice A1_0 l1_0.length c1_0)] 33 (0, 0))) ∧ Aside0 (Below w.heap.size w wc))
 case first =>
  have H := HC3.out
  clear HC3
  replace H := Option.bind_eq_some_iff.mp H
  obtain ⟨t377, A60, H⟩ := H
  replace H : (if t377 = true then ((impl_Matrix_isSmall.f l0_0 30000).bind fun t378 => (if t378 = true then ((impl_isForm.f l1_0).bind fun t379 => (impl_KeepsForm.j0 k (!t379) l0_0 l1_0)) else (impl_KeepsForm.j0 k true l0_0 l1_0))) else (impl_KeepsForm.j0 k true l0_0 l1_0)) = some (r1, r2) := H
  have A6 := Aside0.mk A60
  clear A60
  by_cases c7 : t377 = true
  ·
   subst c7
   have H1 : ((impl_Matrix_isSmall.f l0_0 30000).bind fun t378 => (if t378 = true then ((impl_isForm.f l1_0).bind fun t379 => (impl_KeepsForm.j0 k (!t379) l0_0 l1_0)) else (impl_KeepsForm.j0 k true l0_0 l1_0))) = some (r1, r2) := by rw [if_pos rfl] at H; exact H
   clear H
   have H := H1
   clear H1
   replace H := Option.bind_eq_some_iff.mp H
   obtain ⟨t378, A80, H⟩ := H
   replace H : (if t378 = true then ((impl_isForm.f l1_0).bind fun t379 => (impl_KeepsForm.j0 k (!t379) l0_0 l1_0)) else (impl_KeepsForm.j0 k true l0_0 l1_0)) = some (r1, r2) := H
   have A8 := Aside0.mk A80
   clear A80
   by_cases c9 : t378 = true
   ·
    subst c9
    have H1 : ((impl_isForm.f l1_0).bind fun t379 => (impl_KeepsForm.j0 k (!t379) l0_0 l1_0)) = some (r1, r2) := by rw [if_pos rfl] at H; exact H
    clear H
    have H := H1
    clear H1
    replace H := Option.bind_eq_some_iff.mp H
    obtain ⟨t379, A100, H⟩ := H
    replace H : (impl_KeepsForm.j0 k (!t379) l0_0 l1_0) = some (r1, r2) := H
    have A10 := Aside0.mk A100
    clear A100
    have H' := Aside0.mk H
    clear H
    have hnb11 := NB375_376.out
    have hnc11 := NB376_375.out
    have hcz12_0 : w5.cell? ⟨gb375, 0, none⟩ = some (.slice A0_0 l0_0.length c0_0) := (blk_cell BK375.out 0).trans rfl
    have hfz12_0 := blk_frozen BK375.out 0
    have hcz13_0 : w5.cell? ⟨gb376, 0, none⟩ = some (.slice A1_0 l1_0.length c1_0) := (blk_cell BK376.out 0).trans rfl
    have hfz13_0 := blk_frozen BK376.out 0
    go_wp2_with (first | ((with_reducible refine gate_callee (f := 82) rfl ?_); refine gL (some 8) rfl rfl Try.func82 (by kernel_rfl) rfl #[.agg #[.slice A0_0 l0_0.length c0_0], .agg #[.slice A1_0 l1_0.length c1_0]] rfl ?_; (with_reducible refine (impl_areAlike.calls _ _ l0_0 _ _ l1_0 true _ ?side1 ?side2 ?side3 ?side4 A6.out).mono ?_); (case side1 => exact cC (Kd.C_below HR0_0.out HB.out)); (case side2 => exact HC0_0.out); (case side3 => exact cC (Kd.C_below HR1_0.out HB.out)); (case side4 => exact HC1_0.out); rintro e w14 ⟨rfl, hb⟩; refine ⟨_, rfl, ?_⟩; have n0_ := Aside0.mk (kK BK375 hb); have n1_ := Aside0.mk (kK BK376 hb); have n2_ := Aside0.mk (below_step (kB HB) hb); clear BK375; clear BK376; clear HB; have BK375 := n0_; have BK376 := n1_; have HB := n2_; clear n0_ n1_ n2_; (try clear hb); (try clear hb2); (try clear hk); (try clear hi); have hcz15_0 : w14.cell? ⟨gb375, 0, none⟩ = some (.slice A0_0 l0_0.length c0_0) := (blk_cell BK375.out 0).trans rfl; have hfz15_0 := blk_frozen BK375.out 0) | (go_at_call 83; (with_reducible refine (impl_Matrix_isSmall.calls _ _ l0_0 30000 true _ ?side1 ?side2 A8.out).mono ?_); (case side1 => exact cC (Kd.C_below HR0_0.out HB.out)); (case side2 => exact HC0_0.out); rintro e w16 ⟨rfl, hb⟩; have n0_ := Aside0.mk (kK BK375 hb); have n1_ := Aside0.mk (kK BK376 hb); have n2_ := Aside0.mk (below_step (kB HB) hb); clear BK375; clear BK376; clear HB; have BK375 := n0_; have BK376 := n1_; have HB := n2_; clear n0_ n1_ n2_; (try clear hb); (try clear hb2); (try clear hk); (try clear hi); have hcz17_0 : w16.cell? ⟨gb376, 0, none⟩ = some (.slice A1_0 l1_0.length c1_0) := (blk_cell BK376.out 0).trans rfl; have hfz17_0 := blk_frozen BK376.out 0) | (go_at_call 84; (with_reducible refine (impl_isForm.calls _ _ l1_0 t379 _ ?side1 ?side2 A10.out).mono ?_); (case side1 => exact cC (Kd.C_below HR1_0.out HB.out)); (case side2 => exact HC1_0.out); rintro e w18 ⟨rfl, hb⟩; have n0_ := Aside0.mk (kK BK375 hb); have n1_ := Aside0.mk (kK BK376 hb); have n2_ := Aside0.mk (below_step (kB HB) hb); clear BK375; clear BK376; clear HB; have BK375 := n0_; have BK376 := n1_; have HB := n2_; clear n0_ n1_ n2_; (try clear hb); (try clear hb2); (try clear hk); (try clear hi)))
    go_meet
    case rel => exact ⟨_, (!t379), e2, H', ⟨by first | omega | exact Nat.le_refl _⟩, ⟨by (with_reducible repeat (first | refine blk_drewN ?_ _ | refine blk_drew ?_ | refine blk_alloc ?_ _)); exact BK375.out⟩, ⟨by (with_reducible repeat (first | refine blk_drewN ?_ _ | refine blk_drew ?_ | refine blk_alloc ?_ _)); exact BK376.out⟩, ⟨kB HB⟩⟩
   ·
    replace c9 := Bool.eq_false_iff.mpr c9
    subst c9
    have H1 : (impl_KeepsForm.j0 k true l0_0 l1_0) = some (r1, r2) := by rw [if_neg (show ¬ (false = true) by decide)] at H; exact H
    clear H
    have H := H1
    clear H1
    have H' := Aside0.mk H
    clear H
    have hnb19 := NB375_376.out
    have hnc19 := NB376_375.out
    have hcz20_0 : w5.cell? ⟨gb375, 0, none⟩ = some (.slice A0_0 l0_0.length c0_0) := (blk_cell BK375.out 0).trans rfl
    have hfz20_0 := blk_frozen BK375.out 0
    have hcz21_0 : w5.cell? ⟨gb376, 0, none⟩ = some (.slice A1_0 l1_0.length c1_0) := (blk_cell BK376.out 0).trans rfl
    have hfz21_0 := blk_frozen BK376.out 0
    go_wp2_with (first | ((with_reducible refine gate_callee (f := 82) rfl ?_); refine gL (some 8) rfl rfl Try.func82 (by kernel_rfl) rfl #[.agg #[.slice A0_0 l0_0.length c0_0], .agg #[.slice A1_0 l1_0.length c1_0]] rfl ?_; (with_reducible refine (impl_areAlike.calls _ _ l0_0 _ _ l1_0 true _ ?side1 ?side2 ?side3 ?side4 A6.out).mono ?_); (case side1 => exact cC (Kd.C_below HR0_0.out HB.out)); (case side2 => exact HC0_0.out); (case side3 => exact cC (Kd.C_below HR1_0.out HB.out)); (case side4 => exact HC1_0.out); rintro e w22 ⟨rfl, hb⟩; refine ⟨_, rfl, ?_⟩; have n0_ := Aside0.mk (kK BK375 hb); have n1_ := Aside0.mk (kK BK376 hb); have n2_ := Aside0.mk (below_step (kB HB) hb); clear BK375; clear BK376; clear HB; have BK375 := n0_; have BK376 := n1_; have HB := n2_; clear n0_ n1_ n2_; (try clear hb); (try clear hb2); (try clear hk); (try clear hi); have hcz23_0 : w22.cell? ⟨gb375, 0, none⟩ = some (.slice A0_0 l0_0.length c0_0) := (blk_cell BK375.out 0).trans rfl; have hfz23_0 := blk_frozen BK375.out 0) | (go_at_call 83; (with_reducible refine (impl_Matrix_isSmall.calls _ _ l0_0 30000 false _ ?side1 ?side2 A8.out).mono ?_); (case side1 => exact cC (Kd.C_below HR0_0.out HB.out)); (case side2 => exact HC0_0.out); rintro e w24 ⟨rfl, hb⟩; have n0_ := Aside0.mk (kK BK375 hb); have n1_ := Aside0.mk (kK BK376 hb); have n2_ := Aside0.mk (below_step (kB HB) hb); clear BK375; clear BK376; clear HB; have BK375 := n0_; have BK376 := n1_; have HB := n2_; clear n0_ n1_ n2_; (try clear hb); (try clear hb2); (try clear hk); (try clear hi)))
    go_meet
    case rel => exact ⟨_, (true), e2, H', ⟨by first | omega | exact Nat.le_refl _⟩, ⟨by (with_reducible repeat (first | refine blk_drewN ?_ _ | refine blk_drew ?_ | refine blk_alloc ?_ _)); exact BK375.out⟩, ⟨by (with_reducible repeat (first | refine blk_drewN ?_ _ | refine blk_drew ?_ | refine blk_alloc ?_ _)); exact BK376.out⟩, ⟨kB HB⟩⟩
  ·
   replace c7 := Bool.eq_false_iff.mpr c7
   subst c7
   have H1 : (impl_KeepsForm.j0 k true l0_0 l1_0) = some (r1, r2) := by rw [if_neg (show ¬ (false = true) by decide)] at H; exact H
   clear H
   have H := H1
   clear H1
   have H' := Aside0.mk H
   clear H
   have hnb25 := NB375_376.out
   have hnc25 := NB376_375.out
   have hcz26_0 : w5.cell? ⟨gb375, 0, none⟩ = some (.slice A0_0 l0_0.length c0_0) := (blk_cell BK375.out 0).trans rfl
   have hfz26_0 := blk_frozen BK375.out 0
   have hcz27_0 : w5.cell? ⟨gb376, 0, none⟩ = some (.slice A1_0 l1_0.length c1_0) := (blk_cell BK376.out 0).trans rfl
   have hfz27_0 := blk_frozen BK376.out 0
   go_wp2_with (first | ((with_reducible refine gate_callee (f := 82) rfl ?_); refine gL (some 8) rfl rfl Try.func82 (by kernel_rfl) rfl #[.agg #[.slice A0_0 l0_0.length c0_0], .agg #[.slice A1_0 l1_0.length c1_0]] rfl ?_; (with_reducible refine (impl_areAlike.calls _ _ l0_0 _ _ l1_0 false _ ?side1 ?side2 ?side3 ?side4 A6.out).mono ?_); (case side1 => exact cC (Kd.C_below HR0_0.out HB.out)); (case side2 => exact HC0_0.out); (case side3 => exact cC (Kd.C_below HR1_0.out HB.out)); (case side4 => exact HC1_0.out); rintro e w28 ⟨rfl, hb⟩; refine ⟨_, rfl, ?_⟩; have n0_ := Aside0.mk (kK BK375 hb); have n1_ := Aside0.mk (kK BK376 hb); have n2_ := Aside0.mk (below_step (kB HB) hb); clear BK375; clear BK376; clear HB; have BK375 := n0_; have BK376 := n1_; have HB := n2_; clear n0_ n1_ n2_; (try clear hb); (try clear hb2); (try clear hk); (try clear hi)))
   go_meet
   case rel => exact ⟨_, (true), e2, H', ⟨by first | omega | exact Nat.le_refl _⟩, ⟨by (with_reducible repeat (first | refine blk_drewN ?_ _ | refine blk_drew ?_ | refine blk_alloc ?_ _)); exact BK375.out⟩, ⟨by (with_reducible repeat (first | refine blk_drewN ?_ _ | refine blk_drew ?_ | refine blk_alloc ?_ _)); exact BK376.out⟩, ⟨kB HB⟩⟩
 case rest =>
  clear HC3; (try clear c1); (try clear c2); (try clear p2); (try clear c7); (try clear c8); (try clear c9); (try clear c11); (try clear c19); (try clear c25); (try clear c28); (try clear hcz12_0); (try clear hcz13_0); (try clear hcz15_0); (try clear hcz17_0); (try clear hcz20_0); (try clear hcz21_0); (try clear hcz23_0); (try clear hcz26_0); (try clear hcz27_0); (try clear hfz12_0); (try clear hfz13_0); (try clear hfz15_0); (try clear hfz17_0); (try clear hfz20_0); (try clear hfz21_0); (try clear hfz23_0); (try clear hfz26_0); (try clear hfz27_0)
  obtain ⟨kq, x19_2, rfl, HA, HJ2, BK375, BK376, HB⟩ := hcut
  cases kq with
  | zero => exact absurd HA.out (by simp [impl_KeepsForm.j0])
  | succ kj2 =>
   have H := HA.out
   clear HA
   simp only [impl_KeepsForm.j0] at H
   by_cases c29 : x19_2 = true
   ·
    subst c29
    have H1 : (some (false, false)) = some (r1, r2) := by rw [if_pos rfl] at H; exact H
    clear H
    have H := H1
    clear H1
    simp only [Option.some.injEq, Prod.mk.injEq] at H
    obtain ⟨rfl, rfl⟩ := H
    go_wp2
    go_ret2
    exact ⟨e1, kB HB⟩
   ·
    replace c29 := Bool.eq_false_iff.mpr c29
    subst c29
    have H1 : ((impl_Matrix_transposed.f l0_0).bind fun t380 => ((impl_Matrix_times.f t380 l1_0).bind fun t383 => ((impl_Matrix_times.f t383 l0_0).bind fun t386 => ((impl_sameMatrix.f t386 l1_0).bind fun t389 => (some (t389, true)))))) = some (r1, r2) := by rw [if_neg (show ¬ (false = true) by decide)] at H; exact H
    clear H
    have H := H1
    clear H1
    replace H := Option.bind_eq_some_iff.mp H
    obtain ⟨t380, A300, H⟩ := H
    replace H : ((impl_Matrix_times.f t380 l1_0).bind fun t383 => ((impl_Matrix_times.f t383 l0_0).bind fun t386 => ((impl_sameMatrix.f t386 l1_0).bind fun t389 => (some (t389, true))))) = some (r1, r2) := H
    have A30 := Aside0.mk A300
    clear A300
    replace H := Option.bind_eq_some_iff.mp H
    obtain ⟨t383, A310, H⟩ := H
    replace H : ((impl_Matrix_times.f t383 l0_0).bind fun t386 => ((impl_sameMatrix.f t386 l1_0).bind fun t389 => (some (t389, true)))) = some (r1, r2) := H
    have A31 := Aside0.mk A310
    clear A310
    replace H := Option.bind_eq_some_iff.mp H
    obtain ⟨t386, A320, H⟩ := H
    replace H : ((impl_sameMatrix.f t386 l1_0).bind fun t389 => (some (t389, true))) = some (r1, r2) := H
    have A32 := Aside0.mk A320
    clear A320
    replace H := Option.bind_eq_some_iff.mp H
    obtain ⟨t389, A330, H⟩ := H
    replace H : (some (t389, true)) = some (r1, r2) := H
    have A33 := Aside0.mk A330
    clear A330
    simp only [Option.some.injEq, Prod.mk.injEq] at H
    obtain ⟨rfl, rfl⟩ := H
    try go_wp2
    have n0_ := Aside0.mk (blk_drew BK375.out)
    have n1_ := Aside0.mk (blk_drew BK376.out)
    have n2_ := Aside0.mk (below_drew1 HB.out)
    clear BK375; clear BK376; clear HB
    have BK375 := n0_
    have BK376 := n1_
    have HB := n2_
    clear n0_ n1_ n2_
    refine start_ (n := 10) (S := fun w' => w'.cell? ⟨gb375, 0, none⟩ = some (.slice A0_0 l0_0.length c0_0) ∧ w'.cell? ⟨gb376, 0, none⟩ = some (.slice A1_0 l1_0.length c1_0)) (ds := []) #[O,O,O,O,O,O,O,O,O,O] (by kernel_rfl) rfl rfl ⟨(blk_cell BK375.out 0).trans rfl, (blk_cell BK376.out 0).trans rfl⟩ (fun hHeld => ?_); refine with_tabW impl_KeepsForm.tab3 impl_KeepsForm.bits3 (fun HT_ HW_ => ?_)
    generalize wc.drew = w34 at BK375 BK376 HB hHeld ⊢
    refine take_ (i := 0) (N := some 20) (v := ?_) (a' := ?_) (BM 10 1) rfl rfl (take_ofW HT_.out HW_.out (by kernel_rfl)) (fun _ _ _ h => h) (Or.inl ⟨by rfl, ?_⟩) hHeld ?_ ?_
    rotate_left
    ·
     rintro w' ⟨s0, s1⟩
     go_simp
     with_reducible rfl
    rotate_left
    ·
     simp only [AP]
     rfl
    refine take_ (i := 2) (N := some 22) (v := ?_) (a' := ?_) (BM 10 5) rfl rfl (take_ofW HT_.out HW_.out (by kernel_rfl)) (fun _ _ _ h => h) (Or.inl ⟨by rfl, ?_⟩) hHeld ?_ ?_
    rotate_left
    ·
     rintro w' ⟨s0, s1⟩
     go_simp
     with_reducible rfl
    rotate_left
    ·
     simp only [AP]
     rfl
    refine take_ (i := 4) (N := some 24) (v := ?_) (a' := ?_) (BM 10 21) rfl rfl (take_ofW HT_.out HW_.out (by kernel_rfl)) (fun _ _ _ h => h) (Or.inl ⟨by rfl, ?_⟩) hHeld ?_ ?_
    rotate_left
    ·
     rintro w' ⟨s0, s1⟩
     go_simp
     with_reducible rfl
    rotate_left
    ·
     simp only [AP]
     rfl
    refine take_ (i := 6) (N := some 26) (v := ?_) (a' := ?_) (BM 10 85) rfl rfl (take_ofW HT_.out HW_.out (by kernel_rfl)) (fun _ _ _ h => h) (Or.inl ⟨by rfl, ?_⟩) hHeld ?_ ?_
    rotate_left
    ·
     rintro w' ⟨s0, s1⟩
     go_simp
     with_reducible rfl
    rotate_left
    ·
     simp only [AP]
     rfl
    refine one_ (i := 1) (N := some 21) (BM 10 87) rfl rfl (one_of HT_.out (by kernel_rfl)) (by decide) (fun K hK => ?_)
    refine goes_ Try.func86 (by kernel_rfl) rfl #[.agg #[.slice A0_0 l0_0.length c0_0]] (by rfl) rfl rfl (by (try simp only [List.map_toArray, List.map_cons, List.map_nil]); first | done | rfl | (simp only [List.length_drop, List.length_take]; rfl)) ?_
    with_reducible refine (impl_Matrix_transposed.calls _ _ l0_0 t380 _ ?side1 ?side2 A30.out).mono ?_
    (case side1 => exact cC (Kd.C_below HR0_0.out HB.out))
    (case side2 => exact HC0_0.out)
    rintro e w35 ⟨v381, rfl, ho0, hb⟩
    refine ⟨_, rfl, ?_⟩
    have n0_ := Aside0.mk (Kd.S_lower ho0 (below_size (kB HB)))
    have n1_ := Aside0.mk (kK BK375 hb)
    have n2_ := Aside0.mk (kK BK376 hb)
    have n3_ := Aside0.mk (below_step (kB HB) hb)
    clear BK375; clear BK376; clear HB
    have HO382 := n0_
    have BK375 := n1_
    have BK376 := n2_
    have HB := n3_
    clear n0_ n1_ n2_ n3_
    (try clear hb)
    (try clear hb2)
    (try clear hk)
    (try clear hi)
    (try clear ho0)
    obtain ⟨Ao36, co36, eo36⟩ := Kd.S_slice HO382.out
    (first | subst eo36 | (injection eo36 with f1_ f2_ f3_; have f4_ := f1_.symm; have f5_ := f3_.symm; clear f1_ f2_ f3_; subst f4_; subst f5_))
    refine hK.out _ _ ⟨(blk_cell BK375.out 0).trans rfl, (blk_cell BK376.out 0).trans rfl⟩ (fun hHeld => ?_)
    clear hK K
    refine norm_ (a' := ?_) ?_ ?_
    rotate_left
    ·
     show Act.put _ (some 21) _ = _
     simp only [AP]
     rfl
    refine one_ (i := 3) (N := some 23) (BM 10 95) rfl rfl (one_of HT_.out (by kernel_rfl)) (by decide) (fun K hK => ?_)
    refine goes_ Try.func87 (by kernel_rfl) rfl #[.agg #[.slice Ao36 t380.length co36], .agg #[.slice A1_0 l1_0.length c1_0]] (by rfl) rfl rfl (by (try simp only [List.map_toArray, List.map_cons, List.map_nil]); first | done | rfl | (simp only [List.length_drop, List.length_take]; rfl)) ?_
    with_reducible refine (impl_Matrix_times.calls _ _ t380 _ _ l1_0 t383 _ ?side1 ?side2 ?side3 ?side4 A31.out).mono ?_
    (case side1 => exact cC (Kd.S_reads' HO382.out).2.2)
    (case side2 => exact (Kd.S_reads' HO382.out).2.1)
    (case side3 => exact cC (Kd.C_below HR1_0.out HB.out))
    (case side4 => exact HC1_0.out)
    rintro e w37 ⟨v384, rfl, ho0, hb⟩
    refine ⟨_, rfl, ?_⟩
    have n0_ := Aside0.mk (Kd.S_elder' (by (with_reducible repeat (first | apply Kd.S_alloc | apply Kd.S_drewN | apply Kd.S_drew)); exact HO382.out) (Kd.S_base ho0) hb)
    have n1_ := Aside0.mk (Kd.S_lower (Kd.S_new' ho0 (Kd.S_lt (by (with_reducible repeat (first | apply Kd.S_alloc | apply Kd.S_drewN | apply Kd.S_drew)); exact HO382.out))) (below_size (kB HB)))
    have n2_ := Aside0.mk (kK BK375 hb)
    have n3_ := Aside0.mk (kK BK376 hb)
    have n4_ := Aside0.mk (below_step (kB HB) hb)
    clear HO382; clear BK375; clear BK376; clear HB
    have HO382 := n0_
    have HO385 := n1_
    have BK375 := n2_
    have BK376 := n3_
    have HB := n4_
    clear n0_ n1_ n2_ n3_ n4_
    (try clear hb)
    (try clear hb2)
    (try clear hk)
    (try clear hi)
    (try clear ho0)
    obtain ⟨Ao38, co38, eo38⟩ := Kd.S_slice HO385.out
    (first | subst eo38 | (injection eo38 with f1_ f2_ f3_; have f4_ := f1_.symm; have f5_ := f3_.symm; clear f1_ f2_ f3_; subst f4_; subst f5_))
    refine hK.out _ _ ⟨(blk_cell BK375.out 0).trans rfl, (blk_cell BK376.out 0).trans rfl⟩ (fun hHeld => ?_)
    clear hK K
    refine norm_ (a' := ?_) ?_ ?_
    rotate_left
    ·
     show Act.put _ (some 23) _ = _
     simp only [AP]
     rfl
    refine one_ (i := 5) (N := some 25) (BM 10 127) rfl rfl (one_of HT_.out (by kernel_rfl)) (by decide) (fun K hK => ?_)
    refine goes_ Try.func87 (by kernel_rfl) rfl #[.agg #[.slice Ao38 t383.length co38], .agg #[.slice A0_0 l0_0.length c0_0]] (by rfl) rfl rfl (by (try simp only [List.map_toArray, List.map_cons, List.map_nil]); first | done | rfl | (simp only [List.length_drop, List.length_take]; rfl)) ?_
    with_reducible refine (impl_Matrix_times.calls _ _ t383 _ _ l0_0 t386 _ ?side1 ?side2 ?side3 ?side4 A32.out).mono ?_
    (case side1 => exact cC (Kd.S_reads' HO385.out).2.2)
    (case side2 => exact (Kd.S_reads' HO385.out).2.1)
    (case side3 => exact cC (Kd.C_below HR0_0.out HB.out))
    (case side4 => exact HC0_0.out)
    rintro e w39 ⟨v387, rfl, ho0, hb⟩
    refine ⟨_, rfl, ?_⟩
    have n0_ := Aside0.mk (Kd.S_elder' (by (with_reducible repeat (first | apply Kd.S_alloc | apply Kd.S_drewN | apply Kd.S_drew)); exact HO382.out) (Kd.S_base ho0) hb)
    have n1_ := Aside0.mk (Kd.S_elder' (by (with_reducible repeat (first | apply Kd.S_alloc | apply Kd.S_drewN | apply Kd.S_drew)); exact HO385.out) (Kd.S_base ho0) hb)
    have n2_ := Aside0.mk (Kd.S_lower (Kd.S_new' (Kd.S_new' ho0 (Kd.S_lt (by (with_reducible repeat (first | apply Kd.S_alloc | apply Kd.S_drewN | apply Kd.S_drew)); exact HO382.out))) (Kd.S_lt (by (with_reducible repeat (first | apply Kd.S_alloc | apply Kd.S_drewN | apply Kd.S_drew)); exact HO385.out))) (below_size (kB HB)))
    have n3_ := Aside0.mk (kK BK375 hb)
    have n4_ := Aside0.mk (kK BK376 hb)
    have n5_ := Aside0.mk (below_step (kB HB) hb)
    clear HO382; clear HO385; clear BK375; clear BK376; clear HB
    have HO382 := n0_
    have HO385 := n1_
    have HO388 := n2_
    have BK375 := n3_
    have BK376 := n4_
    have HB := n5_
    clear n0_ n1_ n2_ n3_ n4_ n5_
    (try clear hb)
    (try clear hb2)
    (try clear hk)
    (try clear hi)
    (try clear ho0)
    obtain ⟨Ao40, co40, eo40⟩ := Kd.S_slice HO388.out
    (first | subst eo40 | (injection eo40 with f1_ f2_ f3_; have f4_ := f1_.symm; have f5_ := f3_.symm; clear f1_ f2_ f3_; subst f4_; subst f5_))
    refine hK.out _ _ ⟨(blk_cell BK375.out 0).trans rfl, (blk_cell BK376.out 0).trans rfl⟩ (fun hHeld => ?_)
    clear hK K
    refine norm_ (a' := ?_) ?_ ?_
    rotate_left
    ·
     show Act.put _ (some 25) _ = _
     simp only [AP]
     rfl
    refine one_ (i := 7) (N := some 27) (BM 10 255) rfl rfl (one_of HT_.out (by kernel_rfl)) (by decide) (fun K hK => ?_)
    refine goes_ Try.func85 (by kernel_rfl) rfl #[.agg #[.slice Ao40 t386.length co40], .agg #[.slice A1_0 l1_0.length c1_0]] (by rfl) rfl rfl (by (try simp only [List.map_toArray, List.map_cons, List.map_nil]); first | done | rfl | (simp only [List.length_drop, List.length_take]; rfl)) ?_
    with_reducible refine (impl_sameMatrix.calls _ _ t386 _ _ l1_0 t389 _ ?side1 ?side2 ?side3 ?side4 A33.out).mono ?_
    (case side1 => exact cC (Kd.S_reads' HO388.out).2.2)
    (case side2 => exact (Kd.S_reads' HO388.out).2.1)
    (case side3 => exact cC (Kd.C_below HR1_0.out HB.out))
    (case side4 => exact HC1_0.out)
    rintro e w41 ⟨rfl, hb⟩
    refine ⟨_, rfl, ?_⟩
    have n0_ := Aside0.mk (Kd.S_below (by (with_reducible repeat (first | apply Kd.S_alloc | apply Kd.S_drewN | apply Kd.S_drew)); exact HO382.out) hb)
    have n1_ := Aside0.mk (Kd.S_below (by (with_reducible repeat (first | apply Kd.S_alloc | apply Kd.S_drewN | apply Kd.S_drew)); exact HO385.out) hb)
    have n2_ := Aside0.mk (Kd.S_below (by (with_reducible repeat (first | apply Kd.S_alloc | apply Kd.S_drewN | apply Kd.S_drew)); exact HO388.out) hb)
    have n3_ := Aside0.mk (kK BK375 hb)
    have n4_ := Aside0.mk (kK BK376 hb)
    have n5_ := Aside0.mk (below_step (kB HB) hb)
    clear HO382; clear HO385; clear HO388; clear BK375; clear BK376; clear HB
    have HO382 := n0_
    have HO385 := n1_
    have HO388 := n2_
    have BK375 := n3_
    have BK376 := n4_
    have HB := n5_
    clear n0_ n1_ n2_ n3_ n4_ n5_
    (try clear hb)
    (try clear hb2)
    (try clear hk)
    (try clear hi)
    refine hK.out _ _ ⟨(blk_cell BK375.out 0).trans rfl, (blk_cell BK376.out 0).trans rfl⟩ (fun hHeld => ?_)
    clear hK K
    refine norm_ (a' := ?_) ?_ ?_
    rotate_left
    ·
     show Act.put _ (some 27) _ = _
     simp only [AP]
     rfl
    refine pS 8 4 (BM 10 511) ?_
    refine pS 9 5 (BM 10 1023) ?_
    refine done_ (done_of HT_.out (by kernel_rfl)) ?_
    try go_wp2
    go_ret2
    exact ⟨e1, kB HB⟩

/-! ### impl_Matrix_without: function 127 -/
def impl_Matrix_without.f (l0_0 : List (List Int)) (a1 : Int) (a2 : Int) : Option (List (List Int)) := if Go.Proofs.Ytnfbkakblnppaaa.G.isSq l0_0 = true then (if 1 ≤ l0_0.length then some (Go.Proofs.Ytnfbkakblnppaaa.G.minorL l0_0 a1 a2) else none) else none
theorem impl_Matrix_without.calls (A0_0 : Option Addr) (c0_0 : Nat) (l0_0 : List (List Int)) (a1 : Int) (a2 : Int) (r : List (List Int)) (w : World) (hr0_0 : Kd.C (Kd.slice 3 (Kd.int .i64)) w A0_0 l0_0.length l0_0) (_hc0_0 : l0_0.length ≤ c0_0) (h : impl_Matrix_without.f l0_0 a1 a2 = some r) :
 Calls Try.prog 127 #[.agg #[.slice A0_0 l0_0.length c0_0], .int .i64 a1, .int .i64 a2] w fun e w' => ∃ v0_ : Value, e = .returned (.agg #[v0_]) ∧ Kd.S (Kd.slice 3 (Kd.int .i64)) 24 w' w.heap.size (fun _ => True) v0_ r ∧ Below w.heap.size w w' := by
 unfold impl_Matrix_without.f at h
 split at h
 ·
  rename_i hs
  split at h
  ·
   rename_i h1
   obtain rfl := Option.some.inj h
   exact Go.Proofs.Ytnfbkakblnppaaa.G.without_any A0_0 c0_0 l0_0 a1 a2 w hr0_0 hs h1
  ·
   cases h
 ·
  cases h

/-! ### impl_Matrix_determinant: function 88 -/
mutual
def impl_Matrix_determinant.l0 : Nat → Int → Int → List Int → Int → Int → List (List Int) → Option (Int)
 | 0, _, _, _, _, _, _ => none
 | k + 1, x3, x4, x13, x14, x15, x391000 => if x15 < x14 then (if 0 ≤ x15 then (if x15 < (x13.length : Int) then ((impl_Matrix_without.f x391000 0 x15).bind fun t394 => ((impl_Matrix_determinant.f k t394).bind fun t397 => (impl_Matrix_determinant.l0 k (wrap64 (x3 + (wrap64 ((wrap64 (x4 * (rd x13 x15))) * t397)))) (wrap64 (-x4)) x13 x14 (wrap64 (x15 + 1)) x391000))) else (none)) else (none)) else (some x3)
def impl_Matrix_determinant.f : Nat → List (List Int) → Option (Int)
 | 0, _ => none
 | k + 1, l0_0 => (impl_Matrix_size.f l0_0).bind fun t391 => (if t391 = 0 then (some 1) else (if 0 < (l0_0.length : Int) then (impl_Matrix_determinant.l0 k 0 1 (rd_L2 l0_0 0) ((rd_L2 l0_0 0).length : Int) 0 l0_0) else (none)))
end
theorem impl_Matrix_determinant.mono_l : ∀ k, (∀ y0, LeO (impl_Matrix_determinant.f k y0) (impl_Matrix_determinant.f (k + 1) y0)) ∧ (∀ y0 y1 y2 y3 y4 y5, LeO (impl_Matrix_determinant.l0 k y0 y1 y2 y3 y4 y5) (impl_Matrix_determinant.l0 (k + 1) y0 y1 y2 y3 y4 y5))
 | 0 => ⟨fun _ r h => by simp [impl_Matrix_determinant.f] at h, fun _ _ _ _ _ _ r h => by simp [impl_Matrix_determinant.l0] at h⟩
 | k + 1 => by
  obtain ⟨ih0, ih1⟩ := impl_Matrix_determinant.mono_l k
  refine ⟨?_, ?_⟩
  ·
   intro y0
   unfold impl_Matrix_determinant.f
   repeat' first
   | (with_reducible exact ih0 _)
   | (with_reducible exact ih1 _ _ _ _ _ _)
   | (with_reducible exact LeO.refl _)
   | (with_reducible exact LeO.none _)
   | (with_reducible refine LeO.ite ?_ ?_)
   | (with_reducible refine LeO.bind ?_ (fun _ => ?_))
   | exact ih0 _
   | exact ih1 _ _ _ _ _ _
   | exact LeO.none _
   | refine LeO.ite ?_ ?_
   | refine LeO.bind ?_ (fun _ => ?_)
  ·
   intro y0 y1 y2 y3 y4 y5
   unfold impl_Matrix_determinant.l0
   repeat' first
   | (with_reducible exact ih0 _)
   | (with_reducible exact ih1 _ _ _ _ _ _)
   | (with_reducible exact LeO.refl _)
   | (with_reducible exact LeO.none _)
   | (with_reducible refine LeO.ite ?_ ?_)
   | (with_reducible refine LeO.bind ?_ (fun _ => ?_))
   | exact ih0 _
   | exact ih1 _ _ _ _ _ _
   | exact LeO.none _
   | refine LeO.ite ?_ ?_
   | refine LeO.bind ?_ (fun _ => ?_)
theorem impl_Matrix_determinant.mono : ∀ a0 k, LeO (impl_Matrix_determinant.f k a0) (impl_Matrix_determinant.f (k + 1) a0) := by
 intro a0 k
 obtain ⟨ih0, ih1⟩ := impl_Matrix_determinant.mono_l k
 exact ih0 a0
set_option maxHeartbeats 8000000 in
set_option maxRecDepth 100000 in
theorem impl_Matrix_determinant.calls (k : Nat) : ∀ (A0_0 : Option Addr) (c0_0 : Nat) (l0_0 : List (List Int)) (r : Int) (w : World) (hr0_0 : Kd.C (Kd.slice 3 (Kd.int .i64)) w A0_0 l0_0.length l0_0) (hc0_0 : l0_0.length ≤ c0_0) (h : impl_Matrix_determinant.f k l0_0 = some r),
 Calls Try.prog 88 #[.agg #[.slice A0_0 l0_0.length c0_0]] w fun e w' => e = .returned (.int .i64 r) ∧ Below w.heap.size w w' := by
 induction k using Nat.strongRecOn with
 | _ k ih =>
 intro A0_0 c0_0 l0_0 r w hr0_0 hc0_0 h
 cases k with
 | zero => exact absurd h (by simp [impl_Matrix_determinant.f])
 | succ k =>
 simp only [impl_Matrix_determinant.f] at h
 have hu33 := Try.underlying33
 have HR0_0 := Aside0.mk hr0_0
 have HC0_0 := Aside0.mk hc0_0
 clear hr0_0 hc0_0
 have HB := Aside0.mk (Below.refl w.heap.size w)
 have H : ((impl_Matrix_size.f l0_0).bind fun t391 => (if t391 = 0 then (some 1) else (if 0 < (l0_0.length : Int) then (impl_Matrix_determinant.l0 k 0 1 (rd_L2 l0_0 0) ((rd_L2 l0_0 0).length : Int) 0 l0_0) else (none)))) = some r := h
 clear h
 replace H := Option.bind_eq_some_iff.mp H
 obtain ⟨t391, A20, H⟩ := H
 replace H : (if t391 = 0 then (some 1) else (if 0 < (l0_0.length : Int) then (impl_Matrix_determinant.l0 k 0 1 (rd_L2 l0_0 0) ((rd_L2 l0_0 0).length : Int) 0 l0_0) else (none))) = some r := H
 have A2 := Aside0.mk A20
 clear A20
 by_cases c3 : t391 = 0
 ·
  rw [if_pos c3] at H
  have c3b0 : (t391 == 0) = true := beq_iff_eq.mpr c3
  have c3b1 : (t391 != 0) = false := bne_eq_false_iff_eq.mpr c3
  clear c3
  obtain rfl := Option.some.inj H
  go_enter Try.func88, Try.ntmps88
  go_wp2_with (first | ((with_reducible refine gate_dst (N := 1) rfl ?_); refine box_event ?hg (N := 1) ?hd (cs := #[.slice A0_0 l0_0.length c0_0]) (t := 33) ?hr ?_; (case hd => rfl); (case hg => rfl); (case hr => first | (go_simp; done) | (go_simp; rfl)); intro gb390 hg w4 hbox hb; have n0_ := Aside0.mk (below_step bq hb); have n1_ := Aside0.mk (hbox); have n2_ := Aside0.mk ((by rw [hg]; exact (below_size bq) : w.heap.size ≤ gb390)); have n3_ := Aside0.mk ((by rw [hg]; exact (below_size bq) : w.heap.size ≤ gb390)); clear HB; have HB := n0_; have BK390 := n1_; have GW390 := n2_; have GE390 := n3_; clear n0_ n1_ n2_ n3_; clear hb hbox hg; have hcz5_0 : w4.cell? ⟨gb390, 0, none⟩ = some (.slice A0_0 l0_0.length c0_0) := (blk_cell BK390.out 0).trans rfl; have hfz5_0 := blk_frozen BK390.out 0) | ((with_reducible refine gate_callee (f := 69) rfl ?_); refine gL (some 8) rfl rfl Try.func69 (by kernel_rfl) rfl #[.agg #[.slice A0_0 l0_0.length c0_0]] rfl ?_; (with_reducible refine (impl_Matrix_size.calls _ _ l0_0 t391 _ ?side1 ?side2 A2.out).mono ?_); (case side1 => exact cC (Kd.C_below HR0_0.out HB.out)); (case side2 => exact HC0_0.out); rintro e w6 ⟨rfl, hb⟩; refine ⟨_, rfl, ?_⟩; have n0_ := Aside0.mk (kK BK390 hb); have n1_ := Aside0.mk (below_step (kB HB) hb); clear BK390; clear HB; have BK390 := n0_; have HB := n1_; clear n0_ n1_; (try clear hb); (try clear hb2); (try clear hk); (try clear hi)))
  go_ret
  exact ⟨e1, kB HB⟩
 ·
  rw [if_neg c3] at H
  have c3b0 : (t391 == 0) = false := beq_eq_false_iff_ne.mpr c3
  have c3b1 : (t391 != 0) = true := bne_iff_ne.mpr c3
  by_cases c7 : 0 < (l0_0.length : Int)
  ·
   rw [if_pos c7] at H
   have c7b0 : decide (0 < (l0_0.length : Int)) = true := decide_eq_true c7
   have c7b1 : decide (0 < l0_0.length) = true := decide_eq_true (by omega)
   clear c7
   have H' := Aside0.mk H
   clear H
   go_enter Try.func88, Try.ntmps88
   go_wp2_with (first | ((with_reducible refine gate_dst (N := 1) rfl ?_); refine box_event ?hg (N := 1) ?hd (cs := #[.slice A0_0 l0_0.length c0_0]) (t := 33) ?hr ?_; (case hd => rfl); (case hg => rfl); (case hr => first | (go_simp; done) | (go_simp; rfl)); intro gb390 hg w8 hbox hb; have n0_ := Aside0.mk (below_step bq hb); have n1_ := Aside0.mk (hbox); have n2_ := Aside0.mk ((by rw [hg]; exact (below_size bq) : w.heap.size ≤ gb390)); have n3_ := Aside0.mk ((by rw [hg]; exact (below_size bq) : w.heap.size ≤ gb390)); clear HB; have HB := n0_; have BK390 := n1_; have GW390 := n2_; have GE390 := n3_; clear n0_ n1_ n2_ n3_; clear hb hbox hg; have hcz9_0 : w8.cell? ⟨gb390, 0, none⟩ = some (.slice A0_0 l0_0.length c0_0) := (blk_cell BK390.out 0).trans rfl; have hfz9_0 := blk_frozen BK390.out 0) | ((with_reducible refine gate_callee (f := 69) rfl ?_); refine gL (some 8) rfl rfl Try.func69 (by kernel_rfl) rfl #[.agg #[.slice A0_0 l0_0.length c0_0]] rfl ?_; (with_reducible refine (impl_Matrix_size.calls _ _ l0_0 t391 _ ?side1 ?side2 A2.out).mono ?_); (case side1 => exact cC (Kd.C_below HR0_0.out HB.out)); (case side2 => exact HC0_0.out); rintro e w10 ⟨rfl, hb⟩; refine ⟨_, rfl, ?_⟩; have n0_ := Aside0.mk (kK BK390 hb); have n1_ := Aside0.mk (below_step (kB HB) hb); clear BK390; clear HB; have BK390 := n0_; have HB := n1_; clear n0_ n1_; (try clear hb); (try clear hb2); (try clear hk); (try clear hi); have hcz11_0 : w10.cell? ⟨gb390, 0, none⟩ = some (.slice A0_0 l0_0.length c0_0) := (blk_cell BK390.out 0).trans rfl; have hfz11_0 := blk_frozen BK390.out 0; have p392 : 0 ≤ (0 : Int) := (by omega); have q392 : 0 < (l0_0.length : Int) := od; obtain ⟨ad392, A392_0, c392_0, e392, hx392_0, hl392_0, hi392_0⟩ := at_L2 HR0_0.out 0 p392 q392; cases e392; have qi392 : (0 < l0_0.length) = True := eq_true (by omega); (try rw [show ((0 : Int)).toNat = 0 from rfl] at hx392_0); (try rw [Addr.add_zero'] at hx392_0); replace hx392_0 := (HB.out.cell (World.block_lt_of_cell? w _ hx392_0)).trans hx392_0; have HR392_0 := Aside0.mk hi392_0; have HC392_0 := Aside0.mk hl392_0; clear hi392_0 hl392_0; replace p392 := eq_true p392; replace q392 := eq_true q392))
   go_loopg [3, 4, 15] k (fun kq v3 v4 v15 w' => ∃ (x3_1 : Int) (x4_1 : Int) (x15_1 : Int), v3 = .int .i64 x3_1 ∧ v4 = .int .i64 x4_1 ∧ v15 = .int .i64 x15_1 ∧ Aside0 (impl_Matrix_determinant.l0 kq x3_1 x4_1 (rd_L2 l0_0 0) ((rd_L2 l0_0 0).length : Int) x15_1 l0_0 = some r) ∧ Aside0 (kq ≤ k) ∧ Aside0 (w'.heap[gb390]? = some (.cells #[(.slice (some ad392) l0_0.length c0_0)] 33 (0, 0))) ∧ Aside0 (Below w.heap.size w w'))
   case atStart => exact ⟨(0), (1), (0), e2, e2, e2, H', ⟨Nat.le_refl _⟩, ⟨by (with_reducible repeat (first | refine blk_drewN ?_ _ | refine blk_drew ?_ | refine blk_alloc ?_ _)); exact BK390.out⟩, ⟨kB HB⟩⟩
   case round =>
    clear H'; (try clear p2); (try clear c3); (try clear c3b0); (try clear c3b1); (try clear p3); (try clear q3); (try clear hx3); (try clear qi3); (try clear c6); (try clear c7); (try clear c7b0); (try clear c7b1); (try clear c8); (try clear hcz11_0); (try clear hcz5_0); (try clear hcz9_0); (try clear hfz11_0); (try clear hfz5_0); (try clear hfz9_0); (try clear hx392_0); (try clear p392); (try clear q392)
    obtain ⟨x3_1, x4_1, x15_1, rfl, rfl, rfl, HA, HK1, BK390, HB⟩ := hrel
    cases gk with
    | zero => exact absurd HA.out (by simp [impl_Matrix_determinant.l0])
    | succ k1 =>
     have H := HA.out
     clear HA
     simp only [impl_Matrix_determinant.l0] at H
     by_cases c12 : x15_1 < ((rd_L2 l0_0 0).length : Int)
     ·
      rw [if_pos c12] at H
      have c12b0 : decide (x15_1 < ((rd_L2 l0_0 0).length : Int)) = true := decide_eq_true c12
      clear c12
      by_cases c13 : 0 ≤ x15_1
      ·
       rw [if_pos c13] at H
       have c13b0 : decide (0 ≤ x15_1) = true := decide_eq_true c13
       clear c13
       by_cases c14 : x15_1 < ((rd_L2 l0_0 0).length : Int)
       ·
        rw [if_pos c14] at H
        have c14b0 : decide (x15_1 < ((rd_L2 l0_0 0).length : Int)) = true := decide_eq_true c14
        clear c14
        replace H := Option.bind_eq_some_iff.mp H
        obtain ⟨t394, A150, H⟩ := H
        replace H : ((impl_Matrix_determinant.f k1 t394).bind fun t397 => (impl_Matrix_determinant.l0 k1 (wrap64 (x3_1 + (wrap64 ((wrap64 (x4_1 * (rd (rd_L2 l0_0 0) x15_1))) * t397)))) (wrap64 (-x4_1)) (rd_L2 l0_0 0) ((rd_L2 l0_0 0).length : Int) (wrap64 (x15_1 + 1)) l0_0)) = some r := H
        have A15 := Aside0.mk A150
        clear A150
        replace H := Option.bind_eq_some_iff.mp H
        obtain ⟨t397, A160, H⟩ := H
        replace H : (impl_Matrix_determinant.l0 k1 (wrap64 (x3_1 + (wrap64 ((wrap64 (x4_1 * (rd (rd_L2 l0_0 0) x15_1))) * t397)))) (wrap64 (-x4_1)) (rd_L2 l0_0 0) ((rd_L2 l0_0 0).length : Int) (wrap64 (x15_1 + 1)) l0_0) = some r := H
        have A16 := Aside0.mk A160
        clear A160
        have H' := Aside0.mk H
        clear H
        have p393 : 0 ≤ (x15_1 : Int) := od
        have q393 : x15_1 < ((rd_L2 l0_0 0).length : Int) := od
        obtain ⟨ad393, e393, hx393_0⟩ := Kd.at_int HR392_0.out x15_1 p393 q393
        cases e393
        replace hx393_0 := (HB.out.cell (World.block_lt_of_cell? w _ hx393_0)).trans hx393_0
        replace p393 := eq_true p393
        replace q393 := eq_true q393
        have hcz17_0 : wr.cell? ⟨gb390, 0, none⟩ = some (.slice (some ad392) l0_0.length c0_0) := (blk_cell BK390.out 0).trans rfl
        have hfz17_0 := blk_frozen BK390.out 0
        go_wp2_with (first | ((with_reducible refine gate_callee (f := 127) rfl ?_); refine gL (some 26) rfl rfl Try.func127 (by kernel_rfl) rfl #[.agg #[.slice (some ad392) l0_0.length c0_0], .int .i64 0, .int .i64 x15_1] rfl ?_; (with_reducible refine (impl_Matrix_without.calls _ _ l0_0 0 x15_1 t394 _ ?side1 ?side2 A15.out).mono ?_); (case side1 => exact cC (Kd.C_below HR0_0.out HB.out)); (case side2 => exact HC0_0.out); rintro e w18 ⟨v395, rfl, ho0, hb⟩; refine ⟨_, rfl, ?_⟩; have n0_ := Aside0.mk (Kd.S_lower ho0 (below_size (kB HB))); have n1_ := Aside0.mk (kK BK390 hb); have n2_ := Aside0.mk (below_step (kB HB) hb); clear BK390; clear HB; have HO396 := n0_; have BK390 := n1_; have HB := n2_; clear n0_ n1_ n2_; (try clear hb); (try clear hb2); (try clear hk); (try clear hi); (try clear ho0); obtain ⟨Ao19, co19, eo19⟩ := Kd.S_slice HO396.out; subst eo19) | ((with_reducible refine gate_callee (f := 88) rfl ?_); refine gL (some 27) rfl rfl Try.func88 (by kernel_rfl) rfl #[.agg #[.slice Ao19 t394.length co19]] rfl ?_; (with_reducible refine (ih k1 (by have := HK1.out; omega) _ _ t394 t397 _ ?side1 ?side2 A16.out).mono ?_); (case side1 => exact cC (Kd.S_reads' HO396.out).2.2); (case side2 => exact (Kd.S_reads' HO396.out).2.1); rintro e w20 ⟨rfl, hb⟩; refine ⟨_, rfl, ?_⟩; have n0_ := Aside0.mk (Kd.S_below (by (with_reducible repeat (first | apply Kd.S_alloc | apply Kd.S_drewN | apply Kd.S_drew)); exact HO396.out) hb); have n1_ := Aside0.mk (kK BK390 hb); have n2_ := Aside0.mk (below_step (kB HB) hb); clear HO396; clear BK390; clear HB; have HO396 := n0_; have BK390 := n1_; have HB := n2_; clear n0_ n1_ n2_; (try clear hb); (try clear hb2); (try clear hk); (try clear hi)))
        go_roundg k1
        case measure => have := HK1.out; omega
        case rel => exact ⟨(wrap64 (x3_1 + (wrap64 ((wrap64 (x4_1 * (rd (rd_L2 l0_0 0) x15_1))) * t397)))), (wrap64 (-x4_1)), (wrap64 (x15_1 + 1)), e2, e2, e2, H', ⟨by have := HK1.out; omega⟩, ⟨by (with_reducible repeat (first | refine blk_drewN ?_ _ | refine blk_drew ?_ | refine blk_alloc ?_ _)); exact BK390.out⟩, ⟨kB HB⟩⟩
       ·
        rw [if_neg c14] at H
        exact absurd H (by simp)
      ·
       rw [if_neg c13] at H
       exact absurd H (by simp)
     ·
      rw [if_neg c12] at H
      have c12b0 : decide (x15_1 < ((rd_L2 l0_0 0).length : Int)) = false := decide_eq_false c12
      clear c12
      obtain rfl := Option.some.inj H
      go_wp2
      go_ret
      exact ⟨e1, kB HB⟩
  ·
   rw [if_neg c7] at H
   exact absurd H (by simp)

/-! ### impl_DeterminantOf: function 29 -/
def impl_DeterminantOf.f (k : Nat) (l0_0 : List (List Int)) : Option (Int × Bool) := (impl_IsMatrix.f l0_0).bind fun t399 => (if t399 = true then ((impl_Matrix_isSmall.f l0_0 1000).bind fun t400 => (if t400 = true then ((impl_Matrix_determinant.f k l0_0).bind fun t401 => (some (t401, true))) else (some (0, false)))) else (some (0, false)))
theorem impl_DeterminantOf.mono : ∀ a0 k, LeO (impl_DeterminantOf.f k a0) (impl_DeterminantOf.f (k + 1) a0) := by
 intro a0 k
 unfold impl_DeterminantOf.f
 repeat' first
  | (with_reducible exact impl_Matrix_determinant.mono _ _)
  | (with_reducible exact LeO.refl _)
  | (with_reducible exact LeO.none _)
  | (with_reducible refine LeO.ite ?_ ?_)
  | (with_reducible refine LeO.bind ?_ (fun _ => ?_))
  | exact impl_Matrix_determinant.mono _ _
  | exact LeO.none _
  | refine LeO.ite ?_ ?_
  | refine LeO.bind ?_ (fun _ => ?_)
set_option maxHeartbeats 8000000 in
set_option maxRecDepth 100000 in
theorem impl_DeterminantOf.calls (k : Nat) (A0_0 : Option Addr) (c0_0 : Nat) (l0_0 : List (List Int)) (r1 : Int) (r2 : Bool) (w : World) (hr0_0 : Kd.C (Kd.slice 3 (Kd.int .i64)) w A0_0 l0_0.length l0_0) (hc0_0 : l0_0.length ≤ c0_0) (h : impl_DeterminantOf.f k l0_0 = some (r1, r2)) :
 Calls Try.prog 29 #[.agg #[.slice A0_0 l0_0.length c0_0]] w fun e w' => e = .returned (.tuple #[.int .i64 r1, .bool r2]) ∧ Below w.heap.size w w' := by
 have hu33 := Try.underlying33
 have HR0_0 := Aside0.mk hr0_0
 have HC0_0 := Aside0.mk hc0_0
 clear hr0_0 hc0_0
 have HB := Aside0.mk (Below.refl w.heap.size w)
 have H : ((impl_IsMatrix.f l0_0).bind fun t399 => (if t399 = true then ((impl_Matrix_isSmall.f l0_0 1000).bind fun t400 => (if t400 = true then ((impl_Matrix_determinant.f k l0_0).bind fun t401 => (some (t401, true))) else (some (0, false)))) else (some (0, false)))) = some (r1, r2) := h
 clear h
 replace H := Option.bind_eq_some_iff.mp H
 obtain ⟨t399, A20, H⟩ := H
 replace H : (if t399 = true then ((impl_Matrix_isSmall.f l0_0 1000).bind fun t400 => (if t400 = true then ((impl_Matrix_determinant.f k l0_0).bind fun t401 => (some (t401, true))) else (some (0, false)))) else (some (0, false))) = some (r1, r2) := H
 have A2 := Aside0.mk A20
 clear A20
 by_cases c3 : t399 = true
 ·
  subst c3
  have H1 : ((impl_Matrix_isSmall.f l0_0 1000).bind fun t400 => (if t400 = true then ((impl_Matrix_determinant.f k l0_0).bind fun t401 => (some (t401, true))) else (some (0, false)))) = some (r1, r2) := by rw [if_pos rfl] at H; exact H
  clear H
  have H := H1
  clear H1
  replace H := Option.bind_eq_some_iff.mp H
  obtain ⟨t400, A40, H⟩ := H
  replace H : (if t400 = true then ((impl_Matrix_determinant.f k l0_0).bind fun t401 => (some (t401, true))) else (some (0, false))) = some (r1, r2) := H
  have A4 := Aside0.mk A40
  clear A40
  by_cases c5 : t400 = true
  ·
   subst c5
   have H1 : ((impl_Matrix_determinant.f k l0_0).bind fun t401 => (some (t401, true))) = some (r1, r2) := by rw [if_pos rfl] at H; exact H
   clear H
   have H := H1
   clear H1
   replace H := Option.bind_eq_some_iff.mp H
   obtain ⟨t401, A60, H⟩ := H
   replace H : (some (t401, true)) = some (r1, r2) := H
   have A6 := Aside0.mk A60
   clear A60
   simp only [Option.some.injEq, Prod.mk.injEq] at H
   obtain ⟨rfl, rfl⟩ := H
   go_enter Try.func29, Try.ntmps29
   go_wp2_with (first | ((with_reducible refine gate_dst (N := 1) rfl ?_); refine box_event ?hg (N := 1) ?hd (cs := #[.slice A0_0 l0_0.length c0_0]) (t := 33) ?hr ?_; (case hd => rfl); (case hg => rfl); (case hr => first | (go_simp; done) | (go_simp; rfl)); intro gb398 hg w7 hbox hb; have n0_ := Aside0.mk (below_step bq hb); have n1_ := Aside0.mk (hbox); have n2_ := Aside0.mk ((by rw [hg]; exact (below_size bq) : w.heap.size ≤ gb398)); have n3_ := Aside0.mk ((by rw [hg]; exact (below_size bq) : w.heap.size ≤ gb398)); clear HB; have HB := n0_; have BK398 := n1_; have GW398 := n2_; have GE398 := n3_; clear n0_ n1_ n2_ n3_; clear hb hbox hg; have hcz8_0 : w7.cell? ⟨gb398, 0, none⟩ = some (.slice A0_0 l0_0.length c0_0) := (blk_cell BK398.out 0).trans rfl; have hfz8_0 := blk_frozen BK398.out 0) | ((with_reducible refine gate_callee (f := 67) rfl ?_); refine gL (some 5) rfl rfl Try.func67 (by kernel_rfl) rfl #[.agg #[.slice A0_0 l0_0.length c0_0]] rfl ?_; (with_reducible refine (impl_IsMatrix.calls _ _ l0_0 true _ ?side1 ?side2 A2.out).mono ?_); (case side1 => exact cC (Kd.C_below HR0_0.out HB.out)); (case side2 => exact HC0_0.out); rintro e w9 ⟨rfl, hb⟩; refine ⟨_, rfl, ?_⟩; have n0_ := Aside0.mk (kK BK398 hb); have n1_ := Aside0.mk (below_step (kB HB) hb); clear BK398; clear HB; have BK398 := n0_; have HB := n1_; clear n0_ n1_; (try clear hb); (try clear hb2); (try clear hk); (try clear hi); have hcz10_0 : w9.cell? ⟨gb398, 0, none⟩ = some (.slice A0_0 l0_0.length c0_0) := (blk_cell BK398.out 0).trans rfl; have hfz10_0 := blk_frozen BK398.out 0) | (go_at_call 83; (with_reducible refine (impl_Matrix_isSmall.calls _ _ l0_0 1000 true _ ?side1 ?side2 A4.out).mono ?_); (case side1 => exact cC (Kd.C_below HR0_0.out HB.out)); (case side2 => exact HC0_0.out); rintro e w11 ⟨rfl, hb⟩; have n0_ := Aside0.mk (kK BK398 hb); have n1_ := Aside0.mk (below_step (kB HB) hb); clear BK398; clear HB; have BK398 := n0_; have HB := n1_; clear n0_ n1_; (try clear hb); (try clear hb2); (try clear hk); (try clear hi); have hcz12_0 : w11.cell? ⟨gb398, 0, none⟩ = some (.slice A0_0 l0_0.length c0_0) := (blk_cell BK398.out 0).trans rfl; have hfz12_0 := blk_frozen BK398.out 0) | ((with_reducible refine gate_callee (f := 88) rfl ?_); refine gL (some 13) rfl rfl Try.func88 (by kernel_rfl) rfl #[.agg #[.slice A0_0 l0_0.length c0_0]] rfl ?_; (with_reducible refine (impl_Matrix_determinant.calls k _ _ l0_0 t401 _ ?side1 ?side2 A6.out).mono ?_); (case side1 => exact cC (Kd.C_below HR0_0.out HB.out)); (case side2 => exact HC0_0.out); rintro e w13 ⟨rfl, hb⟩; refine ⟨_, rfl, ?_⟩; have n0_ := Aside0.mk (kK BK398 hb); have n1_ := Aside0.mk (below_step (kB HB) hb); clear BK398; clear HB; have BK398 := n0_; have HB := n1_; clear n0_ n1_; (try clear hb); (try clear hb2); (try clear hk); (try clear hi)))
   go_ret2
   exact ⟨e1, kB HB⟩
  ·
   replace c5 := Bool.eq_false_iff.mpr c5
   subst c5
   have H1 : (some (0, false)) = some (r1, r2) := by rw [if_neg (show ¬ (false = true) by decide)] at H; exact H
   clear H
   have H := H1
   clear H1
   simp only [Option.some.injEq, Prod.mk.injEq] at H
   obtain ⟨rfl, rfl⟩ := H
   go_enter Try.func29, Try.ntmps29
   go_wp2_with (first | ((with_reducible refine gate_dst (N := 1) rfl ?_); refine box_event ?hg (N := 1) ?hd (cs := #[.slice A0_0 l0_0.length c0_0]) (t := 33) ?hr ?_; (case hd => rfl); (case hg => rfl); (case hr => first | (go_simp; done) | (go_simp; rfl)); intro gb398 hg w14 hbox hb; have n0_ := Aside0.mk (below_step bq hb); have n1_ := Aside0.mk (hbox); have n2_ := Aside0.mk ((by rw [hg]; exact (below_size bq) : w.heap.size ≤ gb398)); have n3_ := Aside0.mk ((by rw [hg]; exact (below_size bq) : w.heap.size ≤ gb398)); clear HB; have HB := n0_; have BK398 := n1_; have GW398 := n2_; have GE398 := n3_; clear n0_ n1_ n2_ n3_; clear hb hbox hg; have hcz15_0 : w14.cell? ⟨gb398, 0, none⟩ = some (.slice A0_0 l0_0.length c0_0) := (blk_cell BK398.out 0).trans rfl; have hfz15_0 := blk_frozen BK398.out 0) | ((with_reducible refine gate_callee (f := 67) rfl ?_); refine gL (some 5) rfl rfl Try.func67 (by kernel_rfl) rfl #[.agg #[.slice A0_0 l0_0.length c0_0]] rfl ?_; (with_reducible refine (impl_IsMatrix.calls _ _ l0_0 true _ ?side1 ?side2 A2.out).mono ?_); (case side1 => exact cC (Kd.C_below HR0_0.out HB.out)); (case side2 => exact HC0_0.out); rintro e w16 ⟨rfl, hb⟩; refine ⟨_, rfl, ?_⟩; have n0_ := Aside0.mk (kK BK398 hb); have n1_ := Aside0.mk (below_step (kB HB) hb); clear BK398; clear HB; have BK398 := n0_; have HB := n1_; clear n0_ n1_; (try clear hb); (try clear hb2); (try clear hk); (try clear hi); have hcz17_0 : w16.cell? ⟨gb398, 0, none⟩ = some (.slice A0_0 l0_0.length c0_0) := (blk_cell BK398.out 0).trans rfl; have hfz17_0 := blk_frozen BK398.out 0) | (go_at_call 83; (with_reducible refine (impl_Matrix_isSmall.calls _ _ l0_0 1000 false _ ?side1 ?side2 A4.out).mono ?_); (case side1 => exact cC (Kd.C_below HR0_0.out HB.out)); (case side2 => exact HC0_0.out); rintro e w18 ⟨rfl, hb⟩; have n0_ := Aside0.mk (kK BK398 hb); have n1_ := Aside0.mk (below_step (kB HB) hb); clear BK398; clear HB; have BK398 := n0_; have HB := n1_; clear n0_ n1_; (try clear hb); (try clear hb2); (try clear hk); (try clear hi)))
   go_ret2
   exact ⟨e1, kB HB⟩
 ·
  replace c3 := Bool.eq_false_iff.mpr c3
  subst c3
  have H1 : (some (0, false)) = some (r1, r2) := by rw [if_neg (show ¬ (false = true) by decide)] at H; exact H
  clear H
  have H := H1
  clear H1
  simp only [Option.some.injEq, Prod.mk.injEq] at H
  obtain ⟨rfl, rfl⟩ := H
  go_enter Try.func29, Try.ntmps29
  go_wp2_with (first | ((with_reducible refine gate_dst (N := 1) rfl ?_); refine box_event ?hg (N := 1) ?hd (cs := #[.slice A0_0 l0_0.length c0_0]) (t := 33) ?hr ?_; (case hd => rfl); (case hg => rfl); (case hr => first | (go_simp; done) | (go_simp; rfl)); intro gb398 hg w19 hbox hb; have n0_ := Aside0.mk (below_step bq hb); have n1_ := Aside0.mk (hbox); have n2_ := Aside0.mk ((by rw [hg]; exact (below_size bq) : w.heap.size ≤ gb398)); have n3_ := Aside0.mk ((by rw [hg]; exact (below_size bq) : w.heap.size ≤ gb398)); clear HB; have HB := n0_; have BK398 := n1_; have GW398 := n2_; have GE398 := n3_; clear n0_ n1_ n2_ n3_; clear hb hbox hg; have hcz20_0 : w19.cell? ⟨gb398, 0, none⟩ = some (.slice A0_0 l0_0.length c0_0) := (blk_cell BK398.out 0).trans rfl; have hfz20_0 := blk_frozen BK398.out 0) | ((with_reducible refine gate_callee (f := 67) rfl ?_); refine gL (some 5) rfl rfl Try.func67 (by kernel_rfl) rfl #[.agg #[.slice A0_0 l0_0.length c0_0]] rfl ?_; (with_reducible refine (impl_IsMatrix.calls _ _ l0_0 false _ ?side1 ?side2 A2.out).mono ?_); (case side1 => exact cC (Kd.C_below HR0_0.out HB.out)); (case side2 => exact HC0_0.out); rintro e w21 ⟨rfl, hb⟩; refine ⟨_, rfl, ?_⟩; have n0_ := Aside0.mk (kK BK398 hb); have n1_ := Aside0.mk (below_step (kB HB) hb); clear BK398; clear HB; have BK398 := n0_; have HB := n1_; clear n0_ n1_; (try clear hb); (try clear hb2); (try clear hk); (try clear hi)))
  go_ret2
  exact ⟨e1, kB HB⟩

-- NOT PRINTED: function 72 (impl_tree_parentOf)

end Go.Proofs.Ytnfbkakblnppaaa.P
