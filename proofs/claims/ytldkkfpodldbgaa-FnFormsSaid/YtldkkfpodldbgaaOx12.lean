-- Written by a program of this session (wip/mkprint.py over the kit's print), out of the translation. Not trusted: Lean checks it.
import Derived.Test.YtldkkfpodldbgaaOx0
import Derived.Test.YtldkkfpodldbgaaOx4
import Derived.Test.YtldkkfpodldbgaaOx5
import Derived.Test.YtldkkfpodldbgaaOx11
namespace Go.Proofs.Ytldkkfpodldbgaa.P
open Go.RowKit Go.Proofs.YtldkkfpodldbgaaW.PrintWords Go.Proofs.YtldkkfpodldbgaaW.PrintLast Go.Proofs.YtldkkfpodldbgaaW.PrintMore
attribute [local go_sem] max2_int min2_int max_two min_two max_three min_three max_four min_four   -- for this text's walks alone
set_option linter.unusedVariables false
set_option linter.unusedSimpArgs false

/-! ### impl_KeepsForm: function 48 -/
def impl_KeepsForm.j0 : Nat → Bool → List (List Int) → List (List Int) → Option (Bool × Bool)
 | 0, _, _, _ => none
 | k + 1, x19, x462000, x463000 => if x19 = true then (some (false, false)) else ((impl_Matrix_transposed.f x462000).bind fun t466 => ((impl_Matrix_times.f t466 x463000).bind fun t469 => ((impl_Matrix_times.f t469 x462000).bind fun t472 => ((impl_sameMatrix.f t472 x463000).bind fun t475 => (some (t475, true))))))
def impl_KeepsForm.f (k : Nat) (l0_0 : List (List Int)) (l1_0 : List (List Int)) : Option (Bool × Bool) := (impl_areAlike.f l0_0 l1_0).bind fun t463 => (if t463 = true then ((impl_Matrix_isSmall.f l0_0 30000).bind fun t464 => (if t464 = true then ((impl_isForm.f l1_0).bind fun t465 => (impl_KeepsForm.j0 k (!t465) l0_0 l1_0)) else (impl_KeepsForm.j0 k true l0_0 l1_0))) else (impl_KeepsForm.j0 k true l0_0 l1_0))
theorem impl_KeepsForm.mono_l : ∀ k, (∀ y0 y1 y2, LeO (impl_KeepsForm.j0 k y0 y1 y2) (impl_KeepsForm.j0 (k + 1) y0 y1 y2))
 | 0 => fun _ _ _ r h => by simp [impl_KeepsForm.j0] at h
 | k + 1 => by
  have ih0 := impl_KeepsForm.mono_l k
  ·
   intro y0 y1 y2
   unfold impl_KeepsForm.j0
   repeat' first
   | (with_reducible exact ih0 _ _ _)
   | (with_reducible exact LeO.refl _)
   | (with_reducible exact LeO.none _)
   | (with_reducible refine LeO.ite ?_ ?_)
   | (with_reducible refine LeO.bind ?_ (fun _ => ?_))
   | exact ih0 _ _ _
   | exact LeO.none _
   | refine LeO.ite ?_ ?_
   | refine LeO.bind ?_ (fun _ => ?_)
theorem impl_KeepsForm.mono : ∀ a0 a1 k, LeO (impl_KeepsForm.f k a0 a1) (impl_KeepsForm.f (k + 1) a0 a1) := by
 intro a0 a1 k
 have ih0 := impl_KeepsForm.mono_l k
 unfold impl_KeepsForm.f
 repeat' first
  | (with_reducible exact ih0 _ _ _)
  | (with_reducible exact LeO.refl _)
  | (with_reducible exact LeO.none _)
  | (with_reducible refine LeO.ite ?_ ?_)
  | (with_reducible refine LeO.bind ?_ (fun _ => ?_))
  | exact ih0 _ _ _
  | exact LeO.none _
  | refine LeO.ite ?_ ?_
  | refine LeO.bind ?_ (fun _ => ?_)
def impl_KeepsForm.T3 : Bool × List (List Nat × List Nat) := (true, [([], []), ([0], [0]), ([], []), ([1, 2, 1], [1, 2]), ([], []), ([3, 4, 3], [3, 4]), ([], []), ([5, 6, 5], [5, 6]), ([7, 7, 0, 1, 2, 3, 4, 5, 6, 7], [7]), ([8, 0, 1, 2, 3, 4, 5, 6, 7, 8], [])])
def impl_KeepsForm.B3 : List Nat := [0, 1, 0, 7, 0, 31, 0, 127, 255, 511]
theorem impl_KeepsForm.tab3 : rtab .any (opsOf Try.f48 3) = impl_KeepsForm.T3 := by kernel_rfl
theorem impl_KeepsForm.bits3 : waitsOk impl_KeepsForm.T3.2 impl_KeepsForm.B3 = true := by kernel_rfl
set_option maxHeartbeats 8000000 in
set_option maxRecDepth 100000 in
theorem impl_KeepsForm.calls (k : Nat) (A0_0 : Option Addr) (c0_0 : Nat) (l0_0 : List (List Int)) (A1_0 : Option Addr) (c1_0 : Nat) (l1_0 : List (List Int)) (r1 : Bool) (r2 : Bool) (w : World) (hr0_0 : Kd.C (Kd.slice 3 (Kd.int .i64)) w A0_0 l0_0.length l0_0) (hc0_0 : l0_0.length ≤ c0_0) (hr1_0 : Kd.C (Kd.slice 3 (Kd.int .i64)) w A1_0 l1_0.length l1_0) (hc1_0 : l1_0.length ≤ c1_0) (h : impl_KeepsForm.f k l0_0 l1_0 = some (r1, r2)) :
 Calls Try.prog 48 #[.agg #[.slice A0_0 l0_0.length c0_0], .agg #[.slice A1_0 l1_0.length c1_0]] w fun e w' => e = .returned (.tuple #[.bool r1, .bool r2]) ∧ Below w.heap.size w w' := by
 have hu26 := Try.underlying26
 have HR0_0 := Aside0.mk hr0_0
 have HC0_0 := Aside0.mk hc0_0
 clear hr0_0 hc0_0
 have HR1_0 := Aside0.mk hr1_0
 have HC1_0 := Aside0.mk hc1_0
 clear hr1_0 hc1_0
 have HB := Aside0.mk (Below.refl w.heap.size w)
 have H : ((impl_areAlike.f l0_0 l1_0).bind fun t463 => (if t463 = true then ((impl_Matrix_isSmall.f l0_0 30000).bind fun t464 => (if t464 = true then ((impl_isForm.f l1_0).bind fun t465 => (impl_KeepsForm.j0 k (!t465) l0_0 l1_0)) else (impl_KeepsForm.j0 k true l0_0 l1_0))) else (impl_KeepsForm.j0 k true l0_0 l1_0))) = some (r1, r2) := h
 clear h
 have HC3 := Aside0.mk H
 clear H
 go_enter Try.func48, Try.ntmps48
 go_upto_region 1 with (first | ((with_reducible refine gate_dst (N := 2) rfl ?_); refine box_event ?hg (N := 2) ?hd (cs := #[.slice A0_0 l0_0.length c0_0]) (t := 26) ?hr ?_; (case hd => rfl); (case hg => rfl); (case hr => exact z116_); intro gb461 hg w4 hbox hb; have n0_ := Aside0.mk (below_step bq hb); have n1_ := Aside0.mk (hbox); have n2_ := Aside0.mk ((by rw [hg]; exact (below_size bq) : w.heap.size ≤ gb461)); have n3_ := Aside0.mk ((by rw [hg]; exact (below_size bq) : w.heap.size ≤ gb461)); clear HB; have HB := n0_; have BK461 := n1_; have GW461 := n2_; have GE461 := n3_; clear n0_ n1_ n2_ n3_; clear hb hbox hg) | ((with_reducible refine gate_dst (N := 3) rfl ?_); refine box_event ?hg (N := 3) ?hd (cs := #[.slice A1_0 l1_0.length c1_0]) (t := 26) ?hr ?_; (case hd => rfl); (case hg => rfl); (case hr => exact z116_); intro gb462 hg w5 hbox hb; have n0_ := Aside0.mk (kK BK461 hb); have n1_ := Aside0.mk (below_step (kB HB) hb); have n2_ := Aside0.mk (hbox); have n3_ := Aside0.mk ((by rw [hg]; exact (below_size (kB HB)) : w.heap.size ≤ gb462)); have n4_ := Aside0.mk ((by rw [hg]; exact (below_size (kB HB)) : w.heap.size ≤ gb462)); have n5_ := Aside0.mk ((by rw [hg]; exact Nat.ne_of_lt (blk_lt (g := gb461) (o := .cells #[.slice A0_0 l0_0.length c0_0] 26 (0, 0)) (bA BK461)) : gb461 ≠ gb462)); have n6_ := Aside0.mk ((by rw [hg]; exact Nat.ne_of_gt (blk_lt (g := gb461) (o := .cells #[.slice A0_0 l0_0.length c0_0] 26 (0, 0)) (bA BK461)) : gb462 ≠ gb461)); clear BK461; clear HB; have BK461 := n0_; have HB := n1_; have BK462 := n2_; have GW462 := n3_; have GE462 := n4_; have NB461_462 := n5_; have NB462_461 := n6_; clear n0_ n1_ n2_ n3_ n4_ n5_ n6_; clear hb hbox hg))
 (try simp only [Act.put, List.setIfInBounds_toArray, List.set_cons_zero, List.set_cons_succ])
 go_cut [19] (fun v19 wc => ∃ (kq : Nat) (x19_2 : Bool), v19 = .bool x19_2 ∧ Aside0 (impl_KeepsForm.j0 kq x19_2 l0_0 l1_0 = some (r1, r2)) ∧ Aside0 (kq ≤ k) ∧ Aside0 (wc.heap[gb461]? = some (.cells #[(.slice A0_0 l0_0.length c0_0)] 26 (0, 0))) ∧ Aside0 (wc.heap[gb462]? = some (.cells #[(.slice A1_0 l1_0.length c1_0)] 26 (0, 0))) ∧ Aside0 (Below w.heap.size w wc))
 case first =>
  have H := HC3.out
  clear HC3
  replace H := Option.bind_eq_some_iff.mp H
  obtain ⟨t463, A60, H⟩ := H
  replace H : (if t463 = true then ((impl_Matrix_isSmall.f l0_0 30000).bind fun t464 => (if t464 = true then ((impl_isForm.f l1_0).bind fun t465 => (impl_KeepsForm.j0 k (!t465) l0_0 l1_0)) else (impl_KeepsForm.j0 k true l0_0 l1_0))) else (impl_KeepsForm.j0 k true l0_0 l1_0)) = some (r1, r2) := H
  have A6 := Aside0.mk A60
  clear A60
  by_cases c7 : t463 = true
  ·
   subst c7
   have H1 : ((impl_Matrix_isSmall.f l0_0 30000).bind fun t464 => (if t464 = true then ((impl_isForm.f l1_0).bind fun t465 => (impl_KeepsForm.j0 k (!t465) l0_0 l1_0)) else (impl_KeepsForm.j0 k true l0_0 l1_0))) = some (r1, r2) := by rw [if_pos rfl] at H; exact H
   clear H
   have H := H1
   clear H1
   replace H := Option.bind_eq_some_iff.mp H
   obtain ⟨t464, A80, H⟩ := H
   replace H : (if t464 = true then ((impl_isForm.f l1_0).bind fun t465 => (impl_KeepsForm.j0 k (!t465) l0_0 l1_0)) else (impl_KeepsForm.j0 k true l0_0 l1_0)) = some (r1, r2) := H
   have A8 := Aside0.mk A80
   clear A80
   by_cases c9 : t464 = true
   ·
    subst c9
    have H1 : ((impl_isForm.f l1_0).bind fun t465 => (impl_KeepsForm.j0 k (!t465) l0_0 l1_0)) = some (r1, r2) := by rw [if_pos rfl] at H; exact H
    clear H
    have H := H1
    clear H1
    replace H := Option.bind_eq_some_iff.mp H
    obtain ⟨t465, A100, H⟩ := H
    replace H : (impl_KeepsForm.j0 k (!t465) l0_0 l1_0) = some (r1, r2) := H
    have A10 := Aside0.mk A100
    clear A100
    have H' := Aside0.mk H
    clear H
    have hnb11 := NB461_462.out
    have hnc11 := NB462_461.out
    have hcz12_0 : w5.cell? ⟨gb461, 0, none⟩ = some (.slice A0_0 l0_0.length c0_0) := (blk_cell BK461.out 0).trans rfl
    have hfz12_0 := blk_frozen BK461.out 0
    have hcz13_0 : w5.cell? ⟨gb462, 0, none⟩ = some (.slice A1_0 l1_0.length c1_0) := (blk_cell BK462.out 0).trans rfl
    have hfz13_0 := blk_frozen BK462.out 0
    go_wp2_with (first | ((with_reducible refine gate_callee (f := 81) rfl ?_); refine gL (some 8) rfl rfl Try.func81 (by kernel_rfl) rfl #[.agg #[.slice A0_0 l0_0.length c0_0], .agg #[.slice A1_0 l1_0.length c1_0]] rfl ?_; (with_reducible refine (impl_areAlike.calls _ _ l0_0 _ _ l1_0 true _ ?side1 ?side2 ?side3 ?side4 A6.out).mono ?_); (case side1 => exact cC (Kd.C_below HR0_0.out HB.out)); (case side2 => exact HC0_0.out); (case side3 => exact cC (Kd.C_below HR1_0.out HB.out)); (case side4 => exact HC1_0.out); rintro e w14 ⟨rfl, hb⟩; refine ⟨_, rfl, ?_⟩; have n0_ := Aside0.mk (kK BK461 hb); have n1_ := Aside0.mk (kK BK462 hb); have n2_ := Aside0.mk (below_step (kB HB) hb); clear BK461; clear BK462; clear HB; have BK461 := n0_; have BK462 := n1_; have HB := n2_; clear n0_ n1_ n2_; (try clear hb); (try clear hb2); (try clear hk); (try clear hi); have hcz15_0 : w14.cell? ⟨gb461, 0, none⟩ = some (.slice A0_0 l0_0.length c0_0) := (blk_cell BK461.out 0).trans rfl; have hfz15_0 := blk_frozen BK461.out 0) | (go_at_call 63; (with_reducible refine (impl_Matrix_isSmall.calls _ _ l0_0 30000 true _ ?side1 ?side2 A8.out).mono ?_); (case side1 => exact cC (Kd.C_below HR0_0.out HB.out)); (case side2 => exact HC0_0.out); rintro e w16 ⟨rfl, hb⟩; have n0_ := Aside0.mk (kK BK461 hb); have n1_ := Aside0.mk (kK BK462 hb); have n2_ := Aside0.mk (below_step (kB HB) hb); clear BK461; clear BK462; clear HB; have BK461 := n0_; have BK462 := n1_; have HB := n2_; clear n0_ n1_ n2_; (try clear hb); (try clear hb2); (try clear hk); (try clear hi); have hcz17_0 : w16.cell? ⟨gb462, 0, none⟩ = some (.slice A1_0 l1_0.length c1_0) := (blk_cell BK462.out 0).trans rfl; have hfz17_0 := blk_frozen BK462.out 0) | (go_at_call 102; (with_reducible refine (impl_isForm.calls _ _ l1_0 t465 _ ?side1 ?side2 A10.out).mono ?_); (case side1 => exact cC (Kd.C_below HR1_0.out HB.out)); (case side2 => exact HC1_0.out); rintro e w18 ⟨rfl, hb⟩; have n0_ := Aside0.mk (kK BK461 hb); have n1_ := Aside0.mk (kK BK462 hb); have n2_ := Aside0.mk (below_step (kB HB) hb); clear BK461; clear BK462; clear HB; have BK461 := n0_; have BK462 := n1_; have HB := n2_; clear n0_ n1_ n2_; (try clear hb); (try clear hb2); (try clear hk); (try clear hi)))
    go_meet
    case rel => exact ⟨_, (!t465), e2, H', ⟨z117_⟩, ⟨z77_⟩, ⟨z76_⟩, ⟨kB HB⟩⟩
   ·
    replace c9 := Bool.eq_false_iff.mpr c9
    subst c9
    have H1 : (impl_KeepsForm.j0 k true l0_0 l1_0) = some (r1, r2) := by rw [if_neg (show ¬ (false = true) by decide)] at H; exact H
    clear H
    have H := H1
    clear H1
    have H' := Aside0.mk H
    clear H
    have hnb19 := NB461_462.out
    have hnc19 := NB462_461.out
    have hcz20_0 : w5.cell? ⟨gb461, 0, none⟩ = some (.slice A0_0 l0_0.length c0_0) := (blk_cell BK461.out 0).trans rfl
    have hfz20_0 := blk_frozen BK461.out 0
    have hcz21_0 : w5.cell? ⟨gb462, 0, none⟩ = some (.slice A1_0 l1_0.length c1_0) := (blk_cell BK462.out 0).trans rfl
    have hfz21_0 := blk_frozen BK462.out 0
    go_wp2_with (first | ((with_reducible refine gate_callee (f := 81) rfl ?_); refine gL (some 8) rfl rfl Try.func81 (by kernel_rfl) rfl #[.agg #[.slice A0_0 l0_0.length c0_0], .agg #[.slice A1_0 l1_0.length c1_0]] rfl ?_; (with_reducible refine (impl_areAlike.calls _ _ l0_0 _ _ l1_0 true _ ?side1 ?side2 ?side3 ?side4 A6.out).mono ?_); (case side1 => exact cC (Kd.C_below HR0_0.out HB.out)); (case side2 => exact HC0_0.out); (case side3 => exact cC (Kd.C_below HR1_0.out HB.out)); (case side4 => exact HC1_0.out); rintro e w22 ⟨rfl, hb⟩; refine ⟨_, rfl, ?_⟩; have n0_ := Aside0.mk (kK BK461 hb); have n1_ := Aside0.mk (kK BK462 hb); have n2_ := Aside0.mk (below_step (kB HB) hb); clear BK461; clear BK462; clear HB; have BK461 := n0_; have BK462 := n1_; have HB := n2_; clear n0_ n1_ n2_; (try clear hb); (try clear hb2); (try clear hk); (try clear hi); have hcz23_0 : w22.cell? ⟨gb461, 0, none⟩ = some (.slice A0_0 l0_0.length c0_0) := (blk_cell BK461.out 0).trans rfl; have hfz23_0 := blk_frozen BK461.out 0) | (go_at_call 63; (with_reducible refine (impl_Matrix_isSmall.calls _ _ l0_0 30000 false _ ?side1 ?side2 A8.out).mono ?_); (case side1 => exact cC (Kd.C_below HR0_0.out HB.out)); (case side2 => exact HC0_0.out); rintro e w24 ⟨rfl, hb⟩; have n0_ := Aside0.mk (kK BK461 hb); have n1_ := Aside0.mk (kK BK462 hb); have n2_ := Aside0.mk (below_step (kB HB) hb); clear BK461; clear BK462; clear HB; have BK461 := n0_; have BK462 := n1_; have HB := n2_; clear n0_ n1_ n2_; (try clear hb); (try clear hb2); (try clear hk); (try clear hi)))
    go_meet
    case rel => exact ⟨_, (true), e2, H', ⟨z117_⟩, ⟨z77_⟩, ⟨z76_⟩, ⟨kB HB⟩⟩
  ·
   replace c7 := Bool.eq_false_iff.mpr c7
   subst c7
   have H1 : (impl_KeepsForm.j0 k true l0_0 l1_0) = some (r1, r2) := by rw [if_neg (show ¬ (false = true) by decide)] at H; exact H
   clear H
   have H := H1
   clear H1
   have H' := Aside0.mk H
   clear H
   have hnb25 := NB461_462.out
   have hnc25 := NB462_461.out
   have hcz26_0 : w5.cell? ⟨gb461, 0, none⟩ = some (.slice A0_0 l0_0.length c0_0) := (blk_cell BK461.out 0).trans rfl
   have hfz26_0 := blk_frozen BK461.out 0
   have hcz27_0 : w5.cell? ⟨gb462, 0, none⟩ = some (.slice A1_0 l1_0.length c1_0) := (blk_cell BK462.out 0).trans rfl
   have hfz27_0 := blk_frozen BK462.out 0
   go_wp2_with (first | ((with_reducible refine gate_callee (f := 81) rfl ?_); refine gL (some 8) rfl rfl Try.func81 (by kernel_rfl) rfl #[.agg #[.slice A0_0 l0_0.length c0_0], .agg #[.slice A1_0 l1_0.length c1_0]] rfl ?_; (with_reducible refine (impl_areAlike.calls _ _ l0_0 _ _ l1_0 false _ ?side1 ?side2 ?side3 ?side4 A6.out).mono ?_); (case side1 => exact cC (Kd.C_below HR0_0.out HB.out)); (case side2 => exact HC0_0.out); (case side3 => exact cC (Kd.C_below HR1_0.out HB.out)); (case side4 => exact HC1_0.out); rintro e w28 ⟨rfl, hb⟩; refine ⟨_, rfl, ?_⟩; have n0_ := Aside0.mk (kK BK461 hb); have n1_ := Aside0.mk (kK BK462 hb); have n2_ := Aside0.mk (below_step (kB HB) hb); clear BK461; clear BK462; clear HB; have BK461 := n0_; have BK462 := n1_; have HB := n2_; clear n0_ n1_ n2_; (try clear hb); (try clear hb2); (try clear hk); (try clear hi)))
   go_meet
   case rel => exact ⟨_, (true), e2, H', ⟨z117_⟩, ⟨z77_⟩, ⟨z76_⟩, ⟨kB HB⟩⟩
 case rest =>
  clear HC3; (try clear c1); (try clear c2); (try clear p2); (try clear c4); (try clear c7); (try clear c8); (try clear c9); (try clear c11); (try clear c19); (try clear c25); (try clear hcz12_0); (try clear hcz13_0); (try clear hcz15_0); (try clear hcz17_0); (try clear hcz20_0); (try clear hcz21_0); (try clear hcz23_0); (try clear hcz26_0); (try clear hcz27_0); (try clear hfz12_0); (try clear hfz13_0); (try clear hfz15_0); (try clear hfz17_0); (try clear hfz20_0); (try clear hfz21_0); (try clear hfz23_0); (try clear hfz26_0); (try clear hfz27_0)
  obtain ⟨kq, x19_2, rfl, HA, HJ2, BK461, BK462, HB⟩ := hcut
  cases kq with
  | zero => exact absurd HA.out (by simp [impl_KeepsForm.j0])
  | succ kj2 =>
   have H := HA.out
   clear HA
   simp only [impl_KeepsForm.j0] at H
   by_cases c29 : x19_2 = true
   ·
    subst c29
    have H1 : (some (false, false)) = some (r1, r2) := by rw [if_pos rfl] at H; exact H
    clear H
    have H := H1
    clear H1
    simp only [Option.some.injEq, Prod.mk.injEq] at H
    obtain ⟨rfl, rfl⟩ := H
    go_wp2
    go_ret2
    exact ⟨e1, kB HB⟩
   ·
    replace c29 := Bool.eq_false_iff.mpr c29
    subst c29
    have H1 : ((impl_Matrix_transposed.f l0_0).bind fun t466 => ((impl_Matrix_times.f t466 l1_0).bind fun t469 => ((impl_Matrix_times.f t469 l0_0).bind fun t472 => ((impl_sameMatrix.f t472 l1_0).bind fun t475 => (some (t475, true)))))) = some (r1, r2) := by rw [if_neg (show ¬ (false = true) by decide)] at H; exact H
    clear H
    have H := H1
    clear H1
    replace H := Option.bind_eq_some_iff.mp H
    obtain ⟨t466, A300, H⟩ := H
    replace H : ((impl_Matrix_times.f t466 l1_0).bind fun t469 => ((impl_Matrix_times.f t469 l0_0).bind fun t472 => ((impl_sameMatrix.f t472 l1_0).bind fun t475 => (some (t475, true))))) = some (r1, r2) := H
    have A30 := Aside0.mk A300
    clear A300
    replace H := Option.bind_eq_some_iff.mp H
    obtain ⟨t469, A310, H⟩ := H
    replace H : ((impl_Matrix_times.f t469 l0_0).bind fun t472 => ((impl_sameMatrix.f t472 l1_0).bind fun t475 => (some (t475, true)))) = some (r1, r2) := H
    have A31 := Aside0.mk A310
    clear A310
    replace H := Option.bind_eq_some_iff.mp H
    obtain ⟨t472, A320, H⟩ := H
    replace H : ((impl_sameMatrix.f t472 l1_0).bind fun t475 => (some (t475, true))) = some (r1, r2) := H
    have A32 := Aside0.mk A320
    clear A320
    replace H := Option.bind_eq_some_iff.mp H
    obtain ⟨t475, A330, H⟩ := H
    replace H : (some (t475, true)) = some (r1, r2) := H
    have A33 := Aside0.mk A330
    clear A330
    simp only [Option.some.injEq, Prod.mk.injEq] at H
    obtain ⟨rfl, rfl⟩ := H
    try go_wp2
    have n0_ := Aside0.mk (blk_drew BK461.out)
    have n1_ := Aside0.mk (blk_drew BK462.out)
    have n2_ := Aside0.mk (below_drew1 HB.out)
    clear BK461; clear BK462; clear HB
    have BK461 := n0_
    have BK462 := n1_
    have HB := n2_
    clear n0_ n1_ n2_
    refine start_ (n := 10) (S := fun w' => w'.cell? ⟨gb461, 0, none⟩ = some (.slice A0_0 l0_0.length c0_0) ∧ w'.cell? ⟨gb462, 0, none⟩ = some (.slice A1_0 l1_0.length c1_0)) (ds := []) #[O,O,O,O,O,O,O,O,O,O] (by kernel_rfl) rfl rfl ⟨(blk_cell BK461.out 0).trans rfl, (blk_cell BK462.out 0).trans rfl⟩ (fun hHeld => ?_); refine with_tabW impl_KeepsForm.tab3 impl_KeepsForm.bits3 (fun HT_ HW_ => ?_)
    generalize wc.drew = w34 at BK461 BK462 HB hHeld ⊢
    refine take_ (i := 0) (N := some 20) (v := ?_) (a' := ?_) (BM 10 1) rfl rfl (take_ofW HT_.out HW_.out (by kernel_rfl)) (fun _ _ _ h => h) (Or.inl ⟨by rfl, ?_⟩) hHeld ?_ ?_
    rotate_left
    ·
     rintro w' ⟨s0, s1⟩
     go_simp
     with_reducible rfl
    rotate_left
    ·
     simp only [AP]
     rfl
    refine take_ (i := 2) (N := some 22) (v := ?_) (a' := ?_) (BM 10 5) rfl rfl (take_ofW HT_.out HW_.out (by kernel_rfl)) (fun _ _ _ h => h) (Or.inl ⟨by rfl, ?_⟩) hHeld ?_ ?_
    rotate_left
    ·
     rintro w' ⟨s0, s1⟩
     go_simp
     with_reducible rfl
    rotate_left
    ·
     simp only [AP]
     rfl
    refine take_ (i := 4) (N := some 24) (v := ?_) (a' := ?_) (BM 10 21) rfl rfl (take_ofW HT_.out HW_.out (by kernel_rfl)) (fun _ _ _ h => h) (Or.inl ⟨by rfl, ?_⟩) hHeld ?_ ?_
    rotate_left
    ·
     rintro w' ⟨s0, s1⟩
     go_simp
     with_reducible rfl
    rotate_left
    ·
     simp only [AP]
     rfl
    refine take_ (i := 6) (N := some 26) (v := ?_) (a' := ?_) (BM 10 85) rfl rfl (take_ofW HT_.out HW_.out (by kernel_rfl)) (fun _ _ _ h => h) (Or.inl ⟨by rfl, ?_⟩) hHeld ?_ ?_
    rotate_left
    ·
     rintro w' ⟨s0, s1⟩
     go_simp
     with_reducible rfl
    rotate_left
    ·
     simp only [AP]
     rfl
    refine one_ (i := 1) (N := some 21) (BM 10 87) rfl rfl (one_of HT_.out (by kernel_rfl)) (by decide) (fun K hK => ?_)
    refine goes_ Try.func94 (by kernel_rfl) rfl #[.agg #[.slice A0_0 l0_0.length c0_0]] (by rfl) rfl rfl (by (try simp only [List.map_toArray, List.map_cons, List.map_nil]); first | done | rfl | (simp only [List.length_drop, List.length_take]; rfl)) ?_
    with_reducible refine (impl_Matrix_transposed.calls _ _ l0_0 t466 _ ?side1 ?side2 A30.out).mono ?_
    (case side1 => exact cC (Kd.C_below HR0_0.out HB.out))
    (case side2 => exact HC0_0.out)
    rintro e w35 ⟨v467, rfl, ho0, hb⟩
    refine ⟨_, rfl, ?_⟩
    have n0_ := Aside0.mk (Kd.S_lower ho0 (below_size (kB HB)))
    have n1_ := Aside0.mk (kK BK461 hb)
    have n2_ := Aside0.mk (kK BK462 hb)
    have n3_ := Aside0.mk (below_step (kB HB) hb)
    clear BK461; clear BK462; clear HB
    have HO468 := n0_
    have BK461 := n1_
    have BK462 := n2_
    have HB := n3_
    clear n0_ n1_ n2_ n3_
    (try clear hb)
    (try clear hb2)
    (try clear hk)
    (try clear hi)
    (try clear ho0)
    obtain ⟨Ao36, co36, eo36⟩ := Kd.S_slice HO468.out
    (first | subst eo36 | (injection eo36 with f1_ f2_ f3_; have f4_ := f1_.symm; have f5_ := f3_.symm; clear f1_ f2_ f3_; subst f4_; subst f5_))
    refine hK.out _ _ ⟨(blk_cell BK461.out 0).trans rfl, (blk_cell BK462.out 0).trans rfl⟩ (fun hHeld => ?_)
    clear hK K
    refine norm_ (a' := ?_) ?_ ?_
    rotate_left
    ·
     show Act.put _ (some 21) _ = _
     simp only [AP]
     rfl
    refine one_ (i := 3) (N := some 23) (BM 10 95) rfl rfl (one_of HT_.out (by kernel_rfl)) (by decide) (fun K hK => ?_)
    refine goes_ Try.func92 (by kernel_rfl) rfl #[.agg #[.slice Ao36 t466.length co36], .agg #[.slice A1_0 l1_0.length c1_0]] (by rfl) rfl rfl (by (try simp only [List.map_toArray, List.map_cons, List.map_nil]); first | done | rfl | (simp only [List.length_drop, List.length_take]; rfl)) ?_
    with_reducible refine (impl_Matrix_times.calls _ _ t466 _ _ l1_0 t469 _ ?side1 ?side2 ?side3 ?side4 A31.out).mono ?_
    (case side1 => exact cC (Kd.S_reads' HO468.out).2.2)
    (case side2 => exact (Kd.S_reads' HO468.out).2.1)
    (case side3 => exact cC (Kd.C_below HR1_0.out HB.out))
    (case side4 => exact HC1_0.out)
    rintro e w37 ⟨v470, rfl, ho0, hb⟩
    refine ⟨_, rfl, ?_⟩
    have n0_ := Aside0.mk (Kd.S_elder' z104_ (Kd.S_base ho0) hb)
    have n1_ := Aside0.mk (Kd.S_lower (Kd.S_new' ho0 (Kd.S_lt z104_)) (below_size (kB HB)))
    have n2_ := Aside0.mk (kK BK461 hb)
    have n3_ := Aside0.mk (kK BK462 hb)
    have n4_ := Aside0.mk (below_step (kB HB) hb)
    clear HO468; clear BK461; clear BK462; clear HB
    have HO468 := n0_
    have HO471 := n1_
    have BK461 := n2_
    have BK462 := n3_
    have HB := n4_
    clear n0_ n1_ n2_ n3_ n4_
    (try clear hb)
    (try clear hb2)
    (try clear hk)
    (try clear hi)
    (try clear ho0)
    obtain ⟨Ao38, co38, eo38⟩ := Kd.S_slice HO471.out
    (first | subst eo38 | (injection eo38 with f1_ f2_ f3_; have f4_ := f1_.symm; have f5_ := f3_.symm; clear f1_ f2_ f3_; subst f4_; subst f5_))
    refine hK.out _ _ ⟨(blk_cell BK461.out 0).trans rfl, (blk_cell BK462.out 0).trans rfl⟩ (fun hHeld => ?_)
    clear hK K
    refine norm_ (a' := ?_) ?_ ?_
    rotate_left
    ·
     show Act.put _ (some 23) _ = _
     simp only [AP]
     rfl
    refine one_ (i := 5) (N := some 25) (BM 10 127) rfl rfl (one_of HT_.out (by kernel_rfl)) (by decide) (fun K hK => ?_)
    refine goes_ Try.func92 (by kernel_rfl) rfl #[.agg #[.slice Ao38 t469.length co38], .agg #[.slice A0_0 l0_0.length c0_0]] (by rfl) rfl rfl (by (try simp only [List.map_toArray, List.map_cons, List.map_nil]); first | done | rfl | (simp only [List.length_drop, List.length_take]; rfl)) ?_
    with_reducible refine (impl_Matrix_times.calls _ _ t469 _ _ l0_0 t472 _ ?side1 ?side2 ?side3 ?side4 A32.out).mono ?_
    (case side1 => exact cC (Kd.S_reads' HO471.out).2.2)
    (case side2 => exact (Kd.S_reads' HO471.out).2.1)
    (case side3 => exact cC (Kd.C_below HR0_0.out HB.out))
    (case side4 => exact HC0_0.out)
    rintro e w39 ⟨v473, rfl, ho0, hb⟩
    refine ⟨_, rfl, ?_⟩
    have n0_ := Aside0.mk (Kd.S_elder' z104_ (Kd.S_base ho0) hb)
    have n1_ := Aside0.mk (Kd.S_elder' z98_ (Kd.S_base ho0) hb)
    have n2_ := Aside0.mk (Kd.S_lower (Kd.S_new' (Kd.S_new' ho0 (Kd.S_lt z104_)) (Kd.S_lt z98_)) (below_size (kB HB)))
    have n3_ := Aside0.mk (kK BK461 hb)
    have n4_ := Aside0.mk (kK BK462 hb)
    have n5_ := Aside0.mk (below_step (kB HB) hb)
    clear HO468; clear HO471; clear BK461; clear BK462; clear HB
    have HO468 := n0_
    have HO471 := n1_
    have HO474 := n2_
    have BK461 := n3_
    have BK462 := n4_
    have HB := n5_
    clear n0_ n1_ n2_ n3_ n4_ n5_
    (try clear hb)
    (try clear hb2)
    (try clear hk)
    (try clear hi)
    (try clear ho0)
    obtain ⟨Ao40, co40, eo40⟩ := Kd.S_slice HO474.out
    (first | subst eo40 | (injection eo40 with f1_ f2_ f3_; have f4_ := f1_.symm; have f5_ := f3_.symm; clear f1_ f2_ f3_; subst f4_; subst f5_))
    refine hK.out _ _ ⟨(blk_cell BK461.out 0).trans rfl, (blk_cell BK462.out 0).trans rfl⟩ (fun hHeld => ?_)
    clear hK K
    refine norm_ (a' := ?_) ?_ ?_
    rotate_left
    ·
     show Act.put _ (some 25) _ = _
     simp only [AP]
     rfl
    refine one_ (i := 7) (N := some 27) (BM 10 255) rfl rfl (one_of HT_.out (by kernel_rfl)) (by decide) (fun K hK => ?_)
    refine goes_ Try.func104 (by kernel_rfl) rfl #[.agg #[.slice Ao40 t472.length co40], .agg #[.slice A1_0 l1_0.length c1_0]] (by rfl) rfl rfl (by (try simp only [List.map_toArray, List.map_cons, List.map_nil]); first | done | rfl | (simp only [List.length_drop, List.length_take]; rfl)) ?_
    with_reducible refine (impl_sameMatrix.calls _ _ t472 _ _ l1_0 t475 _ ?side1 ?side2 ?side3 ?side4 A33.out).mono ?_
    (case side1 => exact cC (Kd.S_reads' HO474.out).2.2)
    (case side2 => exact (Kd.S_reads' HO474.out).2.1)
    (case side3 => exact cC (Kd.C_below HR1_0.out HB.out))
    (case side4 => exact HC1_0.out)
    rintro e w41 ⟨rfl, hb⟩
    refine ⟨_, rfl, ?_⟩
    have n0_ := Aside0.mk (Kd.S_below z104_ hb)
    have n1_ := Aside0.mk (Kd.S_below z98_ hb)
    have n2_ := Aside0.mk (Kd.S_below (by (with_reducible repeat (first | apply Kd.S_alloc | apply Kd.S_drewN | apply Kd.S_drew)); exact HO474.out) hb)
    have n3_ := Aside0.mk (kK BK461 hb)
    have n4_ := Aside0.mk (kK BK462 hb)
    have n5_ := Aside0.mk (below_step (kB HB) hb)
    clear HO468; clear HO471; clear HO474; clear BK461; clear BK462; clear HB
    have HO468 := n0_
    have HO471 := n1_
    have HO474 := n2_
    have BK461 := n3_
    have BK462 := n4_
    have HB := n5_
    clear n0_ n1_ n2_ n3_ n4_ n5_
    (try clear hb)
    (try clear hb2)
    (try clear hk)
    (try clear hi)
    refine hK.out _ _ ⟨(blk_cell BK461.out 0).trans rfl, (blk_cell BK462.out 0).trans rfl⟩ (fun hHeld => ?_)
    clear hK K
    refine norm_ (a' := ?_) ?_ ?_
    rotate_left
    ·
     show Act.put _ (some 27) _ = _
     simp only [AP]
     rfl
    refine pS 8 4 (BM 10 511) ?_
    refine pS 9 5 (BM 10 1023) ?_
    refine done_ (done_of HT_.out (by kernel_rfl)) ?_
    try go_wp2
    go_ret2
    exact ⟨e1, kB HB⟩

end Go.Proofs.Ytldkkfpodldbgaa.P
