-- Written by a program of this session (wip/mkprint.py over the kit's print), out of the translation. Not trusted: Lean checks it.
import Derived.Test.YtldkkfpodldbgaaOx0
import Derived.Test.YtldkkfpodldbgaaOx1
import Derived.Test.YtldkkfpodldbgaaOx2
import Derived.Test.YtldkkfpodldbgaaOx3
import Derived.Test.YtldkkfpodldbgaaOx4
import Derived.Test.YtldkkfpodldbgaaOx6
import Derived.Test.YtldkkfpodldbgaaOx7
import Derived.Test.YtldkkfpodldbgaaOx13
namespace Go.Proofs.Ytldkkfpodldbgaa.P
open Go.RowKit Go.Proofs.YtldkkfpodldbgaaW.PrintWords Go.Proofs.YtldkkfpodldbgaaW.PrintLast Go.Proofs.YtldkkfpodldbgaaW.PrintMore
attribute [local go_sem] max2_int min2_int max_two min_two max_three min_three max_four min_four   -- for this text's walks alone
set_option linter.unusedVariables false
set_option linter.unusedSimpArgs false

/-! ### spec_KeepsForm: function 49 -/
def spec_KeepsForm.j0 : Nat → Bool → List (List Int) → List (List Int) → Option (Bool × Bool)
 | 0, _, _, _ => none
 | k + 1, x22, x493000, x494000 => if x22 = true then (some (false, false)) else ((spec_foTranspose.f k x493000).bind fun t496 => ((spec_foTimes.f k x494000 x493000).bind fun t499 => ((spec_foTimes.f k t496 t499).bind fun t502 => ((spec_foSame.f k t502 x494000).bind fun t505 => (some (t505, true))))))
def spec_KeepsForm.f (k : Nat) (l0_0 : List (List Int)) (l1_0 : List (List Int)) : Option (Bool × Bool) := (spec_foSmall.f k l0_0 30000).bind fun t494 => (if t494 = true then ((spec_foForm.f k l1_0).bind fun t495 => (if t495 = true then (spec_KeepsForm.j0 k ((l0_0.length : Int) != (l1_0.length : Int)) l0_0 l1_0) else (spec_KeepsForm.j0 k true l0_0 l1_0))) else (spec_KeepsForm.j0 k true l0_0 l1_0))
theorem spec_KeepsForm.mono_l : ∀ k, (∀ y0 y1 y2, LeO (spec_KeepsForm.j0 k y0 y1 y2) (spec_KeepsForm.j0 (k + 1) y0 y1 y2))
 | 0 => fun _ _ _ r h => by simp [spec_KeepsForm.j0] at h
 | k + 1 => by
  have ih0 := spec_KeepsForm.mono_l k
  ·
   intro y0 y1 y2
   unfold spec_KeepsForm.j0
   repeat' first
   | (with_reducible exact ih0 _ _ _)
   | (with_reducible exact spec_foForm.mono _ _)
   | (with_reducible exact spec_foSame.mono _ _ _)
   | (with_reducible exact spec_foSmall.mono _ _ _)
   | (with_reducible exact spec_foTimes.mono _ _ _)
   | (with_reducible exact spec_foTranspose.mono _ _)
   | (with_reducible exact LeO.refl _)
   | (with_reducible exact LeO.none _)
   | (with_reducible refine LeO.ite ?_ ?_)
   | (with_reducible refine LeO.bind ?_ (fun _ => ?_))
   | exact ih0 _ _ _
   | exact spec_foForm.mono _ _
   | exact spec_foSame.mono _ _ _
   | exact spec_foSmall.mono _ _ _
   | exact spec_foTimes.mono _ _ _
   | exact spec_foTranspose.mono _ _
   | exact LeO.none _
   | refine LeO.ite ?_ ?_
   | refine LeO.bind ?_ (fun _ => ?_)
theorem spec_KeepsForm.mono : ∀ a0 a1 k, LeO (spec_KeepsForm.f k a0 a1) (spec_KeepsForm.f (k + 1) a0 a1) := by
 intro a0 a1 k
 have ih0 := spec_KeepsForm.mono_l k
 unfold spec_KeepsForm.f
 repeat' first
  | (with_reducible exact ih0 _ _ _)
  | (with_reducible exact spec_foForm.mono _ _)
  | (with_reducible exact spec_foSame.mono _ _ _)
  | (with_reducible exact spec_foSmall.mono _ _ _)
  | (with_reducible exact spec_foTimes.mono _ _ _)
  | (with_reducible exact spec_foTranspose.mono _ _)
  | (with_reducible exact LeO.refl _)
  | (with_reducible exact LeO.none _)
  | (with_reducible refine LeO.ite ?_ ?_)
  | (with_reducible refine LeO.bind ?_ (fun _ => ?_))
  | exact ih0 _ _ _
  | exact spec_foForm.mono _ _
  | exact spec_foSame.mono _ _ _
  | exact spec_foSmall.mono _ _ _
  | exact spec_foTimes.mono _ _ _
  | exact spec_foTranspose.mono _ _
  | exact LeO.none _
  | refine LeO.ite ?_ ?_
  | refine LeO.bind ?_ (fun _ => ?_)
def spec_KeepsForm.T3 : Bool × List (List Nat × List Nat) := (true, [([], []), ([0], [0]), ([], []), ([], []), ([2, 3, 1], [2, 3]), ([1, 4, 4], [1, 4]), ([], []), ([5, 6, 5], [5, 6]), ([7, 7, 0, 1, 2, 3, 4, 5, 6, 7], [7]), ([8, 0, 1, 2, 3, 4, 5, 6, 7, 8], [])])
def spec_KeepsForm.B3 : List Nat := [0, 1, 0, 0, 15, 31, 0, 127, 255, 511]
theorem spec_KeepsForm.tab3 : rtab .any (opsOf Try.f49 3) = spec_KeepsForm.T3 := by kernel_rfl
theorem spec_KeepsForm.bits3 : waitsOk spec_KeepsForm.T3.2 spec_KeepsForm.B3 = true := by kernel_rfl
set_option maxHeartbeats 8000000 in
set_option maxRecDepth 100000 in
theorem spec_KeepsForm.calls (k : Nat) (A0_0 : Option Addr) (c0_0 : Nat) (l0_0 : List (List Int)) (A1_0 : Option Addr) (c1_0 : Nat) (l1_0 : List (List Int)) (r1 : Bool) (r2 : Bool) (w : World) (hr0_0 : Kd.C (Kd.slice 3 (Kd.int .i64)) w A0_0 l0_0.length l0_0) (hc0_0 : l0_0.length ≤ c0_0) (hr1_0 : Kd.C (Kd.slice 3 (Kd.int .i64)) w A1_0 l1_0.length l1_0) (hc1_0 : l1_0.length ≤ c1_0) (h : spec_KeepsForm.f k l0_0 l1_0 = some (r1, r2)) :
 Calls Try.prog 49 #[.agg #[.slice A0_0 l0_0.length c0_0], .agg #[.slice A1_0 l1_0.length c1_0]] w fun e w' => e = .returned (.tuple #[.bool r1, .bool r2]) ∧ Below w.heap.size w w' := by
 have hu26 := Try.underlying26
 have HR0_0 := Aside0.mk hr0_0
 have HC0_0 := Aside0.mk hc0_0
 clear hr0_0 hc0_0
 have HR1_0 := Aside0.mk hr1_0
 have HC1_0 := Aside0.mk hc1_0
 clear hr1_0 hc1_0
 have HB := Aside0.mk (Below.refl w.heap.size w)
 have H : ((spec_foSmall.f k l0_0 30000).bind fun t494 => (if t494 = true then ((spec_foForm.f k l1_0).bind fun t495 => (if t495 = true then (spec_KeepsForm.j0 k ((l0_0.length : Int) != (l1_0.length : Int)) l0_0 l1_0) else (spec_KeepsForm.j0 k true l0_0 l1_0))) else (spec_KeepsForm.j0 k true l0_0 l1_0))) = some (r1, r2) := h
 clear h
 have HC3 := Aside0.mk H
 clear H
 go_enter Try.func49, Try.ntmps49
 go_upto_region 1 with (first | ((with_reducible refine gate_dst (N := 2) rfl ?_); (try (refine gate_guard (by rfl) ?_; dsimp only)); refine box_event ?hg (N := 2) ?hd (cs := #[.slice A0_0 l0_0.length c0_0]) (t := 26) ?hr ?_; (case hd => rfl); (case hg => rfl); (case hr => exact z116_); intro gb492 hg w4 hbox hb; have n0_ := Aside0.mk (below_step bq hb); have n1_ := Aside0.mk (hbox); have n2_ := Aside0.mk ((by rw [hg]; exact (below_size bq) : w.heap.size ≤ gb492)); have n3_ := Aside0.mk ((by rw [hg]; exact (below_size bq) : w.heap.size ≤ gb492)); clear HB; have HB := n0_; have BK492 := n1_; have GW492 := n2_; have GE492 := n3_; clear n0_ n1_ n2_ n3_; clear hb hbox hg) | ((with_reducible refine gate_dst (N := 3) rfl ?_); (try (refine gate_guard (by rfl) ?_; dsimp only)); refine box_event ?hg (N := 3) ?hd (cs := #[.slice A1_0 l1_0.length c1_0]) (t := 26) ?hr ?_; (case hd => rfl); (case hg => rfl); (case hr => exact z116_); intro gb493 hg w5 hbox hb; have n0_ := Aside0.mk (kK BK492 hb); have n1_ := Aside0.mk (below_step (kB HB) hb); have n2_ := Aside0.mk (hbox); have n3_ := Aside0.mk ((by rw [hg]; exact (below_size (kB HB)) : w.heap.size ≤ gb493)); have n4_ := Aside0.mk ((by rw [hg]; exact (below_size (kB HB)) : w.heap.size ≤ gb493)); have n5_ := Aside0.mk ((by rw [hg]; exact Nat.ne_of_lt (blk_lt (g := gb492) (o := .cells #[.slice A0_0 l0_0.length c0_0] 26 (0, 0)) (bA BK492)) : gb492 ≠ gb493)); have n6_ := Aside0.mk ((by rw [hg]; exact Nat.ne_of_gt (blk_lt (g := gb492) (o := .cells #[.slice A0_0 l0_0.length c0_0] 26 (0, 0)) (bA BK492)) : gb493 ≠ gb492)); clear BK492; clear HB; have BK492 := n0_; have HB := n1_; have BK493 := n2_; have GW493 := n3_; have GE493 := n4_; have NB492_493 := n5_; have NB493_492 := n6_; clear n0_ n1_ n2_ n3_ n4_ n5_ n6_; clear hb hbox hg))
 (try simp only [Act.put, List.setIfInBounds_toArray, List.set_cons_zero, List.set_cons_succ])
 go_cut [22] (fun v22 wc => ∃ (kq : Nat) (x22_2 : Bool), v22 = .bool x22_2 ∧ Aside0 (spec_KeepsForm.j0 kq x22_2 l0_0 l1_0 = some (r1, r2)) ∧ Aside0 (kq ≤ k) ∧ Aside0 (wc.heap[gb492]? = some (.cells #[(.slice A0_0 l0_0.length c0_0)] 26 (0, 0))) ∧ Aside0 (wc.heap[gb493]? = some (.cells #[(.slice A1_0 l1_0.length c1_0)] 26 (0, 0))) ∧ Aside0 (Below w.heap.size w wc))
 case first =>
  have H := HC3.out
  clear HC3
  replace H := Option.bind_eq_some_iff.mp H
  obtain ⟨t494, A60, H⟩ := H
  replace H : (if t494 = true then ((spec_foForm.f k l1_0).bind fun t495 => (if t495 = true then (spec_KeepsForm.j0 k ((l0_0.length : Int) != (l1_0.length : Int)) l0_0 l1_0) else (spec_KeepsForm.j0 k true l0_0 l1_0))) else (spec_KeepsForm.j0 k true l0_0 l1_0)) = some (r1, r2) := H
  have A6 := Aside0.mk A60
  clear A60
  by_cases c7 : t494 = true
  ·
   subst c7
   have H1 : ((spec_foForm.f k l1_0).bind fun t495 => (if t495 = true then (spec_KeepsForm.j0 k ((l0_0.length : Int) != (l1_0.length : Int)) l0_0 l1_0) else (spec_KeepsForm.j0 k true l0_0 l1_0))) = some (r1, r2) := by rw [if_pos rfl] at H; exact H
   clear H
   have H := H1
   clear H1
   replace H := Option.bind_eq_some_iff.mp H
   obtain ⟨t495, A80, H⟩ := H
   replace H : (if t495 = true then (spec_KeepsForm.j0 k ((l0_0.length : Int) != (l1_0.length : Int)) l0_0 l1_0) else (spec_KeepsForm.j0 k true l0_0 l1_0)) = some (r1, r2) := H
   have A8 := Aside0.mk A80
   clear A80
   by_cases c9 : t495 = true
   ·
    subst c9
    have H1 : (spec_KeepsForm.j0 k ((l0_0.length : Int) != (l1_0.length : Int)) l0_0 l1_0) = some (r1, r2) := by rw [if_pos rfl] at H; exact H
    clear H
    have H := H1
    clear H1
    have H' := Aside0.mk H
    clear H
    have hnb10 := NB492_493.out
    have hnc10 := NB493_492.out
    have hcz11_0 : w5.cell? ⟨gb492, 0, none⟩ = some (.slice A0_0 l0_0.length c0_0) := (blk_cell BK492.out 0).trans rfl
    have hfz11_0 := blk_frozen BK492.out 0
    go_wp2_with (first | ((with_reducible refine gate_callee (f := 57) rfl ?_); refine gL (some 7) rfl rfl Try.func57 (by kernel_rfl) rfl #[.agg #[.slice A0_0 l0_0.length c0_0], .int .i64 30000] rfl ?_; (with_reducible refine (spec_foSmall.calls k _ _ l0_0 30000 true _ ?side1 ?side2 A6.out).mono ?_); (case side1 => exact cC (Kd.C_below HR0_0.out HB.out)); (case side2 => exact HC0_0.out); rintro e w12 ⟨rfl, hb⟩; refine ⟨_, rfl, ?_⟩; have n0_ := Aside0.mk (kK BK492 hb); have n1_ := Aside0.mk (kK BK493 hb); have n2_ := Aside0.mk (below_step (kB HB) hb); clear BK492; clear BK493; clear HB; have BK492 := n0_; have BK493 := n1_; have HB := n2_; clear n0_ n1_ n2_; (try clear hb); (try clear hb2); (try clear hk); (try clear hi); have hcz13_0 : w12.cell? ⟨gb493, 0, none⟩ = some (.slice A1_0 l1_0.length c1_0) := (blk_cell BK493.out 0).trans rfl; have hfz13_0 := blk_frozen BK493.out 0) | (go_at_call 83; (with_reducible refine (spec_foForm.calls k _ _ l1_0 true _ ?side1 ?side2 A8.out).mono ?_); (case side1 => exact cC (Kd.C_below HR1_0.out HB.out)); (case side2 => exact HC1_0.out); rintro e w14 ⟨rfl, hb⟩; have n0_ := Aside0.mk (kK BK492 hb); have n1_ := Aside0.mk (kK BK493 hb); have n2_ := Aside0.mk (below_step (kB HB) hb); clear BK492; clear BK493; clear HB; have BK492 := n0_; have BK493 := n1_; have HB := n2_; clear n0_ n1_ n2_; (try clear hb); (try clear hb2); (try clear hk); (try clear hi); have hcz15_0 : w14.cell? ⟨gb492, 0, none⟩ = some (.slice A0_0 l0_0.length c0_0) := (blk_cell BK492.out 0).trans rfl; have hfz15_0 := blk_frozen BK492.out 0; have hcz16_0 : w14.cell? ⟨gb493, 0, none⟩ = some (.slice A1_0 l1_0.length c1_0) := (blk_cell BK493.out 0).trans rfl; have hfz16_0 := blk_frozen BK493.out 0))
    go_meet
    case rel => exact ⟨_, (((l0_0.length : Int) != (l1_0.length : Int))), e2, H', ⟨z117_⟩, ⟨z72_⟩, ⟨z78_⟩, ⟨kB HB⟩⟩
   ·
    replace c9 := Bool.eq_false_iff.mpr c9
    subst c9
    have H1 : (spec_KeepsForm.j0 k true l0_0 l1_0) = some (r1, r2) := by rw [if_neg (show ¬ (false = true) by decide)] at H; exact H
    clear H
    have H := H1
    clear H1
    have H' := Aside0.mk H
    clear H
    have hnb17 := NB492_493.out
    have hnc17 := NB493_492.out
    have hcz18_0 : w5.cell? ⟨gb492, 0, none⟩ = some (.slice A0_0 l0_0.length c0_0) := (blk_cell BK492.out 0).trans rfl
    have hfz18_0 := blk_frozen BK492.out 0
    go_wp2_with (first | ((with_reducible refine gate_callee (f := 57) rfl ?_); refine gL (some 7) rfl rfl Try.func57 (by kernel_rfl) rfl #[.agg #[.slice A0_0 l0_0.length c0_0], .int .i64 30000] rfl ?_; (with_reducible refine (spec_foSmall.calls k _ _ l0_0 30000 true _ ?side1 ?side2 A6.out).mono ?_); (case side1 => exact cC (Kd.C_below HR0_0.out HB.out)); (case side2 => exact HC0_0.out); rintro e w19 ⟨rfl, hb⟩; refine ⟨_, rfl, ?_⟩; have n0_ := Aside0.mk (kK BK492 hb); have n1_ := Aside0.mk (kK BK493 hb); have n2_ := Aside0.mk (below_step (kB HB) hb); clear BK492; clear BK493; clear HB; have BK492 := n0_; have BK493 := n1_; have HB := n2_; clear n0_ n1_ n2_; (try clear hb); (try clear hb2); (try clear hk); (try clear hi); have hcz20_0 : w19.cell? ⟨gb493, 0, none⟩ = some (.slice A1_0 l1_0.length c1_0) := (blk_cell BK493.out 0).trans rfl; have hfz20_0 := blk_frozen BK493.out 0) | (go_at_call 83; (with_reducible refine (spec_foForm.calls k _ _ l1_0 false _ ?side1 ?side2 A8.out).mono ?_); (case side1 => exact cC (Kd.C_below HR1_0.out HB.out)); (case side2 => exact HC1_0.out); rintro e w21 ⟨rfl, hb⟩; have n0_ := Aside0.mk (kK BK492 hb); have n1_ := Aside0.mk (kK BK493 hb); have n2_ := Aside0.mk (below_step (kB HB) hb); clear BK492; clear BK493; clear HB; have BK492 := n0_; have BK493 := n1_; have HB := n2_; clear n0_ n1_ n2_; (try clear hb); (try clear hb2); (try clear hk); (try clear hi)))
    go_meet
    case rel => exact ⟨_, (true), e2, H', ⟨z117_⟩, ⟨z72_⟩, ⟨z78_⟩, ⟨kB HB⟩⟩
  ·
   replace c7 := Bool.eq_false_iff.mpr c7
   subst c7
   have H1 : (spec_KeepsForm.j0 k true l0_0 l1_0) = some (r1, r2) := by rw [if_neg (show ¬ (false = true) by decide)] at H; exact H
   clear H
   have H := H1
   clear H1
   have H' := Aside0.mk H
   clear H
   have hnb22 := NB492_493.out
   have hnc22 := NB493_492.out
   have hcz23_0 : w5.cell? ⟨gb492, 0, none⟩ = some (.slice A0_0 l0_0.length c0_0) := (blk_cell BK492.out 0).trans rfl
   have hfz23_0 := blk_frozen BK492.out 0
   go_wp2_with (first | ((with_reducible refine gate_callee (f := 57) rfl ?_); refine gL (some 7) rfl rfl Try.func57 (by kernel_rfl) rfl #[.agg #[.slice A0_0 l0_0.length c0_0], .int .i64 30000] rfl ?_; (with_reducible refine (spec_foSmall.calls k _ _ l0_0 30000 false _ ?side1 ?side2 A6.out).mono ?_); (case side1 => exact cC (Kd.C_below HR0_0.out HB.out)); (case side2 => exact HC0_0.out); rintro e w24 ⟨rfl, hb⟩; refine ⟨_, rfl, ?_⟩; have n0_ := Aside0.mk (kK BK492 hb); have n1_ := Aside0.mk (kK BK493 hb); have n2_ := Aside0.mk (below_step (kB HB) hb); clear BK492; clear BK493; clear HB; have BK492 := n0_; have BK493 := n1_; have HB := n2_; clear n0_ n1_ n2_; (try clear hb); (try clear hb2); (try clear hk); (try clear hi)))
   go_meet
   case rel => exact ⟨_, (true), e2, H', ⟨z117_⟩, ⟨z72_⟩, ⟨z78_⟩, ⟨kB HB⟩⟩
 case rest =>
  clear HC3; (try clear c1); (try clear c2); (try clear p2); (try clear c4); (try clear c5); (try clear c7); (try clear c9); (try clear c10); (try clear c17); (try clear c22); (try clear hcz11_0); (try clear hcz13_0); (try clear hcz15_0); (try clear hcz16_0); (try clear hcz18_0); (try clear hcz20_0); (try clear hcz23_0); (try clear hfz11_0); (try clear hfz13_0); (try clear hfz15_0); (try clear hfz16_0); (try clear hfz18_0); (try clear hfz20_0); (try clear hfz23_0)
  obtain ⟨kq, x22_2, rfl, HA, HJ2, BK492, BK493, HB⟩ := hcut
  cases kq with
  | zero => exact absurd HA.out (by simp [spec_KeepsForm.j0])
  | succ kj2 =>
   have H := HA.out
   clear HA
   simp only [spec_KeepsForm.j0] at H
   by_cases c25 : x22_2 = true
   ·
    subst c25
    have H1 : (some (false, false)) = some (r1, r2) := by rw [if_pos rfl] at H; exact H
    clear H
    have H := H1
    clear H1
    simp only [Option.some.injEq, Prod.mk.injEq] at H
    obtain ⟨rfl, rfl⟩ := H
    go_wp2
    go_ret2
    exact ⟨e1, kB HB⟩
   ·
    replace c25 := Bool.eq_false_iff.mpr c25
    subst c25
    have H1 : ((spec_foTranspose.f kj2 l0_0).bind fun t496 => ((spec_foTimes.f kj2 l1_0 l0_0).bind fun t499 => ((spec_foTimes.f kj2 t496 t499).bind fun t502 => ((spec_foSame.f kj2 t502 l1_0).bind fun t505 => (some (t505, true)))))) = some (r1, r2) := by rw [if_neg (show ¬ (false = true) by decide)] at H; exact H
    clear H
    have H := H1
    clear H1
    replace H := Option.bind_eq_some_iff.mp H
    obtain ⟨t496, A260, H⟩ := H
    replace H : ((spec_foTimes.f kj2 l1_0 l0_0).bind fun t499 => ((spec_foTimes.f kj2 t496 t499).bind fun t502 => ((spec_foSame.f kj2 t502 l1_0).bind fun t505 => (some (t505, true))))) = some (r1, r2) := H
    have A26 := Aside0.mk A260
    clear A260
    replace H := Option.bind_eq_some_iff.mp H
    obtain ⟨t499, A270, H⟩ := H
    replace H : ((spec_foTimes.f kj2 t496 t499).bind fun t502 => ((spec_foSame.f kj2 t502 l1_0).bind fun t505 => (some (t505, true)))) = some (r1, r2) := H
    have A27 := Aside0.mk A270
    clear A270
    replace H := Option.bind_eq_some_iff.mp H
    obtain ⟨t502, A280, H⟩ := H
    replace H : ((spec_foSame.f kj2 t502 l1_0).bind fun t505 => (some (t505, true))) = some (r1, r2) := H
    have A28 := Aside0.mk A280
    clear A280
    replace H := Option.bind_eq_some_iff.mp H
    obtain ⟨t505, A290, H⟩ := H
    replace H : (some (t505, true)) = some (r1, r2) := H
    have A29 := Aside0.mk A290
    clear A290
    simp only [Option.some.injEq, Prod.mk.injEq] at H
    obtain ⟨rfl, rfl⟩ := H
    try go_wp2
    have n0_ := Aside0.mk (blk_drew BK492.out)
    have n1_ := Aside0.mk (blk_drew BK493.out)
    have n2_ := Aside0.mk (below_drew1 HB.out)
    clear BK492; clear BK493; clear HB
    have BK492 := n0_
    have BK493 := n1_
    have HB := n2_
    clear n0_ n1_ n2_
    refine start_ (n := 10) (S := fun w' => w'.cell? ⟨gb492, 0, none⟩ = some (.slice A0_0 l0_0.length c0_0) ∧ w'.cell? ⟨gb493, 0, none⟩ = some (.slice A1_0 l1_0.length c1_0)) (ds := []) #[O,O,O,O,O,O,O,O,O,O] (by kernel_rfl) rfl rfl ⟨(blk_cell BK492.out 0).trans rfl, (blk_cell BK493.out 0).trans rfl⟩ (fun hHeld => ?_); refine with_tabW spec_KeepsForm.tab3 spec_KeepsForm.bits3 (fun HT_ HW_ => ?_)
    generalize wc.drew = w30 at BK492 BK493 HB hHeld ⊢
    refine take_ (i := 0) (N := some 23) (v := ?_) (a' := ?_) (BM 10 1) rfl rfl (take_ofW HT_.out HW_.out (by kernel_rfl)) (fun _ _ _ h => h) (Or.inl ⟨by rfl, ?_⟩) hHeld ?_ ?_
    rotate_left
    ·
     rintro w' ⟨s0, s1⟩
     go_simp
     with_reducible rfl
    rotate_left
    ·
     simp only [AP]
     rfl
    refine take_ (i := 2) (N := some 25) (v := ?_) (a' := ?_) (BM 10 5) rfl rfl (take_ofW HT_.out HW_.out (by kernel_rfl)) (fun _ _ _ h => h) (Or.inl ⟨by rfl, ?_⟩) hHeld ?_ ?_
    rotate_left
    ·
     rintro w' ⟨s0, s1⟩
     go_simp
     with_reducible rfl
    rotate_left
    ·
     simp only [AP]
     rfl
    refine take_ (i := 3) (N := some 26) (v := ?_) (a' := ?_) (BM 10 13) rfl rfl (take_ofW HT_.out HW_.out (by kernel_rfl)) (fun _ _ _ h => h) (Or.inl ⟨by rfl, ?_⟩) hHeld ?_ ?_
    rotate_left
    ·
     rintro w' ⟨s0, s1⟩
     go_simp
     with_reducible rfl
    rotate_left
    ·
     simp only [AP]
     rfl
    refine take_ (i := 6) (N := some 29) (v := ?_) (a' := ?_) (BM 10 77) rfl rfl (take_ofW HT_.out HW_.out (by kernel_rfl)) (fun _ _ _ h => h) (Or.inl ⟨by rfl, ?_⟩) hHeld ?_ ?_
    rotate_left
    ·
     rintro w' ⟨s0, s1⟩
     go_simp
     with_reducible rfl
    rotate_left
    ·
     simp only [AP]
     rfl
    refine one_ (i := 1) (N := some 24) (BM 10 79) rfl rfl (one_of HT_.out (by kernel_rfl)) (by decide) (fun K hK => ?_)
    refine goes_ Try.func106 (by kernel_rfl) rfl #[.agg #[.slice A0_0 l0_0.length c0_0]] (by rfl) rfl rfl (by (try simp only [List.map_toArray, List.map_cons, List.map_nil]); first | done | rfl | (simp only [List.length_drop, List.length_take]; rfl)) ?_
    with_reducible refine (spec_foTranspose.calls kj2 _ _ l0_0 t496 _ ?side1 ?side2 A26.out).mono ?_
    (case side1 => exact cC (Kd.C_below HR0_0.out HB.out))
    (case side2 => exact HC0_0.out)
    rintro e w31 ⟨v497, rfl, ho0, hb⟩
    refine ⟨_, rfl, ?_⟩
    have n0_ := Aside0.mk (Kd.S_lower ho0 (below_size (kB HB)))
    have n1_ := Aside0.mk (kK BK492 hb)
    have n2_ := Aside0.mk (kK BK493 hb)
    have n3_ := Aside0.mk (below_step (kB HB) hb)
    clear BK492; clear BK493; clear HB
    have HO498 := n0_
    have BK492 := n1_
    have BK493 := n2_
    have HB := n3_
    clear n0_ n1_ n2_ n3_
    (try clear hb)
    (try clear hb2)
    (try clear hk)
    (try clear hi)
    (try clear ho0)
    refine hK.out _ _ ⟨(blk_cell BK492.out 0).trans rfl, (blk_cell BK493.out 0).trans rfl⟩ (fun hHeld => ?_)
    clear hK K
    refine norm_ (a' := ?_) ?_ ?_
    rotate_left
    ·
     show Act.put _ (some 24) _ = _
     simp only [AP]
     rfl
    refine one_ (i := 4) (N := some 27) (BM 10 95) rfl rfl (one_of HT_.out (by kernel_rfl)) (by decide) (fun K hK => ?_)
    refine goes_ Try.func77 (by kernel_rfl) rfl #[.agg #[.slice A1_0 l1_0.length c1_0], .agg #[.slice A0_0 l0_0.length c0_0]] (by rfl) rfl rfl (by (try simp only [List.map_toArray, List.map_cons, List.map_nil]); first | done | rfl | (simp only [List.length_drop, List.length_take]; rfl)) ?_
    with_reducible refine (spec_foTimes.calls kj2 _ _ l1_0 _ _ l0_0 t499 _ ?side1 ?side2 ?side3 ?side4 A27.out).mono ?_
    (case side1 => exact cC (Kd.C_below HR1_0.out HB.out))
    (case side2 => exact HC1_0.out)
    (case side3 => exact cC (Kd.C_below HR0_0.out HB.out))
    (case side4 => exact HC0_0.out)
    rintro e w32 ⟨v500, rfl, ho0, hb⟩
    refine ⟨_, rfl, ?_⟩
    have n0_ := Aside0.mk (Kd.S_elder' z111_ (Kd.S_base ho0) hb)
    have n1_ := Aside0.mk (Kd.S_lower (Kd.S_new' ho0 (Kd.S_lt z111_)) (below_size (kB HB)))
    have n2_ := Aside0.mk (kK BK492 hb)
    have n3_ := Aside0.mk (kK BK493 hb)
    have n4_ := Aside0.mk (below_step (kB HB) hb)
    clear HO498; clear BK492; clear BK493; clear HB
    have HO498 := n0_
    have HO501 := n1_
    have BK492 := n2_
    have BK493 := n3_
    have HB := n4_
    clear n0_ n1_ n2_ n3_ n4_
    (try clear hb)
    (try clear hb2)
    (try clear hk)
    (try clear hi)
    (try clear ho0)
    obtain ⟨Ao33, co33, eo33⟩ := Kd.S_slice HO498.out
    (first | subst eo33 | (injection eo33 with f1_ f2_ f3_; have f4_ := f1_.symm; have f5_ := f3_.symm; clear f1_ f2_ f3_; subst f4_; subst f5_))
    obtain ⟨Ao34, co34, eo34⟩ := Kd.S_slice HO501.out
    (first | subst eo34 | (injection eo34 with f1_ f2_ f3_; have f4_ := f1_.symm; have f5_ := f3_.symm; clear f1_ f2_ f3_; subst f4_; subst f5_))
    refine hK.out _ _ ⟨(blk_cell BK492.out 0).trans rfl, (blk_cell BK493.out 0).trans rfl⟩ (fun hHeld => ?_)
    clear hK K
    refine norm_ (a' := ?_) ?_ ?_
    rotate_left
    ·
     show Act.put _ (some 27) _ = _
     simp only [AP]
     rfl
    refine one_ (i := 5) (N := some 28) (BM 10 127) rfl rfl (one_of HT_.out (by kernel_rfl)) (by decide) (fun K hK => ?_)
    refine goes_ Try.func77 (by kernel_rfl) rfl #[.agg #[.slice Ao33 t496.length co33], .agg #[.slice Ao34 t499.length co34]] (by rfl) rfl rfl (by (try simp only [List.map_toArray, List.map_cons, List.map_nil]); first | done | rfl | (simp only [List.length_drop, List.length_take]; rfl)) ?_
    with_reducible refine (spec_foTimes.calls kj2 _ _ t496 _ _ t499 t502 _ ?side1 ?side2 ?side3 ?side4 A28.out).mono ?_
    (case side1 => exact cC (Kd.S_reads' HO498.out).2.2)
    (case side2 => exact (Kd.S_reads' HO498.out).2.1)
    (case side3 => exact cC (Kd.S_reads' HO501.out).2.2)
    (case side4 => exact (Kd.S_reads' HO501.out).2.1)
    rintro e w35 ⟨v503, rfl, ho0, hb⟩
    refine ⟨_, rfl, ?_⟩
    have n0_ := Aside0.mk (Kd.S_elder' z111_ (Kd.S_base ho0) hb)
    have n1_ := Aside0.mk (Kd.S_elder' z105_ (Kd.S_base ho0) hb)
    have n2_ := Aside0.mk (Kd.S_lower (Kd.S_new' (Kd.S_new' ho0 (Kd.S_lt z111_)) (Kd.S_lt z105_)) (below_size (kB HB)))
    have n3_ := Aside0.mk (kK BK492 hb)
    have n4_ := Aside0.mk (kK BK493 hb)
    have n5_ := Aside0.mk (below_step (kB HB) hb)
    clear HO498; clear HO501; clear BK492; clear BK493; clear HB
    have HO498 := n0_
    have HO501 := n1_
    have HO504 := n2_
    have BK492 := n3_
    have BK493 := n4_
    have HB := n5_
    clear n0_ n1_ n2_ n3_ n4_ n5_
    (try clear hb)
    (try clear hb2)
    (try clear hk)
    (try clear hi)
    (try clear ho0)
    obtain ⟨Ao36, co36, eo36⟩ := Kd.S_slice HO504.out
    (first | subst eo36 | (injection eo36 with f1_ f2_ f3_; have f4_ := f1_.symm; have f5_ := f3_.symm; clear f1_ f2_ f3_; subst f4_; subst f5_))
    refine hK.out _ _ ⟨(blk_cell BK492.out 0).trans rfl, (blk_cell BK493.out 0).trans rfl⟩ (fun hHeld => ?_)
    clear hK K
    refine norm_ (a' := ?_) ?_ ?_
    rotate_left
    ·
     show Act.put _ (some 28) _ = _
     simp only [AP]
     rfl
    refine one_ (i := 7) (N := some 30) (BM 10 255) rfl rfl (one_of HT_.out (by kernel_rfl)) (by decide) (fun K hK => ?_)
    refine goes_ Try.func105 (by kernel_rfl) rfl #[.agg #[.slice Ao36 t502.length co36], .agg #[.slice A1_0 l1_0.length c1_0]] (by rfl) rfl rfl (by (try simp only [List.map_toArray, List.map_cons, List.map_nil]); first | done | rfl | (simp only [List.length_drop, List.length_take]; rfl)) ?_
    with_reducible refine (spec_foSame.calls kj2 _ _ t502 _ _ l1_0 t505 _ ?side1 ?side2 ?side3 ?side4 A29.out).mono ?_
    (case side1 => exact cC (Kd.S_reads' HO504.out).2.2)
    (case side2 => exact (Kd.S_reads' HO504.out).2.1)
    (case side3 => exact cC (Kd.C_below HR1_0.out HB.out))
    (case side4 => exact HC1_0.out)
    rintro e w37 ⟨rfl, hb⟩
    refine ⟨_, rfl, ?_⟩
    have n0_ := Aside0.mk (Kd.S_below z111_ hb)
    have n1_ := Aside0.mk (Kd.S_below z105_ hb)
    have n2_ := Aside0.mk (Kd.S_below (by (with_reducible repeat (first | apply Kd.S_alloc | apply Kd.S_drewN | apply Kd.S_drew)); exact HO504.out) hb)
    have n3_ := Aside0.mk (kK BK492 hb)
    have n4_ := Aside0.mk (kK BK493 hb)
    have n5_ := Aside0.mk (below_step (kB HB) hb)
    clear HO498; clear HO501; clear HO504; clear BK492; clear BK493; clear HB
    have HO498 := n0_
    have HO501 := n1_
    have HO504 := n2_
    have BK492 := n3_
    have BK493 := n4_
    have HB := n5_
    clear n0_ n1_ n2_ n3_ n4_ n5_
    (try clear hb)
    (try clear hb2)
    (try clear hk)
    (try clear hi)
    refine hK.out _ _ ⟨(blk_cell BK492.out 0).trans rfl, (blk_cell BK493.out 0).trans rfl⟩ (fun hHeld => ?_)
    clear hK K
    refine norm_ (a' := ?_) ?_ ?_
    rotate_left
    ·
     show Act.put _ (some 30) _ = _
     simp only [AP]
     rfl
    refine pS 8 4 (BM 10 511) ?_
    refine pS 9 5 (BM 10 1023) ?_
    refine done_ (done_of HT_.out (by kernel_rfl)) ?_
    try go_wp2
    go_ret2
    exact ⟨e1, kB HB⟩

/-! ### impl_ApplyMatrix: function 50 -/
def impl_ApplyMatrix.j0 : Nat → List Int → Bool → List (List Int) → Option (List Int × Bool)
 | 0, _, _, _ => none
 | k + 1, x1, x16, x507000 => if x16 = true then (some (([] : List Int), false)) else ((impl_Matrix_apply.f k x507000 x1).bind fun t510 => ((impl_Matrix_size.f x507000).bind fun t513 => ((impl_isVector.f t510 t513).bind fun t514 => (if t514 = true then (some (t510, true)) else (some (([] : List Int), false))))))
def impl_ApplyMatrix.f (k : Nat) (l0_0 : List (List Int)) (l1 : List Int) : Option (List Int × Bool) := (impl_IsMatrix.f l0_0).bind fun t507 => (if t507 = true then ((impl_Matrix_size.f l0_0).bind fun t508 => ((impl_isVector.f l1 t508).bind fun t509 => (impl_ApplyMatrix.j0 k l1 (!t509) l0_0))) else (impl_ApplyMatrix.j0 k l1 true l0_0))
theorem impl_ApplyMatrix.mono_l : ∀ k, (∀ y0 y1 y2, LeO (impl_ApplyMatrix.j0 k y0 y1 y2) (impl_ApplyMatrix.j0 (k + 1) y0 y1 y2))
 | 0 => fun _ _ _ r h => by simp [impl_ApplyMatrix.j0] at h
 | k + 1 => by
  have ih0 := impl_ApplyMatrix.mono_l k
  ·
   intro y0 y1 y2
   unfold impl_ApplyMatrix.j0
   repeat' first
   | (with_reducible exact ih0 _ _ _)
   | (with_reducible exact impl_Matrix_apply.mono _ _ _)
   | (with_reducible exact LeO.refl _)
   | (with_reducible exact LeO.none _)
   | (with_reducible refine LeO.ite ?_ ?_)
   | (with_reducible refine LeO.bind ?_ (fun _ => ?_))
   | exact ih0 _ _ _
   | exact impl_Matrix_apply.mono _ _ _
   | exact LeO.none _
   | refine LeO.ite ?_ ?_
   | refine LeO.bind ?_ (fun _ => ?_)
theorem impl_ApplyMatrix.mono : ∀ a0 a1 k, LeO (impl_ApplyMatrix.f k a0 a1) (impl_ApplyMatrix.f (k + 1) a0 a1) := by
 intro a0 a1 k
 have ih0 := impl_ApplyMatrix.mono_l k
 unfold impl_ApplyMatrix.f
 repeat' first
  | (with_reducible exact ih0 _ _ _)
  | (with_reducible exact impl_Matrix_apply.mono _ _ _)
  | (with_reducible exact LeO.refl _)
  | (with_reducible exact LeO.none _)
  | (with_reducible refine LeO.ite ?_ ?_)
  | (with_reducible refine LeO.bind ?_ (fun _ => ?_))
  | exact ih0 _ _ _
  | exact impl_Matrix_apply.mono _ _ _
  | exact LeO.none _
  | refine LeO.ite ?_ ?_
  | refine LeO.bind ?_ (fun _ => ?_)
set_option maxHeartbeats 8000000 in
set_option maxRecDepth 100000 in
theorem impl_ApplyMatrix.calls (k : Nat) (A0_0 : Option Addr) (c0_0 : Nat) (l0_0 : List (List Int)) (A1 : Option Addr) (c1 : Nat) (l1 : List Int) (r1 : List Int) (r2 : Bool) (w : World) (hr0_0 : Kd.C (Kd.slice 3 (Kd.int .i64)) w A0_0 l0_0.length l0_0) (hc0_0 : l0_0.length ≤ c0_0) (hr1 : Kd.C (Kd.int .i64) w A1 l1.length l1) (hc1 : l1.length ≤ c1) (h : impl_ApplyMatrix.f k l0_0 l1 = some (r1, r2)) :
 Calls Try.prog 50 #[.agg #[.slice A0_0 l0_0.length c0_0], .slice A1 l1.length c1] w fun e w' => ∃ v0_ : Value, e = .returned (.tuple #[v0_, .bool r2]) ∧ Kd.R (Kd.int .i64) 3 w' w.heap.size (fun _ => True) v0_ r1 ∧ Below w.heap.size w w' := by
 have hu26 := Try.underlying26
 have HR0_0 := Aside0.mk hr0_0
 have HC0_0 := Aside0.mk hc0_0
 clear hr0_0 hc0_0
 have HR1 := Aside0.mk hr1
 have HC1 := Aside0.mk hc1
 clear hr1 hc1
 have HB := Aside0.mk (Below.refl w.heap.size w)
 have H : ((impl_IsMatrix.f l0_0).bind fun t507 => (if t507 = true then ((impl_Matrix_size.f l0_0).bind fun t508 => ((impl_isVector.f l1 t508).bind fun t509 => (impl_ApplyMatrix.j0 k l1 (!t509) l0_0))) else (impl_ApplyMatrix.j0 k l1 true l0_0))) = some (r1, r2) := h
 clear h
 have HC3 := Aside0.mk H
 clear H
 go_enter Try.func50, Try.ntmps50
 go_upto_region 1 with (first | ((with_reducible refine gate_dst (N := 2) rfl ?_); refine box_event ?hg (N := 2) ?hd (cs := #[.slice A0_0 l0_0.length c0_0]) (t := 26) ?hr ?_; (case hd => rfl); (case hg => rfl); (case hr => exact z116_); intro gb506 hg w4 hbox hb; have n0_ := Aside0.mk (below_step bq hb); have n1_ := Aside0.mk (hbox); have n2_ := Aside0.mk ((by rw [hg]; exact (below_size bq) : w.heap.size ≤ gb506)); have n3_ := Aside0.mk ((by rw [hg]; exact (below_size bq) : w.heap.size ≤ gb506)); clear HB; have HB := n0_; have BK506 := n1_; have GW506 := n2_; have GE506 := n3_; clear n0_ n1_ n2_ n3_; clear hb hbox hg))
 (try simp only [Act.put, List.setIfInBounds_toArray, List.set_cons_zero, List.set_cons_succ])
 go_cut [16] (fun v16 wc => ∃ (kq : Nat) (x16_2 : Bool), v16 = .bool x16_2 ∧ Aside0 (impl_ApplyMatrix.j0 kq l1 x16_2 l0_0 = some (r1, r2)) ∧ Aside0 (kq ≤ k) ∧ Aside0 (wc.heap[gb506]? = some (.cells #[(.slice A0_0 l0_0.length c0_0)] 26 (0, 0))) ∧ Aside0 (Below w.heap.size w wc))
 case first =>
  have H := HC3.out
  clear HC3
  replace H := Option.bind_eq_some_iff.mp H
  obtain ⟨t507, A50, H⟩ := H
  replace H : (if t507 = true then ((impl_Matrix_size.f l0_0).bind fun t508 => ((impl_isVector.f l1 t508).bind fun t509 => (impl_ApplyMatrix.j0 k l1 (!t509) l0_0))) else (impl_ApplyMatrix.j0 k l1 true l0_0)) = some (r1, r2) := H
  have A5 := Aside0.mk A50
  clear A50
  by_cases c6 : t507 = true
  ·
   subst c6
   have H1 : ((impl_Matrix_size.f l0_0).bind fun t508 => ((impl_isVector.f l1 t508).bind fun t509 => (impl_ApplyMatrix.j0 k l1 (!t509) l0_0))) = some (r1, r2) := by rw [if_pos rfl] at H; exact H
   clear H
   have H := H1
   clear H1
   replace H := Option.bind_eq_some_iff.mp H
   obtain ⟨t508, A70, H⟩ := H
   replace H : ((impl_isVector.f l1 t508).bind fun t509 => (impl_ApplyMatrix.j0 k l1 (!t509) l0_0)) = some (r1, r2) := H
   have A7 := Aside0.mk A70
   clear A70
   replace H := Option.bind_eq_some_iff.mp H
   obtain ⟨t509, A80, H⟩ := H
   replace H : (impl_ApplyMatrix.j0 k l1 (!t509) l0_0) = some (r1, r2) := H
   have A8 := Aside0.mk A80
   clear A80
   have H' := Aside0.mk H
   clear H
   have hcz9_0 : w4.cell? ⟨gb506, 0, none⟩ = some (.slice A0_0 l0_0.length c0_0) := (blk_cell BK506.out 0).trans rfl
   have hfz9_0 := blk_frozen BK506.out 0
   go_wp2_with (first | ((with_reducible refine gate_callee (f := 33) rfl ?_); refine gL (some 8) rfl rfl Try.func33 (by kernel_rfl) rfl #[.agg #[.slice A0_0 l0_0.length c0_0]] rfl ?_; (with_reducible refine (impl_IsMatrix.calls _ _ l0_0 true _ ?side1 ?side2 A5.out).mono ?_); (case side1 => exact cC (Kd.C_below HR0_0.out HB.out)); (case side2 => exact HC0_0.out); rintro e w10 ⟨rfl, hb⟩; refine ⟨_, rfl, ?_⟩; have n0_ := Aside0.mk (kK BK506 hb); have n1_ := Aside0.mk (below_step (kB HB) hb); clear BK506; clear HB; have BK506 := n0_; have HB := n1_; clear n0_ n1_; (try clear hb); (try clear hb2); (try clear hk); (try clear hi); have hcz11_0 : w10.cell? ⟨gb506, 0, none⟩ = some (.slice A0_0 l0_0.length c0_0) := (blk_cell BK506.out 0).trans rfl; have hfz11_0 := blk_frozen BK506.out 0) | (go_at_call 67; (with_reducible refine (impl_Matrix_size.calls _ _ l0_0 t508 _ ?side1 ?side2 A7.out).mono ?_); (case side1 => exact cC (Kd.C_below HR0_0.out HB.out)); (case side2 => exact HC0_0.out); rintro e w12 ⟨rfl, hb⟩; have n0_ := Aside0.mk (kK BK506 hb); have n1_ := Aside0.mk (below_step (kB HB) hb); clear BK506; clear HB; have BK506 := n0_; have HB := n1_; clear n0_ n1_; (try clear hb); (try clear hb2); (try clear hk); (try clear hi)) | (go_at_call 97; (with_reducible refine (impl_isVector.calls _ _ l1 t508 t509 _ ?side1 ?side2 A8.out).mono ?_); (case side1 => exact cC (Kd.C_below HR1.out HB.out)); (case side2 => exact HC1.out); rintro e w13 ⟨rfl, hb⟩; have n0_ := Aside0.mk (kK BK506 hb); have n1_ := Aside0.mk (below_step (kB HB) hb); clear BK506; clear HB; have BK506 := n0_; have HB := n1_; clear n0_ n1_; (try clear hb); (try clear hb2); (try clear hk); (try clear hi)))
   go_meet
   case rel => exact ⟨_, (!t509), e2, H', ⟨z117_⟩, ⟨z71_⟩, ⟨kB HB⟩⟩
  ·
   replace c6 := Bool.eq_false_iff.mpr c6
   subst c6
   have H1 : (impl_ApplyMatrix.j0 k l1 true l0_0) = some (r1, r2) := by rw [if_neg (show ¬ (false = true) by decide)] at H; exact H
   clear H
   have H := H1
   clear H1
   have H' := Aside0.mk H
   clear H
   have hcz14_0 : w4.cell? ⟨gb506, 0, none⟩ = some (.slice A0_0 l0_0.length c0_0) := (blk_cell BK506.out 0).trans rfl
   have hfz14_0 := blk_frozen BK506.out 0
   go_wp2_with (first | ((with_reducible refine gate_callee (f := 33) rfl ?_); refine gL (some 8) rfl rfl Try.func33 (by kernel_rfl) rfl #[.agg #[.slice A0_0 l0_0.length c0_0]] rfl ?_; (with_reducible refine (impl_IsMatrix.calls _ _ l0_0 false _ ?side1 ?side2 A5.out).mono ?_); (case side1 => exact cC (Kd.C_below HR0_0.out HB.out)); (case side2 => exact HC0_0.out); rintro e w15 ⟨rfl, hb⟩; refine ⟨_, rfl, ?_⟩; have n0_ := Aside0.mk (kK BK506 hb); have n1_ := Aside0.mk (below_step (kB HB) hb); clear BK506; clear HB; have BK506 := n0_; have HB := n1_; clear n0_ n1_; (try clear hb); (try clear hb2); (try clear hk); (try clear hi)))
   go_meet
   case rel => exact ⟨_, (true), e2, H', ⟨z117_⟩, ⟨z71_⟩, ⟨kB HB⟩⟩
 case rest =>
  clear HC3; (try clear c1); (try clear p2); (try clear c3); (try clear c5); (try clear c6); (try clear hcz11_0); (try clear hcz14_0); (try clear hcz9_0); (try clear hfz11_0); (try clear hfz14_0); (try clear hfz9_0)
  obtain ⟨kq, x16_2, rfl, HA, HJ2, BK506, HB⟩ := hcut
  cases kq with
  | zero => exact absurd HA.out (by simp [impl_ApplyMatrix.j0])
  | succ kj2 =>
   have H := HA.out
   clear HA
   simp only [impl_ApplyMatrix.j0] at H
   by_cases c16 : x16_2 = true
   ·
    subst c16
    have H1 : (some (([] : List Int), false)) = some (r1, r2) := by rw [if_pos rfl] at H; exact H
    clear H
    have H := H1
    clear H1
    simp only [Option.some.injEq, Prod.mk.injEq] at H
    obtain ⟨rfl, rfl⟩ := H
    go_wp2
    go_ret2
    exact ⟨_, e1, z59_, kB HB⟩
   ·
    replace c16 := Bool.eq_false_iff.mpr c16
    subst c16
    have H1 : ((impl_Matrix_apply.f kj2 l0_0 l1).bind fun t510 => ((impl_Matrix_size.f l0_0).bind fun t513 => ((impl_isVector.f t510 t513).bind fun t514 => (if t514 = true then (some (t510, true)) else (some (([] : List Int), false)))))) = some (r1, r2) := by rw [if_neg (show ¬ (false = true) by decide)] at H; exact H
    clear H
    have H := H1
    clear H1
    replace H := Option.bind_eq_some_iff.mp H
    obtain ⟨t510, A170, H⟩ := H
    replace H : ((impl_Matrix_size.f l0_0).bind fun t513 => ((impl_isVector.f t510 t513).bind fun t514 => (if t514 = true then (some (t510, true)) else (some (([] : List Int), false))))) = some (r1, r2) := H
    have A17 := Aside0.mk A170
    clear A170
    replace H := Option.bind_eq_some_iff.mp H
    obtain ⟨t513, A180, H⟩ := H
    replace H : ((impl_isVector.f t510 t513).bind fun t514 => (if t514 = true then (some (t510, true)) else (some (([] : List Int), false)))) = some (r1, r2) := H
    have A18 := Aside0.mk A180
    clear A180
    replace H := Option.bind_eq_some_iff.mp H
    obtain ⟨t514, A190, H⟩ := H
    replace H : (if t514 = true then (some (t510, true)) else (some (([] : List Int), false))) = some (r1, r2) := H
    have A19 := Aside0.mk A190
    clear A190
    by_cases c20 : t514 = true
    ·
     subst c20
     have H1 : (some (t510, true)) = some (r1, r2) := by rw [if_pos rfl] at H; exact H
     clear H
     have H := H1
     clear H1
     simp only [Option.some.injEq, Prod.mk.injEq] at H
     obtain ⟨rfl, rfl⟩ := H
     have hcz21_0 : wc.cell? ⟨gb506, 0, none⟩ = some (.slice A0_0 l0_0.length c0_0) := (blk_cell BK506.out 0).trans rfl
     have hfz21_0 := blk_frozen BK506.out 0
     go_wp2_with (first | ((with_reducible refine gate_callee (f := 87) rfl ?_); refine gL (some 19) rfl rfl Try.func87 (by kernel_rfl) rfl #[.agg #[.slice A0_0 l0_0.length c0_0], .slice A1 l1.length c1] rfl ?_; (with_reducible refine (impl_Matrix_apply.calls kj2 _ _ l0_0 _ _ l1 t510 _ ?side1 ?side2 ?side3 ?side4 A17.out).mono ?_); (case side1 => exact cC (Kd.C_below HR0_0.out HB.out)); (case side2 => exact HC0_0.out); (case side3 => exact cC (Kd.C_below HR1.out HB.out)); (case side4 => exact HC1.out); rintro e w22 ⟨v511, rfl, ho0, hb⟩; refine ⟨_, rfl, ?_⟩; have n0_ := Aside0.mk (Kd.R_lower ho0 (below_size (kB HB))); have n1_ := Aside0.mk (kK BK506 hb); have n2_ := Aside0.mk (below_step (kB HB) hb); clear BK506; clear HB; have HO512 := n0_; have BK506 := n1_; have HB := n2_; clear n0_ n1_ n2_; (try clear hb); (try clear hb2); (try clear hk); (try clear hi); (try clear ho0); have hcz23_0 : w22.cell? ⟨gb506, 0, none⟩ = some (.slice A0_0 l0_0.length c0_0) := (blk_cell BK506.out 0).trans rfl; have hfz23_0 := blk_frozen BK506.out 0) | ((with_reducible refine gate_callee (f := 67) rfl ?_); refine gL (some 22) rfl rfl Try.func67 (by kernel_rfl) rfl #[.agg #[.slice A0_0 l0_0.length c0_0]] rfl ?_; (with_reducible refine (impl_Matrix_size.calls _ _ l0_0 t513 _ ?side1 ?side2 A18.out).mono ?_); (case side1 => exact cC (Kd.C_below HR0_0.out HB.out)); (case side2 => exact HC0_0.out); rintro e w24 ⟨rfl, hb⟩; refine ⟨_, rfl, ?_⟩; have n0_ := Aside0.mk (Kd.R_below (rA HO512) hb); have n1_ := Aside0.mk (kK BK506 hb); have n2_ := Aside0.mk (below_step (kB HB) hb); clear HO512; clear BK506; clear HB; have HO512 := n0_; have BK506 := n1_; have HB := n2_; clear n0_ n1_ n2_; (try clear hb); (try clear hb2); (try clear hk); (try clear hi); obtain ⟨Ao25, co25, eo25⟩ := Kd.R_slice HO512.out; subst eo25) | ((with_reducible refine gate_callee (f := 97) rfl ?_); refine gL (some 23) rfl rfl Try.func97 (by kernel_rfl) rfl #[.slice Ao25 t510.length co25, .int .i64 t513] rfl ?_; (with_reducible refine (impl_isVector.calls _ _ t510 t513 true _ ?side1 ?side2 A19.out).mono ?_); (case side1 => exact cC (Kd.R_reads' HO512.out).2.2); (case side2 => exact (Kd.R_reads' HO512.out).2.1); rintro e w26 ⟨rfl, hb⟩; refine ⟨_, rfl, ?_⟩; have n0_ := Aside0.mk (Kd.R_below (rA HO512) hb); have n1_ := Aside0.mk (kK BK506 hb); have n2_ := Aside0.mk (below_step (kB HB) hb); clear HO512; clear BK506; clear HB; have HO512 := n0_; have BK506 := n1_; have HB := n2_; clear n0_ n1_ n2_; (try clear hb); (try clear hb2); (try clear hk); (try clear hi)))
     go_ret2
     exact ⟨_, e1, by (with_reducible repeat (first | apply Kd.R_alloc | apply Kd.R_drewN | apply Kd.R_drew)); exact HO512.out, kB HB⟩
    ·
     replace c20 := Bool.eq_false_iff.mpr c20
     subst c20
     have H1 : (some (([] : List Int), false)) = some (r1, r2) := by rw [if_neg (show ¬ (false = true) by decide)] at H; exact H
     clear H
     have H := H1
     clear H1
     simp only [Option.some.injEq, Prod.mk.injEq] at H
     obtain ⟨rfl, rfl⟩ := H
     have hcz27_0 : wc.cell? ⟨gb506, 0, none⟩ = some (.slice A0_0 l0_0.length c0_0) := (blk_cell BK506.out 0).trans rfl
     have hfz27_0 := blk_frozen BK506.out 0
     go_wp2_with (first | ((with_reducible refine gate_callee (f := 87) rfl ?_); refine gL (some 19) rfl rfl Try.func87 (by kernel_rfl) rfl #[.agg #[.slice A0_0 l0_0.length c0_0], .slice A1 l1.length c1] rfl ?_; (with_reducible refine (impl_Matrix_apply.calls kj2 _ _ l0_0 _ _ l1 t510 _ ?side1 ?side2 ?side3 ?side4 A17.out).mono ?_); (case side1 => exact cC (Kd.C_below HR0_0.out HB.out)); (case side2 => exact HC0_0.out); (case side3 => exact cC (Kd.C_below HR1.out HB.out)); (case side4 => exact HC1.out); rintro e w28 ⟨v511, rfl, ho0, hb⟩; refine ⟨_, rfl, ?_⟩; have n0_ := Aside0.mk (Kd.R_lower ho0 (below_size (kB HB))); have n1_ := Aside0.mk (kK BK506 hb); have n2_ := Aside0.mk (below_step (kB HB) hb); clear BK506; clear HB; have HO512 := n0_; have BK506 := n1_; have HB := n2_; clear n0_ n1_ n2_; (try clear hb); (try clear hb2); (try clear hk); (try clear hi); (try clear ho0); have hcz29_0 : w28.cell? ⟨gb506, 0, none⟩ = some (.slice A0_0 l0_0.length c0_0) := (blk_cell BK506.out 0).trans rfl; have hfz29_0 := blk_frozen BK506.out 0) | ((with_reducible refine gate_callee (f := 67) rfl ?_); refine gL (some 22) rfl rfl Try.func67 (by kernel_rfl) rfl #[.agg #[.slice A0_0 l0_0.length c0_0]] rfl ?_; (with_reducible refine (impl_Matrix_size.calls _ _ l0_0 t513 _ ?side1 ?side2 A18.out).mono ?_); (case side1 => exact cC (Kd.C_below HR0_0.out HB.out)); (case side2 => exact HC0_0.out); rintro e w30 ⟨rfl, hb⟩; refine ⟨_, rfl, ?_⟩; have n0_ := Aside0.mk (Kd.R_below (rA HO512) hb); have n1_ := Aside0.mk (kK BK506 hb); have n2_ := Aside0.mk (below_step (kB HB) hb); clear HO512; clear BK506; clear HB; have HO512 := n0_; have BK506 := n1_; have HB := n2_; clear n0_ n1_ n2_; (try clear hb); (try clear hb2); (try clear hk); (try clear hi); obtain ⟨Ao31, co31, eo31⟩ := Kd.R_slice HO512.out; subst eo31) | ((with_reducible refine gate_callee (f := 97) rfl ?_); refine gL (some 23) rfl rfl Try.func97 (by kernel_rfl) rfl #[.slice Ao31 t510.length co31, .int .i64 t513] rfl ?_; (with_reducible refine (impl_isVector.calls _ _ t510 t513 false _ ?side1 ?side2 A19.out).mono ?_); (case side1 => exact cC (Kd.R_reads' HO512.out).2.2); (case side2 => exact (Kd.R_reads' HO512.out).2.1); rintro e w32 ⟨rfl, hb⟩; refine ⟨_, rfl, ?_⟩; have n0_ := Aside0.mk (Kd.R_below (rA HO512) hb); have n1_ := Aside0.mk (kK BK506 hb); have n2_ := Aside0.mk (below_step (kB HB) hb); clear HO512; clear BK506; clear HB; have HO512 := n0_; have BK506 := n1_; have HB := n2_; clear n0_ n1_ n2_; (try clear hb); (try clear hb2); (try clear hk); (try clear hi)))
     go_ret2
     exact ⟨_, e1, z59_, kB HB⟩

/-! ### spec_DrawApplyMatrix: function 51 -/
def spec_DrawApplyMatrix.f (k : Nat) (l0 : List Int) : Option ((List (List Int)) × List Int) := (spec_l1Cur_size.f l0 0 0).bind fun bt517 => ((spec_l1Cur_matrix.f k l0 bt517.2.1 bt517.2.2 bt517.1).bind fun bt520 => ((spec_l1Cur_vector.f k l0 bt520.2.1 bt520.2.2 bt517.1).bind fun bt525 => (some (bt520.1, bt525.1))))
theorem spec_DrawApplyMatrix.mono : ∀ a0 k, LeO (spec_DrawApplyMatrix.f k a0) (spec_DrawApplyMatrix.f (k + 1) a0) := by
 intro a0 k
 unfold spec_DrawApplyMatrix.f
 repeat' first
  | (with_reducible exact spec_l1Cur_matrix.mono _ _ _ _ _)
  | (with_reducible exact spec_l1Cur_vector.mono _ _ _ _ _)
  | (with_reducible exact LeO.refl _)
  | (with_reducible exact LeO.none _)
  | (with_reducible refine LeO.ite ?_ ?_)
  | (with_reducible refine LeO.bind ?_ (fun _ => ?_))
  | exact spec_l1Cur_matrix.mono _ _ _ _ _
  | exact spec_l1Cur_vector.mono _ _ _ _ _
  | exact LeO.none _
  | refine LeO.ite ?_ ?_
  | refine LeO.bind ?_ (fun _ => ?_)
set_option maxHeartbeats 8000000 in
set_option maxRecDepth 100000 in
theorem spec_DrawApplyMatrix.calls (k : Nat) (A0 : Option Addr) (c0 : Nat) (l0 : List Int) (r1 : List (List Int)) (r2 : List Int) (w : World) (hr0 : Kd.C (Kd.int .u8) w A0 l0.length l0) (hc0 : l0.length ≤ c0) (h : spec_DrawApplyMatrix.f k l0 = some (r1, r2)) :
 Calls Try.prog 51 #[.slice A0 l0.length c0] w fun e w' => ∃ v0_ v1_ : Value, e = .returned (.tuple #[.agg #[v0_], v1_]) ∧ Kd.V (Kd.slice 3 (Kd.int .i64)) 34 w' w.heap.size (fun k_ => (w.heap.size ≤ k_) ∧ some k_ ≠ (v1_ : Value).ownBlock) v0_ r1 ∧ Kd.R (Kd.int .i64) 3 w' w.heap.size (fun k_ => (w.heap.size ≤ k_)) v1_ r2 ∧ Below w.heap.size w w' := by
 have hu26 := Try.underlying26
 have hu92 := Try.underlying92
 have HR0 := Aside0.mk hr0
 have HC0 := Aside0.mk hc0
 clear hr0 hc0
 have HB := Aside0.mk (Below.refl w.heap.size w)
 have H : ((spec_l1Cur_size.f l0 0 0).bind fun bt517 => ((spec_l1Cur_matrix.f k l0 bt517.2.1 bt517.2.2 bt517.1).bind fun bt520 => ((spec_l1Cur_vector.f k l0 bt520.2.1 bt520.2.2 bt517.1).bind fun bt525 => (some (bt520.1, bt525.1))))) = some (r1, r2) := h
 clear h
 replace H := Option.bind_eq_some_iff.mp H
 obtain ⟨⟨t517, t518, t519⟩, A20, H⟩ := H
 replace H : ((spec_l1Cur_matrix.f k l0 t518 t519 t517).bind fun bt520 => ((spec_l1Cur_vector.f k l0 bt520.2.1 bt520.2.2 t517).bind fun bt525 => (some (bt520.1, bt525.1)))) = some (r1, r2) := H
 have A2 := Aside0.mk A20
 clear A20
 replace H := Option.bind_eq_some_iff.mp H
 obtain ⟨⟨t520, t523, t524⟩, A30, H⟩ := H
 replace H : ((spec_l1Cur_vector.f k l0 t523 t524 t517).bind fun bt525 => (some (t520, bt525.1))) = some (r1, r2) := H
 have A3 := Aside0.mk A30
 clear A30
 replace H := Option.bind_eq_some_iff.mp H
 obtain ⟨⟨t525, t528, t529⟩, A40, H⟩ := H
 replace H : (some (t520, t525)) = some (r1, r2) := H
 have A4 := Aside0.mk A40
 clear A40
 simp only [Option.some.injEq, Prod.mk.injEq] at H
 obtain ⟨rfl, rfl⟩ := H
 go_enter Try.func51, Try.ntmps51
 go_wp2_with (first | ((with_reducible refine gate_dst (N := 2) rfl ?_); refine box_event ?hg (N := 2) ?hd (cs := #[.slice none 0 0]) (t := 26) ?hr ?_; (case hd => rfl); (case hg => rfl); (case hr => exact z116_); intro gb515 hg w5 hbox hb; have n0_ := Aside0.mk (below_step bq hb); have n1_ := Aside0.mk (hbox); have n2_ := Aside0.mk ((by rw [hg]; exact (below_size bq) : w.heap.size ≤ gb515)); have n3_ := Aside0.mk ((by rw [hg]; exact (below_size bq) : w.heap.size ≤ gb515)); clear HB; have HB := n0_; have BK515 := n1_; have GW515 := n2_; have GE515 := n3_; clear n0_ n1_ n2_ n3_; clear hb hbox hg) | ((with_reducible refine gate_dst (N := 8) rfl ?_); refine box_event ?hg (N := 8) ?hd (cs := #[.slice A0 l0.length c0, .int .i64 0, .int .u64 0]) (t := 92) ?hr ?_; (case hd => rfl); (case hg => rfl); (case hr => exact z116_); intro gb516 hg w6 hbox hb; have n0_ := Aside0.mk (kK BK515 hb); have n1_ := Aside0.mk (below_step (kB HB) hb); have n2_ := Aside0.mk ((by rw [hg]; exact (below_size (kB HB)) : w.heap.size ≤ gb516)); have n3_ := Aside0.mk ((by rw [hg]; exact (below_size (kB HB)) : w.heap.size ≤ gb516)); have n4_ := Aside0.mk ((by rw [hg]; exact Nat.ne_of_lt (blk_lt (g := gb515) (o := .cells #[.slice none 0 0] 26 (0, 0)) (bA BK515)) : gb515 ≠ gb516)); have n5_ := Aside0.mk ((by rw [hg]; exact Nat.ne_of_gt (blk_lt (g := gb515) (o := .cells #[.slice none 0 0] 26 (0, 0)) (bA BK515)) : gb516 ≠ gb515)); have n6_ := Aside0.mk ((show IsS92 w w6 gb516 l0 0 0 from ⟨A0, c0, hbox, (by rw [hg]; exact (below_size (kB HB)) : w.heap.size ≤ gb516), HR0.out⟩)); clear BK515; clear HB; have BK515 := n0_; have HB := n1_; have GW516 := n2_; have GE516 := n3_; have NB515_516 := n4_; have NB516_515 := n5_; have HI516 := n6_; clear n0_ n1_ n2_ n3_ n4_ n5_ n6_; clear hb hbox hg) | ((with_reducible refine gate_callee (f := 89) rfl ?_); refine gL (some 10) rfl rfl Try.func89 (by kernel_rfl) rfl #[.pointer (some ⟨gb516, 0, none⟩)] rfl ?_; (with_reducible refine (spec_l1Cur_size.calls gb516 l0 0 0 t517 t518 t519 w _ ?side1 ?side2 A2.out).mono ?_); (case side1 => exact z46_); (case side2 => exact z36_); rintro e w7 ⟨rfl, hi, hb, hk⟩; refine ⟨_, rfl, ?_⟩; have n0_ := Aside0.mk (KeepBut.blk hk (g' := gb515) (o := .cells #[.slice none 0 0] 26 (0, 0)) (bA BK515) NB515_516.out (by simp)); have n1_ := Aside0.mk (hb); have n2_ := Aside0.mk (hi); clear BK515; clear HB; clear HI516; have BK515 := n0_; have HB := n1_; have HI516 := n2_; clear n0_ n1_ n2_; (try clear hb); (try clear hb2); (try clear hk); (try clear hi)) | ((with_reducible refine gate_callee (f := 91) rfl ?_); refine gL (some 13) rfl rfl Try.func91 (by kernel_rfl) rfl #[.pointer (some ⟨gb516, 0, none⟩), .int .i64 t517] rfl ?_; (with_reducible refine (spec_l1Cur_matrix.calls k gb516 l0 t518 t519 t517 t520 t523 t524 w _ ?side1 ?side2 A3.out).mono ?_); (case side1 => exact z46_); (case side2 => exact z36_); rintro e w8 ⟨v521, rfl, ho0, hi, hb, hk⟩; refine ⟨_, rfl, ?_⟩; have n0_ := Aside0.mk (KeepBut.blk hk (g' := gb515) (o := .cells #[.slice none 0 0] 26 (0, 0)) (bA BK515) NB515_516.out (by simp)); have n1_ := Aside0.mk (Kd.V_lower (Kd.V_mono (ok' := fun k_ => (w.heap.size ≤ k_) ∧ k_ ≠ gb515 ∧ k_ ≠ gb516) ho0 (fun k_ hk_ => ⟨(Nat.le_trans (below_size z36_) hk_), (Kd.freshB (g := gb515) (o := .cells #[.slice none 0 0] 26 (0, 0)) (bA BK515) k_ hk_), (IsS92.fresh z46_ k_ hk_)⟩)) (below_size z36_)); have n2_ := Aside0.mk (hb); have n3_ := Aside0.mk (hi); clear BK515; clear HB; clear HI516; have BK515 := n0_; have HO522 := n1_; have HB := n2_; have HI516 := n3_; clear n0_ n1_ n2_ n3_; (try clear hb); (try clear hb2); (try clear hk); (try clear hi); (try clear ho0)) | ((with_reducible refine gate_callee (f := 101) rfl ?_); refine gL (some 16) rfl rfl Try.func101 (by kernel_rfl) rfl #[.pointer (some ⟨gb516, 0, none⟩), .int .i64 t517] rfl ?_; (with_reducible refine (spec_l1Cur_vector.calls k gb516 l0 t523 t524 t517 t525 t528 t529 w _ ?side1 ?side2 A4.out).mono ?_); (case side1 => exact z46_); (case side2 => exact z36_); rintro e w9 ⟨v526, rfl, ho0, hi, hb, hk⟩; refine ⟨_, rfl, ?_⟩; have n0_ := Aside0.mk (KeepBut.blk hk (g' := gb515) (o := .cells #[.slice none 0 0] 26 (0, 0)) (bA BK515) NB515_516.out (by simp)); have n1_ := Aside0.mk (Kd.V_mono (Kd.V_told (Kd.V_oldK (Kd.V_mono (ok := fun k_ => (((w.heap.size ≤ k_)) ∧ (k_ ≠ gb515 ∧ k_ ≠ gb516))) (by (with_reducible repeat (first | apply Kd.V_alloc | apply Kd.V_drewN | apply Kd.V_drew)); exact HO522.out) (fun k_ hk_ => (⟨hk_, hk_.2.2⟩ : _ ∧ k_ ≠ gb516))) hk) (Kd.R_base ho0)) (fun _ h_ => h_.1)); have n2_ := Aside0.mk (Kd.R_lower (Kd.R_newM (M := fun k_ => (w.heap.size ≤ k_)) ho0 (below_size z36_) (fun k_ h_ => h_)) (below_size z36_)); have n3_ := Aside0.mk (hb); have n4_ := Aside0.mk (hi); clear BK515; clear HO522; clear HB; clear HI516; have BK515 := n0_; have HO522 := n1_; have HO527 := n2_; have HB := n3_; have HI516 := n4_; clear n0_ n1_ n2_ n3_ n4_; (try clear hb); (try clear hb2); (try clear hk); (try clear hi); (try clear ho0); obtain ⟨Ao10, co10, eo10⟩ := Kd.V_slice HO522.out; subst eo10; have hnb11 := NB515_516.out; have hnc11 := NB516_515.out; have hcz12_0 : w9.cell? ⟨gb515, 0, none⟩ = some (.slice none 0 0) := (blk_cell BK515.out 0).trans rfl; have hfz12_0 := blk_frozen BK515.out 0))
 refine bodyPost_ret (results_ct rfl _ _ gb515 26 #[.slice Ao10 t520.length co10] (0, 0) _ rfl (by (with_reducible repeat (first | refine blk_drewN ?_ _ | refine blk_drew ?_ | refine blk_alloc ?_ _)); refine blk_put (cs := #[.slice none 0 0]) ?_ 0 _ rfl; (with_reducible repeat (first | refine blk_drewN ?_ _ | refine blk_drew ?_ | refine blk_alloc ?_ _)); exact BK515.out) Try.underlying26 rfl (by kernel_rfl)) rfl ?_
 exact ⟨_, _, e1, by (with_reducible repeat (first | apply Kd.V_alloc | apply Kd.V_drewN | apply Kd.V_drew)); exact Kd.V_mono (Kd.V_far (p := ⟨gb515, 0, none⟩) (Kd.V_mono HO522.out (fun k_ hk => (⟨hk, hk.1.2.1⟩ : _ ∧ k_ ≠ gb515))) (fun _ hk => hk.2) (.slice Ao10 t520.length co10)) (fun _ hk => ⟨hk.1.1.1, hk.1.2⟩), by (with_reducible repeat (first | apply Kd.R_alloc | apply Kd.R_drewN | apply Kd.R_drew)); exact Kd.R_mono (Kd.R_far (p := ⟨gb515, 0, none⟩) (Kd.R_types HO527.out BK515.out (by decide)) (fun _ hk => hk.2) (.slice Ao10 t520.length co10)) (fun _ hk => hk.1.1), z36_⟩

/-! ### spec_ApplyMatrix: function 52 -/
def spec_ApplyMatrix.f (k : Nat) (l0_0 : List (List Int)) (l1 : List Int) : Option (List Int × Bool) := (spec_foVector.f k l0_0 l1).bind fun t531 => (if t531 = true then ((spec_foApply.f k l0_0 l1).bind fun t532 => ((spec_l1All.f k t532 (-1000000) 1000000).bind fun t535 => (if t535 = true then (some (t532, true)) else (some (([] : List Int), false))))) else (some (([] : List Int), false)))
theorem spec_ApplyMatrix.mono : ∀ a0 a1 k, LeO (spec_ApplyMatrix.f k a0 a1) (spec_ApplyMatrix.f (k + 1) a0 a1) := by
 intro a0 a1 k
 unfold spec_ApplyMatrix.f
 repeat' first
  | (with_reducible exact spec_foApply.mono _ _ _)
  | (with_reducible exact spec_foVector.mono _ _ _)
  | (with_reducible exact spec_l1All.mono _ _ _ _)
  | (with_reducible exact LeO.refl _)
  | (with_reducible exact LeO.none _)
  | (with_reducible refine LeO.ite ?_ ?_)
  | (with_reducible refine LeO.bind ?_ (fun _ => ?_))
  | exact spec_foApply.mono _ _ _
  | exact spec_foVector.mono _ _ _
  | exact spec_l1All.mono _ _ _ _
  | exact LeO.none _
  | refine LeO.ite ?_ ?_
  | refine LeO.bind ?_ (fun _ => ?_)
set_option maxHeartbeats 8000000 in
set_option maxRecDepth 100000 in
theorem spec_ApplyMatrix.calls (k : Nat) (A0_0 : Option Addr) (c0_0 : Nat) (l0_0 : List (List Int)) (A1 : Option Addr) (c1 : Nat) (l1 : List Int) (r1 : List Int) (r2 : Bool) (w : World) (hr0_0 : Kd.C (Kd.slice 3 (Kd.int .i64)) w A0_0 l0_0.length l0_0) (hc0_0 : l0_0.length ≤ c0_0) (hr1 : Kd.C (Kd.int .i64) w A1 l1.length l1) (hc1 : l1.length ≤ c1) (h : spec_ApplyMatrix.f k l0_0 l1 = some (r1, r2)) :
 Calls Try.prog 52 #[.agg #[.slice A0_0 l0_0.length c0_0], .slice A1 l1.length c1] w fun e w' => ∃ v0_ : Value, e = .returned (.tuple #[v0_, .bool r2]) ∧ Kd.R (Kd.int .i64) 3 w' w.heap.size (fun _ => True) v0_ r1 ∧ Below w.heap.size w w' := by
 have hu26 := Try.underlying26
 have HR0_0 := Aside0.mk hr0_0
 have HC0_0 := Aside0.mk hc0_0
 clear hr0_0 hc0_0
 have HR1 := Aside0.mk hr1
 have HC1 := Aside0.mk hc1
 clear hr1 hc1
 have HB := Aside0.mk (Below.refl w.heap.size w)
 have H : ((spec_foVector.f k l0_0 l1).bind fun t531 => (if t531 = true then ((spec_foApply.f k l0_0 l1).bind fun t532 => ((spec_l1All.f k t532 (-1000000) 1000000).bind fun t535 => (if t535 = true then (some (t532, true)) else (some (([] : List Int), false))))) else (some (([] : List Int), false)))) = some (r1, r2) := h
 clear h
 replace H := Option.bind_eq_some_iff.mp H
 obtain ⟨t531, A30, H⟩ := H
 replace H : (if t531 = true then ((spec_foApply.f k l0_0 l1).bind fun t532 => ((spec_l1All.f k t532 (-1000000) 1000000).bind fun t535 => (if t535 = true then (some (t532, true)) else (some (([] : List Int), false))))) else (some (([] : List Int), false))) = some (r1, r2) := H
 have A3 := Aside0.mk A30
 clear A30
 by_cases c4 : t531 = true
 ·
  subst c4
  have H1 : ((spec_foApply.f k l0_0 l1).bind fun t532 => ((spec_l1All.f k t532 (-1000000) 1000000).bind fun t535 => (if t535 = true then (some (t532, true)) else (some (([] : List Int), false))))) = some (r1, r2) := by rw [if_pos rfl] at H; exact H
  clear H
  have H := H1
  clear H1
  replace H := Option.bind_eq_some_iff.mp H
  obtain ⟨t532, A50, H⟩ := H
  replace H : ((spec_l1All.f k t532 (-1000000) 1000000).bind fun t535 => (if t535 = true then (some (t532, true)) else (some (([] : List Int), false)))) = some (r1, r2) := H
  have A5 := Aside0.mk A50
  clear A50
  replace H := Option.bind_eq_some_iff.mp H
  obtain ⟨t535, A60, H⟩ := H
  replace H : (if t535 = true then (some (t532, true)) else (some (([] : List Int), false))) = some (r1, r2) := H
  have A6 := Aside0.mk A60
  clear A60
  by_cases c7 : t535 = true
  ·
   subst c7
   have H1 : (some (t532, true)) = some (r1, r2) := by rw [if_pos rfl] at H; exact H
   clear H
   have H := H1
   clear H1
   simp only [Option.some.injEq, Prod.mk.injEq] at H
   obtain ⟨rfl, rfl⟩ := H
   go_enter Try.func52, Try.ntmps52
   go_wp2_with (first | ((with_reducible refine gate_dst (N := 2) rfl ?_); refine box_event ?hg (N := 2) ?hd (cs := #[.slice A0_0 l0_0.length c0_0]) (t := 26) ?hr ?_; (case hd => rfl); (case hg => rfl); (case hr => exact z116_); intro gb530 hg w8 hbox hb; have n0_ := Aside0.mk (below_step bq hb); have n1_ := Aside0.mk (hbox); have n2_ := Aside0.mk ((by rw [hg]; exact (below_size bq) : w.heap.size ≤ gb530)); have n3_ := Aside0.mk ((by rw [hg]; exact (below_size bq) : w.heap.size ≤ gb530)); clear HB; have HB := n0_; have BK530 := n1_; have GW530 := n2_; have GE530 := n3_; clear n0_ n1_ n2_ n3_; clear hb hbox hg; have hcz9_0 : w8.cell? ⟨gb530, 0, none⟩ = some (.slice A0_0 l0_0.length c0_0) := (blk_cell BK530.out 0).trans rfl; have hfz9_0 := blk_frozen BK530.out 0) | ((with_reducible refine gate_callee (f := 84) rfl ?_); refine gL (some 9) rfl rfl Try.func84 (by kernel_rfl) rfl #[.agg #[.slice A0_0 l0_0.length c0_0], .slice A1 l1.length c1] rfl ?_; (with_reducible refine (spec_foVector.calls k _ _ l0_0 _ _ l1 true _ ?side1 ?side2 ?side3 ?side4 A3.out).mono ?_); (case side1 => exact cC (Kd.C_below HR0_0.out HB.out)); (case side2 => exact HC0_0.out); (case side3 => exact cC (Kd.C_below HR1.out HB.out)); (case side4 => exact HC1.out); rintro e w10 ⟨rfl, hb⟩; refine ⟨_, rfl, ?_⟩; have n0_ := Aside0.mk (kK BK530 hb); have n1_ := Aside0.mk (below_step (kB HB) hb); clear BK530; clear HB; have BK530 := n0_; have HB := n1_; clear n0_ n1_; (try clear hb); (try clear hb2); (try clear hk); (try clear hi); have hcz11_0 : w10.cell? ⟨gb530, 0, none⟩ = some (.slice A0_0 l0_0.length c0_0) := (blk_cell BK530.out 0).trans rfl; have hfz11_0 := blk_frozen BK530.out 0) | ((with_reducible refine gate_callee (f := 86) rfl ?_); refine gL (some 13) rfl rfl Try.func86 (by kernel_rfl) rfl #[.agg #[.slice A0_0 l0_0.length c0_0], .slice A1 l1.length c1] rfl ?_; (with_reducible refine (spec_foApply.calls k _ _ l0_0 _ _ l1 t532 _ ?side1 ?side2 ?side3 ?side4 A5.out).mono ?_); (case side1 => exact cC (Kd.C_below HR0_0.out HB.out)); (case side2 => exact HC0_0.out); (case side3 => exact cC (Kd.C_below HR1.out HB.out)); (case side4 => exact HC1.out); rintro e w12 ⟨v533, rfl, ho0, hb⟩; refine ⟨_, rfl, ?_⟩; have n0_ := Aside0.mk (Kd.R_lower ho0 (below_size (kB HB))); have n1_ := Aside0.mk (kK BK530 hb); have n2_ := Aside0.mk (below_step (kB HB) hb); clear BK530; clear HB; have HO534 := n0_; have BK530 := n1_; have HB := n2_; clear n0_ n1_ n2_; (try clear hb); (try clear hb2); (try clear hk); (try clear hi); (try clear ho0); obtain ⟨Ao13, co13, eo13⟩ := Kd.R_slice HO534.out; subst eo13) | ((with_reducible refine gate_callee (f := 74) rfl ?_); refine gL (some 15) rfl rfl Try.func74 (by kernel_rfl) rfl #[.slice Ao13 t532.length co13, .int .i64 (-1000000), .int .i64 1000000] rfl ?_; (with_reducible refine (spec_l1All.calls k _ _ t532 (-1000000) 1000000 true _ ?side1 ?side2 A6.out).mono ?_); (case side1 => exact cC (Kd.R_reads' HO534.out).2.2); (case side2 => exact (Kd.R_reads' HO534.out).2.1); rintro e w' ⟨rfl, ⟨nd, rfl⟩⟩; refine ⟨_, rfl, ?_⟩))
   go_ret2
   exact ⟨_, e1, by (with_reducible repeat (first | apply Kd.R_alloc | apply Kd.R_drewN | apply Kd.R_drew)); exact HO534.out, kB HB⟩
  ·
   replace c7 := Bool.eq_false_iff.mpr c7
   subst c7
   have H1 : (some (([] : List Int), false)) = some (r1, r2) := by rw [if_neg (show ¬ (false = true) by decide)] at H; exact H
   clear H
   have H := H1
   clear H1
   simp only [Option.some.injEq, Prod.mk.injEq] at H
   obtain ⟨rfl, rfl⟩ := H
   go_enter Try.func52, Try.ntmps52
   go_wp2_with (first | ((with_reducible refine gate_dst (N := 2) rfl ?_); refine box_event ?hg (N := 2) ?hd (cs := #[.slice A0_0 l0_0.length c0_0]) (t := 26) ?hr ?_; (case hd => rfl); (case hg => rfl); (case hr => exact z116_); intro gb530 hg w14 hbox hb; have n0_ := Aside0.mk (below_step bq hb); have n1_ := Aside0.mk (hbox); have n2_ := Aside0.mk ((by rw [hg]; exact (below_size bq) : w.heap.size ≤ gb530)); have n3_ := Aside0.mk ((by rw [hg]; exact (below_size bq) : w.heap.size ≤ gb530)); clear HB; have HB := n0_; have BK530 := n1_; have GW530 := n2_; have GE530 := n3_; clear n0_ n1_ n2_ n3_; clear hb hbox hg; have hcz15_0 : w14.cell? ⟨gb530, 0, none⟩ = some (.slice A0_0 l0_0.length c0_0) := (blk_cell BK530.out 0).trans rfl; have hfz15_0 := blk_frozen BK530.out 0) | ((with_reducible refine gate_callee (f := 84) rfl ?_); refine gL (some 9) rfl rfl Try.func84 (by kernel_rfl) rfl #[.agg #[.slice A0_0 l0_0.length c0_0], .slice A1 l1.length c1] rfl ?_; (with_reducible refine (spec_foVector.calls k _ _ l0_0 _ _ l1 true _ ?side1 ?side2 ?side3 ?side4 A3.out).mono ?_); (case side1 => exact cC (Kd.C_below HR0_0.out HB.out)); (case side2 => exact HC0_0.out); (case side3 => exact cC (Kd.C_below HR1.out HB.out)); (case side4 => exact HC1.out); rintro e w16 ⟨rfl, hb⟩; refine ⟨_, rfl, ?_⟩; have n0_ := Aside0.mk (kK BK530 hb); have n1_ := Aside0.mk (below_step (kB HB) hb); clear BK530; clear HB; have BK530 := n0_; have HB := n1_; clear n0_ n1_; (try clear hb); (try clear hb2); (try clear hk); (try clear hi); have hcz17_0 : w16.cell? ⟨gb530, 0, none⟩ = some (.slice A0_0 l0_0.length c0_0) := (blk_cell BK530.out 0).trans rfl; have hfz17_0 := blk_frozen BK530.out 0) | ((with_reducible refine gate_callee (f := 86) rfl ?_); refine gL (some 13) rfl rfl Try.func86 (by kernel_rfl) rfl #[.agg #[.slice A0_0 l0_0.length c0_0], .slice A1 l1.length c1] rfl ?_; (with_reducible refine (spec_foApply.calls k _ _ l0_0 _ _ l1 t532 _ ?side1 ?side2 ?side3 ?side4 A5.out).mono ?_); (case side1 => exact cC (Kd.C_below HR0_0.out HB.out)); (case side2 => exact HC0_0.out); (case side3 => exact cC (Kd.C_below HR1.out HB.out)); (case side4 => exact HC1.out); rintro e w18 ⟨v533, rfl, ho0, hb⟩; refine ⟨_, rfl, ?_⟩; have n0_ := Aside0.mk (Kd.R_lower ho0 (below_size (kB HB))); have n1_ := Aside0.mk (kK BK530 hb); have n2_ := Aside0.mk (below_step (kB HB) hb); clear BK530; clear HB; have HO534 := n0_; have BK530 := n1_; have HB := n2_; clear n0_ n1_ n2_; (try clear hb); (try clear hb2); (try clear hk); (try clear hi); (try clear ho0); obtain ⟨Ao19, co19, eo19⟩ := Kd.R_slice HO534.out; subst eo19) | ((with_reducible refine gate_callee (f := 74) rfl ?_); refine gL (some 15) rfl rfl Try.func74 (by kernel_rfl) rfl #[.slice Ao19 t532.length co19, .int .i64 (-1000000), .int .i64 1000000] rfl ?_; (with_reducible refine (spec_l1All.calls k _ _ t532 (-1000000) 1000000 false _ ?side1 ?side2 A6.out).mono ?_); (case side1 => exact cC (Kd.R_reads' HO534.out).2.2); (case side2 => exact (Kd.R_reads' HO534.out).2.1); rintro e w' ⟨rfl, ⟨nd, rfl⟩⟩; refine ⟨_, rfl, ?_⟩))
   go_ret2
   exact ⟨_, e1, z59_, kB HB⟩
 ·
  replace c4 := Bool.eq_false_iff.mpr c4
  subst c4
  have H1 : (some (([] : List Int), false)) = some (r1, r2) := by rw [if_neg (show ¬ (false = true) by decide)] at H; exact H
  clear H
  have H := H1
  clear H1
  simp only [Option.some.injEq, Prod.mk.injEq] at H
  obtain ⟨rfl, rfl⟩ := H
  go_enter Try.func52, Try.ntmps52
  go_wp2_with (first | ((with_reducible refine gate_dst (N := 2) rfl ?_); refine box_event ?hg (N := 2) ?hd (cs := #[.slice A0_0 l0_0.length c0_0]) (t := 26) ?hr ?_; (case hd => rfl); (case hg => rfl); (case hr => exact z116_); intro gb530 hg w20 hbox hb; have n0_ := Aside0.mk (below_step bq hb); have n1_ := Aside0.mk (hbox); have n2_ := Aside0.mk ((by rw [hg]; exact (below_size bq) : w.heap.size ≤ gb530)); have n3_ := Aside0.mk ((by rw [hg]; exact (below_size bq) : w.heap.size ≤ gb530)); clear HB; have HB := n0_; have BK530 := n1_; have GW530 := n2_; have GE530 := n3_; clear n0_ n1_ n2_ n3_; clear hb hbox hg; have hcz21_0 : w20.cell? ⟨gb530, 0, none⟩ = some (.slice A0_0 l0_0.length c0_0) := (blk_cell BK530.out 0).trans rfl; have hfz21_0 := blk_frozen BK530.out 0) | ((with_reducible refine gate_callee (f := 84) rfl ?_); refine gL (some 9) rfl rfl Try.func84 (by kernel_rfl) rfl #[.agg #[.slice A0_0 l0_0.length c0_0], .slice A1 l1.length c1] rfl ?_; (with_reducible refine (spec_foVector.calls k _ _ l0_0 _ _ l1 false _ ?side1 ?side2 ?side3 ?side4 A3.out).mono ?_); (case side1 => exact cC (Kd.C_below HR0_0.out HB.out)); (case side2 => exact HC0_0.out); (case side3 => exact cC (Kd.C_below HR1.out HB.out)); (case side4 => exact HC1.out); rintro e w22 ⟨rfl, hb⟩; refine ⟨_, rfl, ?_⟩; have n0_ := Aside0.mk (kK BK530 hb); have n1_ := Aside0.mk (below_step (kB HB) hb); clear BK530; clear HB; have BK530 := n0_; have HB := n1_; clear n0_ n1_; (try clear hb); (try clear hb2); (try clear hk); (try clear hi)))
  go_ret2
  exact ⟨_, e1, z59_, kB HB⟩

end Go.Proofs.Ytldkkfpodldbgaa.P
