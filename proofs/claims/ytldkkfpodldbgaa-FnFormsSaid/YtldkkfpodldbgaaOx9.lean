-- Written by a program of this session (wip/mkprint.py over the kit's print), out of the translation. Not trusted: Lean checks it.
import Derived.Test.YtldkkfpodldbgaaOx0
import Derived.Test.YtldkkfpodldbgaaOx1
import Derived.Test.YtldkkfpodldbgaaOx7
import Derived.Test.YtldkkfpodldbgaaOx8
namespace Go.Proofs.Ytldkkfpodldbgaa.P
open Go.RowKit Go.Proofs.YtldkkfpodldbgaaW.PrintWords Go.Proofs.YtldkkfpodldbgaaW.PrintLast Go.Proofs.YtldkkfpodldbgaaW.PrintMore
attribute [local go_sem] max2_int min2_int max_two min_two max_three min_three max_four min_four   -- for this text's walks alone
set_option linter.unusedVariables false
set_option linter.unusedSimpArgs false

/-! ### spec_ReflectionOf: function 25 -/
mutual
def spec_ReflectionOf.j0 : Nat → List Int → Bool → List (List Int) → Option ((List (List Int)) × Bool)
 | 0, _, _, _ => none
 | k + 1, x1, x20, x398000 => if x20 = true then (some (([] : List (List Int)), false)) else ((spec_foProduct.f k x398000 x1 x1).bind fun t401 => (if t401 = 0 then (some (([] : List (List Int)), false)) else ((spec_foUnit.f k (x1.length : Int)).bind fun t402 => ((spec_foApply.f k x398000 x1).bind fun t406 => (spec_ReflectionOf.l0 k x1 t401 t406 (t406.length : Int) 0 t402)))))
def spec_ReflectionOf.l0 : Nat → List Int → Int → List Int → Int → Int → List (List Int) → Option ((List (List Int)) × Bool)
 | 0, _, _, _, _, _, _ => none
 | k + 1, x1, x6, x34, x35, x36, x406000 => if x36 < x35 then (if 0 ≤ x36 then (if x36 < (x34.length : Int) then (spec_ReflectionOf.l1 k x1 x6 x36 (rd x34 x36) x34 x35 x36 x1 (x1.length : Int) 0 x406000) else (none)) else (none)) else ((spec_foIf.f k x406000).bind fun bt409 => (some (bt409.1, bt409.2)))
def spec_ReflectionOf.l1 : Nat → List Int → Int → Int → Int → List Int → Int → Int → List Int → Int → Int → List (List Int) → Option ((List (List Int)) × Bool)
 | 0, _, _, _, _, _, _, _, _, _, _, _ => none
 | k + 1, x1, x6, x8, x9, x34, x35, x36, x41, x42, x43, x406000 => if x43 < x42 then (if 0 ≤ x43 then (if x43 < (x41.length : Int) then (if x6 = 0 then (none) else (if (Int.tmod (wrap64 ((wrap64 (2 * x9)) * (rd x41 x43))) x6) = 0 then (if x43 < (x406000.length : Int) then (if 0 ≤ x8 then (if x8 < ((rd_L2 x406000 x43).length : Int) then (spec_ReflectionOf.l1 k x1 x6 x8 x9 x34 x35 x36 x41 x42 (wrap64 (x43 + 1)) (x406000.set (x43 : Int).toNat ((rd_L2 x406000 x43).set (x8 : Int).toNat (wrap64 ((rd (rd_L2 x406000 x43) x8) - (wrap64 (Int.tdiv (wrap64 ((wrap64 (2 * x9)) * (rd x41 x43))) x6))))))) else (none)) else (none)) else (none)) else (some (([] : List (List Int)), false)))) else (none)) else (none)) else (spec_ReflectionOf.l0 k x1 x6 x34 x35 (wrap64 (x36 + 1)) x406000)
end
def spec_ReflectionOf.f (k : Nat) (l0_0 : List (List Int)) (l1 : List Int) : Option ((List (List Int)) × Bool) := (spec_foForm.f k l0_0).bind fun t399 => (if t399 = true then ((spec_foVector.f k l0_0 l1).bind fun t400 => (spec_ReflectionOf.j0 k l1 (!t400) l0_0)) else (spec_ReflectionOf.j0 k l1 true l0_0))
theorem spec_ReflectionOf.mono_l : ∀ k, (∀ y0 y1 y2, LeO (spec_ReflectionOf.j0 k y0 y1 y2) (spec_ReflectionOf.j0 (k + 1) y0 y1 y2)) ∧ (∀ y0 y1 y2 y3 y4 y5, LeO (spec_ReflectionOf.l0 k y0 y1 y2 y3 y4 y5) (spec_ReflectionOf.l0 (k + 1) y0 y1 y2 y3 y4 y5)) ∧ (∀ y0 y1 y2 y3 y4 y5 y6 y7 y8 y9 y10, LeO (spec_ReflectionOf.l1 k y0 y1 y2 y3 y4 y5 y6 y7 y8 y9 y10) (spec_ReflectionOf.l1 (k + 1) y0 y1 y2 y3 y4 y5 y6 y7 y8 y9 y10))
 | 0 => ⟨fun _ _ _ r h => by simp [spec_ReflectionOf.j0] at h, fun _ _ _ _ _ _ r h => by simp [spec_ReflectionOf.l0] at h, fun _ _ _ _ _ _ _ _ _ _ _ r h => by simp [spec_ReflectionOf.l1] at h⟩
 | k + 1 => by
  obtain ⟨ih0, ih1, ih2⟩ := spec_ReflectionOf.mono_l k
  refine ⟨?_, ?_, ?_⟩
  ·
   intro y0 y1 y2
   unfold spec_ReflectionOf.j0
   repeat' first
   | (with_reducible exact ih0 _ _ _)
   | (with_reducible exact ih1 _ _ _ _ _ _)
   | (with_reducible exact ih2 _ _ _ _ _ _ _ _ _ _ _)
   | (with_reducible exact spec_foApply.mono _ _ _)
   | (with_reducible exact spec_foForm.mono _ _)
   | (with_reducible exact spec_foIf.mono _ _)
   | (with_reducible exact spec_foProduct.mono _ _ _ _)
   | (with_reducible exact spec_foUnit.mono _ _)
   | (with_reducible exact spec_foVector.mono _ _ _)
   | (with_reducible exact LeO.refl _)
   | (with_reducible exact LeO.none _)
   | (with_reducible refine LeO.ite ?_ ?_)
   | (with_reducible refine LeO.bind ?_ (fun _ => ?_))
   | exact ih0 _ _ _
   | exact ih1 _ _ _ _ _ _
   | exact ih2 _ _ _ _ _ _ _ _ _ _ _
   | exact spec_foApply.mono _ _ _
   | exact spec_foForm.mono _ _
   | exact spec_foIf.mono _ _
   | exact spec_foProduct.mono _ _ _ _
   | exact spec_foUnit.mono _ _
   | exact spec_foVector.mono _ _ _
   | exact LeO.none _
   | refine LeO.ite ?_ ?_
   | refine LeO.bind ?_ (fun _ => ?_)
  ·
   intro y0 y1 y2 y3 y4 y5
   unfold spec_ReflectionOf.l0
   repeat' first
   | (with_reducible exact ih0 _ _ _)
   | (with_reducible exact ih1 _ _ _ _ _ _)
   | (with_reducible exact ih2 _ _ _ _ _ _ _ _ _ _ _)
   | (with_reducible exact spec_foApply.mono _ _ _)
   | (with_reducible exact spec_foForm.mono _ _)
   | (with_reducible exact spec_foIf.mono _ _)
   | (with_reducible exact spec_foProduct.mono _ _ _ _)
   | (with_reducible exact spec_foUnit.mono _ _)
   | (with_reducible exact spec_foVector.mono _ _ _)
   | (with_reducible exact LeO.refl _)
   | (with_reducible exact LeO.none _)
   | (with_reducible refine LeO.ite ?_ ?_)
   | (with_reducible refine LeO.bind ?_ (fun _ => ?_))
   | exact ih0 _ _ _
   | exact ih1 _ _ _ _ _ _
   | exact ih2 _ _ _ _ _ _ _ _ _ _ _
   | exact spec_foApply.mono _ _ _
   | exact spec_foForm.mono _ _
   | exact spec_foIf.mono _ _
   | exact spec_foProduct.mono _ _ _ _
   | exact spec_foUnit.mono _ _
   | exact spec_foVector.mono _ _ _
   | exact LeO.none _
   | refine LeO.ite ?_ ?_
   | refine LeO.bind ?_ (fun _ => ?_)
  ·
   intro y0 y1 y2 y3 y4 y5 y6 y7 y8 y9 y10
   unfold spec_ReflectionOf.l1
   repeat' first
   | (with_reducible exact ih0 _ _ _)
   | (with_reducible exact ih1 _ _ _ _ _ _)
   | (with_reducible exact ih2 _ _ _ _ _ _ _ _ _ _ _)
   | (with_reducible exact spec_foApply.mono _ _ _)
   | (with_reducible exact spec_foForm.mono _ _)
   | (with_reducible exact spec_foIf.mono _ _)
   | (with_reducible exact spec_foProduct.mono _ _ _ _)
   | (with_reducible exact spec_foUnit.mono _ _)
   | (with_reducible exact spec_foVector.mono _ _ _)
   | (with_reducible exact LeO.refl _)
   | (with_reducible exact LeO.none _)
   | (with_reducible refine LeO.ite ?_ ?_)
   | (with_reducible refine LeO.bind ?_ (fun _ => ?_))
   | exact ih0 _ _ _
   | exact ih1 _ _ _ _ _ _
   | exact ih2 _ _ _ _ _ _ _ _ _ _ _
   | exact spec_foApply.mono _ _ _
   | exact spec_foForm.mono _ _
   | exact spec_foIf.mono _ _
   | exact spec_foProduct.mono _ _ _ _
   | exact spec_foUnit.mono _ _
   | exact spec_foVector.mono _ _ _
   | exact LeO.none _
   | refine LeO.ite ?_ ?_
   | refine LeO.bind ?_ (fun _ => ?_)
theorem spec_ReflectionOf.mono : ∀ a0 a1 k, LeO (spec_ReflectionOf.f k a0 a1) (spec_ReflectionOf.f (k + 1) a0 a1) := by
 intro a0 a1 k
 obtain ⟨ih0, ih1, ih2⟩ := spec_ReflectionOf.mono_l k
 unfold spec_ReflectionOf.f
 repeat' first
  | (with_reducible exact ih0 _ _ _)
  | (with_reducible exact ih1 _ _ _ _ _ _)
  | (with_reducible exact ih2 _ _ _ _ _ _ _ _ _ _ _)
  | (with_reducible exact spec_foApply.mono _ _ _)
  | (with_reducible exact spec_foForm.mono _ _)
  | (with_reducible exact spec_foIf.mono _ _)
  | (with_reducible exact spec_foProduct.mono _ _ _ _)
  | (with_reducible exact spec_foUnit.mono _ _)
  | (with_reducible exact spec_foVector.mono _ _ _)
  | (with_reducible exact LeO.refl _)
  | (with_reducible exact LeO.none _)
  | (with_reducible refine LeO.ite ?_ ?_)
  | (with_reducible refine LeO.bind ?_ (fun _ => ?_))
  | exact ih0 _ _ _
  | exact ih1 _ _ _ _ _ _
  | exact ih2 _ _ _ _ _ _ _ _ _ _ _
  | exact spec_foApply.mono _ _ _
  | exact spec_foForm.mono _ _
  | exact spec_foIf.mono _ _
  | exact spec_foProduct.mono _ _ _ _
  | exact spec_foUnit.mono _ _
  | exact spec_foVector.mono _ _ _
  | exact LeO.none _
  | refine LeO.ite ?_ ?_
  | refine LeO.bind ?_ (fun _ => ?_)
def spec_ReflectionOf.T15 : Bool × List (List Nat × List Nat) := (true, [([], []), ([0], [0]), ([], []), ([1, 2], [1, 2]), ([3], [3]), ([], []), ([4, 5], [4, 5]), ([6], [6]), ([], []), ([8], [8]), ([], []), ([9, 10], [9, 10]), ([], []), ([11, 12], [11, 12]), ([7, 13], [7, 13]), ([4, 5, 0, 1, 2, 3, 4, 5, 6, 7, 8, 9, 10, 11, 12, 13, 14], [4, 5]), ([15, 14, 0, 1, 2, 3, 4, 5, 6, 7, 8, 9, 10, 11, 12, 13, 14], [14, 15])])
def spec_ReflectionOf.B15 : List Nat := [0, 1, 0, 7, 15, 0, 63, 127, 0, 256, 0, 1792, 0, 7936, 16383, 32767, 65535]
theorem spec_ReflectionOf.tab15 : rtab .any (opsOf Try.f25 15) = spec_ReflectionOf.T15 := by kernel_rfl
theorem spec_ReflectionOf.bits15 : waitsOk spec_ReflectionOf.T15.2 spec_ReflectionOf.B15 = true := by kernel_rfl
set_option maxHeartbeats 8000000 in
set_option maxRecDepth 100000 in
theorem spec_ReflectionOf.calls (k : Nat) (A0_0 : Option Addr) (c0_0 : Nat) (l0_0 : List (List Int)) (A1 : Option Addr) (c1 : Nat) (l1 : List Int) (r1 : List (List Int)) (r2 : Bool) (w : World) (hr0_0 : Kd.C (Kd.slice 3 (Kd.int .i64)) w A0_0 l0_0.length l0_0) (hc0_0 : l0_0.length ≤ c0_0) (hr1 : Kd.C (Kd.int .i64) w A1 l1.length l1) (hc1 : l1.length ≤ c1) (h : spec_ReflectionOf.f k l0_0 l1 = some (r1, r2)) :
 Calls Try.prog 25 #[.agg #[.slice A0_0 l0_0.length c0_0], .slice A1 l1.length c1] w fun e w' => ∃ v0_ : Value, e = .returned (.tuple #[.agg #[v0_], .bool r2]) ∧ Kd.V (Kd.slice 3 (Kd.int .i64)) 34 w' w.heap.size (fun k_ => (w.heap.size ≤ k_)) v0_ r1 ∧ Below w.heap.size w w' := by
 have hu26 := Try.underlying26
 have HR0_0 := Aside0.mk hr0_0
 have HC0_0 := Aside0.mk hc0_0
 clear hr0_0 hc0_0
 have HR1 := Aside0.mk hr1
 have HC1 := Aside0.mk hc1
 clear hr1 hc1
 have HB := Aside0.mk (Below.refl w.heap.size w)
 have H : ((spec_foForm.f k l0_0).bind fun t399 => (if t399 = true then ((spec_foVector.f k l0_0 l1).bind fun t400 => (spec_ReflectionOf.j0 k l1 (!t400) l0_0)) else (spec_ReflectionOf.j0 k l1 true l0_0))) = some (r1, r2) := h
 clear h
 have HC3 := Aside0.mk H
 clear H
 go_enter Try.func25, Try.ntmps25
 go_upto_region 1 with (first | ((with_reducible refine gate_dst (N := 2) rfl ?_); refine box_event ?hg (N := 2) ?hd (cs := #[.slice A0_0 l0_0.length c0_0]) (t := 26) ?hr ?_; (case hd => rfl); (case hg => rfl); (case hr => exact z116_); intro gb397 hg w4 hbox hb; have n0_ := Aside0.mk (below_step bq hb); have n1_ := Aside0.mk (hbox); have n2_ := Aside0.mk ((by rw [hg]; exact (below_size bq) : w.heap.size ≤ gb397)); have n3_ := Aside0.mk ((by rw [hg]; exact (below_size bq) : w.heap.size ≤ gb397)); clear HB; have HB := n0_; have BK397 := n1_; have GW397 := n2_; have GE397 := n3_; clear n0_ n1_ n2_ n3_; clear hb hbox hg) | ((with_reducible refine gate_dst (N := 4) rfl ?_); refine box_event ?hg (N := 4) ?hd (cs := #[.slice none 0 0]) (t := 26) ?hr ?_; (case hd => rfl); (case hg => rfl); (case hr => exact z116_); intro gb398 hg w5 hbox hb; have n0_ := Aside0.mk (kK BK397 hb); have n1_ := Aside0.mk (below_step (kB HB) hb); have n2_ := Aside0.mk (hbox); have n3_ := Aside0.mk ((by rw [hg]; exact (below_size (kB HB)) : w.heap.size ≤ gb398)); have n4_ := Aside0.mk ((by rw [hg]; exact (below_size (kB HB)) : w.heap.size ≤ gb398)); have n5_ := Aside0.mk ((by rw [hg]; exact Nat.ne_of_lt (blk_lt (g := gb397) (o := .cells #[.slice A0_0 l0_0.length c0_0] 26 (0, 0)) (bA BK397)) : gb397 ≠ gb398)); have n6_ := Aside0.mk ((by rw [hg]; exact Nat.ne_of_gt (blk_lt (g := gb397) (o := .cells #[.slice A0_0 l0_0.length c0_0] 26 (0, 0)) (bA BK397)) : gb398 ≠ gb397)); clear BK397; clear HB; have BK397 := n0_; have HB := n1_; have BK398 := n2_; have GW398 := n3_; have GE398 := n4_; have NB397_398 := n5_; have NB398_397 := n6_; clear n0_ n1_ n2_ n3_ n4_ n5_ n6_; clear hb hbox hg))
 (try simp only [Act.put, List.setIfInBounds_toArray, List.set_cons_zero, List.set_cons_succ])
 go_cut [20] (fun v20 wc => ∃ (kq : Nat) (x20_2 : Bool), v20 = .bool x20_2 ∧ Aside0 (spec_ReflectionOf.j0 kq l1 x20_2 l0_0 = some (r1, r2)) ∧ Aside0 (kq ≤ k) ∧ Aside0 (wc.heap[gb397]? = some (.cells #[(.slice A0_0 l0_0.length c0_0)] 26 (0, 0))) ∧ Aside0 (wc.heap[gb398]? = some (.cells #[(.slice none 0 0)] 26 (0, 0))) ∧ Aside0 (Below w.heap.size w wc))
 case first =>
  have H := HC3.out
  clear HC3
  replace H := Option.bind_eq_some_iff.mp H
  obtain ⟨t399, A60, H⟩ := H
  replace H : (if t399 = true then ((spec_foVector.f k l0_0 l1).bind fun t400 => (spec_ReflectionOf.j0 k l1 (!t400) l0_0)) else (spec_ReflectionOf.j0 k l1 true l0_0)) = some (r1, r2) := H
  have A6 := Aside0.mk A60
  clear A60
  by_cases c7 : t399 = true
  ·
   subst c7
   have H1 : ((spec_foVector.f k l0_0 l1).bind fun t400 => (spec_ReflectionOf.j0 k l1 (!t400) l0_0)) = some (r1, r2) := by rw [if_pos rfl] at H; exact H
   clear H
   have H := H1
   clear H1
   replace H := Option.bind_eq_some_iff.mp H
   obtain ⟨t400, A80, H⟩ := H
   replace H : (spec_ReflectionOf.j0 k l1 (!t400) l0_0) = some (r1, r2) := H
   have A8 := Aside0.mk A80
   clear A80
   have H' := Aside0.mk H
   clear H
   have hnb9 := NB397_398.out
   have hnc9 := NB398_397.out
   have hcz10_0 : w5.cell? ⟨gb397, 0, none⟩ = some (.slice A0_0 l0_0.length c0_0) := (blk_cell BK397.out 0).trans rfl
   have hfz10_0 := blk_frozen BK397.out 0
   go_wp2_with (first | ((with_reducible refine gate_callee (f := 83) rfl ?_); refine gL (some 13) rfl rfl Try.func83 (by kernel_rfl) rfl #[.agg #[.slice A0_0 l0_0.length c0_0]] rfl ?_; (with_reducible refine (spec_foForm.calls k _ _ l0_0 true _ ?side1 ?side2 A6.out).mono ?_); (case side1 => exact cC (Kd.C_below HR0_0.out HB.out)); (case side2 => exact HC0_0.out); rintro e w11 ⟨rfl, hb⟩; refine ⟨_, rfl, ?_⟩; have n0_ := Aside0.mk (kK BK397 hb); have n1_ := Aside0.mk (kK BK398 hb); have n2_ := Aside0.mk (below_step (kB HB) hb); clear BK397; clear BK398; clear HB; have BK397 := n0_; have BK398 := n1_; have HB := n2_; clear n0_ n1_ n2_; (try clear hb); (try clear hb2); (try clear hk); (try clear hi); have hcz12_0 : w11.cell? ⟨gb397, 0, none⟩ = some (.slice A0_0 l0_0.length c0_0) := (blk_cell BK397.out 0).trans rfl; have hfz12_0 := blk_frozen BK397.out 0) | (go_at_call 84; (with_reducible refine (spec_foVector.calls k _ _ l0_0 _ _ l1 t400 _ ?side1 ?side2 ?side3 ?side4 A8.out).mono ?_); (case side1 => exact cC (Kd.C_below HR0_0.out HB.out)); (case side2 => exact HC0_0.out); (case side3 => exact cC (Kd.C_below HR1.out HB.out)); (case side4 => exact HC1.out); rintro e w13 ⟨rfl, hb⟩; have n0_ := Aside0.mk (kK BK397 hb); have n1_ := Aside0.mk (kK BK398 hb); have n2_ := Aside0.mk (below_step (kB HB) hb); clear BK397; clear BK398; clear HB; have BK397 := n0_; have BK398 := n1_; have HB := n2_; clear n0_ n1_ n2_; (try clear hb); (try clear hb2); (try clear hk); (try clear hi)))
   go_meet
   case rel => exact ⟨_, (!t400), e2, H', ⟨z117_⟩, ⟨z74_⟩, ⟨z82_⟩, ⟨kB HB⟩⟩
  ·
   replace c7 := Bool.eq_false_iff.mpr c7
   subst c7
   have H1 : (spec_ReflectionOf.j0 k l1 true l0_0) = some (r1, r2) := by rw [if_neg (show ¬ (false = true) by decide)] at H; exact H
   clear H
   have H := H1
   clear H1
   have H' := Aside0.mk H
   clear H
   have hnb14 := NB397_398.out
   have hnc14 := NB398_397.out
   have hcz15_0 : w5.cell? ⟨gb397, 0, none⟩ = some (.slice A0_0 l0_0.length c0_0) := (blk_cell BK397.out 0).trans rfl
   have hfz15_0 := blk_frozen BK397.out 0
   go_wp2_with (first | ((with_reducible refine gate_callee (f := 83) rfl ?_); refine gL (some 13) rfl rfl Try.func83 (by kernel_rfl) rfl #[.agg #[.slice A0_0 l0_0.length c0_0]] rfl ?_; (with_reducible refine (spec_foForm.calls k _ _ l0_0 false _ ?side1 ?side2 A6.out).mono ?_); (case side1 => exact cC (Kd.C_below HR0_0.out HB.out)); (case side2 => exact HC0_0.out); rintro e w16 ⟨rfl, hb⟩; refine ⟨_, rfl, ?_⟩; have n0_ := Aside0.mk (kK BK397 hb); have n1_ := Aside0.mk (kK BK398 hb); have n2_ := Aside0.mk (below_step (kB HB) hb); clear BK397; clear BK398; clear HB; have BK397 := n0_; have BK398 := n1_; have HB := n2_; clear n0_ n1_ n2_; (try clear hb); (try clear hb2); (try clear hk); (try clear hi)))
   go_meet
   case rel => exact ⟨_, (true), e2, H', ⟨z117_⟩, ⟨z74_⟩, ⟨z82_⟩, ⟨kB HB⟩⟩
 case rest =>
  clear HC3; (try clear c1); (try clear c2); (try clear p2); (try clear c7); (try clear c8); (try clear c9); (try clear c14); (try clear hcz10_0); (try clear hcz12_0); (try clear hcz15_0); (try clear hfz10_0); (try clear hfz12_0); (try clear hfz15_0)
  obtain ⟨kq, x20_2, rfl, HA, HJ2, BK397, BK398, HB⟩ := hcut
  cases kq with
  | zero => exact absurd HA.out (by simp [spec_ReflectionOf.j0])
  | succ kj2 =>
   have H := HA.out
   clear HA
   simp only [spec_ReflectionOf.j0] at H
   by_cases c17 : x20_2 = true
   ·
    subst c17
    have H1 : (some (([] : List (List Int)), false)) = some (r1, r2) := by rw [if_pos rfl] at H; exact H
    clear H
    have H := H1
    clear H1
    simp only [Option.some.injEq, Prod.mk.injEq] at H
    obtain ⟨rfl, rfl⟩ := H
    have hnb18 := NB398_397.out
    have hnc18 := NB397_398.out
    have hcz19_0 : wc.cell? ⟨gb398, 0, none⟩ = some (.slice none 0 0) := (blk_cell BK398.out 0).trans rfl
    have hfz19_0 := blk_frozen BK398.out 0
    go_wp2
    refine bodyPost_ret (results_ct rfl _ _ gb398 26 #[.slice none 0 0] (0, 0) _ rfl z17_ Try.underlying26 rfl (by kernel_rfl)) rfl ?_
    exact ⟨_, e1, Kd.V_nil _ _ _ _ _, kB HB⟩
   ·
    replace c17 := Bool.eq_false_iff.mpr c17
    subst c17
    have H1 : ((spec_foProduct.f kj2 l0_0 l1 l1).bind fun t401 => (if t401 = 0 then (some (([] : List (List Int)), false)) else ((spec_foUnit.f kj2 (l1.length : Int)).bind fun t402 => ((spec_foApply.f kj2 l0_0 l1).bind fun t406 => (spec_ReflectionOf.l0 kj2 l1 t401 t406 (t406.length : Int) 0 t402))))) = some (r1, r2) := by rw [if_neg (show ¬ (false = true) by decide)] at H; exact H
    clear H
    have H := H1
    clear H1
    replace H := Option.bind_eq_some_iff.mp H
    obtain ⟨t401, A200, H⟩ := H
    replace H : (if t401 = 0 then (some (([] : List (List Int)), false)) else ((spec_foUnit.f kj2 (l1.length : Int)).bind fun t402 => ((spec_foApply.f kj2 l0_0 l1).bind fun t406 => (spec_ReflectionOf.l0 kj2 l1 t401 t406 (t406.length : Int) 0 t402)))) = some (r1, r2) := H
    have A20 := Aside0.mk A200
    clear A200
    by_cases c21 : t401 = 0
    ·
     rw [if_pos c21] at H
     have c21b0 : (t401 == 0) = true := beq_iff_eq.mpr c21
     have c21b1 : (t401 != 0) = false := bne_eq_false_iff_eq.mpr c21
     clear c21
     simp only [Option.some.injEq, Prod.mk.injEq] at H
     obtain ⟨rfl, rfl⟩ := H
     have hnb22 := NB397_398.out
     have hnc22 := NB398_397.out
     have hcz23_0 : wc.cell? ⟨gb397, 0, none⟩ = some (.slice A0_0 l0_0.length c0_0) := (blk_cell BK397.out 0).trans rfl
     have hfz23_0 := blk_frozen BK397.out 0
     go_wp2_with (first | ((with_reducible refine gate_callee (f := 85) rfl ?_); refine gL (some 25) rfl rfl Try.func85 (by kernel_rfl) rfl #[.agg #[.slice A0_0 l0_0.length c0_0], .slice A1 l1.length c1, .slice A1 l1.length c1] rfl ?_; (with_reducible refine (spec_foProduct.calls kj2 _ _ l0_0 _ _ l1 _ _ l1 t401 _ ?side1 ?side2 ?side3 ?side4 ?side5 ?side6 A20.out).mono ?_); (case side1 => exact cC (Kd.C_below HR0_0.out HB.out)); (case side2 => exact HC0_0.out); (case side3 => exact cC (Kd.C_below HR1.out HB.out)); (case side4 => exact HC1.out); (case side5 => exact cC (Kd.C_below HR1.out HB.out)); (case side6 => exact HC1.out); rintro e w24 ⟨rfl, hb⟩; refine ⟨_, rfl, ?_⟩; have n0_ := Aside0.mk (kK BK397 hb); have n1_ := Aside0.mk (kK BK398 hb); have n2_ := Aside0.mk (below_step (kB HB) hb); clear BK397; clear BK398; clear HB; have BK397 := n0_; have BK398 := n1_; have HB := n2_; clear n0_ n1_ n2_; (try clear hb); (try clear hb2); (try clear hk); (try clear hi); have hcz25_0 : w24.cell? ⟨gb398, 0, none⟩ = some (.slice none 0 0) := (blk_cell BK398.out 0).trans rfl; have hfz25_0 := blk_frozen BK398.out 0))
     refine bodyPost_ret (results_ct rfl _ _ gb398 26 #[.slice none 0 0] (0, 0) _ rfl z17_ Try.underlying26 rfl (by kernel_rfl)) rfl ?_
     exact ⟨_, e1, Kd.V_nil _ _ _ _ _, kB HB⟩
    ·
     rw [if_neg c21] at H
     have c21b0 : (t401 == 0) = false := beq_eq_false_iff_ne.mpr c21
     have c21b1 : (t401 != 0) = true := bne_iff_ne.mpr c21
     replace H := Option.bind_eq_some_iff.mp H
     obtain ⟨t402, A260, H⟩ := H
     replace H : ((spec_foApply.f kj2 l0_0 l1).bind fun t406 => (spec_ReflectionOf.l0 kj2 l1 t401 t406 (t406.length : Int) 0 t402)) = some (r1, r2) := H
     have A26 := Aside0.mk A260
     clear A260
     replace H := Option.bind_eq_some_iff.mp H
     obtain ⟨t406, A270, H⟩ := H
     replace H : (spec_ReflectionOf.l0 kj2 l1 t401 t406 (t406.length : Int) 0 t402) = some (r1, r2) := H
     have A27 := Aside0.mk A270
     clear A270
     have H' := Aside0.mk H
     clear H
     have hnb28 := NB397_398.out
     have hnc28 := NB398_397.out
     have hcz29_0 : wc.cell? ⟨gb397, 0, none⟩ = some (.slice A0_0 l0_0.length c0_0) := (blk_cell BK397.out 0).trans rfl
     have hfz29_0 := blk_frozen BK397.out 0
     go_wp2_with (first | ((with_reducible refine gate_callee (f := 85) rfl ?_); refine gL (some 25) rfl rfl Try.func85 (by kernel_rfl) rfl #[.agg #[.slice A0_0 l0_0.length c0_0], .slice A1 l1.length c1, .slice A1 l1.length c1] rfl ?_; (with_reducible refine (spec_foProduct.calls kj2 _ _ l0_0 _ _ l1 _ _ l1 t401 _ ?side1 ?side2 ?side3 ?side4 ?side5 ?side6 A20.out).mono ?_); (case side1 => exact cC (Kd.C_below HR0_0.out HB.out)); (case side2 => exact HC0_0.out); (case side3 => exact cC (Kd.C_below HR1.out HB.out)); (case side4 => exact HC1.out); (case side5 => exact cC (Kd.C_below HR1.out HB.out)); (case side6 => exact HC1.out); rintro e w30 ⟨rfl, hb⟩; refine ⟨_, rfl, ?_⟩; have n0_ := Aside0.mk (kK BK397 hb); have n1_ := Aside0.mk (kK BK398 hb); have n2_ := Aside0.mk (below_step (kB HB) hb); clear BK397; clear BK398; clear HB; have BK397 := n0_; have BK398 := n1_; have HB := n2_; clear n0_ n1_ n2_; (try clear hb); (try clear hb2); (try clear hk); (try clear hi)) | ((with_reducible refine gate_callee (f := 76) rfl ?_); refine gL (some 31) rfl rfl Try.func76 (by kernel_rfl) rfl #[.int .i64 (l1.length : Int)] rfl ?_; (with_reducible refine (spec_foUnit.calls kj2 (l1.length : Int) t402 _ A26.out).mono ?_); rintro e w31 ⟨v403, rfl, ho0, hb⟩; refine ⟨_, rfl, ?_⟩; have n0_ := Aside0.mk (Kd.S_lower (Kd.S_newM (M := fun k_ => (w.heap.size ≤ k_)) ho0 (below_size (kB HB)) (fun k_ h_ => h_)) (below_size (kB HB))); have n1_ := Aside0.mk (kK BK397 hb); have n2_ := Aside0.mk (kK BK398 hb); have n3_ := Aside0.mk (below_step (kB HB) hb); clear BK397; clear BK398; clear HB; have HO404 := n0_; have BK397 := n1_; have BK398 := n2_; have HB := n3_; clear n0_ n1_ n2_ n3_; (try clear hb); (try clear hb2); (try clear hk); (try clear hi); (try clear ho0)) | ((with_reducible refine gate_dst (N := 7) rfl ?_); refine box_event ?hg (N := 7) ?hd (cs := #[.slice none 0 0]) (t := 26) ?hr ?_; (case hd => rfl); (case hg => rfl); (case hr => exact z116_); intro gb405 hg w32 hbox hb; have n0_ := Aside0.mk (Kd.S_below (by (with_reducible repeat (first | apply Kd.S_alloc | apply Kd.S_drewN | apply Kd.S_drew)); exact HO404.out) hb); have n1_ := Aside0.mk (kK BK397 hb); have n2_ := Aside0.mk (kK BK398 hb); have n3_ := Aside0.mk (below_step (kB HB) hb); have n4_ := Aside0.mk (hbox); have n5_ := Aside0.mk ((by rw [hg]; exact (below_size (kB HB)) : w.heap.size ≤ gb405)); have n6_ := Aside0.mk ((by rw [hg]; exact (below_size (kB HB)) : w.heap.size ≤ gb405)); have n7_ := Aside0.mk ((by rw [hg]; exact Nat.ne_of_lt (blk_lt (g := gb397) (o := .cells #[.slice A0_0 l0_0.length c0_0] 26 (0, 0)) (bA BK397)) : gb397 ≠ gb405)); have n8_ := Aside0.mk ((by rw [hg]; exact Nat.ne_of_gt (blk_lt (g := gb397) (o := .cells #[.slice A0_0 l0_0.length c0_0] 26 (0, 0)) (bA BK397)) : gb405 ≠ gb397)); have n9_ := Aside0.mk ((by rw [hg]; exact Nat.ne_of_lt (blk_lt (g := gb398) (o := .cells #[.slice none 0 0] 26 (0, 0)) (bA BK398)) : gb398 ≠ gb405)); have n10_ := Aside0.mk ((by rw [hg]; exact Nat.ne_of_gt (blk_lt (g := gb398) (o := .cells #[.slice none 0 0] 26 (0, 0)) (bA BK398)) : gb405 ≠ gb398)); clear HO404; clear BK397; clear BK398; clear HB; have HO404 := n0_; have BK397 := n1_; have BK398 := n2_; have HB := n3_; have BK405 := n4_; have GW405 := n5_; have GE405 := n6_; have NB397_405 := n7_; have NB405_397 := n8_; have NB398_405 := n9_; have NB405_398 := n10_; clear n0_ n1_ n2_ n3_ n4_ n5_ n6_ n7_ n8_ n9_ n10_; clear hb hbox hg; obtain ⟨Ao33, co33, eo33⟩ := Kd.S_slice HO404.out; subst eo33; have hnb34 := NB405_397.out; have hnc34 := NB397_405.out; have hnb35 := NB405_398.out; have hnc35 := NB398_405.out; have hcz36_0 : w32.cell? ⟨gb405, 0, none⟩ = some (.slice none 0 0) := (blk_cell BK405.out 0).trans rfl; have hfz36_0 := blk_frozen BK405.out 0; have hcz37_0 : w32.cell? ⟨gb397, 0, none⟩ = some (.slice A0_0 l0_0.length c0_0) := (blk_cell BK397.out 0).trans rfl; have hfz37_0 := blk_frozen BK397.out 0) | ((with_reducible refine gate_callee (f := 86) rfl ?_); refine gL (some 34) rfl rfl Try.func86 (by kernel_rfl) rfl #[.agg #[.slice A0_0 l0_0.length c0_0], .slice A1 l1.length c1] rfl ?_; (with_reducible refine (spec_foApply.calls kj2 _ _ l0_0 _ _ l1 t406 _ ?side1 ?side2 ?side3 ?side4 A27.out).mono ?_); (case side1 => exact Kd.C_below HR0_0.out (kB HB)); (case side2 => exact HC0_0.out); (case side3 => exact Kd.C_below HR1.out (kB HB)); (case side4 => exact HC1.out); rintro e w38 ⟨v407, rfl, ho0, hb⟩; refine ⟨_, rfl, ?_⟩; have n0_ := Aside0.mk (Kd.S_elder' (by (with_reducible repeat (first | apply Kd.S_alloc | apply Kd.S_drewN | apply Kd.S_drew)); exact (Kd.S_mono (Kd.S_far (p := ⟨gb405, 0, none⟩) (Kd.S_types HO404.out BK405.out (by decide)) (fun _ hk => hk.2) (.slice Ao33 t402.length co33)) (fun _ h_ => h_.1))) (Kd.R_base ho0) hb); have n1_ := Aside0.mk (Kd.R_lower (Kd.R_newM (M := fun k_ => (w.heap.size ≤ k_)) ho0 (below_size (kB HB)) (fun k_ h_ => h_)) (below_size (kB HB))); have n2_ := Aside0.mk (blk_below (g := gb397) (o := .cells #[.slice A0_0 l0_0.length c0_0] 26 (0, 0)) (by (with_reducible repeat (first | refine blk_drewN ?_ _ | refine blk_drew ?_ | refine blk_alloc ?_ _)); refine blk_far ?_ NB397_405.out _; (with_reducible repeat (first | refine blk_drewN ?_ _ | refine blk_drew ?_ | refine blk_alloc ?_ _)); exact BK397.out) hb); have n3_ := Aside0.mk (blk_below (g := gb398) (o := .cells #[.slice none 0 0] 26 (0, 0)) (by (with_reducible repeat (first | refine blk_drewN ?_ _ | refine blk_drew ?_ | refine blk_alloc ?_ _)); refine blk_far ?_ NB398_405.out _; (with_reducible repeat (first | refine blk_drewN ?_ _ | refine blk_drew ?_ | refine blk_alloc ?_ _)); exact BK398.out) hb); have n4_ := Aside0.mk (blk_below (g := gb405) (o := .cells #[.slice Ao33 t402.length co33] 26 (0, 0)) (by (with_reducible repeat (first | refine blk_drewN ?_ _ | refine blk_drew ?_ | refine blk_alloc ?_ _)); refine blk_put (cs := #[.slice none 0 0]) ?_ 0 _ rfl; (with_reducible repeat (first | refine blk_drewN ?_ _ | refine blk_drew ?_ | refine blk_alloc ?_ _)); exact BK405.out) hb); have n5_ := Aside0.mk (below_step (kB HB) hb); clear HO404; clear BK397; clear BK398; clear BK405; clear HB; have HO404 := n0_; have HO408 := n1_; have BK397 := n2_; have BK398 := n3_; have BK405 := n4_; have HB := n5_; clear n0_ n1_ n2_ n3_ n4_ n5_; (try clear hb); (try clear hb2); (try clear hk); (try clear hi); (try clear ho0); obtain ⟨Ao39, co39, eo39⟩ := Kd.R_slice HO408.out; subst eo39))
     go_loopg [36] kj2 (fun kq v36 w' => ∃ (x34_2 : List Int) (x36_2 : Int) (x406000_2 : List (List Int)) (u406000 : Value), v36 = .int .i64 x36_2 ∧ Aside0 (spec_ReflectionOf.l0 kq l1 t401 x34_2 (t406.length : Int) x36_2 x406000_2 = some (r1, r2)) ∧ Aside0 (kq ≤ kj2) ∧ Aside0 (Kd.R (Kd.int .i64) 3 w' w.heap.size (fun k_ => (w.heap.size ≤ k_)) (.slice Ao39 t406.length co39) x34_2) ∧ Aside0 (Kd.S (Kd.slice 3 (Kd.int .i64)) 34 w' w.heap.size (fun k_ => (w.heap.size ≤ k_) ∧ some k_ ≠ ((.slice Ao39 t406.length co39) : Value).ownBlock) u406000 x406000_2) ∧ Aside0 (w'.heap[gb397]? = some (.cells #[(.slice A0_0 l0_0.length c0_0)] 26 (0, 0))) ∧ Aside0 (w'.heap[gb398]? = some (.cells #[(.slice none 0 0)] 26 (0, 0))) ∧ Aside0 (w'.heap[gb405]? = some (.cells #[u406000] 26 (0, 0))) ∧ Aside0 (Below w.heap.size w w'))
     case atStart => exact ⟨(t406), (0), (t402), (.slice Ao33 t402.length co33), e2, H', ⟨Nat.le_refl _⟩, ⟨by (with_reducible repeat (first | apply Kd.R_alloc | apply Kd.R_drewN | apply Kd.R_drew)); exact Kd.R_mono HO408.out (fun _ hk => hk.1)⟩, ⟨by (with_reducible repeat (first | apply Kd.S_alloc | apply Kd.S_drewN | apply Kd.S_drew)); exact Kd.S_mono HO404.out (fun _ hk => ⟨hk.1.1, hk.2⟩)⟩, ⟨z74_⟩, ⟨z82_⟩, ⟨by (with_reducible repeat (first | refine blk_drewN ?_ _ | refine blk_drew ?_ | refine blk_alloc ?_ _)); exact BK405.out⟩, ⟨kB HB⟩⟩
     case round =>
      clear H'; (try clear c1); (try clear c2); (try clear p2); (try clear c3); (try clear c7); (try clear c8); (try clear c9); (try clear c14); (try clear c17); (try clear c18); (try clear c21); (try clear c21b0); (try clear c21b1); (try clear c22); (try clear c25); (try clear c28); (try clear c34); (try clear c35); (try clear hcz10_0); (try clear hcz12_0); (try clear hcz15_0); (try clear hcz19_0); (try clear hcz23_0); (try clear hcz25_0); (try clear hcz29_0); (try clear hcz36_0); (try clear hcz37_0); (try clear hfz10_0); (try clear hfz12_0); (try clear hfz15_0); (try clear hfz19_0); (try clear hfz23_0); (try clear hfz25_0); (try clear hfz29_0); (try clear hfz36_0); (try clear hfz37_0); (try clear p2)
      obtain ⟨x34_2, x36_2, x406000_2, u406000, rfl, HA, HK2, HO_34, HO_406000, BK397, BK398, BK405, HB⟩ := hrel
      have hl34_2 := (Kd.R_reads' HO_34.out).1
      rw [hl34_2] at HO_34
      (try simp only [hl34_2])
      (try simp only [hl34_2] at BK397)
      (try simp only [hl34_2] at BK398)
      (try simp only [hl34_2] at BK405)
      (try simp only [hl34_2] at HO_406000)
      cases gk with
      | zero => exact absurd HA.out (by simp [spec_ReflectionOf.l0])
      | succ k2 =>
       have H := HA.out
       clear HA
       simp only [spec_ReflectionOf.l0] at H
       by_cases c40 : x36_2 < (t406.length : Int)
       ·
        rw [if_pos c40] at H
        have c40b0 : decide (x36_2 < (t406.length : Int)) = true := decide_eq_true c40
        clear c40
        by_cases c41 : 0 ≤ x36_2
        ·
         rw [if_pos c41] at H
         have c41b0 : decide (0 ≤ x36_2) = true := decide_eq_true c41
         clear c41
         by_cases c42 : x36_2 < (x34_2.length : Int)
         ·
          rw [if_pos c42] at H
          have c42b0 : decide (x36_2 < (x34_2.length : Int)) = true := decide_eq_true c42
          clear c42
          have H' := Aside0.mk H
          clear H
          have p413 : 0 ≤ (x36_2 : Int) := od
          have q413 : x36_2 < (x34_2.length : Int) := od
          obtain ⟨ad413, e413, hx413_0⟩ := Kd.at_int (Kd.R_reads' HO_34.out).2.2 x36_2 p413 q413
          cases e413
          replace p413 := eq_true p413
          replace q413 := eq_true q413
          go_wp2
          go_loopg [43] k2 (fun kq v43 w' => ∃ (x34_3 : List Int) (x43_3 : Int) (x406000_3 : List (List Int)) (u406000 : Value), v43 = .int .i64 x43_3 ∧ Aside0 (spec_ReflectionOf.l1 kq l1 t401 x36_2 (rd x34_2 x36_2) x34_3 (t406.length : Int) x36_2 l1 (l1.length : Int) x43_3 x406000_3 = some (r1, r2)) ∧ Aside0 (kq ≤ k2) ∧ Aside0 (Kd.R (Kd.int .i64) 3 w' w.heap.size (fun k_ => (w.heap.size ≤ k_)) (.slice (some ad413) x34_2.length co39) x34_3) ∧ Aside0 (Kd.S (Kd.slice 3 (Kd.int .i64)) 34 w' w.heap.size (fun k_ => (w.heap.size ≤ k_) ∧ some k_ ≠ ((.slice (some ad413) x34_2.length co39) : Value).ownBlock) u406000 x406000_3) ∧ Aside0 (w'.heap[gb397]? = some (.cells #[(.slice A0_0 l0_0.length c0_0)] 26 (0, 0))) ∧ Aside0 (w'.heap[gb398]? = some (.cells #[(.slice none 0 0)] 26 (0, 0))) ∧ Aside0 (w'.heap[gb405]? = some (.cells #[u406000] 26 (0, 0))) ∧ Aside0 (Below w.heap.size w w'))
          case atStart => exact ⟨(x34_2), (0), (x406000_2), (u406000), e2, H', ⟨Nat.le_refl _⟩, ⟨by (try simp only [hl34_2]); (with_reducible repeat (first | apply Kd.R_alloc | apply Kd.R_drewN | apply Kd.R_drew)); exact HO_34.out⟩, ⟨by (try simp only [hl34_2]); (with_reducible repeat (first | apply Kd.S_alloc | apply Kd.S_drewN | apply Kd.S_drew)); exact HO_406000.out⟩, ⟨by (try simp only [hl34_2]); (with_reducible repeat (first | refine blk_drewN ?_ _ | refine blk_drew ?_ | refine blk_alloc ?_ _)); exact BK397.out⟩, ⟨by (try simp only [hl34_2]); (with_reducible repeat (first | refine blk_drewN ?_ _ | refine blk_drew ?_ | refine blk_alloc ?_ _)); exact BK398.out⟩, ⟨by (try simp only [hl34_2]); (with_reducible repeat (first | refine blk_drewN ?_ _ | refine blk_drew ?_ | refine blk_alloc ?_ _)); exact BK405.out⟩, ⟨kB HB⟩⟩
          case round =>
           clear H'; (try clear c1); (try clear c2); (try clear p2); (try clear c3); (try clear c4); (try clear p4); (try clear q4); (try clear hx4); (try clear c7); (try clear c8); (try clear c9); (try clear c14); (try clear c17); (try clear c18); (try clear c21); (try clear c21b0); (try clear c21b1); (try clear c22); (try clear c25); (try clear c28); (try clear c34); (try clear c35); (try clear c40); (try clear c40b0); (try clear c41); (try clear c41b0); (try clear p41); (try clear q41); (try clear hx41); (try clear c42); (try clear c42b0); (try clear hcz10_0); (try clear hcz12_0); (try clear hcz15_0); (try clear hcz19_0); (try clear hcz23_0); (try clear hcz25_0); (try clear hcz29_0); (try clear hcz36_0); (try clear hcz37_0); (try clear hfz10_0); (try clear hfz12_0); (try clear hfz15_0); (try clear hfz19_0); (try clear hfz23_0); (try clear hfz25_0); (try clear hfz29_0); (try clear hfz36_0); (try clear hfz37_0); (try clear hx413_0); (try clear p2); (try clear p413); (try clear q413)
           obtain ⟨x34_3, x43_3, x406000_3, u406000, rfl, HA, HK3, HO_34, HO_406000, BK397, BK398, BK405, HB⟩ := hrel
           have hl34_3 := (Kd.R_reads' HO_34.out).1
           rw [hl34_3] at HO_34
           (try simp only [hl34_3])
           (try simp only [hl34_3] at BK397)
           (try simp only [hl34_3] at BK398)
           (try simp only [hl34_3] at BK405)
           (try simp only [hl34_3] at HO_406000)
           cases gk with
           | zero => exact absurd HA.out (by simp [spec_ReflectionOf.l1])
           | succ k3 =>
            have H := HA.out
            clear HA
            simp only [spec_ReflectionOf.l1] at H
            by_cases c43 : x43_3 < (l1.length : Int)
            ·
             rw [if_pos c43] at H
             have c43b0 : decide (x43_3 < (l1.length : Int)) = true := decide_eq_true c43
             clear c43
             by_cases c44 : 0 ≤ x43_3
             ·
              rw [if_pos c44] at H
              have c44b0 : decide (0 ≤ x43_3) = true := decide_eq_true c44
              clear c44
              by_cases c45 : x43_3 < (l1.length : Int)
              ·
               rw [if_pos c45] at H
               have c45b0 : decide (x43_3 < (l1.length : Int)) = true := decide_eq_true c45
               clear c45
               by_cases c46 : t401 = 0
               ·
                rw [if_pos c46] at H
                exact absurd H (by simp)
               ·
                rw [if_neg c46] at H
                have c46b0 : (t401 == 0) = false := beq_eq_false_iff_ne.mpr c46
                have c46b1 : (t401 != 0) = true := bne_iff_ne.mpr c46
                by_cases c47 : (Int.tmod (wrap64 ((wrap64 (2 * (rd x34_2 x36_2))) * (rd l1 x43_3))) t401) = 0
                ·
                 rw [if_pos c47] at H
                 have c47b0 : ((Int.tmod (wrap64 ((wrap64 (2 * (rd x34_2 x36_2))) * (rd l1 x43_3))) t401) == 0) = true := beq_iff_eq.mpr c47
                 have c47b1 : ((Int.tmod (wrap64 ((wrap64 (2 * (rd x34_2 x36_2))) * (rd l1 x43_3))) t401) != 0) = false := bne_eq_false_iff_eq.mpr c47
                 clear c47
                 by_cases c48 : x43_3 < (x406000_3.length : Int)
                 ·
                  rw [if_pos c48] at H
                  have c48b0 : decide (x43_3 < (x406000_3.length : Int)) = true := decide_eq_true c48
                  clear c48
                  by_cases c49 : 0 ≤ x36_2
                  ·
                   rw [if_pos c49] at H
                   have c49b0 : decide (0 ≤ x36_2) = true := decide_eq_true c49
                   clear c49
                   by_cases c50 : x36_2 < ((rd_L2 x406000_3 x43_3).length : Int)
                   ·
                    rw [if_pos c50] at H
                    have c50b0 : decide (x36_2 < ((rd_L2 x406000_3 x43_3).length : Int)) = true := decide_eq_true c50
                    clear c50
                    obtain ⟨y417, hy417⟩ : ∃ y_ : List Int, y_ = ((rd_L2 x406000_3 x43_3).set (x36_2 : Int).toNat (wrap64 ((rd (rd_L2 x406000_3 x43_3) x36_2) - (wrap64 (Int.tdiv (wrap64 ((wrap64 (2 * (rd x34_2 x36_2))) * (rd l1 x43_3))) t401))))) := ⟨_, rfl⟩
                    replace H : (spec_ReflectionOf.l1 k3 l1 t401 x36_2 (rd x34_2 x36_2) x34_3 (t406.length : Int) x36_2 l1 (l1.length : Int) (wrap64 (x43_3 + 1)) (x406000_3.set (x43_3 : Int).toNat y417)) = some (r1, r2) := by first | (rw [hy417]; with_reducible exact H) | (have H2_ := (Option.bind_some _ _).symm.trans H; rw [hy417]; with_reducible exact H2_) | (have H2_ := (Option.bind_some _ _).symm.trans H; with_reducible exact H2_) | with_reducible exact H | (rw [hy417]; exact H) | exact H
                    have Ny417 := Aside0.mk hy417
                    clear hy417
                    obtain ⟨y419, hy419⟩ : ∃ y_ : List (List Int), y_ = (x406000_3.set (x43_3 : Int).toNat y417) := ⟨_, rfl⟩
                    replace H : (spec_ReflectionOf.l1 k3 l1 t401 x36_2 (rd x34_2 x36_2) x34_3 (t406.length : Int) x36_2 l1 (l1.length : Int) (wrap64 (x43_3 + 1)) y419) = some (r1, r2) := by first | (rw [hy419]; with_reducible exact H) | (have H2_ := (Option.bind_some _ _).symm.trans H; rw [hy419]; with_reducible exact H2_) | (have H2_ := (Option.bind_some _ _).symm.trans H; with_reducible exact H2_) | with_reducible exact H | (rw [hy419]; exact H) | exact H
                    have Ny419 := Aside0.mk hy419
                    clear hy419
                    have H' := Aside0.mk H
                    clear H
                    have p414 : 0 ≤ (x43_3 : Int) := od
                    have q414 : x43_3 < (l1.length : Int) := od
                    obtain ⟨ad414, e414, hx414_0⟩ := Kd.at_int HR1.out x43_3 p414 q414
                    cases e414
                    replace hx414_0 := (HB.out.cell (World.block_lt_of_cell? w _ hx414_0)).trans hx414_0
                    replace p414 := eq_true p414
                    replace q414 := eq_true q414
                    try go_wp2
                    have n0_ := Aside0.mk (Kd.R_drew HO_34.out)
                    have n1_ := Aside0.mk (Kd.S_drew HO_406000.out)
                    have n2_ := Aside0.mk (blk_drew BK397.out)
                    have n3_ := Aside0.mk (blk_drew BK398.out)
                    have n4_ := Aside0.mk (blk_drew BK405.out)
                    have n5_ := Aside0.mk (below_drew1 HB.out)
                    clear HO_34; clear HO_406000; clear BK397; clear BK398; clear BK405; clear HB
                    have HO_34 := n0_
                    have HO_406000 := n1_
                    have BK397 := n2_
                    have BK398 := n3_
                    have BK405 := n4_
                    have HB := n5_
                    clear n0_ n1_ n2_ n3_ n4_ n5_
                    obtain ⟨Ao53, co53, eo53⟩ := Kd.S_slice HO_406000.out
                    (first | subst eo53 | (injection eo53 with f1_ f2_ f3_; have f4_ := f1_.symm; have f5_ := f3_.symm; clear f1_ f2_ f3_; subst f4_; subst f5_))
                    have p415 : 0 ≤ (x43_3 : Int) := od
                    have q415 : x43_3 < (x406000_3.length : Int) := od
                    obtain ⟨ad415, A415_0, c415_0, e415, hx415_0, hl415_0, hi415_0⟩ := at_L2 (Kd.S_reads' HO_406000.out).2.2 x43_3 p415 q415
                    cases e415
                    obtain ⟨ce415, hce415, hMe415, hcc415⟩ := Kd.S_get HO_406000.out [] x43_3 p415 (by first | exact q415 | exact od | (have e_ := (Kd.S_reads' HO_406000.out).1; omega))
                    obtain ⟨ve415_0, rfl, ge415_0⟩ := hMe415
                    have hv415_0 := hcc415 0 _ rfl
                    rw [Nat.add_zero, show ((Kd.slice 3 (Kd.int .i64))).sz = 1 from rfl, Nat.mul_one] at hv415_0
                    replace hv415_0 := Option.some.inj (hv415_0.symm.trans hx415_0)
                    rw [hv415_0] at ge415_0
                    have HL415_0 := Aside0.mk (show Kd.R (Kd.int .i64) 3 _ _ _ _ (rd_L2 x406000_3 x43_3) from ge415_0)
                    clear hv415_0 ge415_0
                    have HX415_0 := Aside0.mk hx415_0
                    clear hcc415 hce415
                    have HR415_0 := Aside0.mk hi415_0
                    have HC415_0 := Aside0.mk hl415_0
                    clear hi415_0 hl415_0
                    replace p415 := eq_true p415
                    replace q415 := eq_true q415
                    have p416 : 0 ≤ (x36_2 : Int) := od
                    have q416 : x36_2 < ((rd_L2 x406000_3 x43_3).length : Int) := od
                    obtain ⟨ad416, e416, hx416_0⟩ := Kd.at_int (by repeat (first | (with_reducible exact HR415_0.out) | (with_reducible refine Kd.C_alloc ?_ _) | (with_reducible refine Kd.C_drewN ?_ _) | (with_reducible refine Kd.C_drew ?_) | exact HR415_0.out)) x36_2 p416 q416
                    cases e416
                    replace p416 := eq_true p416
                    replace q416 := eq_true q416
                    have p51 : 0 ≤ (x36_2 : Int) := od
                    have q51 : (x36_2 : Int) < (((rd_L2 x406000_3 x43_3).length : Int) : Int) := od
                    obtain ⟨go51, co51, eo51, gb51, gl51, cl51, HG51⟩ := Kd.R_form HL415_0.out (by omega)
                    (first | cases eo51 | (injection eo51 with ea_ en_ ec_; (first | subst ea_ | (injection ea_ with ea_; subst ea_)); subst ec_; clear en_))
                    have GB51 := Aside0.mk gb51
                    have GG51 := Aside0.mk HG51
                    clear gb51 gl51 HG51
                    (first | simp only [add_plain] at hx416_0 | skip)
                    obtain ⟨hx51_0, hf51_0⟩ := Kd.R_celln 0 HL415_0.out (x36_2 : Int) p51 q51
                    replace p51 := eq_true p51
                    replace q51 := eq_true q51
                    have hq54 : (x43_3 : Int) < (x406000_3.length : Int) := (by have h_ : (x43_3 : Int) < ((x406000_3.length : Int) : Int) := od; first | exact h_ | (have e_ := (Kd.S_reads' HO_406000.out).1; omega) | simpa only [List.length_set, List.length_set] using h_)
                    obtain ⟨oki54, ce54, hcl54, hM54, hcc54, hok54, hbk54⟩ := Kd.S_borrow HO_406000.out [] (x43_3 : Int) (od) hq54
                    obtain ⟨ve54_0, rfl, ge54_0⟩ := hM54
                    have hv54 := hcc54 0 _ rfl
                    rw [Nat.add_zero, show ((Kd.slice 3 (Kd.int .i64))).sz = 1 from rfl, Nat.mul_one] at hv54
                    replace hv54 := Option.some.inj (hv54.symm.trans HX415_0.out)
                    subst hv54
                    clear hcc54 hcl54
                    replace ge54_0 := (show Kd.R (Kd.int .i64) 3 _ _ _ _ (rd_L2 x406000_3 x43_3) from ge54_0)
                    have HP54 := Kd.R_putg ge54_0 (x36_2 : Int) (wrap64 ((rd (rd_L2 x406000_3 x43_3) x36_2) - (wrap64 (Int.tdiv (wrap64 ((wrap64 (2 * (rd x34_2 x36_2))) * (rd l1 x43_3))) t401))))
                    rw [← Ny417.out] at HP54
                    have HS54 := hbk54 HP54.2 (fun k_ e_ => by injection e_ with e_; subst e_; exact ge54_0.1 _ rfl) (x' := y417) (Kd.M_row HP54.1)
                    rw [← Ny419.out] at HS54
                    have HQ54 := Aside0.mk HS54
                    clear HP54 HS54 hbk54 hok54
                    refine start_ (n := 17) (S := fun w' => w'.cell? ⟨gb405, 0, none⟩ = some (.slice (some ad415) x406000_3.length co53) ∧ w'.cell? (ad415.add (x43_3).toNat) = some (.slice (some ⟨go51, 0, none⟩) (rd_L2 x406000_3 x43_3).length c415_0) ∧ w'.cell? ⟨go51, (x36_2).toNat, none⟩ = some (.int .i64 (rd (rd_L2 x406000_3 x43_3) x36_2))) (ds := [16]) #[O,O,O,O,O,O,O,O,O,O,O,O,O,O,O,O,O] (by kernel_rfl) rfl rfl ⟨(blk_cell BK405.out 0).trans rfl, hx415_0, hx416_0⟩ (fun hHeld => ?_); refine with_tabW spec_ReflectionOf.tab15 spec_ReflectionOf.bits15 (fun HT_ HW_ => ?_)
                    generalize wr.drew = w52 at HO_34 HO_406000 BK397 BK398 BK405 HB GG51 HL415_0 HQ54 HR415_0 HX415_0 hf51_0 hx415_0 hx416_0 hx51_0 hHeld ⊢
                    refine pS 0 56 (BM 17 1) ?_
                    refine pS 2 58 (BM 17 5) ?_
                    refine pS 5 61 (BM 17 37) ?_
                    refine pS 8 64 (BM 17 293) ?_
                    refine pS 9 65 (BM 17 805) ?_
                    refine pS 10 66 (BM 17 1829) ?_
                    refine pS 11 67 (BM 17 3877) ?_
                    refine pS 12 68 (BM 17 7973) ?_
                    refine pS 13 69 (BM 17 16165) ?_
                    refine take_ (i := 1) (N := some 57) (v := ?_) (a' := ?_) (BM 17 16167) rfl rfl (take_ofW HT_.out HW_.out (by kernel_rfl)) (fun _ _ _ h => h) (Or.inl ⟨by rfl, ?_⟩) hHeld ?_ ?_
                    rotate_left
                    ·
                     rintro w' ⟨s0, s1, s2⟩
                     go_simp
                     with_reducible rfl
                    rotate_left
                    ·
                     simp only [AP]
                     rfl
                    refine pS 3 59 (BM 17 16175) ?_
                    refine take_ (i := 4) (N := some 60) (v := ?_) (a' := ?_) (BM 17 16191) rfl rfl (take_ofW HT_.out HW_.out (by kernel_rfl)) (fun _ _ _ h => h) (Or.inl ⟨by rfl, ?_⟩) hHeld ?_ ?_
                    rotate_left
                    ·
                     rintro w' ⟨s0, s1, s2⟩
                     go_simp
                     with_reducible rfl
                    rotate_left
                    ·
                     simp only [AP]
                     rfl
                    refine pS 6 62 (BM 17 16255) ?_
                    refine take_ (i := 7) (N := some 63) (v := ?_) (a' := ?_) (BM 17 16383) rfl rfl (take_ofW HT_.out HW_.out (by kernel_rfl)) (fun _ _ _ h => h) (Or.inl ⟨by rfl, ?_⟩) hHeld ?_ ?_
                    rotate_left
                    ·
                     rintro w' ⟨s0, s1, s2⟩
                     go_simp
                     with_reducible rfl
                    rotate_left
                    ·
                     simp only [AP]
                     rfl
                    refine pS 14 70 (BM 17 32767) ?_
                    refine pS 15 71 (BM 17 65535) ?_
                    refine last_ (i := 16) (N := none) (BM 17 131071) rfl rfl (one_of HT_.out (by kernel_rfl)) (by decide) (fun K hK => ?_)
                    refine skip_ (w1 := ?_) (by rfl) rfl ?_ ?_
                    rotate_left
                    ·
                     go_simp
                     rfl
                    refine hK.out _ _ ?_
                    clear hK K
                    refine done_ (done_of HT_.out (by kernel_rfl)) ?_
                    try go_wp2
                    (try simp only [← hl34_3])
                    go_roundg k3
                    case measure => have := HJ2.out; have := HK2.out; have := HK3.out; omega
                    case rel => exact ⟨(x34_3), (wrap64 (x43_3 + 1)), (y419), (.slice (some ad415) x406000_3.length co53), e2, H', ⟨by have := HJ2.out; have := HK2.out; have := HK3.out; omega⟩, ⟨by (try simp only [hl34_2]); (try simp only [hl34_3]); (with_reducible repeat (first | apply Kd.R_alloc | apply Kd.R_drewN | apply Kd.R_drew)); exact Kd.R_mono (Kd.R_far (p := ⟨go51, (x36_2 : Int).toNat, none⟩) (Kd.R_far1 HO_34.out rfl ((HL415_0.out.1 _ rfl).1.2)) (fun _ hk => hk.2) (.int .i64 (wrap64 ((rd (rd_L2 x406000_3 x43_3) x36_2) - (wrap64 (Int.tdiv (wrap64 ((wrap64 (2 * (rd x34_2 x36_2))) * (rd l1 x43_3))) t401)))))) (fun _ hk => hk.1)⟩, ⟨by (try simp only [hl34_2]); (try simp only [hl34_3]); (with_reducible repeat (first | apply Kd.S_alloc | apply Kd.S_drewN | apply Kd.S_drew)); exact HQ54.out⟩, ⟨by (try simp only [hl34_2]); (try simp only [hl34_3]); (with_reducible repeat (first | refine blk_drewN ?_ _ | refine blk_drew ?_ | refine blk_alloc ?_ _)); refine blk_far ?_ (by have h_ := Kd.R_ne HL415_0.out BK397.out (by decide); intro e_; exact h_ (by rw [e_]; rfl)) _; (with_reducible repeat (first | refine blk_drewN ?_ _ | refine blk_drew ?_ | refine blk_alloc ?_ _)); exact BK397.out⟩, ⟨by (try simp only [hl34_2]); (try simp only [hl34_3]); (with_reducible repeat (first | refine blk_drewN ?_ _ | refine blk_drew ?_ | refine blk_alloc ?_ _)); refine blk_far ?_ (by have h_ := Kd.R_ne HL415_0.out BK398.out (by decide); intro e_; exact h_ (by rw [e_]; rfl)) _; (with_reducible repeat (first | refine blk_drewN ?_ _ | refine blk_drew ?_ | refine blk_alloc ?_ _)); exact BK398.out⟩, ⟨by (try simp only [hl34_2]); (try simp only [hl34_3]); (with_reducible repeat (first | refine blk_drewN ?_ _ | refine blk_drew ?_ | refine blk_alloc ?_ _)); refine blk_far ?_ (by have h_ := Kd.R_ne HL415_0.out BK405.out (by decide); intro e_; exact h_ (by rw [e_]; rfl)) _; (with_reducible repeat (first | refine blk_drewN ?_ _ | refine blk_drew ?_ | refine blk_alloc ?_ _)); exact BK405.out⟩, ⟨by repeat (first | (with_reducible first | exact HB.out | apply below_alloc | apply pw_below_drewN | apply below_drew1 | refine below_set ?_ GB51.out | refine below_set ?_ GE397.out | refine below_set ?_ GE398.out | refine below_set ?_ GE405.out) | exact HB.out | exact Below.refl _ _)⟩⟩
                   ·
                    rw [if_neg c50] at H
                    exact absurd H (by simp)
                  ·
                   rw [if_neg c49] at H
                   exact absurd H (by simp)
                 ·
                  rw [if_neg c48] at H
                  exact absurd H (by simp)
                ·
                 rw [if_neg c47] at H
                 have c47b0 : ((Int.tmod (wrap64 ((wrap64 (2 * (rd x34_2 x36_2))) * (rd l1 x43_3))) t401) == 0) = false := beq_eq_false_iff_ne.mpr c47
                 have c47b1 : ((Int.tmod (wrap64 ((wrap64 (2 * (rd x34_2 x36_2))) * (rd l1 x43_3))) t401) != 0) = true := bne_iff_ne.mpr c47
                 simp only [Option.some.injEq, Prod.mk.injEq] at H
                 obtain ⟨rfl, rfl⟩ := H
                 have p414 : 0 ≤ (x43_3 : Int) := od
                 have q414 : x43_3 < (l1.length : Int) := od
                 obtain ⟨ad414, e414, hx414_0⟩ := Kd.at_int HR1.out x43_3 p414 q414
                 cases e414
                 replace hx414_0 := (HB.out.cell (World.block_lt_of_cell? w _ hx414_0)).trans hx414_0
                 replace p414 := eq_true p414
                 replace q414 := eq_true q414
                 have hnb56 := NB398_397.out
                 have hnc56 := NB397_398.out
                 have hnb57 := NB398_405.out
                 have hnc57 := NB405_398.out
                 have hcz58_0 : wr.cell? ⟨gb398, 0, none⟩ = some (.slice none 0 0) := (blk_cell BK398.out 0).trans rfl
                 have hfz58_0 := blk_frozen BK398.out 0
                 go_wp2
                 refine bodyPost_ret (results_ct rfl _ _ gb398 26 #[.slice none 0 0] (0, 0) _ rfl z17_ Try.underlying26 rfl (by kernel_rfl)) rfl ?_
                 exact ⟨_, e1, Kd.V_nil _ _ _ _ _, kB HB⟩
              ·
               rw [if_neg c45] at H
               exact absurd H (by simp)
             ·
              rw [if_neg c44] at H
              exact absurd H (by simp)
            ·
             rw [if_neg c43] at H
             have c43b0 : decide (x43_3 < (l1.length : Int)) = false := decide_eq_false c43
             (try (have c43b9 : decide (x43_3 < (x34_3.length : Int)) = false := (by rw [← hl34_3]; exact c43b0)))
             clear c43
             have H' := Aside0.mk H
             clear H
             go_wp2
             (try simp only [← hl34_2, ← hl34_3])
             go_roundg k3
             case measure => have := HJ2.out; have := HK2.out; have := HK3.out; omega
             case rel => exact ⟨(x34_3), (wrap64 (x36_2 + 1)), (x406000_3), (u406000), e2, H', ⟨by have := HJ2.out; have := HK2.out; have := HK3.out; omega⟩, ⟨by (try simp only [hl34_2]); (try simp only [hl34_3]); (with_reducible repeat (first | apply Kd.R_alloc | apply Kd.R_drewN | apply Kd.R_drew)); exact HO_34.out⟩, ⟨by (try simp only [hl34_2]); (try simp only [hl34_3]); (with_reducible repeat (first | apply Kd.S_alloc | apply Kd.S_drewN | apply Kd.S_drew)); exact HO_406000.out⟩, ⟨by (try simp only [hl34_2]); (try simp only [hl34_3]); (with_reducible repeat (first | refine blk_drewN ?_ _ | refine blk_drew ?_ | refine blk_alloc ?_ _)); exact BK397.out⟩, ⟨by (try simp only [hl34_2]); (try simp only [hl34_3]); (with_reducible repeat (first | refine blk_drewN ?_ _ | refine blk_drew ?_ | refine blk_alloc ?_ _)); exact BK398.out⟩, ⟨by (try simp only [hl34_2]); (try simp only [hl34_3]); (with_reducible repeat (first | refine blk_drewN ?_ _ | refine blk_drew ?_ | refine blk_alloc ?_ _)); exact BK405.out⟩, ⟨kB HB⟩⟩
         ·
          rw [if_neg c42] at H
          exact absurd H (by simp)
        ·
         rw [if_neg c41] at H
         exact absurd H (by simp)
       ·
        rw [if_neg c40] at H
        have c40b0 : decide (x36_2 < (t406.length : Int)) = false := decide_eq_false c40
        (try (have c40b9 : decide (x36_2 < (x34_2.length : Int)) = false := (by rw [← hl34_2]; exact c40b0)))
        clear c40
        replace H := Option.bind_eq_some_iff.mp H
        obtain ⟨⟨t409, t412⟩, A590, H⟩ := H
        replace H : (some (t409, t412)) = some (r1, r2) := H
        have A59 := Aside0.mk A590
        clear A590
        simp only [Option.some.injEq, Prod.mk.injEq] at H
        obtain ⟨rfl, rfl⟩ := H
        have hnb60 := NB405_397.out
        have hnc60 := NB397_405.out
        have hnb61 := NB405_398.out
        have hnc61 := NB398_405.out
        have hcz62_0 : wr.cell? ⟨gb405, 0, none⟩ = some (u406000) := (blk_cell BK405.out 0).trans rfl
        have hfz62_0 := blk_frozen BK405.out 0
        obtain ⟨Ao63, co63, eo63⟩ := Kd.S_slice HO_406000.out
        subst eo63
        go_wp2_with (first | ((with_reducible refine gate_callee (f := 61) rfl ?_); refine gL (some 75) rfl rfl Try.func61 (by kernel_rfl) rfl #[.agg #[.slice Ao63 x406000_2.length co63]] rfl ?_; (with_reducible refine (spec_foIf.calls k2 (fun k_ => (((((w.heap.size ≤ k_) ∧ some k_ ≠ (.slice Ao39 x34_2.length co39 : Value).ownBlock) ∧ k_ ≠ gb397) ∧ k_ ≠ gb398) ∧ k_ ≠ gb405)) _ _ x406000_2 t409 t412 _ ?side1 A59.out).mono ?_); (case side1 => exact Kd.S_V (Kd.S_types (Kd.S_types (Kd.S_types (HO_406000.out) BK397.out (by decide)) BK398.out (by decide)) BK405.out (by decide))); rintro e w64 ⟨v410, rfl, ho0, hb⟩; refine ⟨_, rfl, ?_⟩; have n0_ := Aside0.mk (Kd.R_below (rA HO_34) hb); have n1_ := Aside0.mk (Kd.S_below (by (with_reducible repeat (first | apply Kd.S_alloc | apply Kd.S_drewN | apply Kd.S_drew)); exact HO_406000.out) hb); have n2_ := Aside0.mk (Kd.V_lower (Kd.V_mono (ok' := fun k_ => (w.heap.size ≤ k_) ∧ some k_ ≠ (.slice Ao39 x34_2.length co39 : Value).ownBlock ∧ k_ ≠ gb397 ∧ k_ ≠ gb398 ∧ k_ ≠ gb405) ho0 (fun k_ hk_ => ⟨Or.elim hk_ (fun hs_ => hs_.1.1.1.1) (fun hn_ => (Nat.le_trans (below_size (kB HB)) hn_)), Or.elim hk_ (fun hs_ => hs_.1.1.1.2) (fun hn_ => (Kd.fresh' (Kd.R_lt (rA HO_34)) k_ hn_)), Or.elim hk_ (fun hs_ => hs_.1.1.2) (fun hn_ => (Kd.freshB (g := gb397) (o := .cells #[.slice A0_0 l0_0.length c0_0] 26 (0, 0)) (bA BK397) k_ hn_)), Or.elim hk_ (fun hs_ => hs_.1.2) (fun hn_ => (Kd.freshB (g := gb398) (o := .cells #[.slice none 0 0] 26 (0, 0)) (bA BK398) k_ hn_)), Or.elim hk_ (fun hs_ => hs_.2) (fun hn_ => (Kd.freshB (g := gb405) (o := .cells #[.slice Ao63 x406000_2.length co63] 26 (0, 0)) (bA BK405) k_ hn_))⟩)) (below_size (kB HB))); have n3_ := Aside0.mk (kK BK397 hb); have n4_ := Aside0.mk (kK BK398 hb); have n5_ := Aside0.mk (kK BK405 hb); have n6_ := Aside0.mk (below_step (kB HB) hb); clear HO_34; clear HO_406000; clear BK397; clear BK398; clear BK405; clear HB; have HO_34 := n0_; have HO_406000 := n1_; have HO411 := n2_; have BK397 := n3_; have BK398 := n4_; have BK405 := n5_; have HB := n6_; clear n0_ n1_ n2_ n3_ n4_ n5_ n6_; (try clear hb); (try clear hb2); (try clear hk); (try clear hi); (try clear ho0); obtain ⟨Ao65, co65, eo65⟩ := Kd.V_slice HO411.out; subst eo65; have hnb66 := NB398_397.out; have hnc66 := NB397_398.out; have hcz67_0 : w64.cell? ⟨gb398, 0, none⟩ = some (.slice none 0 0) := (blk_cell BK398.out 0).trans rfl; have hfz67_0 := blk_frozen BK398.out 0))
        refine bodyPost_ret (results_ct rfl _ _ gb398 26 #[.slice Ao65 t409.length co65] (0, 0) _ rfl z17_ Try.underlying26 rfl (by kernel_rfl)) rfl ?_
        exact ⟨_, e1, by (with_reducible repeat (first | apply Kd.V_alloc | apply Kd.V_drewN | apply Kd.V_drew)); exact Kd.V_mono (Kd.V_far (p := ⟨gb398, 0, none⟩) (Kd.V_mono HO411.out (fun k_ hk => (⟨hk, hk.2.2.2.1⟩ : _ ∧ k_ ≠ gb398))) (fun _ hk => hk.2) (.slice Ao65 t409.length co65)) (fun _ hk => hk.1.1), kB HB⟩

end Go.Proofs.Ytldkkfpodldbgaa.P
