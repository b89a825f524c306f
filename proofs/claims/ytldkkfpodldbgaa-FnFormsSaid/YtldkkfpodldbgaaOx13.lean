-- Written by a program of this session (wip/mkprint.py over the kit's print), out of the translation. Not trusted: Lean checks it.
import Derived.Test.YtldkkfpodldbgaaOx0
import Derived.Test.YtldkkfpodldbgaaOx1
namespace Go.Proofs.Ytldkkfpodldbgaa.P
open Go.RowKit Go.Proofs.YtldkkfpodldbgaaW.PrintWords Go.Proofs.YtldkkfpodldbgaaW.PrintLast Go.Proofs.YtldkkfpodldbgaaW.PrintMore
attribute [local go_sem] max2_int min2_int max_two min_two max_three min_three max_four min_four   -- for this text's walks alone
set_option linter.unusedVariables false
set_option linter.unusedSimpArgs false

/-! ### spec_foTimes: function 77 -/
mutual
def spec_foTimes.l0 : Nat → Int → Int → List (List Int) → List (List Int) → List (List Int) → Option ((List (List Int)))
 | 0, _, _, _, _, _ => none
 | k + 1, x15, x16, x477000, x478000, x483000 => if x16 < x15 then (spec_foTimes.l1 k x16 x15 x16 (x477000.length : Int) 0 x477000 x478000 x483000) else (some x483000)
def spec_foTimes.l1 : Nat → Int → Int → Int → Int → Int → List (List Int) → List (List Int) → List (List Int) → Option ((List (List Int)))
 | 0, _, _, _, _, _, _, _, _ => none
 | k + 1, x6, x15, x16, x21, x22, x477000, x478000, x483000 => if x22 < x21 then (spec_foTimes.l2 k x6 x22 x15 x16 x21 x22 (x477000.length : Int) 0 x477000 x478000 x483000) else (spec_foTimes.l0 k x15 (wrap64 (x16 + 1)) x477000 x478000 x483000)
def spec_foTimes.l2 : Nat → Int → Int → Int → Int → Int → Int → Int → Int → List (List Int) → List (List Int) → List (List Int) → Option ((List (List Int)))
 | 0, _, _, _, _, _, _, _, _, _, _, _ => none
 | k + 1, x6, x7, x15, x16, x21, x22, x27, x28, x477000, x478000, x483000 => if x28 < x27 then (if 0 ≤ x6 then (if x6 < (x483000.length : Int) then (if 0 ≤ x7 then (if x7 < ((rd_L2 x483000 x6).length : Int) then (if x6 < (x477000.length : Int) then (if 0 ≤ x28 then (if x28 < ((rd_L2 x477000 x6).length : Int) then (if x28 < (x478000.length : Int) then (if x7 < ((rd_L2 x478000 x28).length : Int) then (spec_foTimes.l2 k x6 x7 x15 x16 x21 x22 x27 (wrap64 (x28 + 1)) x477000 x478000 (x483000.set (x6 : Int).toNat ((rd_L2 x483000 x6).set (x7 : Int).toNat (wrap64 ((rd (rd_L2 x483000 x6) x7) + (wrap64 ((rd (rd_L2 x477000 x6) x28) * (rd (rd_L2 x478000 x28) x7)))))))) else (none)) else (none)) else (none)) else (none)) else (none)) else (none)) else (none)) else (none)) else (none)) else (spec_foTimes.l1 k x6 x15 x16 x21 (wrap64 (x22 + 1)) x477000 x478000 x483000)
end
def spec_foTimes.f (k : Nat) (l0_0 : List (List Int)) (l1_0 : List (List Int)) : Option ((List (List Int))) := (spec_foZero.f k (l0_0.length : Int)).bind fun t479 => (spec_foTimes.l0 k (l0_0.length : Int) 0 l0_0 l1_0 t479)
theorem spec_foTimes.mono_l : ∀ k, (∀ y0 y1 y2 y3 y4, LeO (spec_foTimes.l0 k y0 y1 y2 y3 y4) (spec_foTimes.l0 (k + 1) y0 y1 y2 y3 y4)) ∧ (∀ y0 y1 y2 y3 y4 y5 y6 y7, LeO (spec_foTimes.l1 k y0 y1 y2 y3 y4 y5 y6 y7) (spec_foTimes.l1 (k + 1) y0 y1 y2 y3 y4 y5 y6 y7)) ∧ (∀ y0 y1 y2 y3 y4 y5 y6 y7 y8 y9 y10, LeO (spec_foTimes.l2 k y0 y1 y2 y3 y4 y5 y6 y7 y8 y9 y10) (spec_foTimes.l2 (k + 1) y0 y1 y2 y3 y4 y5 y6 y7 y8 y9 y10))
 | 0 => ⟨fun _ _ _ _ _ r h => by simp [spec_foTimes.l0] at h, fun _ _ _ _ _ _ _ _ r h => by simp [spec_foTimes.l1] at h, fun _ _ _ _ _ _ _ _ _ _ _ r h => by simp [spec_foTimes.l2] at h⟩
 | k + 1 => by
  obtain ⟨ih0, ih1, ih2⟩ := spec_foTimes.mono_l k
  refine ⟨?_, ?_, ?_⟩
  ·
   intro y0 y1 y2 y3 y4
   unfold spec_foTimes.l0
   repeat' first
   | (with_reducible exact ih0 _ _ _ _ _)
   | (with_reducible exact ih1 _ _ _ _ _ _ _ _)
   | (with_reducible exact ih2 _ _ _ _ _ _ _ _ _ _ _)
   | (with_reducible exact spec_foZero.mono _ _)
   | (with_reducible exact LeO.refl _)
   | (with_reducible exact LeO.none _)
   | (with_reducible refine LeO.ite ?_ ?_)
   | (with_reducible refine LeO.bind ?_ (fun _ => ?_))
   | exact ih0 _ _ _ _ _
   | exact ih1 _ _ _ _ _ _ _ _
   | exact ih2 _ _ _ _ _ _ _ _ _ _ _
   | exact spec_foZero.mono _ _
   | exact LeO.none _
   | refine LeO.ite ?_ ?_
   | refine LeO.bind ?_ (fun _ => ?_)
  ·
   intro y0 y1 y2 y3 y4 y5 y6 y7
   unfold spec_foTimes.l1
   repeat' first
   | (with_reducible exact ih0 _ _ _ _ _)
   | (with_reducible exact ih1 _ _ _ _ _ _ _ _)
   | (with_reducible exact ih2 _ _ _ _ _ _ _ _ _ _ _)
   | (with_reducible exact spec_foZero.mono _ _)
   | (with_reducible exact LeO.refl _)
   | (with_reducible exact LeO.none _)
   | (with_reducible refine LeO.ite ?_ ?_)
   | (with_reducible refine LeO.bind ?_ (fun _ => ?_))
   | exact ih0 _ _ _ _ _
   | exact ih1 _ _ _ _ _ _ _ _
   | exact ih2 _ _ _ _ _ _ _ _ _ _ _
   | exact spec_foZero.mono _ _
   | exact LeO.none _
   | refine LeO.ite ?_ ?_
   | refine LeO.bind ?_ (fun _ => ?_)
  ·
   intro y0 y1 y2 y3 y4 y5 y6 y7 y8 y9 y10
   unfold spec_foTimes.l2
   repeat' first
   | (with_reducible exact ih0 _ _ _ _ _)
   | (with_reducible exact ih1 _ _ _ _ _ _ _ _)
   | (with_reducible exact ih2 _ _ _ _ _ _ _ _ _ _ _)
   | (with_reducible exact spec_foZero.mono _ _)
   | (with_reducible exact LeO.refl _)
   | (with_reducible exact LeO.none _)
   | (with_reducible refine LeO.ite ?_ ?_)
   | (with_reducible refine LeO.bind ?_ (fun _ => ?_))
   | exact ih0 _ _ _ _ _
   | exact ih1 _ _ _ _ _ _ _ _
   | exact ih2 _ _ _ _ _ _ _ _ _ _ _
   | exact spec_foZero.mono _ _
   | exact LeO.none _
   | refine LeO.ite ?_ ?_
   | refine LeO.bind ?_ (fun _ => ?_)
theorem spec_foTimes.mono : ∀ a0 a1 k, LeO (spec_foTimes.f k a0 a1) (spec_foTimes.f (k + 1) a0 a1) := by
 intro a0 a1 k
 obtain ⟨ih0, ih1, ih2⟩ := spec_foTimes.mono_l k
 unfold spec_foTimes.f
 repeat' first
  | (with_reducible exact ih0 _ _ _ _ _)
  | (with_reducible exact ih1 _ _ _ _ _ _ _ _)
  | (with_reducible exact ih2 _ _ _ _ _ _ _ _ _ _ _)
  | (with_reducible exact spec_foZero.mono _ _)
  | (with_reducible exact LeO.refl _)
  | (with_reducible exact LeO.none _)
  | (with_reducible refine LeO.ite ?_ ?_)
  | (with_reducible refine LeO.bind ?_ (fun _ => ?_))
  | exact ih0 _ _ _ _ _
  | exact ih1 _ _ _ _ _ _ _ _
  | exact ih2 _ _ _ _ _ _ _ _ _ _ _
  | exact spec_foZero.mono _ _
  | exact LeO.none _
  | refine LeO.ite ?_ ?_
  | refine LeO.bind ?_ (fun _ => ?_)
def spec_foTimes.T11 : Bool × List (List Nat × List Nat) := (true, [([], []), ([0], [0]), ([], []), ([1, 2], [1, 2]), ([3], [3]), ([], []), ([4, 5], [4, 5]), ([6], [6]), ([], []), ([8], [8]), ([], []), ([9, 10], [9, 10]), ([11], [11]), ([], []), ([12, 13], [12, 13]), ([14], [14]), ([], []), ([16], [16]), ([], []), ([17, 18], [17, 18]), ([19], [19]), ([], []), ([20, 21], [20, 21]), ([22], [22]), ([15, 23], [15, 23]), ([7, 24], [7, 24]), ([4, 5, 0, 1, 2, 3, 4, 5, 6, 7, 8, 9, 10, 11, 12, 13, 14, 15, 16, 17, 18, 19, 20, 21, 22, 23, 24, 25], [4, 5]), ([26, 25, 0, 1, 2, 3, 4, 5, 6, 7, 8, 9, 10, 11, 12, 13, 14, 15, 16, 17, 18, 19, 20, 21, 22, 23, 24, 25], [25, 26])])
def spec_foTimes.B11 : List Nat := [0, 1, 0, 7, 15, 0, 63, 127, 0, 256, 0, 1792, 3840, 0, 16128, 32512, 0, 65536, 0, 458752, 983040, 0, 4128768, 8323072, 16776960, 33554431, 67108863, 134217727]
theorem spec_foTimes.tab11 : rtab .any (opsOf Try.f77 11) = spec_foTimes.T11 := by kernel_rfl
theorem spec_foTimes.bits11 : waitsOk spec_foTimes.T11.2 spec_foTimes.B11 = true := by kernel_rfl
set_option maxHeartbeats 8000000 in
set_option maxRecDepth 100000 in
theorem spec_foTimes.calls (k : Nat) (A0_0 : Option Addr) (c0_0 : Nat) (l0_0 : List (List Int)) (A1_0 : Option Addr) (c1_0 : Nat) (l1_0 : List (List Int)) (r : List (List Int)) (w : World) (hr0_0 : Kd.C (Kd.slice 3 (Kd.int .i64)) w A0_0 l0_0.length l0_0) (hc0_0 : l0_0.length ≤ c0_0) (hr1_0 : Kd.C (Kd.slice 3 (Kd.int .i64)) w A1_0 l1_0.length l1_0) (hc1_0 : l1_0.length ≤ c1_0) (h : spec_foTimes.f k l0_0 l1_0 = some r) :
 Calls Try.prog 77 #[.agg #[.slice A0_0 l0_0.length c0_0], .agg #[.slice A1_0 l1_0.length c1_0]] w fun e w' => ∃ v0_ : Value, e = .returned (.agg #[v0_]) ∧ Kd.S (Kd.slice 3 (Kd.int .i64)) 34 w' w.heap.size (fun _ => True) v0_ r ∧ Below w.heap.size w w' := by
 have hu26 := Try.underlying26
 have HR0_0 := Aside0.mk hr0_0
 have HC0_0 := Aside0.mk hc0_0
 clear hr0_0 hc0_0
 have HR1_0 := Aside0.mk hr1_0
 have HC1_0 := Aside0.mk hc1_0
 clear hr1_0 hc1_0
 have HB := Aside0.mk (Below.refl w.heap.size w)
 have H : ((spec_foZero.f k (l0_0.length : Int)).bind fun t479 => (spec_foTimes.l0 k (l0_0.length : Int) 0 l0_0 l1_0 t479)) = some r := h
 clear h
 replace H := Option.bind_eq_some_iff.mp H
 obtain ⟨t479, A30, H⟩ := H
 replace H : (spec_foTimes.l0 k (l0_0.length : Int) 0 l0_0 l1_0 t479) = some r := H
 have A3 := Aside0.mk A30
 clear A30
 have H' := Aside0.mk H
 clear H
 go_enter Try.func77, Try.ntmps77
 go_wp2_with (first | ((with_reducible refine gate_dst (N := 2) rfl ?_); refine box_event ?hg (N := 2) ?hd (cs := #[.slice A0_0 l0_0.length c0_0]) (t := 26) ?hr ?_; (case hd => rfl); (case hg => rfl); (case hr => exact z116_); intro gb476 hg w4 hbox hb; have n0_ := Aside0.mk (below_step bq hb); have n1_ := Aside0.mk (hbox); have n2_ := Aside0.mk ((by rw [hg]; exact (below_size bq) : w.heap.size ≤ gb476)); have n3_ := Aside0.mk ((by rw [hg]; exact (below_size bq) : w.heap.size ≤ gb476)); clear HB; have HB := n0_; have BK476 := n1_; have GW476 := n2_; have GE476 := n3_; clear n0_ n1_ n2_ n3_; clear hb hbox hg) | ((with_reducible refine gate_dst (N := 3) rfl ?_); refine box_event ?hg (N := 3) ?hd (cs := #[.slice A1_0 l1_0.length c1_0]) (t := 26) ?hr ?_; (case hd => rfl); (case hg => rfl); (case hr => exact z116_); intro gb477 hg w5 hbox hb; have n0_ := Aside0.mk (kK BK476 hb); have n1_ := Aside0.mk (below_step (kB HB) hb); have n2_ := Aside0.mk (hbox); have n3_ := Aside0.mk ((by rw [hg]; exact (below_size (kB HB)) : w.heap.size ≤ gb477)); have n4_ := Aside0.mk ((by rw [hg]; exact (below_size (kB HB)) : w.heap.size ≤ gb477)); have n5_ := Aside0.mk ((by rw [hg]; exact Nat.ne_of_lt (blk_lt (g := gb476) (o := .cells #[.slice A0_0 l0_0.length c0_0] 26 (0, 0)) (bA BK476)) : gb476 ≠ gb477)); have n6_ := Aside0.mk ((by rw [hg]; exact Nat.ne_of_gt (blk_lt (g := gb476) (o := .cells #[.slice A0_0 l0_0.length c0_0] 26 (0, 0)) (bA BK476)) : gb477 ≠ gb476)); clear BK476; clear HB; have BK476 := n0_; have HB := n1_; have BK477 := n2_; have GW477 := n3_; have GE477 := n4_; have NB476_477 := n5_; have NB477_476 := n6_; clear n0_ n1_ n2_ n3_ n4_ n5_ n6_; clear hb hbox hg) | ((with_reducible refine gate_dst (N := 4) rfl ?_); refine box_event ?hg (N := 4) ?hd (cs := #[.slice none 0 0]) (t := 26) ?hr ?_; (case hd => rfl); (case hg => rfl); (case hr => exact z116_); intro gb478 hg w6 hbox hb; have n0_ := Aside0.mk (kK BK476 hb); have n1_ := Aside0.mk (kK BK477 hb); have n2_ := Aside0.mk (below_step (kB HB) hb); have n3_ := Aside0.mk (hbox); have n4_ := Aside0.mk ((by rw [hg]; exact (below_size (kB HB)) : w.heap.size ≤ gb478)); have n5_ := Aside0.mk ((by rw [hg]; exact (below_size (kB HB)) : w.heap.size ≤ gb478)); have n6_ := Aside0.mk ((by rw [hg]; exact Nat.ne_of_lt (blk_lt (g := gb476) (o := .cells #[.slice A0_0 l0_0.length c0_0] 26 (0, 0)) (bA BK476)) : gb476 ≠ gb478)); have n7_ := Aside0.mk ((by rw [hg]; exact Nat.ne_of_gt (blk_lt (g := gb476) (o := .cells #[.slice A0_0 l0_0.length c0_0] 26 (0, 0)) (bA BK476)) : gb478 ≠ gb476)); have n8_ := Aside0.mk ((by rw [hg]; exact Nat.ne_of_lt (blk_lt (g := gb477) (o := .cells #[.slice A1_0 l1_0.length c1_0] 26 (0, 0)) (bA BK477)) : gb477 ≠ gb478)); have n9_ := Aside0.mk ((by rw [hg]; exact Nat.ne_of_gt (blk_lt (g := gb477) (o := .cells #[.slice A1_0 l1_0.length c1_0] 26 (0, 0)) (bA BK477)) : gb478 ≠ gb477)); clear BK476; clear BK477; clear HB; have BK476 := n0_; have BK477 := n1_; have HB := n2_; have BK478 := n3_; have GW478 := n4_; have GE478 := n5_; have NB476_478 := n6_; have NB478_476 := n7_; have NB477_478 := n8_; have NB478_477 := n9_; clear n0_ n1_ n2_ n3_ n4_ n5_ n6_ n7_ n8_ n9_; clear hb hbox hg; have hnb7 := NB476_477.out; have hnc7 := NB477_476.out; have hnb8 := NB476_478.out; have hnc8 := NB478_476.out; have hcz9_0 : w6.cell? ⟨gb476, 0, none⟩ = some (.slice A0_0 l0_0.length c0_0) := (blk_cell BK476.out 0).trans rfl; have hfz9_0 := blk_frozen BK476.out 0) | ((with_reducible refine gate_callee (f := 59) rfl ?_); refine gL (some 12) rfl rfl Try.func59 (by kernel_rfl) rfl #[.int .i64 (l0_0.length : Int)] rfl ?_; (with_reducible refine (spec_foZero.calls k (l0_0.length : Int) t479 _ A3.out).mono ?_); rintro e w10 ⟨v480, rfl, ho0, hb⟩; refine ⟨_, rfl, ?_⟩; have n0_ := Aside0.mk (Kd.S_lower ho0 (below_size (kB HB))); have n1_ := Aside0.mk (kK BK476 hb); have n2_ := Aside0.mk (kK BK477 hb); have n3_ := Aside0.mk (kK BK478 hb); have n4_ := Aside0.mk (below_step (kB HB) hb); clear BK476; clear BK477; clear BK478; clear HB; have HO481 := n0_; have BK476 := n1_; have BK477 := n2_; have BK478 := n3_; have HB := n4_; clear n0_ n1_ n2_ n3_ n4_; (try clear hb); (try clear hb2); (try clear hk); (try clear hi); (try clear ho0)) | ((with_reducible refine gate_dst (N := 5) rfl ?_); refine box_event ?hg (N := 5) ?hd (cs := #[.slice none 0 0]) (t := 26) ?hr ?_; (case hd => rfl); (case hg => rfl); (case hr => exact z116_); intro gb482 hg w11 hbox hb; have n0_ := Aside0.mk (Kd.S_below (by (with_reducible repeat (first | apply Kd.S_alloc | apply Kd.S_drewN | apply Kd.S_drew)); exact HO481.out) hb); have n1_ := Aside0.mk (kK BK476 hb); have n2_ := Aside0.mk (kK BK477 hb); have n3_ := Aside0.mk (kK BK478 hb); have n4_ := Aside0.mk (below_step (kB HB) hb); have n5_ := Aside0.mk (hbox); have n6_ := Aside0.mk ((by rw [hg]; exact (below_size (kB HB)) : w.heap.size ≤ gb482)); have n7_ := Aside0.mk ((by rw [hg]; exact (below_size (kB HB)) : w.heap.size ≤ gb482)); have n8_ := Aside0.mk ((by rw [hg]; exact Nat.ne_of_lt (blk_lt (g := gb476) (o := .cells #[.slice A0_0 l0_0.length c0_0] 26 (0, 0)) (bA BK476)) : gb476 ≠ gb482)); have n9_ := Aside0.mk ((by rw [hg]; exact Nat.ne_of_gt (blk_lt (g := gb476) (o := .cells #[.slice A0_0 l0_0.length c0_0] 26 (0, 0)) (bA BK476)) : gb482 ≠ gb476)); have n10_ := Aside0.mk ((by rw [hg]; exact Nat.ne_of_lt (blk_lt (g := gb477) (o := .cells #[.slice A1_0 l1_0.length c1_0] 26 (0, 0)) (bA BK477)) : gb477 ≠ gb482)); have n11_ := Aside0.mk ((by rw [hg]; exact Nat.ne_of_gt (blk_lt (g := gb477) (o := .cells #[.slice A1_0 l1_0.length c1_0] 26 (0, 0)) (bA BK477)) : gb482 ≠ gb477)); have n12_ := Aside0.mk ((by rw [hg]; exact Nat.ne_of_lt (blk_lt (g := gb478) (o := .cells #[.slice none 0 0] 26 (0, 0)) (bA BK478)) : gb478 ≠ gb482)); have n13_ := Aside0.mk ((by rw [hg]; exact Nat.ne_of_gt (blk_lt (g := gb478) (o := .cells #[.slice none 0 0] 26 (0, 0)) (bA BK478)) : gb482 ≠ gb478)); clear HO481; clear BK476; clear BK477; clear BK478; clear HB; have HO481 := n0_; have BK476 := n1_; have BK477 := n2_; have BK478 := n3_; have HB := n4_; have BK482 := n5_; have GW482 := n6_; have GE482 := n7_; have NB476_482 := n8_; have NB482_476 := n9_; have NB477_482 := n10_; have NB482_477 := n11_; have NB478_482 := n12_; have NB482_478 := n13_; clear n0_ n1_ n2_ n3_ n4_ n5_ n6_ n7_ n8_ n9_ n10_ n11_ n12_ n13_; clear hb hbox hg; obtain ⟨Ao12, co12, eo12⟩ := Kd.S_slice HO481.out; subst eo12; have hnb13 := NB482_476.out; have hnc13 := NB476_482.out; have hnb14 := NB482_477.out; have hnc14 := NB477_482.out; have hnb15 := NB482_478.out; have hnc15 := NB478_482.out; have hcz16_0 : w11.cell? ⟨gb482, 0, none⟩ = some (.slice none 0 0) := (blk_cell BK482.out 0).trans rfl; have hfz16_0 := blk_frozen BK482.out 0; have hcz17_0 : w11.cell? ⟨gb476, 0, none⟩ = some (.slice A0_0 l0_0.length c0_0) := (blk_cell BK476.out 0).trans rfl; have hfz17_0 := blk_frozen BK476.out 0))
 go_loopg [16] k (fun kq v16 w' => ∃ (x16_1 : Int) (x483000_1 : List (List Int)) (u483000 : Value), v16 = .int .i64 x16_1 ∧ Aside0 (spec_foTimes.l0 kq (l0_0.length : Int) x16_1 l0_0 l1_0 x483000_1 = some r) ∧ Aside0 (kq ≤ k) ∧ Aside0 (Kd.S (Kd.slice 3 (Kd.int .i64)) 34 w' w.heap.size (fun _ => True) u483000 x483000_1) ∧ Aside0 (w'.heap[gb476]? = some (.cells #[(.slice A0_0 l0_0.length c0_0)] 26 (0, 0))) ∧ Aside0 (w'.heap[gb477]? = some (.cells #[(.slice A1_0 l1_0.length c1_0)] 26 (0, 0))) ∧ Aside0 (w'.heap[gb478]? = some (.cells #[(.slice none 0 0)] 26 (0, 0))) ∧ Aside0 (w'.heap[gb482]? = some (.cells #[u483000] 26 (0, 0))) ∧ Aside0 (Below w.heap.size w w'))
 case atStart => exact ⟨(0), (t479), (.slice Ao12 t479.length co12), e2, H', ⟨Nat.le_refl _⟩, ⟨by (with_reducible repeat (first | apply Kd.S_alloc | apply Kd.S_drewN | apply Kd.S_drew)); exact Kd.S_mono (Kd.S_far (p := ⟨gb482, 0, none⟩) (Kd.S_types HO481.out BK482.out (by decide)) (fun _ hk => hk.2) (.slice Ao12 t479.length co12)) (fun _ hk => trivial)⟩, ⟨by (with_reducible repeat (first | refine blk_drewN ?_ _ | refine blk_drew ?_ | refine blk_alloc ?_ _)); refine blk_far ?_ NB476_482.out _; (with_reducible repeat (first | refine blk_drewN ?_ _ | refine blk_drew ?_ | refine blk_alloc ?_ _)); exact BK476.out⟩, ⟨by (with_reducible repeat (first | refine blk_drewN ?_ _ | refine blk_drew ?_ | refine blk_alloc ?_ _)); refine blk_far ?_ NB477_482.out _; (with_reducible repeat (first | refine blk_drewN ?_ _ | refine blk_drew ?_ | refine blk_alloc ?_ _)); exact BK477.out⟩, ⟨by (with_reducible repeat (first | refine blk_drewN ?_ _ | refine blk_drew ?_ | refine blk_alloc ?_ _)); refine blk_far ?_ NB478_482.out _; (with_reducible repeat (first | refine blk_drewN ?_ _ | refine blk_drew ?_ | refine blk_alloc ?_ _)); exact BK478.out⟩, ⟨by (with_reducible repeat (first | refine blk_drewN ?_ _ | refine blk_drew ?_ | refine blk_alloc ?_ _)); refine blk_put (cs := #[.slice none 0 0]) ?_ 0 _ rfl; (with_reducible repeat (first | refine blk_drewN ?_ _ | refine blk_drew ?_ | refine blk_alloc ?_ _)); exact BK482.out⟩, ⟨kB HB⟩⟩
 case round =>
  clear H'; (try clear c1); (try clear p2); (try clear c5); (try clear c7); (try clear c8); (try clear c13); (try clear c14); (try clear c15); (try clear hcz16_0); (try clear hcz17_0); (try clear hcz9_0); (try clear hfz16_0); (try clear hfz17_0); (try clear hfz9_0)
  obtain ⟨x16_1, x483000_1, u483000, rfl, HA, HK1, HO_483000, BK476, BK477, BK478, BK482, HB⟩ := hrel
  cases gk with
  | zero => exact absurd HA.out (by simp [spec_foTimes.l0])
  | succ k1 =>
   have H := HA.out
   clear HA
   simp only [spec_foTimes.l0] at H
   by_cases c18 : x16_1 < (l0_0.length : Int)
   ·
    rw [if_pos c18] at H
    have c18b0 : decide (x16_1 < (l0_0.length : Int)) = true := decide_eq_true c18
    clear c18
    have H' := Aside0.mk H
    clear H
    have hnb19 := NB476_477.out
    have hnc19 := NB477_476.out
    have hnb20 := NB476_478.out
    have hnc20 := NB478_476.out
    have hnb21 := NB476_482.out
    have hnc21 := NB482_476.out
    have hcz22_0 : wr.cell? ⟨gb476, 0, none⟩ = some (.slice A0_0 l0_0.length c0_0) := (blk_cell BK476.out 0).trans rfl
    have hfz22_0 := blk_frozen BK476.out 0
    go_wp2
    go_loopg [22] k1 (fun kq v22 w' => ∃ (x22_2 : Int) (x483000_2 : List (List Int)) (u483000 : Value), v22 = .int .i64 x22_2 ∧ Aside0 (spec_foTimes.l1 kq x16_1 (l0_0.length : Int) x16_1 (l0_0.length : Int) x22_2 l0_0 l1_0 x483000_2 = some r) ∧ Aside0 (kq ≤ k1) ∧ Aside0 (Kd.S (Kd.slice 3 (Kd.int .i64)) 34 w' w.heap.size (fun _ => True) u483000 x483000_2) ∧ Aside0 (w'.heap[gb476]? = some (.cells #[(.slice A0_0 l0_0.length c0_0)] 26 (0, 0))) ∧ Aside0 (w'.heap[gb477]? = some (.cells #[(.slice A1_0 l1_0.length c1_0)] 26 (0, 0))) ∧ Aside0 (w'.heap[gb478]? = some (.cells #[(.slice none 0 0)] 26 (0, 0))) ∧ Aside0 (w'.heap[gb482]? = some (.cells #[u483000] 26 (0, 0))) ∧ Aside0 (Below w.heap.size w w'))
    case atStart => exact ⟨(0), (x483000_1), (u483000), e2, H', ⟨Nat.le_refl _⟩, ⟨z95_⟩, ⟨z84_⟩, ⟨z64_⟩, ⟨z75_⟩, ⟨z69_⟩, ⟨kB HB⟩⟩
    case round =>
     clear H'; (try clear c1); (try clear c2); (try clear p2); (try clear c5); (try clear c7); (try clear c8); (try clear c13); (try clear c14); (try clear c15); (try clear c18); (try clear c18b0); (try clear c19); (try clear c20); (try clear c21); (try clear hcz16_0); (try clear hcz17_0); (try clear hcz22_0); (try clear hcz9_0); (try clear hfz16_0); (try clear hfz17_0); (try clear hfz22_0); (try clear hfz9_0); (try clear p2)
     obtain ⟨x22_2, x483000_2, u483000, rfl, HA, HK2, HO_483000, BK476, BK477, BK478, BK482, HB⟩ := hrel
     cases gk with
     | zero => exact absurd HA.out (by simp [spec_foTimes.l1])
     | succ k2 =>
      have H := HA.out
      clear HA
      simp only [spec_foTimes.l1] at H
      by_cases c23 : x22_2 < (l0_0.length : Int)
      ·
       rw [if_pos c23] at H
       have c23b0 : decide (x22_2 < (l0_0.length : Int)) = true := decide_eq_true c23
       clear c23
       have H' := Aside0.mk H
       clear H
       have hnb24 := NB476_477.out
       have hnc24 := NB477_476.out
       have hnb25 := NB476_478.out
       have hnc25 := NB478_476.out
       have hnb26 := NB476_482.out
       have hnc26 := NB482_476.out
       have hcz27_0 : wr.cell? ⟨gb476, 0, none⟩ = some (.slice A0_0 l0_0.length c0_0) := (blk_cell BK476.out 0).trans rfl
       have hfz27_0 := blk_frozen BK476.out 0
       go_wp2
       go_loopg [28] k2 (fun kq v28 w' => ∃ (x28_3 : Int) (x483000_3 : List (List Int)) (u483000 : Value), v28 = .int .i64 x28_3 ∧ Aside0 (spec_foTimes.l2 kq x16_1 x22_2 (l0_0.length : Int) x16_1 (l0_0.length : Int) x22_2 (l0_0.length : Int) x28_3 l0_0 l1_0 x483000_3 = some r) ∧ Aside0 (kq ≤ k2) ∧ Aside0 (Kd.S (Kd.slice 3 (Kd.int .i64)) 34 w' w.heap.size (fun _ => True) u483000 x483000_3) ∧ Aside0 (w'.heap[gb476]? = some (.cells #[(.slice A0_0 l0_0.length c0_0)] 26 (0, 0))) ∧ Aside0 (w'.heap[gb477]? = some (.cells #[(.slice A1_0 l1_0.length c1_0)] 26 (0, 0))) ∧ Aside0 (w'.heap[gb478]? = some (.cells #[(.slice none 0 0)] 26 (0, 0))) ∧ Aside0 (w'.heap[gb482]? = some (.cells #[u483000] 26 (0, 0))) ∧ Aside0 (Below w.heap.size w w'))
       case atStart => exact ⟨(0), (x483000_2), (u483000), e2, H', ⟨Nat.le_refl _⟩, ⟨z95_⟩, ⟨z84_⟩, ⟨z64_⟩, ⟨z75_⟩, ⟨z69_⟩, ⟨kB HB⟩⟩
       case round =>
        clear H'; (try clear c1); (try clear c2); (try clear p2); (try clear c5); (try clear c7); (try clear c8); (try clear c13); (try clear c14); (try clear c15); (try clear c18); (try clear c18b0); (try clear c19); (try clear c20); (try clear c21); (try clear c23); (try clear c23b0); (try clear c24); (try clear c25); (try clear c26); (try clear hcz16_0); (try clear hcz17_0); (try clear hcz22_0); (try clear hcz27_0); (try clear hcz9_0); (try clear hfz16_0); (try clear hfz17_0); (try clear hfz22_0); (try clear hfz27_0); (try clear hfz9_0); (try clear p2)
        obtain ⟨x28_3, x483000_3, u483000, rfl, HA, HK3, HO_483000, BK476, BK477, BK478, BK482, HB⟩ := hrel
        cases gk with
        | zero => exact absurd HA.out (by simp [spec_foTimes.l2])
        | succ k3 =>
         have H := HA.out
         clear HA
         simp only [spec_foTimes.l2] at H
         by_cases c28 : x28_3 < (l0_0.length : Int)
         ·
          rw [if_pos c28] at H
          have c28b0 : decide (x28_3 < (l0_0.length : Int)) = true := decide_eq_true c28
          clear c28
          by_cases c29 : 0 ≤ x16_1
          ·
           rw [if_pos c29] at H
           have c29b0 : decide (0 ≤ x16_1) = true := decide_eq_true c29
           clear c29
           by_cases c30 : x16_1 < (x483000_3.length : Int)
           ·
            rw [if_pos c30] at H
            have c30b0 : decide (x16_1 < (x483000_3.length : Int)) = true := decide_eq_true c30
            clear c30
            by_cases c31 : 0 ≤ x22_2
            ·
             rw [if_pos c31] at H
             have c31b0 : decide (0 ≤ x22_2) = true := decide_eq_true c31
             clear c31
             by_cases c32 : x22_2 < ((rd_L2 x483000_3 x16_1).length : Int)
             ·
              rw [if_pos c32] at H
              have c32b0 : decide (x22_2 < ((rd_L2 x483000_3 x16_1).length : Int)) = true := decide_eq_true c32
              clear c32
              by_cases c33 : x16_1 < (l0_0.length : Int)
              ·
               rw [if_pos c33] at H
               have c33b0 : decide (x16_1 < (l0_0.length : Int)) = true := decide_eq_true c33
               clear c33
               by_cases c34 : 0 ≤ x28_3
               ·
                rw [if_pos c34] at H
                have c34b0 : decide (0 ≤ x28_3) = true := decide_eq_true c34
                clear c34
                by_cases c35 : x28_3 < ((rd_L2 l0_0 x16_1).length : Int)
                ·
                 rw [if_pos c35] at H
                 have c35b0 : decide (x28_3 < ((rd_L2 l0_0 x16_1).length : Int)) = true := decide_eq_true c35
                 clear c35
                 by_cases c36 : x28_3 < (l1_0.length : Int)
                 ·
                  rw [if_pos c36] at H
                  have c36b0 : decide (x28_3 < (l1_0.length : Int)) = true := decide_eq_true c36
                  clear c36
                  by_cases c37 : x22_2 < ((rd_L2 l1_0 x28_3).length : Int)
                  ·
                   rw [if_pos c37] at H
                   have c37b0 : decide (x22_2 < ((rd_L2 l1_0 x28_3).length : Int)) = true := decide_eq_true c37
                   clear c37
                   obtain ⟨y489, hy489⟩ : ∃ y_ : List Int, y_ = ((rd_L2 x483000_3 x16_1).set (x22_2 : Int).toNat (wrap64 ((rd (rd_L2 x483000_3 x16_1) x22_2) + (wrap64 ((rd (rd_L2 l0_0 x16_1) x28_3) * (rd (rd_L2 l1_0 x28_3) x22_2)))))) := ⟨_, rfl⟩
                   replace H : (spec_foTimes.l2 k3 x16_1 x22_2 (l0_0.length : Int) x16_1 (l0_0.length : Int) x22_2 (l0_0.length : Int) (wrap64 (x28_3 + 1)) l0_0 l1_0 (x483000_3.set (x16_1 : Int).toNat y489)) = some r := by first | (rw [hy489]; with_reducible exact H) | (have H2_ := (Option.bind_some _ _).symm.trans H; rw [hy489]; with_reducible exact H2_) | (have H2_ := (Option.bind_some _ _).symm.trans H; with_reducible exact H2_) | with_reducible exact H | (rw [hy489]; exact H) | exact H
                   have Ny489 := Aside0.mk hy489
                   clear hy489
                   obtain ⟨y491, hy491⟩ : ∃ y_ : List (List Int), y_ = (x483000_3.set (x16_1 : Int).toNat y489) := ⟨_, rfl⟩
                   replace H : (spec_foTimes.l2 k3 x16_1 x22_2 (l0_0.length : Int) x16_1 (l0_0.length : Int) x22_2 (l0_0.length : Int) (wrap64 (x28_3 + 1)) l0_0 l1_0 y491) = some r := by first | (rw [hy491]; with_reducible exact H) | (have H2_ := (Option.bind_some _ _).symm.trans H; rw [hy491]; with_reducible exact H2_) | (have H2_ := (Option.bind_some _ _).symm.trans H; with_reducible exact H2_) | with_reducible exact H | (rw [hy491]; exact H) | exact H
                   have Ny491 := Aside0.mk hy491
                   clear hy491
                   have H' := Aside0.mk H
                   clear H
                   try go_wp2
                   have n0_ := Aside0.mk (Kd.S_drew HO_483000.out)
                   have n1_ := Aside0.mk (blk_drew BK476.out)
                   have n2_ := Aside0.mk (blk_drew BK477.out)
                   have n3_ := Aside0.mk (blk_drew BK478.out)
                   have n4_ := Aside0.mk (blk_drew BK482.out)
                   have n5_ := Aside0.mk (below_drew1 HB.out)
                   clear HO_483000; clear BK476; clear BK477; clear BK478; clear BK482; clear HB
                   have HO_483000 := n0_
                   have BK476 := n1_
                   have BK477 := n2_
                   have BK478 := n3_
                   have BK482 := n4_
                   have HB := n5_
                   clear n0_ n1_ n2_ n3_ n4_ n5_
                   obtain ⟨Ao40, co40, eo40⟩ := Kd.S_slice HO_483000.out
                   (first | subst eo40 | (injection eo40 with f1_ f2_ f3_; have f4_ := f1_.symm; have f5_ := f3_.symm; clear f1_ f2_ f3_; subst f4_; subst f5_))
                   have p483 : 0 ≤ (x16_1 : Int) := od
                   have q483 : x16_1 < (x483000_3.length : Int) := od
                   obtain ⟨ad483, A483_0, c483_0, e483, hx483_0, hl483_0, hi483_0⟩ := at_L2 (Kd.S_reads' HO_483000.out).2.2 x16_1 p483 q483
                   cases e483
                   obtain ⟨ce483, hce483, hMe483, hcc483⟩ := Kd.S_get HO_483000.out [] x16_1 p483 (by first | exact q483 | exact od | (have e_ := (Kd.S_reads' HO_483000.out).1; omega))
                   obtain ⟨ve483_0, rfl, ge483_0⟩ := hMe483
                   have hv483_0 := hcc483 0 _ rfl
                   rw [Nat.add_zero, show ((Kd.slice 3 (Kd.int .i64))).sz = 1 from rfl, Nat.mul_one] at hv483_0
                   replace hv483_0 := Option.some.inj (hv483_0.symm.trans hx483_0)
                   rw [hv483_0] at ge483_0
                   have HL483_0 := Aside0.mk (show Kd.R (Kd.int .i64) 3 _ _ _ _ (rd_L2 x483000_3 x16_1) from ge483_0)
                   clear hv483_0 ge483_0
                   have HX483_0 := Aside0.mk hx483_0
                   clear hcc483 hce483
                   have HR483_0 := Aside0.mk hi483_0
                   have HC483_0 := Aside0.mk hl483_0
                   clear hi483_0 hl483_0
                   replace p483 := eq_true p483
                   replace q483 := eq_true q483
                   have p484 : 0 ≤ (x22_2 : Int) := od
                   have q484 : x22_2 < ((rd_L2 x483000_3 x16_1).length : Int) := od
                   obtain ⟨ad484, e484, hx484_0⟩ := Kd.at_int (by repeat (first | (with_reducible exact HR483_0.out) | (with_reducible refine Kd.C_alloc ?_ _) | (with_reducible refine Kd.C_drewN ?_ _) | (with_reducible refine Kd.C_drew ?_) | exact HR483_0.out)) x22_2 p484 q484
                   cases e484
                   replace p484 := eq_true p484
                   replace q484 := eq_true q484
                   have p485 : 0 ≤ (x16_1 : Int) := od
                   have q485 : x16_1 < (l0_0.length : Int) := od
                   obtain ⟨ad485, A485_0, c485_0, e485, hx485_0, hl485_0, hi485_0⟩ := at_L2 HR0_0.out x16_1 p485 q485
                   have hw485_0 := hx485_0
                   cases e485
                   replace hx485_0 := (HB.out.cell (World.block_lt_of_cell? w _ hx485_0)).trans hx485_0
                   have HR485_0 := Aside0.mk hi485_0
                   have HC485_0 := Aside0.mk hl485_0
                   clear hi485_0 hl485_0
                   replace p485 := eq_true p485
                   replace q485 := eq_true q485
                   have p486 : 0 ≤ (x28_3 : Int) := od
                   have q486 : x28_3 < ((rd_L2 l0_0 x16_1).length : Int) := od
                   obtain ⟨ad486, e486, hx486_0⟩ := Kd.at_int HR485_0.out x28_3 p486 q486
                   have hw486_0 := hx486_0
                   cases e486
                   replace hx486_0 := (HB.out.cell (World.block_lt_of_cell? w _ hx486_0)).trans hx486_0
                   replace p486 := eq_true p486
                   replace q486 := eq_true q486
                   have p487 : 0 ≤ (x28_3 : Int) := od
                   have q487 : x28_3 < (l1_0.length : Int) := od
                   obtain ⟨ad487, A487_0, c487_0, e487, hx487_0, hl487_0, hi487_0⟩ := at_L2 HR1_0.out x28_3 p487 q487
                   have hw487_0 := hx487_0
                   cases e487
                   replace hx487_0 := (HB.out.cell (World.block_lt_of_cell? w _ hx487_0)).trans hx487_0
                   have HR487_0 := Aside0.mk hi487_0
                   have HC487_0 := Aside0.mk hl487_0
                   clear hi487_0 hl487_0
                   replace p487 := eq_true p487
                   replace q487 := eq_true q487
                   have p488 : 0 ≤ (x22_2 : Int) := od
                   have q488 : x22_2 < ((rd_L2 l1_0 x28_3).length : Int) := od
                   obtain ⟨ad488, e488, hx488_0⟩ := Kd.at_int HR487_0.out x22_2 p488 q488
                   have hw488_0 := hx488_0
                   cases e488
                   replace hx488_0 := (HB.out.cell (World.block_lt_of_cell? w _ hx488_0)).trans hx488_0
                   replace p488 := eq_true p488
                   replace q488 := eq_true q488
                   have p38 : 0 ≤ (x22_2 : Int) := od
                   have q38 : (x22_2 : Int) < (((rd_L2 x483000_3 x16_1).length : Int) : Int) := od
                   obtain ⟨go38, co38, eo38, gb38, gl38, cl38, HG38⟩ := Kd.R_form HL483_0.out (by omega)
                   (first | cases eo38 | (injection eo38 with ea_ en_ ec_; (first | subst ea_ | (injection ea_ with ea_; subst ea_)); subst ec_; clear en_))
                   have GB38 := Aside0.mk gb38
                   have GG38 := Aside0.mk HG38
                   clear gb38 gl38 HG38
                   (first | simp only [add_plain] at hx484_0 | skip)
                   obtain ⟨hx38_0, hf38_0⟩ := Kd.R_celln 0 HL483_0.out (x22_2 : Int) p38 q38
                   replace p38 := eq_true p38
                   replace q38 := eq_true q38
                   have hq41 : (x16_1 : Int) < (x483000_3.length : Int) := (by have h_ : (x16_1 : Int) < ((x483000_3.length : Int) : Int) := od; first | exact h_ | (have e_ := (Kd.S_reads' HO_483000.out).1; omega) | simpa only [List.length_set, List.length_set] using h_)
                   obtain ⟨oki41, ce41, hcl41, hM41, hcc41, hok41, hbk41⟩ := Kd.S_borrow HO_483000.out [] (x16_1 : Int) (od) hq41
                   obtain ⟨ve41_0, rfl, ge41_0⟩ := hM41
                   have hv41 := hcc41 0 _ rfl
                   rw [Nat.add_zero, show ((Kd.slice 3 (Kd.int .i64))).sz = 1 from rfl, Nat.mul_one] at hv41
                   replace hv41 := Option.some.inj (hv41.symm.trans HX483_0.out)
                   subst hv41
                   clear hcc41 hcl41
                   replace ge41_0 := (show Kd.R (Kd.int .i64) 3 _ _ _ _ (rd_L2 x483000_3 x16_1) from ge41_0)
                   have HP41 := Kd.R_putg ge41_0 (x22_2 : Int) (wrap64 ((rd (rd_L2 x483000_3 x16_1) x22_2) + (wrap64 ((rd (rd_L2 l0_0 x16_1) x28_3) * (rd (rd_L2 l1_0 x28_3) x22_2)))))
                   rw [← Ny489.out] at HP41
                   have HS41 := hbk41 HP41.2 (fun k_ e_ => by injection e_ with e_; subst e_; exact ge41_0.1 _ rfl) (x' := y489) (Kd.M_row HP41.1)
                   rw [← Ny491.out] at HS41
                   have HQ41 := Aside0.mk HS41
                   clear HP41 HS41 hbk41 hok41
                   refine start_ (n := 28) (S := fun w' => w'.cell? ⟨gb482, 0, none⟩ = some (.slice (some ad483) x483000_3.length co40) ∧ w'.cell? ⟨gb476, 0, none⟩ = some (.slice (some ad485) l0_0.length c0_0) ∧ w'.cell? ⟨gb477, 0, none⟩ = some (.slice (some ad487) l1_0.length c1_0) ∧ w'.cell? (ad483.add (x16_1).toNat) = some (.slice (some ⟨go38, 0, none⟩) (rd_L2 x483000_3 x16_1).length c483_0) ∧ w'.cell? ⟨go38, (x22_2).toNat, none⟩ = some (.int .i64 (rd (rd_L2 x483000_3 x16_1) x22_2)) ∧ w'.cell? (ad485.add (x16_1).toNat) = some (.slice (some ad486) (rd_L2 l0_0 x16_1).length c485_0) ∧ w'.cell? (ad486.add (x28_3).toNat) = some (.int .i64 (rd (rd_L2 l0_0 x16_1) x28_3)) ∧ w'.cell? (ad487.add (x28_3).toNat) = some (.slice (some ad488) (rd_L2 l1_0 x28_3).length c487_0) ∧ w'.cell? (ad488.add (x22_2).toNat) = some (.int .i64 (rd (rd_L2 l1_0 x28_3) x22_2))) (ds := [27]) #[O,O,O,O,O,O,O,O,O,O,O,O,O,O,O,O,O,O,O,O,O,O,O,O,O,O,O,O] (by kernel_rfl) rfl rfl ⟨(blk_cell BK482.out 0).trans rfl, (blk_cell BK476.out 0).trans rfl, (blk_cell BK477.out 0).trans rfl, hx483_0, hx484_0, ((HB.out.cell (World.block_lt_of_cell? w _ hw485_0)).trans hw485_0), ((HB.out.cell (World.block_lt_of_cell? w _ hw486_0)).trans hw486_0), ((HB.out.cell (World.block_lt_of_cell? w _ hw487_0)).trans hw487_0), ((HB.out.cell (World.block_lt_of_cell? w _ hw488_0)).trans hw488_0)⟩ (fun hHeld => ?_); refine with_tabW spec_foTimes.tab11 spec_foTimes.bits11 (fun HT_ HW_ => ?_)
                   generalize wr.drew = w39 at HO_483000 BK476 BK477 BK478 BK482 HB GG38 HL483_0 HQ41 HR483_0 HR485_0 HR487_0 HX483_0 hf38_0 hx38_0 hx483_0 hx484_0 hx485_0 hx486_0 hx487_0 hx488_0 hHeld ⊢
                   refine pS 0 31 (BM 28 1) ?_
                   refine pS 2 33 (BM 28 5) ?_
                   refine pS 5 36 (BM 28 37) ?_
                   refine pS 8 39 (BM 28 293) ?_
                   refine pS 10 41 (BM 28 1317) ?_
                   refine pS 13 44 (BM 28 9509) ?_
                   refine pS 16 47 (BM 28 75045) ?_
                   refine pS 18 49 (BM 28 337189) ?_
                   refine pS 21 52 (BM 28 2434341) ?_
                   refine take_ (i := 1) (N := some 32) (v := ?_) (a' := ?_) (BM 28 2434343) rfl rfl (take_ofW HT_.out HW_.out (by kernel_rfl)) (fun _ _ _ h => h) (Or.inl ⟨by rfl, ?_⟩) hHeld ?_ ?_
                   rotate_left
                   ·
                    rintro w' ⟨s0, s1, s2, s3, s4, s5, s6, s7, s8⟩
                    go_simp
                    with_reducible rfl
                   rotate_left
                   ·
                    simp only [AP]
                    rfl
                   refine pS 3 34 (BM 28 2434351) ?_
                   refine take_ (i := 4) (N := some 35) (v := ?_) (a' := ?_) (BM 28 2434367) rfl rfl (take_ofW HT_.out HW_.out (by kernel_rfl)) (fun _ _ _ h => h) (Or.inl ⟨by rfl, ?_⟩) hHeld ?_ ?_
                   rotate_left
                   ·
                    rintro w' ⟨s0, s1, s2, s3, s4, s5, s6, s7, s8⟩
                    go_simp
                    with_reducible rfl
                   rotate_left
                   ·
                    simp only [AP]
                    rfl
                   refine pS 6 37 (BM 28 2434431) ?_
                   refine take_ (i := 7) (N := some 38) (v := ?_) (a' := ?_) (BM 28 2434559) rfl rfl (take_ofW HT_.out HW_.out (by kernel_rfl)) (fun _ _ _ h => h) (Or.inl ⟨by rfl, ?_⟩) hHeld ?_ ?_
                   rotate_left
                   ·
                    rintro w' ⟨s0, s1, s2, s3, s4, s5, s6, s7, s8⟩
                    go_simp
                    with_reducible rfl
                   rotate_left
                   ·
                    simp only [AP]
                    rfl
                   refine take_ (i := 9) (N := some 40) (v := ?_) (a' := ?_) (BM 28 2435071) rfl rfl (take_ofW HT_.out HW_.out (by kernel_rfl)) (fun _ _ _ h => h) (Or.inl ⟨by rfl, ?_⟩) hHeld ?_ ?_
                   rotate_left
                   ·
                    rintro w' ⟨s0, s1, s2, s3, s4, s5, s6, s7, s8⟩
                    go_simp
                    with_reducible rfl
                   rotate_left
                   ·
                    simp only [AP]
                    rfl
                   refine pS 11 42 (BM 28 2437119) ?_
                   refine take_ (i := 12) (N := some 43) (v := ?_) (a' := ?_) (BM 28 2441215) rfl rfl (take_ofW HT_.out HW_.out (by kernel_rfl)) (fun _ _ _ h => h) (Or.inl ⟨by rfl, ?_⟩) hHeld ?_ ?_
                   rotate_left
                   ·
                    rintro w' ⟨s0, s1, s2, s3, s4, s5, s6, s7, s8⟩
                    go_simp
                    with_reducible rfl
                   rotate_left
                   ·
                    simp only [AP]
                    rfl
                   refine pS 14 45 (BM 28 2457599) ?_
                   refine take_ (i := 15) (N := some 46) (v := ?_) (a' := ?_) (BM 28 2490367) rfl rfl (take_ofW HT_.out HW_.out (by kernel_rfl)) (fun _ _ _ h => h) (Or.inl ⟨by rfl, ?_⟩) hHeld ?_ ?_
                   rotate_left
                   ·
                    rintro w' ⟨s0, s1, s2, s3, s4, s5, s6, s7, s8⟩
                    go_simp
                    with_reducible rfl
                   rotate_left
                   ·
                    simp only [AP]
                    rfl
                   refine take_ (i := 17) (N := some 48) (v := ?_) (a' := ?_) (BM 28 2621439) rfl rfl (take_ofW HT_.out HW_.out (by kernel_rfl)) (fun _ _ _ h => h) (Or.inl ⟨by rfl, ?_⟩) hHeld ?_ ?_
                   rotate_left
                   ·
                    rintro w' ⟨s0, s1, s2, s3, s4, s5, s6, s7, s8⟩
                    go_simp
                    with_reducible rfl
                   rotate_left
                   ·
                    simp only [AP]
                    rfl
                   refine pS 19 50 (BM 28 3145727) ?_
                   refine take_ (i := 20) (N := some 51) (v := ?_) (a' := ?_) (BM 28 4194303) rfl rfl (take_ofW HT_.out HW_.out (by kernel_rfl)) (fun _ _ _ h => h) (Or.inl ⟨by rfl, ?_⟩) hHeld ?_ ?_
                   rotate_left
                   ·
                    rintro w' ⟨s0, s1, s2, s3, s4, s5, s6, s7, s8⟩
                    go_simp
                    with_reducible rfl
                   rotate_left
                   ·
                    simp only [AP]
                    rfl
                   refine pS 22 53 (BM 28 8388607) ?_
                   refine take_ (i := 23) (N := some 54) (v := ?_) (a' := ?_) (BM 28 16777215) rfl rfl (take_ofW HT_.out HW_.out (by kernel_rfl)) (fun _ _ _ h => h) (Or.inl ⟨by rfl, ?_⟩) hHeld ?_ ?_
                   rotate_left
                   ·
                    rintro w' ⟨s0, s1, s2, s3, s4, s5, s6, s7, s8⟩
                    go_simp
                    with_reducible rfl
                   rotate_left
                   ·
                    simp only [AP]
                    rfl
                   refine pS 24 55 (BM 28 33554431) ?_
                   refine pS 25 56 (BM 28 67108863) ?_
                   refine pS 26 57 (BM 28 134217727) ?_
                   refine last_ (i := 27) (N := none) (BM 28 268435455) rfl rfl (one_of HT_.out (by kernel_rfl)) (by decide) (fun K hK => ?_)
                   refine skip_ (w1 := ?_) (by rfl) rfl ?_ ?_
                   rotate_left
                   ·
                    go_simp
                    rfl
                   refine hK.out _ _ ?_
                   clear hK K
                   refine done_ (done_of HT_.out (by kernel_rfl)) ?_
                   try go_wp2
                   go_roundg k3
                   case measure => have := HK1.out; have := HK2.out; have := HK3.out; omega
                   case rel => exact ⟨(wrap64 (x28_3 + 1)), (y491), (.slice (some ad483) x483000_3.length co40), e2, H', ⟨by have := HK1.out; have := HK2.out; have := HK3.out; omega⟩, ⟨by (with_reducible repeat (first | apply Kd.S_alloc | apply Kd.S_drewN | apply Kd.S_drew)); exact HQ41.out⟩, ⟨by (with_reducible repeat (first | refine blk_drewN ?_ _ | refine blk_drew ?_ | refine blk_alloc ?_ _)); refine blk_far ?_ (by have h_ := Kd.R_ne HL483_0.out BK476.out (by decide); intro e_; exact h_ (by rw [e_]; rfl)) _; (with_reducible repeat (first | refine blk_drewN ?_ _ | refine blk_drew ?_ | refine blk_alloc ?_ _)); exact BK476.out⟩, ⟨by (with_reducible repeat (first | refine blk_drewN ?_ _ | refine blk_drew ?_ | refine blk_alloc ?_ _)); refine blk_far ?_ (by have h_ := Kd.R_ne HL483_0.out BK477.out (by decide); intro e_; exact h_ (by rw [e_]; rfl)) _; (with_reducible repeat (first | refine blk_drewN ?_ _ | refine blk_drew ?_ | refine blk_alloc ?_ _)); exact BK477.out⟩, ⟨by (with_reducible repeat (first | refine blk_drewN ?_ _ | refine blk_drew ?_ | refine blk_alloc ?_ _)); refine blk_far ?_ (by have h_ := Kd.R_ne HL483_0.out BK478.out (by decide); intro e_; exact h_ (by rw [e_]; rfl)) _; (with_reducible repeat (first | refine blk_drewN ?_ _ | refine blk_drew ?_ | refine blk_alloc ?_ _)); exact BK478.out⟩, ⟨by (with_reducible repeat (first | refine blk_drewN ?_ _ | refine blk_drew ?_ | refine blk_alloc ?_ _)); refine blk_far ?_ (by have h_ := Kd.R_ne HL483_0.out BK482.out (by decide); intro e_; exact h_ (by rw [e_]; rfl)) _; (with_reducible repeat (first | refine blk_drewN ?_ _ | refine blk_drew ?_ | refine blk_alloc ?_ _)); exact BK482.out⟩, ⟨by repeat (first | (with_reducible first | exact HB.out | apply below_alloc | apply pw_below_drewN | apply below_drew1 | refine below_set ?_ GB38.out | refine below_set ?_ GE476.out | refine below_set ?_ GE477.out | refine below_set ?_ GE478.out | refine below_set ?_ GE482.out) | exact HB.out | exact Below.refl _ _)⟩⟩
                  ·
                   rw [if_neg c37] at H
                   exact absurd H (by simp)
                 ·
                  rw [if_neg c36] at H
                  exact absurd H (by simp)
                ·
                 rw [if_neg c35] at H
                 exact absurd H (by simp)
               ·
                rw [if_neg c34] at H
                exact absurd H (by simp)
              ·
               rw [if_neg c33] at H
               exact absurd H (by simp)
             ·
              rw [if_neg c32] at H
              exact absurd H (by simp)
            ·
             rw [if_neg c31] at H
             exact absurd H (by simp)
           ·
            rw [if_neg c30] at H
            exact absurd H (by simp)
          ·
           rw [if_neg c29] at H
           exact absurd H (by simp)
         ·
          rw [if_neg c28] at H
          have c28b0 : decide (x28_3 < (l0_0.length : Int)) = false := decide_eq_false c28
          clear c28
          have H' := Aside0.mk H
          clear H
          go_wp2
          go_roundg k3
          case measure => have := HK1.out; have := HK2.out; have := HK3.out; omega
          case rel => exact ⟨(wrap64 (x22_2 + 1)), (x483000_3), (u483000), e2, H', ⟨by have := HK1.out; have := HK2.out; have := HK3.out; omega⟩, ⟨z95_⟩, ⟨z84_⟩, ⟨z64_⟩, ⟨z75_⟩, ⟨z69_⟩, ⟨kB HB⟩⟩
      ·
       rw [if_neg c23] at H
       have c23b0 : decide (x22_2 < (l0_0.length : Int)) = false := decide_eq_false c23
       clear c23
       have H' := Aside0.mk H
       clear H
       go_wp2
       go_roundg k2
       case measure => have := HK1.out; have := HK2.out; omega
       case rel => exact ⟨(wrap64 (x16_1 + 1)), (x483000_2), (u483000), e2, H', ⟨by have := HK1.out; have := HK2.out; omega⟩, ⟨z95_⟩, ⟨z84_⟩, ⟨z64_⟩, ⟨z75_⟩, ⟨z69_⟩, ⟨kB HB⟩⟩
   ·
    rw [if_neg c18] at H
    have c18b0 : decide (x16_1 < (l0_0.length : Int)) = false := decide_eq_false c18
    clear c18
    obtain rfl := Option.some.inj H
    have hnb43 := NB482_476.out
    have hnc43 := NB476_482.out
    have hnb44 := NB482_477.out
    have hnc44 := NB477_482.out
    have hnb45 := NB482_478.out
    have hnc45 := NB478_482.out
    have hcz46_0 : wr.cell? ⟨gb482, 0, none⟩ = some (u483000) := (blk_cell BK482.out 0).trans rfl
    have hfz46_0 := blk_frozen BK482.out 0
    obtain ⟨Ao47, co47, eo47⟩ := Kd.S_slice HO_483000.out
    subst eo47
    have hnb48 := NB478_476.out
    have hnc48 := NB476_478.out
    have hnb49 := NB478_477.out
    have hnc49 := NB477_478.out
    have hcz50_0 : wr.cell? ⟨gb478, 0, none⟩ = some (.slice none 0 0) := (blk_cell BK478.out 0).trans rfl
    have hfz50_0 := blk_frozen BK478.out 0
    go_wp2
    refine bodyPost_ret (results_cell_row rfl _ _ gb478 26 #[.slice Ao47 x483000_1.length co47] (0, 0) _ rfl (by (with_reducible repeat (first | refine blk_drewN ?_ _ | refine blk_drew ?_ | refine blk_alloc ?_ _)); refine blk_put (cs := #[.slice none 0 0]) ?_ 0 _ rfl; (with_reducible repeat (first | refine blk_drewN ?_ _ | refine blk_drew ?_ | refine blk_alloc ?_ _)); exact BK478.out) Try.underlying26 rfl (by kernel_rfl)) rfl ?_
    exact ⟨_, e1, by (with_reducible repeat (first | apply Kd.S_alloc | apply Kd.S_drewN | apply Kd.S_drew)); exact Kd.S_mono (Kd.S_far (p := ⟨gb478, 0, none⟩) (Kd.S_types HO_483000.out BK478.out (by decide)) (fun _ hk => hk.2) (.slice Ao47 x483000_1.length co47)) (fun _ hk => trivial), kB HB⟩

end Go.Proofs.Ytldkkfpodldbgaa.P
