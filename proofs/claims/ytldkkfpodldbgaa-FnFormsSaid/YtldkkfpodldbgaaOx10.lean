-- Written by a program of this session (wip/mkprint.py over the kit's print), out of the translation. Not trusted: Lean checks it.
import Derived.Test.YtldkkfpodldbgaaOx0
import Derived.Test.YtldkkfpodldbgaaOx1
import Derived.Test.YtldkkfpodldbgaaOx2
import Derived.Test.YtldkkfpodldbgaaOx3
import Derived.Test.YtldkkfpodldbgaaOx9
namespace Go.Proofs.Ytldkkfpodldbgaa.P
open Go.RowKit Go.Proofs.YtldkkfpodldbgaaW.PrintWords Go.Proofs.YtldkkfpodldbgaaW.PrintLast Go.Proofs.YtldkkfpodldbgaaW.PrintMore
attribute [local go_sem] max2_int min2_int max_two min_two max_three min_three max_four min_four   -- for this text's walks alone
set_option linter.unusedVariables false
set_option linter.unusedSimpArgs false

/-! ### spec_DrawKeepsForm: function 47 -/
def spec_DrawKeepsForm.f (k : Nat) (l0 : List Int) : Option ((List (List Int)) × (List (List Int))) := (spec_l1Cur_size.f l0 0 0).bind fun bt423 => ((spec_l1Cur_form.f k l0 bt423.2.1 bt423.2.2 bt423.1).bind fun bt426 => ((spec_l1Cur_vector.f k l0 bt426.2.1 bt426.2.2 bt423.1).bind fun bt432 => ((spec_ReflectionOf.f k bt426.1 bt432.1).bind fun bt437 => (if bt437.2 = true then ((spec_l1Cur_one.f l0 bt432.2.1 bt432.2.2 4).bind fun bt442 => (if bt442.1 = true then ((spec_l1Cur_matrix.f k l0 bt442.2.1 bt442.2.2 bt423.1).bind fun bt445 => (some (bt445.1, bt426.1))) else (some (bt437.1, bt426.1)))) else ((spec_l1Cur_matrix.f k l0 bt432.2.1 bt432.2.2 bt423.1).bind fun bt450 => (some (bt450.1, bt426.1)))))))
theorem spec_DrawKeepsForm.mono : ∀ a0 k, LeO (spec_DrawKeepsForm.f k a0) (spec_DrawKeepsForm.f (k + 1) a0) := by
 intro a0 k
 unfold spec_DrawKeepsForm.f
 repeat' first
  | (with_reducible exact spec_ReflectionOf.mono _ _ _)
  | (with_reducible exact spec_l1Cur_form.mono _ _ _ _ _)
  | (with_reducible exact spec_l1Cur_matrix.mono _ _ _ _ _)
  | (with_reducible exact spec_l1Cur_vector.mono _ _ _ _ _)
  | (with_reducible exact LeO.refl _)
  | (with_reducible exact LeO.none _)
  | (with_reducible refine LeO.ite ?_ ?_)
  | (with_reducible refine LeO.bind ?_ (fun _ => ?_))
  | exact spec_ReflectionOf.mono _ _ _
  | exact spec_l1Cur_form.mono _ _ _ _ _
  | exact spec_l1Cur_matrix.mono _ _ _ _ _
  | exact spec_l1Cur_vector.mono _ _ _ _ _
  | exact LeO.none _
  | refine LeO.ite ?_ ?_
  | refine LeO.bind ?_ (fun _ => ?_)
def spec_DrawKeepsForm.T4 : Bool × List (List Nat × List Nat) := (true, [([], []), ([], []), ([], []), ([1, 2], [1, 2]), ([0, 3, 3], [0, 3]), ([4], [4]), ([5], [5]), ([5], [5]), ([], []), ([8, 6, 4, 0, 1, 2, 3, 4, 5, 6, 8], [6, 8]), ([7, 9, 0, 1, 2, 3, 4, 5, 6, 7, 8, 9], [7])])
def spec_DrawKeepsForm.B4 : List Nat := [0, 0, 0, 6, 15, 31, 63, 63, 0, 383, 1023]
theorem spec_DrawKeepsForm.tab4 : rtab .any (opsOf Try.f47 4) = spec_DrawKeepsForm.T4 := by kernel_rfl
theorem spec_DrawKeepsForm.bits4 : waitsOk spec_DrawKeepsForm.T4.2 spec_DrawKeepsForm.B4 = true := by kernel_rfl
set_option maxHeartbeats 8000000 in
set_option maxRecDepth 100000 in
theorem spec_DrawKeepsForm.calls (k : Nat) (A0 : Option Addr) (c0 : Nat) (l0 : List Int) (r1 : List (List Int)) (r2 : List (List Int)) (w : World) (hr0 : Kd.C (Kd.int .u8) w A0 l0.length l0) (hc0 : l0.length ≤ c0) (h : spec_DrawKeepsForm.f k l0 = some (r1, r2)) :
 Calls Try.prog 47 #[.slice A0 l0.length c0] w fun e w' => ∃ v0_ v1_ : Value, e = .returned (.tuple #[.agg #[v0_], .agg #[v1_]]) ∧ Kd.V (Kd.slice 3 (Kd.int .i64)) 34 w' w.heap.size (fun k_ => (w.heap.size ≤ k_)) v0_ r1 ∧ Kd.V (Kd.slice 3 (Kd.int .i64)) 34 w' w.heap.size (fun k_ => (w.heap.size ≤ k_)) v1_ r2 ∧ Below w.heap.size w w' := by
 have hu26 := Try.underlying26
 have hu92 := Try.underlying92
 have HR0 := Aside0.mk hr0
 have HC0 := Aside0.mk hc0
 clear hr0 hc0
 have HB := Aside0.mk (Below.refl w.heap.size w)
 have H : ((spec_l1Cur_size.f l0 0 0).bind fun bt423 => ((spec_l1Cur_form.f k l0 bt423.2.1 bt423.2.2 bt423.1).bind fun bt426 => ((spec_l1Cur_vector.f k l0 bt426.2.1 bt426.2.2 bt423.1).bind fun bt432 => ((spec_ReflectionOf.f k bt426.1 bt432.1).bind fun bt437 => (if bt437.2 = true then ((spec_l1Cur_one.f l0 bt432.2.1 bt432.2.2 4).bind fun bt442 => (if bt442.1 = true then ((spec_l1Cur_matrix.f k l0 bt442.2.1 bt442.2.2 bt423.1).bind fun bt445 => (some (bt445.1, bt426.1))) else (some (bt437.1, bt426.1)))) else ((spec_l1Cur_matrix.f k l0 bt432.2.1 bt432.2.2 bt423.1).bind fun bt450 => (some (bt450.1, bt426.1)))))))) = some (r1, r2) := h
 clear h
 replace H := Option.bind_eq_some_iff.mp H
 obtain ⟨⟨t423, t424, t425⟩, A20, H⟩ := H
 replace H : ((spec_l1Cur_form.f k l0 t424 t425 t423).bind fun bt426 => ((spec_l1Cur_vector.f k l0 bt426.2.1 bt426.2.2 t423).bind fun bt432 => ((spec_ReflectionOf.f k bt426.1 bt432.1).bind fun bt437 => (if bt437.2 = true then ((spec_l1Cur_one.f l0 bt432.2.1 bt432.2.2 4).bind fun bt442 => (if bt442.1 = true then ((spec_l1Cur_matrix.f k l0 bt442.2.1 bt442.2.2 t423).bind fun bt445 => (some (bt445.1, bt426.1))) else (some (bt437.1, bt426.1)))) else ((spec_l1Cur_matrix.f k l0 bt432.2.1 bt432.2.2 t423).bind fun bt450 => (some (bt450.1, bt426.1))))))) = some (r1, r2) := H
 have A2 := Aside0.mk A20
 clear A20
 replace H := Option.bind_eq_some_iff.mp H
 obtain ⟨⟨t426, t429, t430⟩, A30, H⟩ := H
 replace H : ((spec_l1Cur_vector.f k l0 t429 t430 t423).bind fun bt432 => ((spec_ReflectionOf.f k t426 bt432.1).bind fun bt437 => (if bt437.2 = true then ((spec_l1Cur_one.f l0 bt432.2.1 bt432.2.2 4).bind fun bt442 => (if bt442.1 = true then ((spec_l1Cur_matrix.f k l0 bt442.2.1 bt442.2.2 t423).bind fun bt445 => (some (bt445.1, t426))) else (some (bt437.1, t426)))) else ((spec_l1Cur_matrix.f k l0 bt432.2.1 bt432.2.2 t423).bind fun bt450 => (some (bt450.1, t426)))))) = some (r1, r2) := H
 have A3 := Aside0.mk A30
 clear A30
 replace H := Option.bind_eq_some_iff.mp H
 obtain ⟨⟨t432, t435, t436⟩, A40, H⟩ := H
 replace H : ((spec_ReflectionOf.f k t426 t432).bind fun bt437 => (if bt437.2 = true then ((spec_l1Cur_one.f l0 t435 t436 4).bind fun bt442 => (if bt442.1 = true then ((spec_l1Cur_matrix.f k l0 bt442.2.1 bt442.2.2 t423).bind fun bt445 => (some (bt445.1, t426))) else (some (bt437.1, t426)))) else ((spec_l1Cur_matrix.f k l0 t435 t436 t423).bind fun bt450 => (some (bt450.1, t426))))) = some (r1, r2) := H
 have A4 := Aside0.mk A40
 clear A40
 replace H := Option.bind_eq_some_iff.mp H
 obtain ⟨⟨t437, t440⟩, A50, H⟩ := H
 replace H : (if t440 = true then ((spec_l1Cur_one.f l0 t435 t436 4).bind fun bt442 => (if bt442.1 = true then ((spec_l1Cur_matrix.f k l0 bt442.2.1 bt442.2.2 t423).bind fun bt445 => (some (bt445.1, t426))) else (some (t437, t426)))) else ((spec_l1Cur_matrix.f k l0 t435 t436 t423).bind fun bt450 => (some (bt450.1, t426)))) = some (r1, r2) := H
 have A5 := Aside0.mk A50
 clear A50
 go_enter Try.func47, Try.ntmps47
 try go_wp2_with (first | ((with_reducible refine gate_dst (N := 2) rfl ?_); refine box_event ?hg (N := 2) ?hd (cs := #[.slice none 0 0]) (t := 26) ?hr ?_; (case hd => rfl); (case hg => rfl); (case hr => exact z116_); intro gb420 hg w10 hbox hb; have n0_ := Aside0.mk (below_step bq hb); have n1_ := Aside0.mk (hbox); have n2_ := Aside0.mk ((by rw [hg]; exact (below_size bq) : w.heap.size ≤ gb420)); have n3_ := Aside0.mk ((by rw [hg]; exact (below_size bq) : w.heap.size ≤ gb420)); clear HB; have HB := n0_; have BK420 := n1_; have GW420 := n2_; have GE420 := n3_; clear n0_ n1_ n2_ n3_; clear hb hbox hg) | ((with_reducible refine gate_dst (N := 3) rfl ?_); refine box_event ?hg (N := 3) ?hd (cs := #[.slice none 0 0]) (t := 26) ?hr ?_; (case hd => rfl); (case hg => rfl); (case hr => exact z116_); intro gb421 hg w11 hbox hb; have n0_ := Aside0.mk (kK BK420 hb); have n1_ := Aside0.mk (below_step (kB HB) hb); have n2_ := Aside0.mk (hbox); have n3_ := Aside0.mk ((by rw [hg]; exact (below_size (kB HB)) : w.heap.size ≤ gb421)); have n4_ := Aside0.mk ((by rw [hg]; exact (below_size (kB HB)) : w.heap.size ≤ gb421)); have n5_ := Aside0.mk ((by rw [hg]; exact Nat.ne_of_lt (blk_lt (g := gb420) (o := .cells #[.slice none 0 0] 26 (0, 0)) (bA BK420)) : gb420 ≠ gb421)); have n6_ := Aside0.mk ((by rw [hg]; exact Nat.ne_of_gt (blk_lt (g := gb420) (o := .cells #[.slice none 0 0] 26 (0, 0)) (bA BK420)) : gb421 ≠ gb420)); clear BK420; clear HB; have BK420 := n0_; have HB := n1_; have BK421 := n2_; have GW421 := n3_; have GE421 := n4_; have NB420_421 := n5_; have NB421_420 := n6_; clear n0_ n1_ n2_ n3_ n4_ n5_ n6_; clear hb hbox hg) | ((with_reducible refine gate_dst (N := 11) rfl ?_); refine box_event ?hg (N := 11) ?hd (cs := #[.slice A0 l0.length c0, .int .i64 0, .int .u64 0]) (t := 92) ?hr ?_; (case hd => rfl); (case hg => rfl); (case hr => exact z116_); intro gb422 hg w12 hbox hb; have n0_ := Aside0.mk (kK BK420 hb); have n1_ := Aside0.mk (kK BK421 hb); have n2_ := Aside0.mk (below_step (kB HB) hb); have n3_ := Aside0.mk ((by rw [hg]; exact (below_size (kB HB)) : w.heap.size ≤ gb422)); have n4_ := Aside0.mk ((by rw [hg]; exact (below_size (kB HB)) : w.heap.size ≤ gb422)); have n5_ := Aside0.mk ((by rw [hg]; exact Nat.ne_of_lt (blk_lt (g := gb420) (o := .cells #[.slice none 0 0] 26 (0, 0)) (bA BK420)) : gb420 ≠ gb422)); have n6_ := Aside0.mk ((by rw [hg]; exact Nat.ne_of_gt (blk_lt (g := gb420) (o := .cells #[.slice none 0 0] 26 (0, 0)) (bA BK420)) : gb422 ≠ gb420)); have n7_ := Aside0.mk ((by rw [hg]; exact Nat.ne_of_lt (blk_lt (g := gb421) (o := .cells #[.slice none 0 0] 26 (0, 0)) (bA BK421)) : gb421 ≠ gb422)); have n8_ := Aside0.mk ((by rw [hg]; exact Nat.ne_of_gt (blk_lt (g := gb421) (o := .cells #[.slice none 0 0] 26 (0, 0)) (bA BK421)) : gb422 ≠ gb421)); have n9_ := Aside0.mk ((show IsS92 w w12 gb422 l0 0 0 from ⟨A0, c0, hbox, (by rw [hg]; exact (below_size (kB HB)) : w.heap.size ≤ gb422), HR0.out⟩)); clear BK420; clear BK421; clear HB; have BK420 := n0_; have BK421 := n1_; have HB := n2_; have GW422 := n3_; have GE422 := n4_; have NB420_422 := n5_; have NB422_420 := n6_; have NB421_422 := n7_; have NB422_421 := n8_; have HI422 := n9_; clear n0_ n1_ n2_ n3_ n4_ n5_ n6_ n7_ n8_ n9_; clear hb hbox hg) | ((with_reducible refine gate_callee (f := 89) rfl ?_); refine gL (some 13) rfl rfl Try.func89 (by kernel_rfl) rfl #[.pointer (some ⟨gb422, 0, none⟩)] rfl ?_; (with_reducible refine (spec_l1Cur_size.calls gb422 l0 0 0 t423 t424 t425 w _ ?side1 ?side2 A2.out).mono ?_); (case side1 => exact z32_); (case side2 => exact z20_); rintro e w13 ⟨rfl, hi, hb, hk⟩; refine ⟨_, rfl, ?_⟩; have n0_ := Aside0.mk (KeepBut.blk hk (g' := gb420) (o := .cells #[.slice none 0 0] 26 (0, 0)) (bA BK420) NB420_422.out (by simp)); have n1_ := Aside0.mk (KeepBut.blk hk (g' := gb421) (o := .cells #[.slice none 0 0] 26 (0, 0)) (bA BK421) NB421_422.out (by simp)); have n2_ := Aside0.mk (hb); have n3_ := Aside0.mk (hi); clear BK420; clear BK421; clear HB; clear HI422; have BK420 := n0_; have BK421 := n1_; have HB := n2_; have HI422 := n3_; clear n0_ n1_ n2_ n3_; (try clear hb); (try clear hb2); (try clear hk); (try clear hi)) | ((with_reducible refine gate_callee (f := 100) rfl ?_); refine gL (some 16) rfl rfl Try.func100 (by kernel_rfl) rfl #[.pointer (some ⟨gb422, 0, none⟩), .int .i64 t423] rfl ?_; (with_reducible refine (spec_l1Cur_form.calls k gb422 l0 t424 t425 t423 t426 t429 t430 w _ ?side1 ?side2 A3.out).mono ?_); (case side1 => exact z32_); (case side2 => exact z20_); rintro e w14 ⟨v427, rfl, ho0, hi, hb, hk⟩; refine ⟨_, rfl, ?_⟩; have n0_ := Aside0.mk (KeepBut.blk hk (g' := gb420) (o := .cells #[.slice none 0 0] 26 (0, 0)) (bA BK420) NB420_422.out (by simp)); have n1_ := Aside0.mk (KeepBut.blk hk (g' := gb421) (o := .cells #[.slice none 0 0] 26 (0, 0)) (bA BK421) NB421_422.out (by simp)); have n2_ := Aside0.mk (Kd.V_lower (Kd.V_mono (ok' := fun k_ => (w.heap.size ≤ k_) ∧ k_ ≠ gb420 ∧ k_ ≠ gb421 ∧ k_ ≠ gb422) ho0 (fun k_ hk_ => ⟨(Nat.le_trans (below_size z20_) hk_), (Kd.freshB (g := gb420) (o := .cells #[.slice none 0 0] 26 (0, 0)) (bA BK420) k_ hk_), (Kd.freshB (g := gb421) (o := .cells #[.slice none 0 0] 26 (0, 0)) (bA BK421) k_ hk_), (IsS92.fresh z32_ k_ hk_)⟩)) (below_size z20_)); have n3_ := Aside0.mk (hb); have n4_ := Aside0.mk (hi); clear BK420; clear BK421; clear HB; clear HI422; have BK420 := n0_; have BK421 := n1_; have HO428 := n2_; have HB := n3_; have HI422 := n4_; clear n0_ n1_ n2_ n3_ n4_; (try clear hb); (try clear hb2); (try clear hk); (try clear hi); (try clear ho0)) | ((with_reducible refine gate_dst (N := 6) rfl ?_); refine box_event ?hg (N := 6) ?hd (cs := #[.slice none 0 0]) (t := 26) ?hr ?_; (case hd => rfl); (case hg => rfl); (case hr => exact z116_); intro gb431 hg w15 hbox hb; have n0_ := Aside0.mk (Kd.V_below (Kd.V_elderB z99_ gb431 (Nat.le_of_eq hg.symm)) hb); have n1_ := Aside0.mk (kK BK420 hb); have n2_ := Aside0.mk (kK BK421 hb); have n3_ := Aside0.mk (IsS92.below z32_ hb); have n4_ := Aside0.mk (below_step z20_ hb); have n5_ := Aside0.mk (hbox); have n6_ := Aside0.mk ((by rw [hg]; exact (below_size z20_) : w.heap.size ≤ gb431)); have n7_ := Aside0.mk ((by rw [hg]; exact (below_size z20_) : w.heap.size ≤ gb431)); have n8_ := Aside0.mk ((by rw [hg]; exact Nat.ne_of_lt (blk_lt (g := gb420) (o := .cells #[.slice none 0 0] 26 (0, 0)) (bA BK420)) : gb420 ≠ gb431)); have n9_ := Aside0.mk ((by rw [hg]; exact Nat.ne_of_gt (blk_lt (g := gb420) (o := .cells #[.slice none 0 0] 26 (0, 0)) (bA BK420)) : gb431 ≠ gb420)); have n10_ := Aside0.mk ((by rw [hg]; exact Nat.ne_of_lt (blk_lt (g := gb421) (o := .cells #[.slice none 0 0] 26 (0, 0)) (bA BK421)) : gb421 ≠ gb431)); have n11_ := Aside0.mk ((by rw [hg]; exact Nat.ne_of_gt (blk_lt (g := gb421) (o := .cells #[.slice none 0 0] 26 (0, 0)) (bA BK421)) : gb431 ≠ gb421)); have n12_ := Aside0.mk ((by rw [hg]; exact Nat.ne_of_lt (IsS92.lt (show IsS92 w _ gb422 l0 t429 t430 from z32_)) : gb422 ≠ gb431)); have n13_ := Aside0.mk ((by rw [hg]; exact Nat.ne_of_gt (IsS92.lt (show IsS92 w _ gb422 l0 t429 t430 from z32_)) : gb431 ≠ gb422)); clear HO428; clear BK420; clear BK421; clear HI422; clear HB; have HO428 := n0_; have BK420 := n1_; have BK421 := n2_; have HI422 := n3_; have HB := n4_; have BK431 := n5_; have GW431 := n6_; have GE431 := n7_; have NB420_431 := n8_; have NB431_420 := n9_; have NB421_431 := n10_; have NB431_421 := n11_; have NB422_431 := n12_; have NB431_422 := n13_; clear n0_ n1_ n2_ n3_ n4_ n5_ n6_ n7_ n8_ n9_ n10_ n11_ n12_ n13_; clear hb hbox hg; obtain ⟨Ao16, co16, eo16⟩ := Kd.V_slice HO428.out; subst eo16; have hnb17 := NB431_420.out; have hnc17 := NB420_431.out; have hnb18 := NB431_421.out; have hnc18 := NB421_431.out; have hnb19 := NB431_422.out; have hnc19 := NB422_431.out; have hcz20_0 : w15.cell? ⟨gb431, 0, none⟩ = some (.slice none 0 0) := (blk_cell BK431.out 0).trans rfl; have hfz20_0 := blk_frozen BK431.out 0))
 have n0_ : Aside0 (Kd.V (Kd.slice 3 (Kd.int .i64)) 34 (w15.setCell ⟨gb431, 0, none⟩ (.slice Ao16 t426.length co16)) w.heap.size (fun k_ => (w.heap.size ≤ k_) ∧ k_ ≠ gb420 ∧ k_ ≠ gb421 ∧ k_ ≠ gb422 ∧ k_ ≠ gb431) (.slice Ao16 t426.length co16) t426) := ⟨by (with_reducible repeat (first | apply Kd.V_alloc | apply Kd.V_drewN | apply Kd.V_drew)); exact Kd.V_mono (Kd.V_far (p := ⟨gb431, 0, none⟩) (Kd.V_mono HO428.out (fun k_ hk => (⟨hk, hk.2⟩ : _ ∧ k_ ≠ gb431))) (fun _ hk => hk.2) (.slice Ao16 t426.length co16)) (fun _ hk => ⟨hk.1.1.1, ⟨hk.1.1.2.1, ⟨hk.1.1.2.2.1, ⟨hk.1.1.2.2.2, hk.1.2⟩⟩⟩⟩)⟩
 have n1_ : Aside0 ((w15.setCell ⟨gb431, 0, none⟩ (.slice Ao16 t426.length co16)).heap[gb420]? = some (.cells #[.slice none 0 0] 26 (0, 0))) := ⟨z30_⟩
 have n2_ : Aside0 ((w15.setCell ⟨gb431, 0, none⟩ (.slice Ao16 t426.length co16)).heap[gb421]? = some (.cells #[.slice none 0 0] 26 (0, 0))) := ⟨z26_⟩
 have n3_ : Aside0 ((w15.setCell ⟨gb431, 0, none⟩ (.slice Ao16 t426.length co16)).heap[gb431]? = some (.cells #[.slice Ao16 t426.length co16] 26 (0, 0))) := ⟨z16_⟩
 have n4_ : Aside0 (IsS92 w (w15.setCell ⟨gb431, 0, none⟩ (.slice Ao16 t426.length co16)) gb422 l0 t429 t430) := ⟨z10_⟩
 have n5_ : Aside0 (Below w.heap.size w (w15.setCell ⟨gb431, 0, none⟩ (.slice Ao16 t426.length co16))) := ⟨z9_⟩
 (try clear HO428)
 (try clear BK420)
 (try clear BK421)
 (try clear BK431)
 (try clear HI422)
 (try clear HB)
 generalize (w15.setCell ⟨gb431, 0, none⟩ (.slice Ao16 t426.length co16)) = w21 at n0_ n1_ n2_ n3_ n4_ n5_ ⊢
 have HO428 := n0_
 have BK420 := n1_
 have BK421 := n2_
 have BK431 := n3_
 have HI422 := n4_
 have HB := n5_
 clear n0_ n1_ n2_ n3_ n4_ n5_
 have n0_ := Aside0.mk (Kd.V_drew HO428.out)
 have n1_ := Aside0.mk (blk_drew BK420.out)
 have n2_ := Aside0.mk (blk_drew BK421.out)
 have n3_ := Aside0.mk (blk_drew BK431.out)
 have n4_ := Aside0.mk (IsS92.drew HI422.out)
 have n5_ := Aside0.mk (below_drew1 HB.out)
 clear HO428; clear BK420; clear BK421; clear BK431; clear HI422; clear HB
 have HO428 := n0_
 have BK420 := n1_
 have BK421 := n2_
 have BK431 := n3_
 have HI422 := n4_
 have HB := n5_
 clear n0_ n1_ n2_ n3_ n4_ n5_
 refine start_ (n := 11) (S := fun w' => w'.cell? ⟨gb431, 0, none⟩ = some (.slice Ao16 t426.length co16)) (ds := []) #[O,O,O,O,O,O,O,O,O,O,O] (by kernel_rfl) rfl rfl ((blk_cell BK431.out 0).trans rfl) (fun hHeld => ?_); refine with_tabW spec_DrawKeepsForm.tab4 spec_DrawKeepsForm.bits4 (fun HT_ HW_ => ?_)
 generalize w21.drew = w22 at HO428 BK420 BK421 BK431 HI422 HB hHeld ⊢
 refine pS 1 19 (BM 11 2) ?_
 refine pS 2 20 (BM 11 6) ?_
 refine take_ (i := 0) (N := some 18) (v := ?_) (a' := ?_) (BM 11 7) rfl rfl (take_ofW HT_.out HW_.out (by kernel_rfl)) (fun _ _ _ h => h) (Or.inl ⟨by rfl, ?_⟩) hHeld ?_ ?_
 rotate_left
 ·
  intro w' s0
  go_simp
  with_reducible rfl
 rotate_left
 ·
  simp only [AP]
  rfl
 refine join_ (σ := Value × Value × Nat) 2 #[Y,Y,Y,Y,Y,Y,Y,Y,Y,O,O] (fun s_ => [(21, s_.1), (22, .tuple #[.agg #[s_.2.1], .bool t440]), (7, .pointer (some ⟨s_.2.2, 0, none⟩)), (17, .tuple #[.agg #[s_.2.1], .bool t440]), (23, .agg #[s_.2.1]), (24, .bool t440)]) (fun s_ w' => (w'.cell? ⟨gb431, 0, none⟩ = some (.slice Ao16 t426.length co16)) ∧ (Kd.V (Kd.slice 3 (Kd.int .i64)) 34 w' w.heap.size (fun k_ => (w.heap.size ≤ k_) ∧ some k_ ≠ (s_.1 : Value).ownBlock ∧ k_ ≠ gb420 ∧ k_ ≠ gb421 ∧ k_ ≠ gb422 ∧ k_ ≠ gb431 ∧ k_ ≠ s_.2.2) (.slice Ao16 t426.length co16) t426) ∧ (Kd.R (Kd.int .i64) 3 w' w.heap.size (fun k_ => (w.heap.size ≤ k_)) s_.1 t432) ∧ (Kd.V (Kd.slice 3 (Kd.int .i64)) 34 w' w.heap.size (fun k_ => (w.heap.size ≤ k_) ∧ some k_ ≠ (s_.1 : Value).ownBlock ∧ k_ ≠ gb420 ∧ k_ ≠ gb421 ∧ k_ ≠ gb422 ∧ k_ ≠ gb431 ∧ k_ ≠ s_.2.2) s_.2.1 t437) ∧ (w'.heap[gb420]? = some (.cells #[.slice none 0 0] 26 (0, 0))) ∧ (w'.heap[gb421]? = some (.cells #[.slice none 0 0] 26 (0, 0))) ∧ (w'.heap[gb431]? = some (.cells #[.slice Ao16 t426.length co16] 26 (0, 0))) ∧ (w'.heap[s_.2.2]? = some (.cells #[.slice none 0 0] 26 (0, 0))) ∧ (w.heap.size ≤ s_.2.2) ∧ (w.heap.size ≤ s_.2.2) ∧ (gb422 ≠ s_.2.2) ∧ (s_.2.2 ≠ gb422) ∧ (gb420 ≠ s_.2.2) ∧ (s_.2.2 ≠ gb420) ∧ (gb421 ≠ s_.2.2) ∧ (s_.2.2 ≠ gb421) ∧ (gb431 ≠ s_.2.2) ∧ (s_.2.2 ≠ gb431) ∧ (IsS92 w w' gb422 l0 t435 t436) ∧ (Below w.heap.size w w')) ?_ ?_
 rotate_left
 ·
  intro hCont
  refine two_ (i := 3) (j := 8) (Ni := some 21) (Nj := some 7) (BM 11 15) (BM 11 263) rfl rfl rfl rfl (two_of HT_.out (by kernel_rfl)) (by decide) (by decide) (fun K hK => ?_) (fun K hK => ?_)
  ·
   skip
   refine goes_ Try.func101 (by kernel_rfl) rfl #[.pointer (some ⟨gb422, 0, none⟩), .int .i64 t423] (by rfl) rfl rfl (by (try simp only [List.map_toArray, List.map_cons, List.map_nil]); first | done | rfl | (simp only [List.length_drop, List.length_take]; rfl)) ?_
   with_reducible refine (spec_l1Cur_vector.calls k gb422 l0 t429 t430 t423 t432 t435 t436 w _ ?side1 ?side2 A4.out).mono ?_
   (case side1 => exact z10_)
   (case side2 => exact z9_)
   rintro e w23 ⟨v433, rfl, ho0, hi, hb, hk⟩
   refine ⟨_, rfl, ?_⟩
   have n0_ := Aside0.mk (KeepBut.blk hk (g' := gb420) (o := .cells #[.slice none 0 0] 26 (0, 0)) (bA BK420) NB420_422.out (by simp))
   have n1_ := Aside0.mk (KeepBut.blk hk (g' := gb421) (o := .cells #[.slice none 0 0] 26 (0, 0)) (bA BK421) NB421_422.out (by simp))
   have n2_ := Aside0.mk (Kd.V_mono (Kd.V_told (Kd.V_oldK (Kd.V_mono (ok := fun k_ => (((w.heap.size ≤ k_)) ∧ (k_ ≠ gb420 ∧ (k_ ≠ gb421 ∧ (k_ ≠ gb422 ∧ k_ ≠ gb431))))) z99_ (fun k_ hk_ => (⟨hk_, hk_.2.2.2.1⟩ : _ ∧ k_ ≠ gb422))) hk) (Kd.R_base ho0)) (fun _ h_ => h_.1))
   have n3_ := Aside0.mk (KeepBut.blk hk (g' := gb431) (o := .cells #[.slice Ao16 t426.length co16] 26 (0, 0)) (bA BK431) NB431_422.out (by simp))
   have n4_ := Aside0.mk (Kd.R_lower (Kd.R_newM (M := fun k_ => (w.heap.size ≤ k_)) ho0 (below_size z9_) (fun k_ h_ => h_)) (below_size z9_))
   have n5_ := Aside0.mk (hb)
   have n6_ := Aside0.mk (hi)
   clear BK420; clear BK421; clear HO428; clear BK431; clear HB; clear HI422
   have BK420 := n0_
   have BK421 := n1_
   have HO428 := n2_
   have BK431 := n3_
   have HO434 := n4_
   have HB := n5_
   have HI422 := n6_
   clear n0_ n1_ n2_ n3_ n4_ n5_ n6_
   (try clear hb)
   (try clear hb2)
   (try clear hk)
   (try clear hi)
   (try clear ho0)
   obtain ⟨Ao24, co24, eo24⟩ := Kd.R_slice HO434.out
   (first | subst eo24 | (injection eo24 with f1_ f2_ f3_; have f4_ := f1_.symm; have f5_ := f3_.symm; clear f1_ f2_ f3_; subst f4_; subst f5_))
   refine hK.out _ _ ((blk_cell BK431.out 0).trans rfl) (fun hHeld => ?_)
   clear hK K
   refine norm_ (a' := ?_) ?_ ?_
   rotate_left
   ·
    show Act.put _ (some 21) _ = _
    simp only [AP]
    rfl
   refine two_ (i := 4) (j := 8) (Ni := some 22) (Nj := some 7) (BM 11 31) (BM 11 271) rfl rfl rfl rfl (two_of HT_.out (by kernel_rfl)) (by decide) (by decide) (fun K hK => ?_) (fun K hK => ?_)
   ·
    skip
    refine goes_ Try.func25 (by kernel_rfl) rfl #[.agg #[.slice Ao16 t426.length co16], .slice Ao24 t432.length co24] (by rfl) rfl rfl (by (try simp only [List.map_toArray, List.map_cons, List.map_nil]); first | done | rfl | (simp only [List.length_drop, List.length_take]; rfl)) ?_
    with_reducible refine (spec_ReflectionOf.calls k _ _ t426 _ _ t432 t437 t440 _ ?side1 ?side2 ?side3 ?side4 A5.out).mono ?_
    (case side1 => repeat (first | exact (Kd.V_reads' HO428.out).2.2 | (with_reducible refine Kd.C_alloc ?_ _) | (with_reducible refine Kd.C_drewN ?_ _) | (with_reducible refine Kd.C_drew ?_)))
    (case side2 => exact (Kd.V_reads' HO428.out).2.1)
    (case side3 => exact cC (Kd.R_reads' HO434.out).2.2)
    (case side4 => exact (Kd.R_reads' HO434.out).2.1)
    rintro e w25 ⟨v438, rfl, ho0, hb⟩
    refine ⟨_, rfl, ?_⟩
    have n0_ := Aside0.mk (Kd.V_below z99_ hb)
    have n1_ := Aside0.mk (Kd.R_below (rA HO434) hb)
    have n2_ := Aside0.mk (Kd.V_lower (Kd.V_mono (ok' := fun k_ => (w.heap.size ≤ k_) ∧ some k_ ≠ (.slice Ao24 t432.length co24 : Value).ownBlock ∧ k_ ≠ gb420 ∧ k_ ≠ gb421 ∧ k_ ≠ gb431 ∧ k_ ≠ gb422) ho0 (fun k_ hk_ => ⟨(Nat.le_trans (below_size z9_) hk_), (Kd.fresh' (Kd.R_lt (rA HO434)) k_ hk_), (Kd.freshB (g := gb420) (o := .cells #[.slice none 0 0] 26 (0, 0)) (bA BK420) k_ hk_), (Kd.freshB (g := gb421) (o := .cells #[.slice none 0 0] 26 (0, 0)) (bA BK421) k_ hk_), (Kd.freshB (g := gb431) (o := .cells #[.slice Ao16 t426.length co16] 26 (0, 0)) (bA BK431) k_ hk_), (IsS92.fresh z10_ k_ hk_)⟩)) (below_size z9_))
    have n3_ := Aside0.mk (kK BK420 hb)
    have n4_ := Aside0.mk (kK BK421 hb)
    have n5_ := Aside0.mk (IsS92.below z10_ hb)
    have n6_ := Aside0.mk (kK BK431 hb)
    have n7_ := Aside0.mk (below_step z9_ hb)
    clear HO428; clear HO434; clear BK420; clear BK421; clear HI422; clear BK431; clear HB
    have HO428 := n0_
    have HO434 := n1_
    have HO439 := n2_
    have BK420 := n3_
    have BK421 := n4_
    have HI422 := n5_
    have BK431 := n6_
    have HB := n7_
    clear n0_ n1_ n2_ n3_ n4_ n5_ n6_ n7_
    (try clear hb)
    (try clear hb2)
    (try clear hk)
    (try clear hi)
    (try clear ho0)
    refine hK.out _ _ ((blk_cell BK431.out 0).trans rfl) (fun hHeld => ?_)
    clear hK K
    refine norm_ (a' := ?_) ?_ ?_
    rotate_left
    ·
     show Act.put _ (some 22) _ = _
     simp only [AP]
     rfl
    refine pS 5 17 (BM 11 63) ?_
    refine pS 6 23 (BM 11 127) ?_
    refine pS 7 24 (BM 11 255) ?_
    refine one_ (i := 8) (N := some 7) (BM 11 511) rfl rfl (one_of HT_.out (by kernel_rfl)) (by decide) (fun K hK => ?_)
    refine box_step ?hg (N := 7) ?hd (cs := #[.slice none 0 0]) (t := 26) ?hr ?_; (case hd => rfl); (case hg => rfl); (case hr => exact z116_)
    intro gb441 hg w26 hbox hb
    have n0_ := Aside0.mk (Kd.V_below (Kd.V_elderB z99_ gb441 (Nat.le_of_eq hg.symm)) hb)
    have n1_ := Aside0.mk (Kd.R_below (rA HO434) hb)
    have n2_ := Aside0.mk (Kd.V_below (Kd.V_elderB z101_ gb441 (Nat.le_of_eq hg.symm)) hb)
    have n3_ := Aside0.mk (kK BK420 hb)
    have n4_ := Aside0.mk (kK BK421 hb)
    have n5_ := Aside0.mk (IsS92.below z10_ hb)
    have n6_ := Aside0.mk (kK BK431 hb)
    have n7_ := Aside0.mk (below_step z9_ hb)
    have n8_ := Aside0.mk (hbox)
    have n9_ := Aside0.mk ((by rw [hg]; exact (below_size z9_) : w.heap.size ≤ gb441))
    have n10_ := Aside0.mk ((by rw [hg]; exact (below_size z9_) : w.heap.size ≤ gb441))
    have n11_ := Aside0.mk ((by rw [hg]; exact Nat.ne_of_lt (blk_lt (g := gb420) (o := .cells #[.slice none 0 0] 26 (0, 0)) (bA BK420)) : gb420 ≠ gb441))
    have n12_ := Aside0.mk ((by rw [hg]; exact Nat.ne_of_gt (blk_lt (g := gb420) (o := .cells #[.slice none 0 0] 26 (0, 0)) (bA BK420)) : gb441 ≠ gb420))
    have n13_ := Aside0.mk ((by rw [hg]; exact Nat.ne_of_lt (blk_lt (g := gb421) (o := .cells #[.slice none 0 0] 26 (0, 0)) (bA BK421)) : gb421 ≠ gb441))
    have n14_ := Aside0.mk ((by rw [hg]; exact Nat.ne_of_gt (blk_lt (g := gb421) (o := .cells #[.slice none 0 0] 26 (0, 0)) (bA BK421)) : gb441 ≠ gb421))
    have n15_ := Aside0.mk ((by rw [hg]; exact Nat.ne_of_lt (blk_lt (g := gb431) (o := .cells #[.slice Ao16 t426.length co16] 26 (0, 0)) (bA BK431)) : gb431 ≠ gb441))
    have n16_ := Aside0.mk ((by rw [hg]; exact Nat.ne_of_gt (blk_lt (g := gb431) (o := .cells #[.slice Ao16 t426.length co16] 26 (0, 0)) (bA BK431)) : gb441 ≠ gb431))
    have n17_ := Aside0.mk ((by rw [hg]; exact Nat.ne_of_lt (IsS92.lt (show IsS92 w _ gb422 l0 t435 t436 from z10_)) : gb422 ≠ gb441))
    have n18_ := Aside0.mk ((by rw [hg]; exact Nat.ne_of_gt (IsS92.lt (show IsS92 w _ gb422 l0 t435 t436 from z10_)) : gb441 ≠ gb422))
    clear HO428; clear HO434; clear HO439; clear BK420; clear BK421; clear HI422; clear BK431; clear HB
    have HO428 := n0_
    have HO434 := n1_
    have HO439 := n2_
    have BK420 := n3_
    have BK421 := n4_
    have HI422 := n5_
    have BK431 := n6_
    have HB := n7_
    have BK441 := n8_
    have GW441 := n9_
    have GE441 := n10_
    have NB420_441 := n11_
    have NB441_420 := n12_
    have NB421_441 := n13_
    have NB441_421 := n14_
    have NB431_441 := n15_
    have NB441_431 := n16_
    have NB422_441 := n17_
    have NB441_422 := n18_
    clear n0_ n1_ n2_ n3_ n4_ n5_ n6_ n7_ n8_ n9_ n10_ n11_ n12_ n13_ n14_ n15_ n16_ n17_ n18_
    clear hb hbox hg
    refine hK.out _ _ ((blk_cell BK431.out 0).trans rfl) (fun hHeld => ?_)
    clear hK K
    refine norm_ (a' := ?_) ?_ ?_
    rotate_left
    ·
     show Act.put _ (some 7) _ = _
     simp only [AP]
     rfl
    exact norm_ (by simp only [putAll, Act.put, List.setIfInBounds_toArray, List.set_cons_zero, List.set_cons_succ]) (hCont (.slice Ao24 t432.length co24, v438, gb441) _ ⟨hHeld, z41_, z60_, z40_, (bA BK420), (bA BK421), (bA BK431), (bA BK441), GW441.out, GE441.out, NB422_441.out, NB441_422.out, NB420_441.out, NB441_420.out, NB421_441.out, NB441_421.out, NB431_441.out, NB441_431.out, z8_, z7_⟩)
   ·
    skip
    refine box_step ?hg (N := 7) ?hd (cs := #[.slice none 0 0]) (t := 26) ?hr ?_; (case hd => rfl); (case hg => rfl); (case hr => exact z116_)
    intro gb441 hg w24 hbox hb
    have n0_ := Aside0.mk (Kd.V_below (Kd.V_elderB z99_ gb441 (Nat.le_of_eq hg.symm)) hb)
    have n1_ := Aside0.mk (Kd.R_below (rA HO434) hb)
    have n2_ := Aside0.mk (kK BK420 hb)
    have n3_ := Aside0.mk (kK BK421 hb)
    have n4_ := Aside0.mk (IsS92.below z10_ hb)
    have n5_ := Aside0.mk (kK BK431 hb)
    have n6_ := Aside0.mk (below_step z9_ hb)
    have n7_ := Aside0.mk (hbox)
    have n8_ := Aside0.mk ((by rw [hg]; exact (below_size z9_) : w.heap.size ≤ gb441))
    have n9_ := Aside0.mk ((by rw [hg]; exact (below_size z9_) : w.heap.size ≤ gb441))
    have n10_ := Aside0.mk ((by rw [hg]; exact Nat.ne_of_lt (blk_lt (g := gb420) (o := .cells #[.slice none 0 0] 26 (0, 0)) (bA BK420)) : gb420 ≠ gb441))
    have n11_ := Aside0.mk ((by rw [hg]; exact Nat.ne_of_gt (blk_lt (g := gb420) (o := .cells #[.slice none 0 0] 26 (0, 0)) (bA BK420)) : gb441 ≠ gb420))
    have n12_ := Aside0.mk ((by rw [hg]; exact Nat.ne_of_lt (blk_lt (g := gb421) (o := .cells #[.slice none 0 0] 26 (0, 0)) (bA BK421)) : gb421 ≠ gb441))
    have n13_ := Aside0.mk ((by rw [hg]; exact Nat.ne_of_gt (blk_lt (g := gb421) (o := .cells #[.slice none 0 0] 26 (0, 0)) (bA BK421)) : gb441 ≠ gb421))
    have n14_ := Aside0.mk ((by rw [hg]; exact Nat.ne_of_lt (blk_lt (g := gb431) (o := .cells #[.slice Ao16 t426.length co16] 26 (0, 0)) (bA BK431)) : gb431 ≠ gb441))
    have n15_ := Aside0.mk ((by rw [hg]; exact Nat.ne_of_gt (blk_lt (g := gb431) (o := .cells #[.slice Ao16 t426.length co16] 26 (0, 0)) (bA BK431)) : gb441 ≠ gb431))
    have n16_ := Aside0.mk ((by rw [hg]; exact Nat.ne_of_lt (IsS92.lt (show IsS92 w _ gb422 l0 t435 t436 from z10_)) : gb422 ≠ gb441))
    have n17_ := Aside0.mk ((by rw [hg]; exact Nat.ne_of_gt (IsS92.lt (show IsS92 w _ gb422 l0 t435 t436 from z10_)) : gb441 ≠ gb422))
    clear HO428; clear HO434; clear BK420; clear BK421; clear HI422; clear BK431; clear HB
    have HO428 := n0_
    have HO434 := n1_
    have BK420 := n2_
    have BK421 := n3_
    have HI422 := n4_
    have BK431 := n5_
    have HB := n6_
    have BK441 := n7_
    have GW441 := n8_
    have GE441 := n9_
    have NB420_441 := n10_
    have NB441_420 := n11_
    have NB421_441 := n12_
    have NB441_421 := n13_
    have NB431_441 := n14_
    have NB441_431 := n15_
    have NB422_441 := n16_
    have NB441_422 := n17_
    clear n0_ n1_ n2_ n3_ n4_ n5_ n6_ n7_ n8_ n9_ n10_ n11_ n12_ n13_ n14_ n15_ n16_ n17_
    clear hb hbox hg
    obtain ⟨Ao25, co25, eo25⟩ := Kd.R_slice HO434.out
    (first | subst eo25 | (injection eo25 with f1_ f2_ f3_; have f4_ := f1_.symm; have f5_ := f3_.symm; clear f1_ f2_ f3_; subst f4_; subst f5_))
    refine hK.out _ _ ((blk_cell BK431.out 0).trans rfl) (fun hHeld => ?_)
    clear hK K
    refine norm_ (a' := ?_) ?_ ?_
    rotate_left
    ·
     show Act.put _ (some 7) _ = _
     simp only [AP]
     rfl
    refine one_ (i := 4) (N := some 22) (BM 11 287) rfl rfl (one_of HT_.out (by kernel_rfl)) (by decide) (fun K hK => ?_)
    refine goes_ Try.func25 (by kernel_rfl) rfl #[.agg #[.slice Ao16 t426.length co16], .slice Ao25 t432.length co25] (by rfl) rfl rfl (by (try simp only [List.map_toArray, List.map_cons, List.map_nil]); first | done | rfl | (simp only [List.length_drop, List.length_take]; rfl)) ?_
    with_reducible refine (spec_ReflectionOf.calls k _ _ t426 _ _ t432 t437 t440 _ ?side1 ?side2 ?side3 ?side4 A5.out).mono ?_
    (case side1 => repeat (first | exact (Kd.V_reads' HO428.out).2.2 | (with_reducible refine Kd.C_alloc ?_ _) | (with_reducible refine Kd.C_drewN ?_ _) | (with_reducible refine Kd.C_drew ?_)))
    (case side2 => exact (Kd.V_reads' HO428.out).2.1)
    (case side3 => exact cC (Kd.R_reads' HO434.out).2.2)
    (case side4 => exact (Kd.R_reads' HO434.out).2.1)
    rintro e w26 ⟨v438, rfl, ho0, hb⟩
    refine ⟨_, rfl, ?_⟩
    have n0_ := Aside0.mk (Kd.V_below z99_ hb)
    have n1_ := Aside0.mk (Kd.R_below (rA HO434) hb)
    have n2_ := Aside0.mk (Kd.V_lower (Kd.V_mono (ok' := fun k_ => (w.heap.size ≤ k_) ∧ some k_ ≠ (.slice Ao25 t432.length co25 : Value).ownBlock ∧ k_ ≠ gb420 ∧ k_ ≠ gb421 ∧ k_ ≠ gb431 ∧ k_ ≠ gb441 ∧ k_ ≠ gb422) ho0 (fun k_ hk_ => ⟨(Nat.le_trans (below_size z7_) hk_), (Kd.fresh' (Kd.R_lt (rA HO434)) k_ hk_), (Kd.freshB (g := gb420) (o := .cells #[.slice none 0 0] 26 (0, 0)) (bA BK420) k_ hk_), (Kd.freshB (g := gb421) (o := .cells #[.slice none 0 0] 26 (0, 0)) (bA BK421) k_ hk_), (Kd.freshB (g := gb431) (o := .cells #[.slice Ao16 t426.length co16] 26 (0, 0)) (bA BK431) k_ hk_), (Kd.freshB (g := gb441) (o := .cells #[.slice none 0 0] 26 (0, 0)) (bA BK441) k_ hk_), (IsS92.fresh z8_ k_ hk_)⟩)) (below_size z7_))
    have n3_ := Aside0.mk (kK BK420 hb)
    have n4_ := Aside0.mk (kK BK421 hb)
    have n5_ := Aside0.mk (IsS92.below z8_ hb)
    have n6_ := Aside0.mk (kK BK431 hb)
    have n7_ := Aside0.mk (kK BK441 hb)
    have n8_ := Aside0.mk (below_step z7_ hb)
    clear HO428; clear HO434; clear BK420; clear BK421; clear HI422; clear BK431; clear BK441; clear HB
    have HO428 := n0_
    have HO434 := n1_
    have HO439 := n2_
    have BK420 := n3_
    have BK421 := n4_
    have HI422 := n5_
    have BK431 := n6_
    have BK441 := n7_
    have HB := n8_
    clear n0_ n1_ n2_ n3_ n4_ n5_ n6_ n7_ n8_
    (try clear hb)
    (try clear hb2)
    (try clear hk)
    (try clear hi)
    (try clear ho0)
    refine hK.out _ _ ((blk_cell BK431.out 0).trans rfl) (fun hHeld => ?_)
    clear hK K
    refine norm_ (a' := ?_) ?_ ?_
    rotate_left
    ·
     show Act.put _ (some 22) _ = _
     simp only [AP]
     rfl
    refine pS 5 17 (BM 11 319) ?_
    refine pS 6 23 (BM 11 383) ?_
    refine pS 7 24 (BM 11 511) ?_
    exact norm_ (by simp only [putAll, Act.put, List.setIfInBounds_toArray, List.set_cons_zero, List.set_cons_succ]) (hCont (.slice Ao25 t432.length co25, v438, gb441) _ ⟨hHeld, z41_, z60_, z42_, (bA BK420), (bA BK421), (bA BK431), (bA BK441), GW441.out, GE441.out, NB422_441.out, NB441_422.out, NB420_441.out, NB441_420.out, NB421_441.out, NB441_421.out, NB431_441.out, NB441_431.out, z8_, z7_⟩)
  ·
   skip
   refine box_step ?hg (N := 7) ?hd (cs := #[.slice none 0 0]) (t := 26) ?hr ?_; (case hd => rfl); (case hg => rfl); (case hr => exact z116_)
   intro gb441 hg w23 hbox hb
   have n0_ := Aside0.mk (Kd.V_below (Kd.V_elderB z99_ gb441 (Nat.le_of_eq hg.symm)) hb)
   have n1_ := Aside0.mk (kK BK420 hb)
   have n2_ := Aside0.mk (kK BK421 hb)
   have n3_ := Aside0.mk (IsS92.below z10_ hb)
   have n4_ := Aside0.mk (kK BK431 hb)
   have n5_ := Aside0.mk (below_step z9_ hb)
   have n6_ := Aside0.mk (hbox)
   have n7_ := Aside0.mk ((by rw [hg]; exact (below_size z9_) : w.heap.size ≤ gb441))
   have n8_ := Aside0.mk ((by rw [hg]; exact (below_size z9_) : w.heap.size ≤ gb441))
   have n9_ := Aside0.mk ((by rw [hg]; exact Nat.ne_of_lt (blk_lt (g := gb420) (o := .cells #[.slice none 0 0] 26 (0, 0)) (bA BK420)) : gb420 ≠ gb441))
   have n10_ := Aside0.mk ((by rw [hg]; exact Nat.ne_of_gt (blk_lt (g := gb420) (o := .cells #[.slice none 0 0] 26 (0, 0)) (bA BK420)) : gb441 ≠ gb420))
   have n11_ := Aside0.mk ((by rw [hg]; exact Nat.ne_of_lt (blk_lt (g := gb421) (o := .cells #[.slice none 0 0] 26 (0, 0)) (bA BK421)) : gb421 ≠ gb441))
   have n12_ := Aside0.mk ((by rw [hg]; exact Nat.ne_of_gt (blk_lt (g := gb421) (o := .cells #[.slice none 0 0] 26 (0, 0)) (bA BK421)) : gb441 ≠ gb421))
   have n13_ := Aside0.mk ((by rw [hg]; exact Nat.ne_of_lt (blk_lt (g := gb431) (o := .cells #[.slice Ao16 t426.length co16] 26 (0, 0)) (bA BK431)) : gb431 ≠ gb441))
   have n14_ := Aside0.mk ((by rw [hg]; exact Nat.ne_of_gt (blk_lt (g := gb431) (o := .cells #[.slice Ao16 t426.length co16] 26 (0, 0)) (bA BK431)) : gb441 ≠ gb431))
   have n15_ := Aside0.mk ((by rw [hg]; exact Nat.ne_of_lt (IsS92.lt (show IsS92 w _ gb422 l0 t429 t430 from z10_)) : gb422 ≠ gb441))
   have n16_ := Aside0.mk ((by rw [hg]; exact Nat.ne_of_gt (IsS92.lt (show IsS92 w _ gb422 l0 t429 t430 from z10_)) : gb441 ≠ gb422))
   clear HO428; clear BK420; clear BK421; clear HI422; clear BK431; clear HB
   have HO428 := n0_
   have BK420 := n1_
   have BK421 := n2_
   have HI422 := n3_
   have BK431 := n4_
   have HB := n5_
   have BK441 := n6_
   have GW441 := n7_
   have GE441 := n8_
   have NB420_441 := n9_
   have NB441_420 := n10_
   have NB421_441 := n11_
   have NB441_421 := n12_
   have NB431_441 := n13_
   have NB441_431 := n14_
   have NB422_441 := n15_
   have NB441_422 := n16_
   clear n0_ n1_ n2_ n3_ n4_ n5_ n6_ n7_ n8_ n9_ n10_ n11_ n12_ n13_ n14_ n15_ n16_
   clear hb hbox hg
   refine hK.out _ _ ((blk_cell BK431.out 0).trans rfl) (fun hHeld => ?_)
   clear hK K
   refine norm_ (a' := ?_) ?_ ?_
   rotate_left
   ·
    show Act.put _ (some 7) _ = _
    simp only [AP]
    rfl
   refine one_ (i := 3) (N := some 21) (BM 11 271) rfl rfl (one_of HT_.out (by kernel_rfl)) (by decide) (fun K hK => ?_)
   refine goes_ Try.func101 (by kernel_rfl) rfl #[.pointer (some ⟨gb422, 0, none⟩), .int .i64 t423] (by rfl) rfl rfl (by (try simp only [List.map_toArray, List.map_cons, List.map_nil]); first | done | rfl | (simp only [List.length_drop, List.length_take]; rfl)) ?_
   with_reducible refine (spec_l1Cur_vector.calls k gb422 l0 t429 t430 t423 t432 t435 t436 w _ ?side1 ?side2 A4.out).mono ?_
   (case side1 => exact z8_)
   (case side2 => exact z7_)
   rintro e w24 ⟨v433, rfl, ho0, hi, hb, hk⟩
   refine ⟨_, rfl, ?_⟩
   have n0_ := Aside0.mk (KeepBut.blk hk (g' := gb420) (o := .cells #[.slice none 0 0] 26 (0, 0)) (bA BK420) NB420_422.out (by simp))
   have n1_ := Aside0.mk (KeepBut.blk hk (g' := gb421) (o := .cells #[.slice none 0 0] 26 (0, 0)) (bA BK421) NB421_422.out (by simp))
   have n2_ := Aside0.mk (Kd.V_mono (Kd.V_told (Kd.V_oldK (Kd.V_mono (ok := fun k_ => ((((w.heap.size ≤ k_)) ∧ (k_ ≠ gb420 ∧ (k_ ≠ gb421 ∧ (k_ ≠ gb422 ∧ k_ ≠ gb431)))) ∧ k_ ≠ gb441)) z99_ (fun k_ hk_ => (⟨hk_, hk_.1.2.2.2.1⟩ : _ ∧ k_ ≠ gb422))) hk) (Kd.R_base ho0)) (fun _ h_ => h_.1))
   have n3_ := Aside0.mk (KeepBut.blk hk (g' := gb431) (o := .cells #[.slice Ao16 t426.length co16] 26 (0, 0)) (bA BK431) NB431_422.out (by simp))
   have n4_ := Aside0.mk (KeepBut.blk hk (g' := gb441) (o := .cells #[.slice none 0 0] 26 (0, 0)) (bA BK441) NB441_422.out (by simp))
   have n5_ := Aside0.mk (Kd.R_lower (Kd.R_newM (M := fun k_ => (w.heap.size ≤ k_)) ho0 (below_size z7_) (fun k_ h_ => h_)) (below_size z7_))
   have n6_ := Aside0.mk (hb)
   have n7_ := Aside0.mk (hi)
   clear BK420; clear BK421; clear HO428; clear BK431; clear BK441; clear HB; clear HI422
   have BK420 := n0_
   have BK421 := n1_
   have HO428 := n2_
   have BK431 := n3_
   have BK441 := n4_
   have HO434 := n5_
   have HB := n6_
   have HI422 := n7_
   clear n0_ n1_ n2_ n3_ n4_ n5_ n6_ n7_
   (try clear hb)
   (try clear hb2)
   (try clear hk)
   (try clear hi)
   (try clear ho0)
   obtain ⟨Ao25, co25, eo25⟩ := Kd.R_slice HO434.out
   (first | subst eo25 | (injection eo25 with f1_ f2_ f3_; have f4_ := f1_.symm; have f5_ := f3_.symm; clear f1_ f2_ f3_; subst f4_; subst f5_))
   refine hK.out _ _ ((blk_cell BK431.out 0).trans rfl) (fun hHeld => ?_)
   clear hK K
   refine norm_ (a' := ?_) ?_ ?_
   rotate_left
   ·
    show Act.put _ (some 21) _ = _
    simp only [AP]
    rfl
   refine one_ (i := 4) (N := some 22) (BM 11 287) rfl rfl (one_of HT_.out (by kernel_rfl)) (by decide) (fun K hK => ?_)
   refine goes_ Try.func25 (by kernel_rfl) rfl #[.agg #[.slice Ao16 t426.length co16], .slice Ao25 t432.length co25] (by rfl) rfl rfl (by (try simp only [List.map_toArray, List.map_cons, List.map_nil]); first | done | rfl | (simp only [List.length_drop, List.length_take]; rfl)) ?_
   with_reducible refine (spec_ReflectionOf.calls k _ _ t426 _ _ t432 t437 t440 _ ?side1 ?side2 ?side3 ?side4 A5.out).mono ?_
   (case side1 => repeat (first | exact (Kd.V_reads' HO428.out).2.2 | (with_reducible refine Kd.C_alloc ?_ _) | (with_reducible refine Kd.C_drewN ?_ _) | (with_reducible refine Kd.C_drew ?_)))
   (case side2 => exact (Kd.V_reads' HO428.out).2.1)
   (case side3 => exact cC (Kd.R_reads' HO434.out).2.2)
   (case side4 => exact (Kd.R_reads' HO434.out).2.1)
   rintro e w26 ⟨v438, rfl, ho0, hb⟩
   refine ⟨_, rfl, ?_⟩
   have n0_ := Aside0.mk (Kd.V_below z99_ hb)
   have n1_ := Aside0.mk (Kd.R_below (rA HO434) hb)
   have n2_ := Aside0.mk (Kd.V_lower (Kd.V_mono (ok' := fun k_ => (w.heap.size ≤ k_) ∧ some k_ ≠ (.slice Ao25 t432.length co25 : Value).ownBlock ∧ k_ ≠ gb420 ∧ k_ ≠ gb421 ∧ k_ ≠ gb431 ∧ k_ ≠ gb441 ∧ k_ ≠ gb422) ho0 (fun k_ hk_ => ⟨(Nat.le_trans (below_size z7_) hk_), (Kd.fresh' (Kd.R_lt (rA HO434)) k_ hk_), (Kd.freshB (g := gb420) (o := .cells #[.slice none 0 0] 26 (0, 0)) (bA BK420) k_ hk_), (Kd.freshB (g := gb421) (o := .cells #[.slice none 0 0] 26 (0, 0)) (bA BK421) k_ hk_), (Kd.freshB (g := gb431) (o := .cells #[.slice Ao16 t426.length co16] 26 (0, 0)) (bA BK431) k_ hk_), (Kd.freshB (g := gb441) (o := .cells #[.slice none 0 0] 26 (0, 0)) (bA BK441) k_ hk_), (IsS92.fresh z8_ k_ hk_)⟩)) (below_size z7_))
   have n3_ := Aside0.mk (kK BK420 hb)
   have n4_ := Aside0.mk (kK BK421 hb)
   have n5_ := Aside0.mk (IsS92.below z8_ hb)
   have n6_ := Aside0.mk (kK BK431 hb)
   have n7_ := Aside0.mk (kK BK441 hb)
   have n8_ := Aside0.mk (below_step z7_ hb)
   clear HO428; clear HO434; clear BK420; clear BK421; clear HI422; clear BK431; clear BK441; clear HB
   have HO428 := n0_
   have HO434 := n1_
   have HO439 := n2_
   have BK420 := n3_
   have BK421 := n4_
   have HI422 := n5_
   have BK431 := n6_
   have BK441 := n7_
   have HB := n8_
   clear n0_ n1_ n2_ n3_ n4_ n5_ n6_ n7_ n8_
   (try clear hb)
   (try clear hb2)
   (try clear hk)
   (try clear hi)
   (try clear ho0)
   refine hK.out _ _ ((blk_cell BK431.out 0).trans rfl) (fun hHeld => ?_)
   clear hK K
   refine norm_ (a' := ?_) ?_ ?_
   rotate_left
   ·
    show Act.put _ (some 22) _ = _
    simp only [AP]
    rfl
   refine pS 5 17 (BM 11 319) ?_
   refine pS 6 23 (BM 11 383) ?_
   refine pS 7 24 (BM 11 511) ?_
   exact norm_ (by simp only [putAll, Act.put, List.setIfInBounds_toArray, List.set_cons_zero, List.set_cons_succ]) (hCont (.slice Ao25 t432.length co25, v438, gb441) _ ⟨hHeld, z39_, z60_, z42_, (bA BK420), (bA BK421), (bA BK431), (bA BK441), GW441.out, GE441.out, NB422_441.out, NB441_422.out, NB420_441.out, NB441_420.out, NB421_441.out, NB441_421.out, NB431_441.out, NB441_431.out, z8_, z7_⟩)
 rintro ⟨v433, v438, gb441⟩ w27 ⟨hS_, h0_, h1_, h2_, h3_, h4_, h5_, h6_, h7_, h8_, h9_, h10_, h11_, h12_, h13_, h14_, h15_, h16_, h17_, h18_⟩
 have n0_ : Aside0 (Kd.V (Kd.slice 3 (Kd.int .i64)) 34 w27 w.heap.size (fun k_ => (w.heap.size ≤ k_) ∧ some k_ ≠ (v433 : Value).ownBlock ∧ k_ ≠ gb420 ∧ k_ ≠ gb421 ∧ k_ ≠ gb422 ∧ k_ ≠ gb431 ∧ k_ ≠ gb441) (.slice Ao16 t426.length co16) t426) := ⟨h0_⟩
 have n1_ : Aside0 (Kd.R (Kd.int .i64) 3 w27 w.heap.size (fun k_ => (w.heap.size ≤ k_)) v433 t432) := ⟨h1_⟩
 have n2_ : Aside0 (Kd.V (Kd.slice 3 (Kd.int .i64)) 34 w27 w.heap.size (fun k_ => (w.heap.size ≤ k_) ∧ some k_ ≠ (v433 : Value).ownBlock ∧ k_ ≠ gb420 ∧ k_ ≠ gb421 ∧ k_ ≠ gb422 ∧ k_ ≠ gb431 ∧ k_ ≠ gb441) v438 t437) := ⟨h2_⟩
 have n3_ : Aside0 (w27.heap[gb420]? = some (.cells #[.slice none 0 0] 26 (0, 0))) := ⟨h3_⟩
 have n4_ : Aside0 (w27.heap[gb421]? = some (.cells #[.slice none 0 0] 26 (0, 0))) := ⟨h4_⟩
 have n5_ : Aside0 (w27.heap[gb431]? = some (.cells #[.slice Ao16 t426.length co16] 26 (0, 0))) := ⟨h5_⟩
 have n6_ : Aside0 (w27.heap[gb441]? = some (.cells #[.slice none 0 0] 26 (0, 0))) := ⟨h6_⟩
 have n7_ : Aside0 (w.heap.size ≤ gb441) := ⟨h7_⟩
 have n8_ : Aside0 (w.heap.size ≤ gb441) := ⟨h8_⟩
 have n9_ : Aside0 (gb422 ≠ gb441) := ⟨h9_⟩
 have n10_ : Aside0 (gb441 ≠ gb422) := ⟨h10_⟩
 have n11_ : Aside0 (gb420 ≠ gb441) := ⟨h11_⟩
 have n12_ : Aside0 (gb441 ≠ gb420) := ⟨h12_⟩
 have n13_ : Aside0 (gb421 ≠ gb441) := ⟨h13_⟩
 have n14_ : Aside0 (gb441 ≠ gb421) := ⟨h14_⟩
 have n15_ : Aside0 (gb431 ≠ gb441) := ⟨h15_⟩
 have n16_ : Aside0 (gb441 ≠ gb431) := ⟨h16_⟩
 have n17_ : Aside0 (IsS92 w w27 gb422 l0 t435 t436) := ⟨h17_⟩
 have n18_ : Aside0 (Below w.heap.size w w27) := ⟨h18_⟩
 clear HO428; clear BK420; clear BK421; clear BK431; clear HI422; clear HB
 clear h0_ h1_ h2_ h3_ h4_ h5_ h6_ h7_ h8_ h9_ h10_ h11_ h12_ h13_ h14_ h15_ h16_ h17_ h18_
 have HO428 := n0_
 have HO434 := n1_
 have HO439 := n2_
 have BK420 := n3_
 have BK421 := n4_
 have BK431 := n5_
 have BK441 := n6_
 have GW441 := n7_
 have GE441 := n8_
 have NB422_441 := n9_
 have NB441_422 := n10_
 have NB420_441 := n11_
 have NB441_420 := n12_
 have NB421_441 := n13_
 have NB441_421 := n14_
 have NB431_441 := n15_
 have NB441_431 := n16_
 have HI422 := n17_
 have HB := n18_
 clear n0_ n1_ n2_ n3_ n4_ n5_ n6_ n7_ n8_ n9_ n10_ n11_ n12_ n13_ n14_ n15_ n16_ n17_ n18_
 have hHeld : w27.cell? ⟨gb431, 0, none⟩ = some (.slice Ao16 t426.length co16) := hS_
 obtain ⟨Ao28, co28, eo28⟩ := Kd.V_slice HO439.out
 (first | subst eo28 | (injection eo28 with f1_ f2_ f3_; have f4_ := f1_.symm; have f5_ := f3_.symm; clear f1_ f2_ f3_; subst f4_; subst f5_))
 refine norm_ (a' := ?_) ?_ ?_
 rotate_left
 ·
  simp only [putAll, Act.put, List.setIfInBounds_toArray, List.set_cons_zero, List.set_cons_succ]
  rfl
 refine one_ (i := 9) (N := none) (BM 11 1023) rfl rfl (one_of HT_.out (by kernel_rfl)) (by decide) (fun K hK => ?_)
 have hs29 : w27.cell? ⟨gb441, 0, none⟩ = some (.slice none 0 0) := (blk_cell BK441.out 0).trans rfl
 have hfs29 := blk_frozen BK441.out 0
 have hns29_0 := NB420_441.out
 have hns29_1 := NB421_441.out
 have hns29_2 := NB431_441.out
 have hms29_0 := NB441_420.out
 have hms29_1 := NB441_421.out
 have hms29_2 := NB441_431.out
 refine skip_ (w1 := ?_) (by rfl) rfl ?_ ?_
 rotate_left
 ·
  go_simp
  rfl
 refine hK.out _ _ (((cell_far (p := ⟨gb441, _, none⟩) NB431_441.out _).trans (hHeld))) (fun hHeld => ?_)
 clear hK K
 refine pS 10 8 (BM 11 2047) ?_
 refine done_ (done_of HT_.out (by kernel_rfl)) ?_
 by_cases c6 : t440 = true
 ·
  subst c6
  have H1 : ((spec_l1Cur_one.f l0 t435 t436 4).bind fun bt442 => (if bt442.1 = true then ((spec_l1Cur_matrix.f k l0 bt442.2.1 bt442.2.2 t423).bind fun bt445 => (some (bt445.1, t426))) else (some (t437, t426)))) = some (r1, r2) := by rw [if_pos rfl] at H; exact H
  clear H
  have H := H1
  clear H1
  replace H := Option.bind_eq_some_iff.mp H
  obtain ⟨⟨t442, t443, t444⟩, A70, H⟩ := H
  replace H : (if t442 = true then ((spec_l1Cur_matrix.f k l0 t443 t444 t423).bind fun bt445 => (some (bt445.1, t426))) else (some (t437, t426))) = some (r1, r2) := H
  have A7 := Aside0.mk A70
  clear A70
  by_cases c8 : t442 = true
  ·
   subst c8
   have H1 : ((spec_l1Cur_matrix.f k l0 t443 t444 t423).bind fun bt445 => (some (bt445.1, t426))) = some (r1, r2) := by rw [if_pos rfl] at H; exact H
   clear H
   have H := H1
   clear H1
   replace H := Option.bind_eq_some_iff.mp H
   obtain ⟨⟨t445, t448, t449⟩, A90, H⟩ := H
   replace H : (some (t445, t426)) = some (r1, r2) := H
   have A9 := Aside0.mk A90
   clear A90
   simp only [Option.some.injEq, Prod.mk.injEq] at H
   obtain ⟨rfl, rfl⟩ := H
   try go_wp2_with (first | (go_at_call 90; (with_reducible refine (spec_l1Cur_one.calls gb422 l0 t435 t436 4 true t443 t444 w _ ?side1 ?side2 A7.out).mono ?_); (case side1 => exact z8_); (case side2 => exact z7_); rintro e w30 ⟨rfl, hi, hb, hk⟩; have n0_ := Aside0.mk (KeepBut.blk hk (g' := gb420) (o := .cells #[.slice none 0 0] 26 (0, 0)) z28_ NB420_422.out (by simp)); have n1_ := Aside0.mk (KeepBut.blk hk (g' := gb421) (o := .cells #[.slice none 0 0] 26 (0, 0)) z27_ NB421_422.out (by simp)); have n2_ := Aside0.mk (Kd.V_mono (Kd.V_keep (Kd.V_mono (ok := fun k_ => (((w.heap.size ≤ k_)) ∧ (some k_ ≠ (v433 : Value).ownBlock ∧ (k_ ≠ gb420 ∧ (k_ ≠ gb421 ∧ (k_ ≠ gb422 ∧ (k_ ≠ gb431 ∧ k_ ≠ gb441))))))) (by (with_reducible repeat (first | apply Kd.V_alloc | apply Kd.V_drewN | apply Kd.V_drew)); exact (Kd.V_mono (Kd.V_far (p := ⟨gb441, 0, none⟩) (Kd.V_mono HO428.out (fun k_ hk => (⟨hk, hk.2.2.2.2.2.2⟩ : _ ∧ k_ ≠ gb441))) (fun _ hk => hk.2) (.slice Ao28 t437.length co28)) (fun _ h_ => h_.1))) (fun k_ hk_ => (⟨hk_, hk_.2.2.2.2.1⟩ : _ ∧ k_ ≠ gb422))) hk (fun _ h => h.2)) (fun _ h => h.1)); have n3_ := Aside0.mk (KeepBut.blk hk (g' := gb431) (o := .cells #[.slice Ao16 t426.length co16] 26 (0, 0)) z29_ NB431_422.out (by simp)); have n4_ := Aside0.mk (Kd.R_mono (Kd.R_keep (IsS92.apart (show IsS92 w _ gb422 l0 t435 t436 from z8_) (by (with_reducible repeat (first | apply Kd.R_alloc | apply Kd.R_drewN | apply Kd.R_drew)); exact (Kd.R_mono (Kd.R_far (p := ⟨gb441, 0, none⟩) (Kd.R_types HO434.out BK441.out (by decide)) (fun _ hk => hk.2) (.slice Ao28 t437.length co28)) (fun _ h_ => h_.1))) (by decide)) hk (fun _ h => h.2)) (fun _ h => h.1)); have n5_ := Aside0.mk (Kd.V_mono (Kd.V_keep (Kd.V_mono (ok := fun k_ => (((w.heap.size ≤ k_)) ∧ (some k_ ≠ (v433 : Value).ownBlock ∧ (k_ ≠ gb420 ∧ (k_ ≠ gb421 ∧ (k_ ≠ gb422 ∧ (k_ ≠ gb431 ∧ k_ ≠ gb441))))))) (by (with_reducible repeat (first | apply Kd.V_alloc | apply Kd.V_drewN | apply Kd.V_drew)); exact (Kd.V_mono (Kd.V_far (p := ⟨gb441, 0, none⟩) (Kd.V_mono HO439.out (fun k_ hk => (⟨hk, hk.2.2.2.2.2.2⟩ : _ ∧ k_ ≠ gb441))) (fun _ hk => hk.2) (.slice Ao28 t437.length co28)) (fun _ h_ => h_.1))) (fun k_ hk_ => (⟨hk_, hk_.2.2.2.2.1⟩ : _ ∧ k_ ≠ gb422))) hk (fun _ h => h.2)) (fun _ h => h.1)); have n6_ := Aside0.mk (KeepBut.blk hk (g' := gb441) (o := .cells #[.slice Ao28 t437.length co28] 26 (0, 0)) z18_ NB441_422.out (by simp)); have n7_ := Aside0.mk (hb); have n8_ := Aside0.mk (hi); clear BK420; clear BK421; clear HO428; clear BK431; clear HO434; clear HO439; clear BK441; clear HB; clear HI422; have BK420 := n0_; have BK421 := n1_; have HO428 := n2_; have BK431 := n3_; have HO434 := n4_; have HO439 := n5_; have BK441 := n6_; have HB := n7_; have HI422 := n8_; clear n0_ n1_ n2_ n3_ n4_ n5_ n6_ n7_ n8_; (try clear hb); (try clear hb2); (try clear hk); (try clear hi)))
   have n0_ := Aside0.mk (Kd.V_drew HO428.out)
   have n1_ := Aside0.mk (Kd.R_drew HO434.out)
   have n2_ := Aside0.mk (Kd.V_drew HO439.out)
   have n3_ := Aside0.mk (blk_drew BK420.out)
   have n4_ := Aside0.mk (blk_drew BK421.out)
   have n5_ := Aside0.mk (blk_drew BK431.out)
   have n6_ := Aside0.mk (blk_drew BK441.out)
   have n7_ := Aside0.mk (IsS92.drew HI422.out)
   have n8_ := Aside0.mk (below_drew1 HB.out)
   clear HO428; clear HO434; clear HO439; clear BK420; clear BK421; clear BK431; clear BK441; clear HI422; clear HB
   have HO428 := n0_
   have HO434 := n1_
   have HO439 := n2_
   have BK420 := n3_
   have BK421 := n4_
   have BK431 := n5_
   have BK441 := n6_
   have HI422 := n7_
   have HB := n8_
   clear n0_ n1_ n2_ n3_ n4_ n5_ n6_ n7_ n8_
   refine start_ (n := 6) (S := fun w' => w'.cell? ⟨gb431, 0, none⟩ = some (.slice Ao16 t426.length co16)) (ds := []) #[O,O,O,O,O,O] (by kernel_rfl) rfl rfl ((blk_cell BK431.out 0).trans rfl) (fun hHeld => ?_)
   generalize w30.drew = w31 at HO428 HO434 HO439 BK420 BK421 BK431 BK441 HI422 HB hHeld ⊢
   refine pure_ (i := 0) (N := some 33) (v := ?_) (a' := ?_) (BM 6 1) rfl rfl (by kernel_rfl) (fun _ _ _ h => h) (Or.inl ⟨by rfl, ?_⟩) ?_ ?_
   rotate_left
   ·
    intro w'
    go_simp
    with_reducible rfl
   rotate_left
   ·
    simp only [AP]
    rfl
   refine pure_ (i := 1) (N := some 34) (v := ?_) (a' := ?_) (BM 6 3) rfl rfl (by kernel_rfl) (fun _ _ _ h => h) (Or.inl ⟨by rfl, ?_⟩) ?_ ?_
   rotate_left
   ·
    intro w'
    go_simp
    with_reducible rfl
   rotate_left
   ·
    simp only [AP]
    rfl
   refine take_ (i := 3) (N := some 36) (v := ?_) (a' := ?_) (BM 6 11) rfl rfl (by kernel_rfl) (fun _ _ _ h => h) (Or.inl ⟨by rfl, ?_⟩) hHeld ?_ ?_
   rotate_left
   ·
    intro w' s0
    go_simp
    with_reducible rfl
   rotate_left
   ·
    simp only [AP]
    rfl
   refine one_ (i := 2) (N := some 35) (BM 6 15) rfl rfl (by kernel_rfl) (by decide) (fun K hK => ?_)
   refine goes_ Try.func91 (by kernel_rfl) rfl #[.pointer (some ⟨gb422, 0, none⟩), .int .i64 t423] (by rfl) rfl rfl (by (try simp only [List.map_toArray, List.map_cons, List.map_nil]); first | done | rfl | (simp only [List.length_drop, List.length_take]; rfl)) ?_
   with_reducible refine (spec_l1Cur_matrix.calls k gb422 l0 t443 t444 t423 t445 t448 t449 w _ ?side1 ?side2 A9.out).mono ?_
   (case side1 => exact z8_)
   (case side2 => exact z7_)
   rintro e w32 ⟨v446, rfl, ho0, hi, hb, hk⟩
   refine ⟨_, rfl, ?_⟩
   have n0_ := Aside0.mk (KeepBut.blk hk (g' := gb420) (o := .cells #[.slice none 0 0] 26 (0, 0)) (bA BK420) NB420_422.out (by simp))
   have n1_ := Aside0.mk (KeepBut.blk hk (g' := gb421) (o := .cells #[.slice none 0 0] 26 (0, 0)) (bA BK421) NB421_422.out (by simp))
   have n2_ := Aside0.mk (Kd.V_mono (Kd.V_keep (Kd.V_mono (ok := fun k_ => (((w.heap.size ≤ k_)) ∧ (some k_ ≠ (v433 : Value).ownBlock ∧ (k_ ≠ gb420 ∧ (k_ ≠ gb421 ∧ (k_ ≠ gb422 ∧ (k_ ≠ gb431 ∧ k_ ≠ gb441))))))) z99_ (fun k_ hk_ => (⟨hk_, hk_.2.2.2.2.1⟩ : _ ∧ k_ ≠ gb422))) hk (fun _ h => h.2)) (fun _ h => h.1))
   have n3_ := Aside0.mk (KeepBut.blk hk (g' := gb431) (o := .cells #[.slice Ao16 t426.length co16] 26 (0, 0)) (bA BK431) NB431_422.out (by simp))
   have n4_ := Aside0.mk (Kd.R_mono (Kd.R_keep (IsS92.apart (show IsS92 w _ gb422 l0 t443 t444 from z8_) (rA HO434) (by decide)) hk (fun _ h => h.2)) (fun _ h => h.1))
   have n5_ := Aside0.mk (Kd.V_mono (Kd.V_keep (Kd.V_mono (ok := fun k_ => (((w.heap.size ≤ k_)) ∧ (some k_ ≠ (v433 : Value).ownBlock ∧ (k_ ≠ gb420 ∧ (k_ ≠ gb421 ∧ (k_ ≠ gb422 ∧ (k_ ≠ gb431 ∧ k_ ≠ gb441))))))) z101_ (fun k_ hk_ => (⟨hk_, hk_.2.2.2.2.1⟩ : _ ∧ k_ ≠ gb422))) hk (fun _ h => h.2)) (fun _ h => h.1))
   have n6_ := Aside0.mk (KeepBut.blk hk (g' := gb441) (o := .cells #[.slice Ao28 t437.length co28] 26 (0, 0)) (bA BK441) NB441_422.out (by simp))
   have n7_ := Aside0.mk (Kd.V_lower (Kd.V_mono (ok' := fun k_ => (w.heap.size ≤ k_) ∧ some k_ ≠ (v433 : Value).ownBlock ∧ k_ ≠ gb420 ∧ k_ ≠ gb421 ∧ k_ ≠ gb431 ∧ k_ ≠ gb441 ∧ k_ ≠ gb422) ho0 (fun k_ hk_ => ⟨(Nat.le_trans (below_size z7_) hk_), (Kd.fresh' (Kd.R_lt (rA HO434)) k_ hk_), (Kd.freshB (g := gb420) (o := .cells #[.slice none 0 0] 26 (0, 0)) (bA BK420) k_ hk_), (Kd.freshB (g := gb421) (o := .cells #[.slice none 0 0] 26 (0, 0)) (bA BK421) k_ hk_), (Kd.freshB (g := gb431) (o := .cells #[.slice Ao16 t426.length co16] 26 (0, 0)) (bA BK431) k_ hk_), (Kd.freshB (g := gb441) (o := .cells #[.slice Ao28 t437.length co28] 26 (0, 0)) (bA BK441) k_ hk_), (IsS92.fresh z8_ k_ hk_)⟩)) (below_size z7_))
   have n8_ := Aside0.mk (hb)
   have n9_ := Aside0.mk (hi)
   clear BK420; clear BK421; clear HO428; clear BK431; clear HO434; clear HO439; clear BK441; clear HB; clear HI422
   have BK420 := n0_
   have BK421 := n1_
   have HO428 := n2_
   have BK431 := n3_
   have HO434 := n4_
   have HO439 := n5_
   have BK441 := n6_
   have HO447 := n7_
   have HB := n8_
   have HI422 := n9_
   clear n0_ n1_ n2_ n3_ n4_ n5_ n6_ n7_ n8_ n9_
   (try clear hb)
   (try clear hb2)
   (try clear hk)
   (try clear hi)
   (try clear ho0)
   obtain ⟨Ao33, co33, eo33⟩ := Kd.V_slice HO447.out
   (first | subst eo33 | (injection eo33 with f1_ f2_ f3_; have f4_ := f1_.symm; have f5_ := f3_.symm; clear f1_ f2_ f3_; subst f4_; subst f5_))
   refine hK.out _ _ ((blk_cell BK431.out 0).trans rfl) (fun hHeld => ?_)
   clear hK K
   refine norm_ (a' := ?_) ?_ ?_
   rotate_left
   ·
    show Act.put _ (some 35) _ = _
    simp only [AP]
    rfl
   refine one_ (i := 4) (N := none) (BM 6 31) rfl rfl (by kernel_rfl) (by decide) (fun K hK => ?_)
   have hs34 : w32.cell? ⟨gb420, 0, none⟩ = some (.slice none 0 0) := (blk_cell BK420.out 0).trans rfl
   have hfs34 := blk_frozen BK420.out 0
   have hns34_1 := NB421_420.out
   have hns34_2 := NB431_420.out
   have hns34_3 := NB441_420.out
   have hms34_1 := NB420_421.out
   have hms34_2 := NB420_431.out
   have hms34_3 := NB420_441.out
   refine skip_ (w1 := ?_) (by rfl) rfl ?_ ?_
   rotate_left
   ·
    go_simp
    rfl
   refine hK.out _ _ (((cell_far (p := ⟨gb420, _, none⟩) NB431_420.out _).trans (hHeld))) (fun hHeld => ?_)
   clear hK K
   refine one_ (i := 5) (N := none) (BM 6 63) rfl rfl (by kernel_rfl) (by decide) (fun K hK => ?_)
   have hs35 : w32.cell? ⟨gb421, 0, none⟩ = some (.slice none 0 0) := (blk_cell BK421.out 0).trans rfl
   have hfs35 := blk_frozen BK421.out 0
   have hns35_0 := NB420_421.out
   have hns35_2 := NB431_421.out
   have hns35_3 := NB441_421.out
   have hms35_0 := NB421_420.out
   have hms35_2 := NB421_431.out
   have hms35_3 := NB421_441.out
   refine skip_ (w1 := ?_) (by rfl) rfl ?_ ?_
   rotate_left
   ·
    go_simp
    rfl
   refine hK.out _ _ (((cell_far (p := ⟨gb421, _, none⟩) NB431_421.out _).trans (hHeld))) (fun hHeld => ?_)
   clear hK K
   refine done_ (by kernel_rfl) ?_
   try go_wp2
   refine bodyPost_ret (results_cc rfl _ _ gb420 gb421 26 26 #[.slice Ao33 t445.length co33] #[.slice Ao16 t426.length co16] (0, 0) (0, 0) _ _ rfl z4_ Try.underlying26 rfl (by kernel_rfl) rfl z5_ Try.underlying26 rfl (by kernel_rfl)) rfl ?_
   exact ⟨_, _, e1, by (with_reducible repeat (first | apply Kd.V_alloc | apply Kd.V_drewN | apply Kd.V_drew)); exact Kd.V_mono (Kd.V_far (p := ⟨gb421, 0, none⟩) (Kd.V_far (p := ⟨gb420, 0, none⟩) (Kd.V_mono (Kd.V_mono HO447.out (fun k_ hk => (⟨hk, hk.2.2.1⟩ : _ ∧ k_ ≠ gb420))) (fun k_ hk => (⟨hk, hk.1.2.2.2.1⟩ : _ ∧ k_ ≠ gb421))) (fun _ hk => hk.1.2) (.slice Ao33 t445.length co33)) (fun _ hk => hk.2) (.slice Ao16 t426.length co16)) (fun _ hk => hk.1.1.1), by (with_reducible repeat (first | apply Kd.V_alloc | apply Kd.V_drewN | apply Kd.V_drew)); exact Kd.V_mono (Kd.V_far (p := ⟨gb421, 0, none⟩) (Kd.V_far (p := ⟨gb420, 0, none⟩) (Kd.V_mono (Kd.V_mono HO428.out (fun k_ hk => (⟨hk, hk.2.2.1⟩ : _ ∧ k_ ≠ gb420))) (fun k_ hk => (⟨hk, hk.1.2.2.2.1⟩ : _ ∧ k_ ≠ gb421))) (fun _ hk => hk.1.2) (.slice Ao33 t445.length co33)) (fun _ hk => hk.2) (.slice Ao16 t426.length co16)) (fun _ hk => hk.1.1.1), z7_⟩
  ·
   replace c8 := Bool.eq_false_iff.mpr c8
   subst c8
   have H1 : (some (t437, t426)) = some (r1, r2) := by rw [if_neg (show ¬ (false = true) by decide)] at H; exact H
   clear H
   have H := H1
   clear H1
   simp only [Option.some.injEq, Prod.mk.injEq] at H
   obtain ⟨rfl, rfl⟩ := H
   try go_wp2_with (first | (go_at_call 90; (with_reducible refine (spec_l1Cur_one.calls gb422 l0 t435 t436 4 false t443 t444 w _ ?side1 ?side2 A7.out).mono ?_); (case side1 => exact z8_); (case side2 => exact z7_); rintro e w56 ⟨rfl, hi, hb, hk⟩; have n0_ := Aside0.mk (KeepBut.blk hk (g' := gb420) (o := .cells #[.slice none 0 0] 26 (0, 0)) z28_ NB420_422.out (by simp)); have n1_ := Aside0.mk (KeepBut.blk hk (g' := gb421) (o := .cells #[.slice none 0 0] 26 (0, 0)) z27_ NB421_422.out (by simp)); have n2_ := Aside0.mk (Kd.V_mono (Kd.V_keep (Kd.V_mono (ok := fun k_ => (((w.heap.size ≤ k_)) ∧ (some k_ ≠ (v433 : Value).ownBlock ∧ (k_ ≠ gb420 ∧ (k_ ≠ gb421 ∧ (k_ ≠ gb422 ∧ (k_ ≠ gb431 ∧ k_ ≠ gb441))))))) (by (with_reducible repeat (first | apply Kd.V_alloc | apply Kd.V_drewN | apply Kd.V_drew)); exact (Kd.V_mono (Kd.V_far (p := ⟨gb441, 0, none⟩) (Kd.V_mono HO428.out (fun k_ hk => (⟨hk, hk.2.2.2.2.2.2⟩ : _ ∧ k_ ≠ gb441))) (fun _ hk => hk.2) (.slice Ao28 t437.length co28)) (fun _ h_ => h_.1))) (fun k_ hk_ => (⟨hk_, hk_.2.2.2.2.1⟩ : _ ∧ k_ ≠ gb422))) hk (fun _ h => h.2)) (fun _ h => h.1)); have n3_ := Aside0.mk (KeepBut.blk hk (g' := gb431) (o := .cells #[.slice Ao16 t426.length co16] 26 (0, 0)) z29_ NB431_422.out (by simp)); have n4_ := Aside0.mk (Kd.R_mono (Kd.R_keep (IsS92.apart (show IsS92 w _ gb422 l0 t435 t436 from z8_) (by (with_reducible repeat (first | apply Kd.R_alloc | apply Kd.R_drewN | apply Kd.R_drew)); exact (Kd.R_mono (Kd.R_far (p := ⟨gb441, 0, none⟩) (Kd.R_types HO434.out BK441.out (by decide)) (fun _ hk => hk.2) (.slice Ao28 t437.length co28)) (fun _ h_ => h_.1))) (by decide)) hk (fun _ h => h.2)) (fun _ h => h.1)); have n5_ := Aside0.mk (Kd.V_mono (Kd.V_keep (Kd.V_mono (ok := fun k_ => (((w.heap.size ≤ k_)) ∧ (some k_ ≠ (v433 : Value).ownBlock ∧ (k_ ≠ gb420 ∧ (k_ ≠ gb421 ∧ (k_ ≠ gb422 ∧ (k_ ≠ gb431 ∧ k_ ≠ gb441))))))) (by (with_reducible repeat (first | apply Kd.V_alloc | apply Kd.V_drewN | apply Kd.V_drew)); exact (Kd.V_mono (Kd.V_far (p := ⟨gb441, 0, none⟩) (Kd.V_mono HO439.out (fun k_ hk => (⟨hk, hk.2.2.2.2.2.2⟩ : _ ∧ k_ ≠ gb441))) (fun _ hk => hk.2) (.slice Ao28 t437.length co28)) (fun _ h_ => h_.1))) (fun k_ hk_ => (⟨hk_, hk_.2.2.2.2.1⟩ : _ ∧ k_ ≠ gb422))) hk (fun _ h => h.2)) (fun _ h => h.1)); have n6_ := Aside0.mk (KeepBut.blk hk (g' := gb441) (o := .cells #[.slice Ao28 t437.length co28] 26 (0, 0)) z18_ NB441_422.out (by simp)); have n7_ := Aside0.mk (hb); have n8_ := Aside0.mk (hi); clear BK420; clear BK421; clear HO428; clear BK431; clear HO434; clear HO439; clear BK441; clear HB; clear HI422; have BK420 := n0_; have BK421 := n1_; have HO428 := n2_; have BK431 := n3_; have HO434 := n4_; have HO439 := n5_; have BK441 := n6_; have HB := n7_; have HI422 := n8_; clear n0_ n1_ n2_ n3_ n4_ n5_ n6_ n7_ n8_; (try clear hb); (try clear hb2); (try clear hk); (try clear hi)))
   have n0_ := Aside0.mk (Kd.V_drew HO428.out)
   have n1_ := Aside0.mk (Kd.R_drew HO434.out)
   have n2_ := Aside0.mk (Kd.V_drew HO439.out)
   have n3_ := Aside0.mk (blk_drew BK420.out)
   have n4_ := Aside0.mk (blk_drew BK421.out)
   have n5_ := Aside0.mk (blk_drew BK431.out)
   have n6_ := Aside0.mk (blk_drew BK441.out)
   have n7_ := Aside0.mk (IsS92.drew HI422.out)
   have n8_ := Aside0.mk (below_drew1 HB.out)
   clear HO428; clear HO434; clear HO439; clear BK420; clear BK421; clear BK431; clear BK441; clear HI422; clear HB
   have HO428 := n0_
   have HO434 := n1_
   have HO439 := n2_
   have BK420 := n3_
   have BK421 := n4_
   have BK431 := n5_
   have BK441 := n6_
   have HI422 := n7_
   have HB := n8_
   clear n0_ n1_ n2_ n3_ n4_ n5_ n6_ n7_ n8_
   refine start_ (n := 4) (S := fun w' => w'.cell? ⟨gb441, 0, none⟩ = some (.slice Ao28 t437.length co28) ∧ w'.cell? ⟨gb431, 0, none⟩ = some (.slice Ao16 t426.length co16)) (ds := []) #[false, false, false, false] (by kernel_rfl) rfl rfl ⟨(blk_cell BK441.out 0).trans rfl, (blk_cell BK431.out 0).trans rfl⟩ (fun hHeld => ?_)
   generalize w56.drew = w57 at HO428 HO434 HO439 BK420 BK421 BK431 BK441 HI422 HB hHeld ⊢
   refine take_ (i := 0) (N := some 31) (v := ?_) (a' := ?_) #[true, false, false, false] rfl rfl (by kernel_rfl) (fun _ _ _ h => h) (Or.inl ⟨by rfl, ?_⟩) hHeld ?_ ?_
   rotate_left
   ·
    rintro w' ⟨s0, s1⟩
    go_simp
    with_reducible rfl
   rotate_left
   ·
    simp only [AP]
    rfl
   refine take_ (i := 1) (N := some 32) (v := ?_) (a' := ?_) #[true, true, false, false] rfl rfl (by kernel_rfl) (fun _ _ _ h => h) (Or.inl ⟨by rfl, ?_⟩) hHeld ?_ ?_
   rotate_left
   ·
    rintro w' ⟨s0, s1⟩
    go_simp
    with_reducible rfl
   rotate_left
   ·
    simp only [AP]
    rfl
   refine one_ (i := 2) (N := none) #[true, true, true, false] rfl rfl (by kernel_rfl) (by decide) (fun K hK => ?_)
   have hs58 : w57.cell? ⟨gb420, 0, none⟩ = some (.slice none 0 0) := (blk_cell BK420.out 0).trans rfl
   have hfs58 := blk_frozen BK420.out 0
   have hns58_1 := NB421_420.out
   have hns58_2 := NB431_420.out
   have hns58_3 := NB441_420.out
   have hms58_1 := NB420_421.out
   have hms58_2 := NB420_431.out
   have hms58_3 := NB420_441.out
   refine skip_ (w1 := ?_) (by rfl) rfl ?_ ?_
   rotate_left
   ·
    go_simp
    rfl
   refine hK.out _ _ ⟨((cell_far (p := ⟨gb420, _, none⟩) NB441_420.out _).trans (hHeld.1)), ((cell_far (p := ⟨gb420, _, none⟩) NB431_420.out _).trans (hHeld.2))⟩ (fun hHeld => ?_)
   clear hK K
   refine one_ (i := 3) (N := none) #[true, true, true, true] rfl rfl (by kernel_rfl) (by decide) (fun K hK => ?_)
   have hs59 : w57.cell? ⟨gb421, 0, none⟩ = some (.slice none 0 0) := (blk_cell BK421.out 0).trans rfl
   have hfs59 := blk_frozen BK421.out 0
   have hns59_0 := NB420_421.out
   have hns59_2 := NB431_421.out
   have hns59_3 := NB441_421.out
   have hms59_0 := NB421_420.out
   have hms59_2 := NB421_431.out
   have hms59_3 := NB421_441.out
   refine skip_ (w1 := ?_) (by rfl) rfl ?_ ?_
   rotate_left
   ·
    go_simp
    rfl
   refine hK.out _ _ ⟨((cell_far (p := ⟨gb421, _, none⟩) NB441_421.out _).trans (hHeld.1)), ((cell_far (p := ⟨gb421, _, none⟩) NB431_421.out _).trans (hHeld.2))⟩ (fun hHeld => ?_)
   clear hK K
   refine done_ (by kernel_rfl) ?_
   try go_wp2
   refine bodyPost_ret (results_cc rfl _ _ gb420 gb421 26 26 #[.slice Ao28 t437.length co28] #[.slice Ao16 t426.length co16] (0, 0) (0, 0) _ _ rfl z4_ Try.underlying26 rfl (by kernel_rfl) rfl z5_ Try.underlying26 rfl (by kernel_rfl)) rfl ?_
   exact ⟨_, _, e1, by (with_reducible repeat (first | apply Kd.V_alloc | apply Kd.V_drewN | apply Kd.V_drew)); exact Kd.V_mono (Kd.V_far (p := ⟨gb421, 0, none⟩) (Kd.V_far (p := ⟨gb420, 0, none⟩) (Kd.V_mono (Kd.V_mono HO439.out (fun k_ hk => (⟨hk, hk.2.2.1⟩ : _ ∧ k_ ≠ gb420))) (fun k_ hk => (⟨hk, hk.1.2.2.2.1⟩ : _ ∧ k_ ≠ gb421))) (fun _ hk => hk.1.2) (.slice Ao28 t437.length co28)) (fun _ hk => hk.2) (.slice Ao16 t426.length co16)) (fun _ hk => hk.1.1.1), by (with_reducible repeat (first | apply Kd.V_alloc | apply Kd.V_drewN | apply Kd.V_drew)); exact Kd.V_mono (Kd.V_far (p := ⟨gb421, 0, none⟩) (Kd.V_far (p := ⟨gb420, 0, none⟩) (Kd.V_mono (Kd.V_mono HO428.out (fun k_ hk => (⟨hk, hk.2.2.1⟩ : _ ∧ k_ ≠ gb420))) (fun k_ hk => (⟨hk, hk.1.2.2.2.1⟩ : _ ∧ k_ ≠ gb421))) (fun _ hk => hk.1.2) (.slice Ao28 t437.length co28)) (fun _ hk => hk.2) (.slice Ao16 t426.length co16)) (fun _ hk => hk.1.1.1), z7_⟩
 ·
  replace c6 := Bool.eq_false_iff.mpr c6
  subst c6
  have H1 : ((spec_l1Cur_matrix.f k l0 t435 t436 t423).bind fun bt450 => (some (bt450.1, t426))) = some (r1, r2) := by rw [if_neg (show ¬ (false = true) by decide)] at H; exact H
  clear H
  have H := H1
  clear H1
  replace H := Option.bind_eq_some_iff.mp H
  obtain ⟨⟨t450, t453, t454⟩, A600, H⟩ := H
  replace H : (some (t450, t426)) = some (r1, r2) := H
  have A60 := Aside0.mk A600
  clear A600
  simp only [Option.some.injEq, Prod.mk.injEq] at H
  obtain ⟨rfl, rfl⟩ := H
  try go_wp2
  have n0_ : Aside0 (Kd.V (Kd.slice 3 (Kd.int .i64)) 34 (w27.setCell ⟨gb441, 0, none⟩ (.slice Ao28 t437.length co28)) w.heap.size (fun k_ => (w.heap.size ≤ k_) ∧ some k_ ≠ (v433 : Value).ownBlock ∧ k_ ≠ gb420 ∧ k_ ≠ gb421 ∧ k_ ≠ gb422 ∧ k_ ≠ gb431 ∧ k_ ≠ gb441) (.slice Ao16 t426.length co16) t426) := ⟨by (with_reducible repeat (first | apply Kd.V_alloc | apply Kd.V_drewN | apply Kd.V_drew)); exact Kd.V_mono (Kd.V_far (p := ⟨gb441, 0, none⟩) (Kd.V_mono HO428.out (fun k_ hk => (⟨hk, hk.2.2.2.2.2.2⟩ : _ ∧ k_ ≠ gb441))) (fun _ hk => hk.2) (.slice Ao28 t437.length co28)) (fun _ hk => ⟨hk.1.1, ⟨hk.1.2.1, ⟨hk.1.2.2.1, ⟨hk.1.2.2.2.1, ⟨hk.1.2.2.2.2.1, ⟨hk.1.2.2.2.2.2.1, hk.1.2.2.2.2.2.2⟩⟩⟩⟩⟩⟩)⟩
  have n1_ : Aside0 (Kd.R (Kd.int .i64) 3 (w27.setCell ⟨gb441, 0, none⟩ (.slice Ao28 t437.length co28)) w.heap.size (fun k_ => (w.heap.size ≤ k_)) v433 t432) := ⟨by (with_reducible repeat (first | apply Kd.R_alloc | apply Kd.R_drewN | apply Kd.R_drew)); exact Kd.R_mono (Kd.R_far (p := ⟨gb441, 0, none⟩) (Kd.R_types HO434.out BK441.out (by decide)) (fun _ hk => hk.2) (.slice Ao28 t437.length co28)) (fun _ hk => hk.1)⟩
  have n2_ : Aside0 (Kd.V (Kd.slice 3 (Kd.int .i64)) 34 (w27.setCell ⟨gb441, 0, none⟩ (.slice Ao28 t437.length co28)) w.heap.size (fun k_ => (w.heap.size ≤ k_) ∧ some k_ ≠ (v433 : Value).ownBlock ∧ k_ ≠ gb420 ∧ k_ ≠ gb421 ∧ k_ ≠ gb422 ∧ k_ ≠ gb431 ∧ k_ ≠ gb441) (.slice Ao28 t437.length co28) t437) := ⟨by (with_reducible repeat (first | apply Kd.V_alloc | apply Kd.V_drewN | apply Kd.V_drew)); exact Kd.V_mono (Kd.V_far (p := ⟨gb441, 0, none⟩) (Kd.V_mono HO439.out (fun k_ hk => (⟨hk, hk.2.2.2.2.2.2⟩ : _ ∧ k_ ≠ gb441))) (fun _ hk => hk.2) (.slice Ao28 t437.length co28)) (fun _ hk => ⟨hk.1.1, ⟨hk.1.2.1, ⟨hk.1.2.2.1, ⟨hk.1.2.2.2.1, ⟨hk.1.2.2.2.2.1, ⟨hk.1.2.2.2.2.2.1, hk.1.2.2.2.2.2.2⟩⟩⟩⟩⟩⟩)⟩
  have n3_ : Aside0 ((w27.setCell ⟨gb441, 0, none⟩ (.slice Ao28 t437.length co28)).heap[gb420]? = some (.cells #[.slice none 0 0] 26 (0, 0))) := ⟨z28_⟩
  have n4_ : Aside0 ((w27.setCell ⟨gb441, 0, none⟩ (.slice Ao28 t437.length co28)).heap[gb421]? = some (.cells #[.slice none 0 0] 26 (0, 0))) := ⟨z27_⟩
  have n5_ : Aside0 ((w27.setCell ⟨gb441, 0, none⟩ (.slice Ao28 t437.length co28)).heap[gb431]? = some (.cells #[.slice Ao16 t426.length co16] 26 (0, 0))) := ⟨z29_⟩
  have n6_ : Aside0 ((w27.setCell ⟨gb441, 0, none⟩ (.slice Ao28 t437.length co28)).heap[gb441]? = some (.cells #[.slice Ao28 t437.length co28] 26 (0, 0))) := ⟨z18_⟩
  have n7_ : Aside0 (IsS92 w (w27.setCell ⟨gb441, 0, none⟩ (.slice Ao28 t437.length co28)) gb422 l0 t435 t436) := ⟨z8_⟩
  have n8_ : Aside0 (Below w.heap.size w (w27.setCell ⟨gb441, 0, none⟩ (.slice Ao28 t437.length co28))) := ⟨z7_⟩
  (try clear HO428)
  (try clear HO434)
  (try clear HO439)
  (try clear BK420)
  (try clear BK421)
  (try clear BK431)
  (try clear BK441)
  (try clear HI422)
  (try clear HB)
  generalize (w27.setCell ⟨gb441, 0, none⟩ (.slice Ao28 t437.length co28)) = w81 at n0_ n1_ n2_ n3_ n4_ n5_ n6_ n7_ n8_ ⊢
  have HO428 := n0_
  have HO434 := n1_
  have HO439 := n2_
  have BK420 := n3_
  have BK421 := n4_
  have BK431 := n5_
  have BK441 := n6_
  have HI422 := n7_
  have HB := n8_
  clear n0_ n1_ n2_ n3_ n4_ n5_ n6_ n7_ n8_
  have n0_ := Aside0.mk (Kd.V_drew HO428.out)
  have n1_ := Aside0.mk (Kd.R_drew HO434.out)
  have n2_ := Aside0.mk (Kd.V_drew HO439.out)
  have n3_ := Aside0.mk (blk_drew BK420.out)
  have n4_ := Aside0.mk (blk_drew BK421.out)
  have n5_ := Aside0.mk (blk_drew BK431.out)
  have n6_ := Aside0.mk (blk_drew BK441.out)
  have n7_ := Aside0.mk (IsS92.drew HI422.out)
  have n8_ := Aside0.mk (below_drew1 HB.out)
  clear HO428; clear HO434; clear HO439; clear BK420; clear BK421; clear BK431; clear BK441; clear HI422; clear HB
  have HO428 := n0_
  have HO434 := n1_
  have HO439 := n2_
  have BK420 := n3_
  have BK421 := n4_
  have BK431 := n5_
  have BK441 := n6_
  have HI422 := n7_
  have HB := n8_
  clear n0_ n1_ n2_ n3_ n4_ n5_ n6_ n7_ n8_
  refine start_ (n := 6) (S := fun w' => w'.cell? ⟨gb431, 0, none⟩ = some (.slice Ao16 t426.length co16)) (ds := []) #[O,O,O,O,O,O] (by kernel_rfl) rfl rfl ((blk_cell BK431.out 0).trans rfl) (fun hHeld => ?_)
  generalize w81.drew = w82 at HO428 HO434 HO439 BK420 BK421 BK431 BK441 HI422 HB hHeld ⊢
  refine pure_ (i := 0) (N := some 33) (v := ?_) (a' := ?_) (BM 6 1) rfl rfl (by kernel_rfl) (fun _ _ _ h => h) (Or.inl ⟨by rfl, ?_⟩) ?_ ?_
  rotate_left
  ·
   intro w'
   go_simp
   with_reducible rfl
  rotate_left
  ·
   simp only [AP]
   rfl
  refine pure_ (i := 1) (N := some 34) (v := ?_) (a' := ?_) (BM 6 3) rfl rfl (by kernel_rfl) (fun _ _ _ h => h) (Or.inl ⟨by rfl, ?_⟩) ?_ ?_
  rotate_left
  ·
   intro w'
   go_simp
   with_reducible rfl
  rotate_left
  ·
   simp only [AP]
   rfl
  refine take_ (i := 3) (N := some 36) (v := ?_) (a' := ?_) (BM 6 11) rfl rfl (by kernel_rfl) (fun _ _ _ h => h) (Or.inl ⟨by rfl, ?_⟩) hHeld ?_ ?_
  rotate_left
  ·
   intro w' s0
   go_simp
   with_reducible rfl
  rotate_left
  ·
   simp only [AP]
   rfl
  refine one_ (i := 2) (N := some 35) (BM 6 15) rfl rfl (by kernel_rfl) (by decide) (fun K hK => ?_)
  refine goes_ Try.func91 (by kernel_rfl) rfl #[.pointer (some ⟨gb422, 0, none⟩), .int .i64 t423] (by rfl) rfl rfl (by (try simp only [List.map_toArray, List.map_cons, List.map_nil]); first | done | rfl | (simp only [List.length_drop, List.length_take]; rfl)) ?_
  with_reducible refine (spec_l1Cur_matrix.calls k gb422 l0 t435 t436 t423 t450 t453 t454 w _ ?side1 ?side2 A60.out).mono ?_
  (case side1 => exact z8_)
  (case side2 => exact z7_)
  rintro e w83 ⟨v451, rfl, ho0, hi, hb, hk⟩
  refine ⟨_, rfl, ?_⟩
  have n0_ := Aside0.mk (KeepBut.blk hk (g' := gb420) (o := .cells #[.slice none 0 0] 26 (0, 0)) (bA BK420) NB420_422.out (by simp))
  have n1_ := Aside0.mk (KeepBut.blk hk (g' := gb421) (o := .cells #[.slice none 0 0] 26 (0, 0)) (bA BK421) NB421_422.out (by simp))
  have n2_ := Aside0.mk (Kd.V_mono (Kd.V_keep (Kd.V_mono (ok := fun k_ => (((w.heap.size ≤ k_)) ∧ (some k_ ≠ (v433 : Value).ownBlock ∧ (k_ ≠ gb420 ∧ (k_ ≠ gb421 ∧ (k_ ≠ gb422 ∧ (k_ ≠ gb431 ∧ k_ ≠ gb441))))))) z99_ (fun k_ hk_ => (⟨hk_, hk_.2.2.2.2.1⟩ : _ ∧ k_ ≠ gb422))) hk (fun _ h => h.2)) (fun _ h => h.1))
  have n3_ := Aside0.mk (KeepBut.blk hk (g' := gb431) (o := .cells #[.slice Ao16 t426.length co16] 26 (0, 0)) (bA BK431) NB431_422.out (by simp))
  have n4_ := Aside0.mk (Kd.R_mono (Kd.R_keep (IsS92.apart (show IsS92 w _ gb422 l0 t435 t436 from z8_) (rA HO434) (by decide)) hk (fun _ h => h.2)) (fun _ h => h.1))
  have n5_ := Aside0.mk (Kd.V_mono (Kd.V_keep (Kd.V_mono (ok := fun k_ => (((w.heap.size ≤ k_)) ∧ (some k_ ≠ (v433 : Value).ownBlock ∧ (k_ ≠ gb420 ∧ (k_ ≠ gb421 ∧ (k_ ≠ gb422 ∧ (k_ ≠ gb431 ∧ k_ ≠ gb441))))))) z101_ (fun k_ hk_ => (⟨hk_, hk_.2.2.2.2.1⟩ : _ ∧ k_ ≠ gb422))) hk (fun _ h => h.2)) (fun _ h => h.1))
  have n6_ := Aside0.mk (KeepBut.blk hk (g' := gb441) (o := .cells #[.slice Ao28 t437.length co28] 26 (0, 0)) (bA BK441) NB441_422.out (by simp))
  have n7_ := Aside0.mk (Kd.V_lower (Kd.V_mono (ok' := fun k_ => (w.heap.size ≤ k_) ∧ some k_ ≠ (v433 : Value).ownBlock ∧ k_ ≠ gb420 ∧ k_ ≠ gb421 ∧ k_ ≠ gb431 ∧ k_ ≠ gb441 ∧ k_ ≠ gb422) ho0 (fun k_ hk_ => ⟨(Nat.le_trans (below_size z7_) hk_), (Kd.fresh' (Kd.R_lt (rA HO434)) k_ hk_), (Kd.freshB (g := gb420) (o := .cells #[.slice none 0 0] 26 (0, 0)) (bA BK420) k_ hk_), (Kd.freshB (g := gb421) (o := .cells #[.slice none 0 0] 26 (0, 0)) (bA BK421) k_ hk_), (Kd.freshB (g := gb431) (o := .cells #[.slice Ao16 t426.length co16] 26 (0, 0)) (bA BK431) k_ hk_), (Kd.freshB (g := gb441) (o := .cells #[.slice Ao28 t437.length co28] 26 (0, 0)) (bA BK441) k_ hk_), (IsS92.fresh z8_ k_ hk_)⟩)) (below_size z7_))
  have n8_ := Aside0.mk (hb)
  have n9_ := Aside0.mk (hi)
  clear BK420; clear BK421; clear HO428; clear BK431; clear HO434; clear HO439; clear BK441; clear HB; clear HI422
  have BK420 := n0_
  have BK421 := n1_
  have HO428 := n2_
  have BK431 := n3_
  have HO434 := n4_
  have HO439 := n5_
  have BK441 := n6_
  have HO452 := n7_
  have HB := n8_
  have HI422 := n9_
  clear n0_ n1_ n2_ n3_ n4_ n5_ n6_ n7_ n8_ n9_
  (try clear hb)
  (try clear hb2)
  (try clear hk)
  (try clear hi)
  (try clear ho0)
  obtain ⟨Ao84, co84, eo84⟩ := Kd.V_slice HO452.out
  (first | subst eo84 | (injection eo84 with f1_ f2_ f3_; have f4_ := f1_.symm; have f5_ := f3_.symm; clear f1_ f2_ f3_; subst f4_; subst f5_))
  refine hK.out _ _ ((blk_cell BK431.out 0).trans rfl) (fun hHeld => ?_)
  clear hK K
  refine norm_ (a' := ?_) ?_ ?_
  rotate_left
  ·
   show Act.put _ (some 35) _ = _
   simp only [AP]
   rfl
  refine one_ (i := 4) (N := none) (BM 6 31) rfl rfl (by kernel_rfl) (by decide) (fun K hK => ?_)
  have hs85 : w83.cell? ⟨gb420, 0, none⟩ = some (.slice none 0 0) := (blk_cell BK420.out 0).trans rfl
  have hfs85 := blk_frozen BK420.out 0
  have hns85_1 := NB421_420.out
  have hns85_2 := NB431_420.out
  have hns85_3 := NB441_420.out
  have hms85_1 := NB420_421.out
  have hms85_2 := NB420_431.out
  have hms85_3 := NB420_441.out
  refine skip_ (w1 := ?_) (by rfl) rfl ?_ ?_
  rotate_left
  ·
   go_simp
   rfl
  refine hK.out _ _ (((cell_far (p := ⟨gb420, _, none⟩) NB431_420.out _).trans (hHeld))) (fun hHeld => ?_)
  clear hK K
  refine one_ (i := 5) (N := none) (BM 6 63) rfl rfl (by kernel_rfl) (by decide) (fun K hK => ?_)
  have hs86 : w83.cell? ⟨gb421, 0, none⟩ = some (.slice none 0 0) := (blk_cell BK421.out 0).trans rfl
  have hfs86 := blk_frozen BK421.out 0
  have hns86_0 := NB420_421.out
  have hns86_2 := NB431_421.out
  have hns86_3 := NB441_421.out
  have hms86_0 := NB421_420.out
  have hms86_2 := NB421_431.out
  have hms86_3 := NB421_441.out
  refine skip_ (w1 := ?_) (by rfl) rfl ?_ ?_
  rotate_left
  ·
   go_simp
   rfl
  refine hK.out _ _ (((cell_far (p := ⟨gb421, _, none⟩) NB431_421.out _).trans (hHeld))) (fun hHeld => ?_)
  clear hK K
  refine done_ (by kernel_rfl) ?_
  try go_wp2
  refine bodyPost_ret (results_cc rfl _ _ gb420 gb421 26 26 #[.slice Ao84 t450.length co84] #[.slice Ao16 t426.length co16] (0, 0) (0, 0) _ _ rfl z4_ Try.underlying26 rfl (by kernel_rfl) rfl z5_ Try.underlying26 rfl (by kernel_rfl)) rfl ?_
  exact ⟨_, _, e1, by (with_reducible repeat (first | apply Kd.V_alloc | apply Kd.V_drewN | apply Kd.V_drew)); exact Kd.V_mono (Kd.V_far (p := ⟨gb421, 0, none⟩) (Kd.V_far (p := ⟨gb420, 0, none⟩) (Kd.V_mono (Kd.V_mono HO452.out (fun k_ hk => (⟨hk, hk.2.2.1⟩ : _ ∧ k_ ≠ gb420))) (fun k_ hk => (⟨hk, hk.1.2.2.2.1⟩ : _ ∧ k_ ≠ gb421))) (fun _ hk => hk.1.2) (.slice Ao84 t450.length co84)) (fun _ hk => hk.2) (.slice Ao16 t426.length co16)) (fun _ hk => hk.1.1.1), by (with_reducible repeat (first | apply Kd.V_alloc | apply Kd.V_drewN | apply Kd.V_drew)); exact Kd.V_mono (Kd.V_far (p := ⟨gb421, 0, none⟩) (Kd.V_far (p := ⟨gb420, 0, none⟩) (Kd.V_mono (Kd.V_mono HO428.out (fun k_ hk => (⟨hk, hk.2.2.1⟩ : _ ∧ k_ ≠ gb420))) (fun k_ hk => (⟨hk, hk.1.2.2.2.1⟩ : _ ∧ k_ ≠ gb421))) (fun _ hk => hk.1.2) (.slice Ao84 t450.length co84)) (fun _ hk => hk.2) (.slice Ao16 t426.length co16)) (fun _ hk => hk.1.1.1), z7_⟩

end Go.Proofs.Ytldkkfpodldbgaa.P
