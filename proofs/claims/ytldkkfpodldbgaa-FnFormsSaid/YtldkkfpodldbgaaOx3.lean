-- Written by a program of this session (wip/mkprint.py over the kit's print), out of the translation. Not trusted: Lean checks it.
import Derived.Test.YtldkkfpodldbgaaOx0
import Derived.Test.YtldkkfpodldbgaaOx1
import Derived.Test.YtldkkfpodldbgaaOx2
namespace Go.Proofs.Ytldkkfpodldbgaa.P
open Go.RowKit Go.Proofs.YtldkkfpodldbgaaW.PrintWords Go.Proofs.YtldkkfpodldbgaaW.PrintLast Go.Proofs.YtldkkfpodldbgaaW.PrintMore
attribute [local go_sem] max2_int min2_int max_two min_two max_three min_three max_four min_four   -- for this text's walks alone
set_option linter.unusedVariables false
set_option linter.unusedSimpArgs false

/-! ### spec_l1Cur_form: function 100 -/
mutual
def spec_l1Cur_form.l0 : Nat → Int → Int → List Int → Int → Int → List (List Int) → Option ((List (List Int)) × Int × Int)
 | 0, _, _, _, _, _, _ => none
 | k + 1, x20, x21, x1000, x1001, x1002, x230000 => if x21 < x20 then (if 0 ≤ x21 then (if x21 < (x230000.length : Int) then ((spec_l1Cur_among.f x1000 x1001 x1002 (([1, 1, (-1), 2, 0] : List Int))).bind fun bt234 => (if x21 < ((rd_L2 x230000 x21).length : Int) then (spec_l1Cur_form.l1 k x21 0 x20 x21 x1000 bt234.2.1 bt234.2.2 (x230000.set (x21 : Int).toNat ((rd_L2 x230000 x21).set (x21 : Int).toNat bt234.1))) else (none))) else (none)) else (none)) else (some (x230000, x1001, x1002))
def spec_l1Cur_form.l1 : Nat → Int → Int → Int → Int → List Int → Int → Int → List (List Int) → Option ((List (List Int)) × Int × Int)
 | 0, _, _, _, _, _, _, _, _ => none
 | k + 1, x6, x7, x20, x21, x1000, x1001, x1002, x230000 => if x7 < x6 then ((spec_l1Cur_among.f x1000 x1001 x1002 (([0, 0, 1, (-1), 2] : List Int))).bind fun bt243 => (if 0 ≤ x6 then (if x6 < (x230000.length : Int) then (if 0 ≤ x7 then (if x7 < ((rd_L2 x230000 x6).length : Int) then ((some (x230000.set (x6 : Int).toNat ((rd_L2 x230000 x6).set (x7 : Int).toNat bt243.1) : List (List Int))).bind fun y249 => (if x7 < (x230000.length : Int) then (if x6 < ((rd_L2 y249 x7).length : Int) then (spec_l1Cur_form.l1 k x6 (wrap64 (x7 + 1)) x20 x21 x1000 bt243.2.1 bt243.2.2 (y249.set (x7 : Int).toNat ((rd_L2 y249 x7).set (x6 : Int).toNat bt243.1))) else (none)) else (none))) else (none)) else (none)) else (none)) else (none))) else (spec_l1Cur_form.l0 k x20 (wrap64 (x21 + 1)) x1000 x1001 x1002 x230000)
end
def spec_l1Cur_form.f (k : Nat) (s0_0 : List Int) (s0_1 : Int) (s0_2 : Int) (a1 : Int) : Option ((List (List Int)) × Int × Int) := (spec_l1Cur_one.f s0_0 s0_1 s0_2 12).bind fun bt216 => (if bt216.1 = true then ((spec_l1Cur_matrix.f k s0_0 bt216.2.1 bt216.2.2 a1).bind fun bt219 => (some (bt219.1, bt219.2.1, bt219.2.2))) else ((spec_l1Least.f a1 4).bind fun t224 => ((spec_l1Most.f 1 t224).bind fun t225 => ((spec_foUnit.f k t225).bind fun t226 => (spec_l1Cur_form.l0 k (t226.length : Int) 0 s0_0 bt216.2.1 bt216.2.2 t226)))))
theorem spec_l1Cur_form.mono_l : ∀ k, (∀ y0 y1 y2 y3 y4 y5, LeO (spec_l1Cur_form.l0 k y0 y1 y2 y3 y4 y5) (spec_l1Cur_form.l0 (k + 1) y0 y1 y2 y3 y4 y5)) ∧ (∀ y0 y1 y2 y3 y4 y5 y6 y7, LeO (spec_l1Cur_form.l1 k y0 y1 y2 y3 y4 y5 y6 y7) (spec_l1Cur_form.l1 (k + 1) y0 y1 y2 y3 y4 y5 y6 y7))
 | 0 => ⟨fun _ _ _ _ _ _ r h => by simp [spec_l1Cur_form.l0] at h, fun _ _ _ _ _ _ _ _ r h => by simp [spec_l1Cur_form.l1] at h⟩
 | k + 1 => by
  obtain ⟨ih0, ih1⟩ := spec_l1Cur_form.mono_l k
  refine ⟨?_, ?_⟩
  ·
   intro y0 y1 y2 y3 y4 y5
   unfold spec_l1Cur_form.l0
   repeat' first
   | (with_reducible exact ih0 _ _ _ _ _ _)
   | (with_reducible exact ih1 _ _ _ _ _ _ _ _)
   | (with_reducible exact spec_foUnit.mono _ _)
   | (with_reducible exact spec_l1Cur_matrix.mono _ _ _ _ _)
   | (with_reducible exact LeO.refl _)
   | (with_reducible exact LeO.none _)
   | (with_reducible refine LeO.ite ?_ ?_)
   | (with_reducible refine LeO.bind ?_ (fun _ => ?_))
   | exact ih0 _ _ _ _ _ _
   | exact ih1 _ _ _ _ _ _ _ _
   | exact spec_foUnit.mono _ _
   | exact spec_l1Cur_matrix.mono _ _ _ _ _
   | exact LeO.none _
   | refine LeO.ite ?_ ?_
   | refine LeO.bind ?_ (fun _ => ?_)
  ·
   intro y0 y1 y2 y3 y4 y5 y6 y7
   unfold spec_l1Cur_form.l1
   repeat' first
   | (with_reducible exact ih0 _ _ _ _ _ _)
   | (with_reducible exact ih1 _ _ _ _ _ _ _ _)
   | (with_reducible exact spec_foUnit.mono _ _)
   | (with_reducible exact spec_l1Cur_matrix.mono _ _ _ _ _)
   | (with_reducible exact LeO.refl _)
   | (with_reducible exact LeO.none _)
   | (with_reducible refine LeO.ite ?_ ?_)
   | (with_reducible refine LeO.bind ?_ (fun _ => ?_))
   | exact ih0 _ _ _ _ _ _
   | exact ih1 _ _ _ _ _ _ _ _
   | exact spec_foUnit.mono _ _
   | exact spec_l1Cur_matrix.mono _ _ _ _ _
   | exact LeO.none _
   | refine LeO.ite ?_ ?_
   | refine LeO.bind ?_ (fun _ => ?_)
theorem spec_l1Cur_form.mono : ∀ a0 a1 a2 a3 k, LeO (spec_l1Cur_form.f k a0 a1 a2 a3) (spec_l1Cur_form.f (k + 1) a0 a1 a2 a3) := by
 intro a0 a1 a2 a3 k
 obtain ⟨ih0, ih1⟩ := spec_l1Cur_form.mono_l k
 unfold spec_l1Cur_form.f
 repeat' first
  | (with_reducible exact ih0 _ _ _ _ _ _)
  | (with_reducible exact ih1 _ _ _ _ _ _ _ _)
  | (with_reducible exact spec_foUnit.mono _ _)
  | (with_reducible exact spec_l1Cur_matrix.mono _ _ _ _ _)
  | (with_reducible exact LeO.refl _)
  | (with_reducible exact LeO.none _)
  | (with_reducible refine LeO.ite ?_ ?_)
  | (with_reducible refine LeO.bind ?_ (fun _ => ?_))
  | exact ih0 _ _ _ _ _ _
  | exact ih1 _ _ _ _ _ _ _ _
  | exact spec_foUnit.mono _ _
  | exact spec_l1Cur_matrix.mono _ _ _ _ _
  | exact LeO.none _
  | refine LeO.ite ?_ ?_
  | refine LeO.bind ?_ (fun _ => ?_)
def spec_l1Cur_form.T7 : Bool × List (List Nat × List Nat) := (true, [([], []), ([0], [0]), ([], []), ([1, 2], [1, 2]), ([3], [3]), ([], []), ([], []), ([], []), ([6, 7], [6, 7]), ([4, 5, 0, 1, 2, 3, 4, 5, 6, 7, 8], [4, 5]), ([9, 8, 8, 0, 1, 2, 3, 4, 5, 6, 7, 8], [8, 9])])
def spec_l1Cur_form.B7 : List Nat := [0, 1, 0, 7, 15, 0, 0, 0, 192, 511, 1023]
theorem spec_l1Cur_form.tab7 : rtab .any (opsOf Try.f100 7) = spec_l1Cur_form.T7 := by kernel_rfl
theorem spec_l1Cur_form.bits7 : waitsOk spec_l1Cur_form.T7.2 spec_l1Cur_form.B7 = true := by kernel_rfl
set_option maxHeartbeats 8000000 in
set_option maxRecDepth 100000 in
theorem spec_l1Cur_form.calls (k : Nat) (g : Nat) (s0_0 : List Int) (s0_1 : Int) (s0_2 : Int) (a1 : Int) (r1 : List (List Int)) (r2 : Int) (r3 : Int) (w0 w : World) (hI : IsS92 w0 w g s0_0 s0_1 s0_2) (hB : Below w0.heap.size w0 w) (h : spec_l1Cur_form.f k s0_0 s0_1 s0_2 a1 = some (r1, r2, r3)) :
 Calls Try.prog 100 #[.pointer (some ⟨g, 0, none⟩), .int .i64 a1] w fun e w' => ∃ v0_ : Value, e = .returned (.agg #[v0_]) ∧ Kd.V (Kd.slice 3 (Kd.int .i64)) 34 w' w.heap.size (fun k_ => (w.heap.size ≤ k_)) v0_ r1 ∧ IsS92 w0 w' g s0_0 r2 r3 ∧ Below w0.heap.size w0 w' ∧ KeepBut w w' g none := by
 have hu26 := Try.underlying26
 have HI0 := Aside0.mk hI
 have HK := Aside0.mk (KeepBut.refl w g none)
 have HL := Aside0.mk hB.size
 clear hI
 have HW0 := Aside0.mk hB.size
 have HB := Aside0.mk hB
 clear hB
 have H : ((spec_l1Cur_one.f s0_0 s0_1 s0_2 12).bind fun bt216 => (if bt216.1 = true then ((spec_l1Cur_matrix.f k s0_0 bt216.2.1 bt216.2.2 a1).bind fun bt219 => (some (bt219.1, bt219.2.1, bt219.2.2))) else ((spec_l1Least.f a1 4).bind fun t224 => ((spec_l1Most.f 1 t224).bind fun t225 => ((spec_foUnit.f k t225).bind fun t226 => (spec_l1Cur_form.l0 k (t226.length : Int) 0 s0_0 bt216.2.1 bt216.2.2 t226)))))) = some (r1, r2, r3) := h
 clear h
 replace H := Option.bind_eq_some_iff.mp H
 obtain ⟨⟨t216, t217, t218⟩, A30, H⟩ := H
 replace H : (if t216 = true then ((spec_l1Cur_matrix.f k s0_0 t217 t218 a1).bind fun bt219 => (some (bt219.1, bt219.2.1, bt219.2.2))) else ((spec_l1Least.f a1 4).bind fun t224 => ((spec_l1Most.f 1 t224).bind fun t225 => ((spec_foUnit.f k t225).bind fun t226 => (spec_l1Cur_form.l0 k (t226.length : Int) 0 s0_0 t217 t218 t226))))) = some (r1, r2, r3) := H
 have A3 := Aside0.mk A30
 clear A30
 by_cases c4 : t216 = true
 ·
  subst c4
  have H1 : ((spec_l1Cur_matrix.f k s0_0 t217 t218 a1).bind fun bt219 => (some (bt219.1, bt219.2.1, bt219.2.2))) = some (r1, r2, r3) := by rw [if_pos rfl] at H; exact H
  clear H
  have H := H1
  clear H1
  replace H := Option.bind_eq_some_iff.mp H
  obtain ⟨⟨t219, t222, t223⟩, A50, H⟩ := H
  replace H : (some (t219, t222, t223)) = some (r1, r2, r3) := H
  have A5 := Aside0.mk A50
  clear A50
  simp only [Option.some.injEq, Prod.mk.injEq] at H
  obtain ⟨rfl, rfl, rfl⟩ := H
  go_enter Try.func100, Try.ntmps100
  go_wp2_with (first | ((with_reducible refine gate_dst (N := 4) rfl ?_); refine box_event ?hg (N := 4) ?hd (cs := #[.slice none 0 0]) (t := 26) ?hr ?_; (case hd => rfl); (case hg => rfl); (case hr => exact z116_); intro gb215 hg w6 hbox hb; have n0_ := Aside0.mk (IsS92.below z55_ hb); have n1_ := Aside0.mk (KeepBut.trans (kH HK) (KeepBut.of_below hb g none) (.inl rfl)); have n2_ := Aside0.mk (below_step z49_ hb); have n3_ := Aside0.mk (hbox); have n4_ := Aside0.mk ((by rw [hg]; exact (keep_size (w := w) (g := g) (row := none) (kH HK)) : w.heap.size ≤ gb215)); have n5_ := Aside0.mk ((Nat.le_trans HW0.out (by rw [hg]; exact (keep_size (w := w) (g := g) (row := none) (kH HK)) : w.heap.size ≤ gb215) : w0.heap.size ≤ gb215)); have n6_ := Aside0.mk ((by rw [hg]; exact Nat.ne_of_lt (IsS92.lt (show IsS92 w0 _ g s0_0 s0_1 s0_2 from z55_)) : g ≠ gb215)); have n7_ := Aside0.mk ((by rw [hg]; exact Nat.ne_of_gt (IsS92.lt (show IsS92 w0 _ g s0_0 s0_1 s0_2 from z55_)) : gb215 ≠ g)); clear HI0; clear HK; clear HB; have HI0 := n0_; have HK := n1_; have HB := n2_; have BK215 := n3_; have GW215 := n4_; have GE215 := n5_; have NB0_215 := n6_; have NB215_0 := n7_; clear n0_ n1_ n2_ n3_ n4_ n5_ n6_ n7_; clear hb hbox hg) | ((with_reducible refine gate_callee (f := 90) rfl ?_); refine gL (some 10) rfl rfl Try.func90 (by kernel_rfl) rfl #[.pointer (some ⟨g, 0, none⟩), .int .i64 12] rfl ?_; (with_reducible refine (spec_l1Cur_one.calls g s0_0 s0_1 s0_2 12 true t217 t218 w0 _ ?side1 ?side2 A3.out).mono ?_); (case side1 => exact z47_); (case side2 => exact z37_); rintro e w7 ⟨rfl, hi, hb, hk⟩; refine ⟨_, rfl, ?_⟩; have n0_ := Aside0.mk (KeepBut.blk hk (g' := gb215) (o := .cells #[.slice none 0 0] 26 (0, 0)) (bA BK215) NB215_0.out (by simp)); have n1_ := Aside0.mk (KeepBut.trans z54_ hk (.inl rfl)); have n2_ := Aside0.mk (hb); have n3_ := Aside0.mk (hi); clear BK215; clear HK; clear HB; clear HI0; have BK215 := n0_; have HK := n1_; have HB := n2_; have HI0 := n3_; clear n0_ n1_ n2_ n3_; (try clear hb); (try clear hb2); (try clear hk); (try clear hi)) | ((with_reducible refine gate_callee (f := 91) rfl ?_); refine gL (some 13) rfl rfl Try.func91 (by kernel_rfl) rfl #[.pointer (some ⟨g, 0, none⟩), .int .i64 a1] rfl ?_; (with_reducible refine (spec_l1Cur_matrix.calls k g s0_0 t217 t218 a1 t219 t222 t223 w0 _ ?side1 ?side2 A5.out).mono ?_); (case side1 => exact z47_); (case side2 => exact z37_); rintro e w8 ⟨v220, rfl, ho0, hi, hb, hk⟩; refine ⟨_, rfl, ?_⟩; have n0_ := Aside0.mk (KeepBut.blk hk (g' := gb215) (o := .cells #[.slice none 0 0] 26 (0, 0)) (bA BK215) NB215_0.out (by simp)); have n1_ := Aside0.mk (Kd.V_lower (Kd.V_mono (ok' := fun k_ => (w.heap.size ≤ k_) ∧ k_ ≠ gb215 ∧ k_ ≠ g) ho0 (fun k_ hk_ => ⟨(Nat.le_trans (keep_size (w := w) (g := g) (row := none) z54_) hk_), (Kd.freshB (g := gb215) (o := .cells #[.slice none 0 0] 26 (0, 0)) (bA BK215) k_ hk_), (IsS92.fresh z47_ k_ hk_)⟩)) (keep_size (w := w) (g := g) (row := none) z54_)); have n2_ := Aside0.mk (KeepBut.trans z54_ hk (.inl rfl)); have n3_ := Aside0.mk (hb); have n4_ := Aside0.mk (hi); clear BK215; clear HK; clear HB; clear HI0; have BK215 := n0_; have HO221 := n1_; have HK := n2_; have HB := n3_; have HI0 := n4_; clear n0_ n1_ n2_ n3_ n4_; (try clear hb); (try clear hb2); (try clear hk); (try clear hi); (try clear ho0); obtain ⟨Ao9, co9, eo9⟩ := Kd.V_slice HO221.out; subst eo9; have hnb10 := NB215_0.out; have hnc10 := NB0_215.out; have hcz11_0 : w8.cell? ⟨gb215, 0, none⟩ = some (.slice none 0 0) := (blk_cell BK215.out 0).trans rfl; have hfz11_0 := blk_frozen BK215.out 0))
  refine bodyPost_ret (results_cell_row rfl _ _ gb215 26 #[.slice Ao9 t219.length co9] (0, 0) _ rfl z19_ Try.underlying26 rfl (by kernel_rfl)) rfl ?_
  exact ⟨_, e1, by (with_reducible repeat (first | apply Kd.V_alloc | apply Kd.V_drewN | apply Kd.V_drew)); exact Kd.V_mono (Kd.V_far (p := ⟨gb215, 0, none⟩) (Kd.V_mono HO221.out (fun k_ hk => (⟨hk, hk.2.1⟩ : _ ∧ k_ ≠ gb215))) (fun _ hk => hk.2) (.slice Ao9 t219.length co9)) (fun _ hk => hk.1.1), z47_, z37_, z54_⟩
 ·
  replace c4 := Bool.eq_false_iff.mpr c4
  subst c4
  have H1 : ((spec_l1Least.f a1 4).bind fun t224 => ((spec_l1Most.f 1 t224).bind fun t225 => ((spec_foUnit.f k t225).bind fun t226 => (spec_l1Cur_form.l0 k (t226.length : Int) 0 s0_0 t217 t218 t226)))) = some (r1, r2, r3) := by rw [if_neg (show ¬ (false = true) by decide)] at H; exact H
  clear H
  have H := H1
  clear H1
  replace H := Option.bind_eq_some_iff.mp H
  obtain ⟨t224, A120, H⟩ := H
  replace H : ((spec_l1Most.f 1 t224).bind fun t225 => ((spec_foUnit.f k t225).bind fun t226 => (spec_l1Cur_form.l0 k (t226.length : Int) 0 s0_0 t217 t218 t226))) = some (r1, r2, r3) := H
  have A12 := Aside0.mk A120
  clear A120
  replace H := Option.bind_eq_some_iff.mp H
  obtain ⟨t225, A130, H⟩ := H
  replace H : ((spec_foUnit.f k t225).bind fun t226 => (spec_l1Cur_form.l0 k (t226.length : Int) 0 s0_0 t217 t218 t226)) = some (r1, r2, r3) := H
  have A13 := Aside0.mk A130
  clear A130
  replace H := Option.bind_eq_some_iff.mp H
  obtain ⟨t226, A140, H⟩ := H
  replace H : (spec_l1Cur_form.l0 k (t226.length : Int) 0 s0_0 t217 t218 t226) = some (r1, r2, r3) := H
  have A14 := Aside0.mk A140
  clear A140
  have H' := Aside0.mk H
  clear H
  go_enter Try.func100, Try.ntmps100
  go_wp2_with (first | ((with_reducible refine gate_dst (N := 4) rfl ?_); refine box_event ?hg (N := 4) ?hd (cs := #[.slice none 0 0]) (t := 26) ?hr ?_; (case hd => rfl); (case hg => rfl); (case hr => exact z116_); intro gb215 hg w15 hbox hb; have n0_ := Aside0.mk (IsS92.below z55_ hb); have n1_ := Aside0.mk (KeepBut.trans (kH HK) (KeepBut.of_below hb g none) (.inl rfl)); have n2_ := Aside0.mk (below_step z49_ hb); have n3_ := Aside0.mk (hbox); have n4_ := Aside0.mk ((by rw [hg]; exact (keep_size (w := w) (g := g) (row := none) (kH HK)) : w.heap.size ≤ gb215)); have n5_ := Aside0.mk ((Nat.le_trans HW0.out (by rw [hg]; exact (keep_size (w := w) (g := g) (row := none) (kH HK)) : w.heap.size ≤ gb215) : w0.heap.size ≤ gb215)); have n6_ := Aside0.mk ((by rw [hg]; exact Nat.ne_of_lt (IsS92.lt (show IsS92 w0 _ g s0_0 s0_1 s0_2 from z55_)) : g ≠ gb215)); have n7_ := Aside0.mk ((by rw [hg]; exact Nat.ne_of_gt (IsS92.lt (show IsS92 w0 _ g s0_0 s0_1 s0_2 from z55_)) : gb215 ≠ g)); clear HI0; clear HK; clear HB; have HI0 := n0_; have HK := n1_; have HB := n2_; have BK215 := n3_; have GW215 := n4_; have GE215 := n5_; have NB0_215 := n6_; have NB215_0 := n7_; clear n0_ n1_ n2_ n3_ n4_ n5_ n6_ n7_; clear hb hbox hg) | ((with_reducible refine gate_callee (f := 90) rfl ?_); refine gL (some 10) rfl rfl Try.func90 (by kernel_rfl) rfl #[.pointer (some ⟨g, 0, none⟩), .int .i64 12] rfl ?_; (with_reducible refine (spec_l1Cur_one.calls g s0_0 s0_1 s0_2 12 false t217 t218 w0 _ ?side1 ?side2 A3.out).mono ?_); (case side1 => exact z47_); (case side2 => exact z37_); rintro e w16 ⟨rfl, hi, hb, hk⟩; refine ⟨_, rfl, ?_⟩; have n0_ := Aside0.mk (KeepBut.blk hk (g' := gb215) (o := .cells #[.slice none 0 0] 26 (0, 0)) (bA BK215) NB215_0.out (by simp)); have n1_ := Aside0.mk (KeepBut.trans z54_ hk (.inl rfl)); have n2_ := Aside0.mk (hb); have n3_ := Aside0.mk (hi); clear BK215; clear HK; clear HB; clear HI0; have BK215 := n0_; have HK := n1_; have HB := n2_; have HI0 := n3_; clear n0_ n1_ n2_ n3_; (try clear hb); (try clear hb2); (try clear hk); (try clear hi)) | ((with_reducible refine gate_callee (f := 117) rfl ?_); refine gL (some 15) rfl rfl Try.func117 (by kernel_rfl) rfl #[.int .i64 a1, .int .i64 4] rfl ?_; (with_reducible refine (spec_l1Least.calls a1 4 t224 _ A12.out).mono ?_); rintro e w' ⟨rfl, ⟨nd, rfl⟩⟩; refine ⟨_, rfl, ?_⟩; (try (rw [drewN_self w16]; generalize hq_ : World.drewN w16 _ = w16; have n0_ : Aside0 (w16.heap[gb215]? = some (.cells #[.slice none 0 0] 26 (0, 0))) := ⟨by rw [← hq_]; exact (bA BK215)⟩; have n1_ : Aside0 (IsS92 w0 w16 g s0_0 t217 t218) := ⟨by rw [← hq_]; exact z47_⟩; have n2_ : Aside0 (KeepBut w w16 g none) := ⟨by rw [← hq_]; exact z54_⟩; have n3_ : Aside0 (Below w0.heap.size w0 w16) := ⟨by rw [← hq_]; exact z37_⟩; clear BK215 HI0 HK HB hq_; have BK215 := n0_; have HI0 := n1_; have HK := n2_; have HB := n3_; clear n0_ n1_ n2_ n3_))) | ((with_reducible refine gate_callee (f := 108) rfl ?_); refine gL (some 16) rfl rfl Try.func108 (by kernel_rfl) rfl #[.int .i64 1, .int .i64 t224] rfl ?_; (with_reducible refine (spec_l1Most.calls 1 t224 t225 _ A13.out).mono ?_); rintro e w' ⟨rfl, ⟨nd, rfl⟩⟩; refine ⟨_, rfl, ?_⟩; (try (rw [drewN_self w16]; generalize hq_ : World.drewN w16 _ = w16; have n0_ : Aside0 (w16.heap[gb215]? = some (.cells #[.slice none 0 0] 26 (0, 0))) := ⟨by rw [← hq_]; exact (bA BK215)⟩; have n1_ : Aside0 (IsS92 w0 w16 g s0_0 t217 t218) := ⟨by rw [← hq_]; exact z47_⟩; have n2_ : Aside0 (KeepBut w w16 g none) := ⟨by rw [← hq_]; exact z54_⟩; have n3_ : Aside0 (Below w0.heap.size w0 w16) := ⟨by rw [← hq_]; exact z37_⟩; clear BK215 HI0 HK HB hq_; have BK215 := n0_; have HI0 := n1_; have HK := n2_; have HB := n3_; clear n0_ n1_ n2_ n3_))) | ((with_reducible refine gate_callee (f := 76) rfl ?_); refine gL (some 17) rfl rfl Try.func76 (by kernel_rfl) rfl #[.int .i64 t225] rfl ?_; (with_reducible refine (spec_foUnit.calls k t225 t226 _ A14.out).mono ?_); rintro e w17 ⟨v227, rfl, ho0, hb⟩; refine ⟨_, rfl, ?_⟩; have n0_ := Aside0.mk (Kd.S_lower (Kd.S_newM (M := fun k_ => (w.heap.size ≤ k_)) ho0 (keep_size (w := w) (g := g) (row := none) z54_) (fun k_ h_ => h_)) (keep_size (w := w) (g := g) (row := none) z54_)); have n1_ := Aside0.mk (IsS92.below z47_ hb); have n2_ := Aside0.mk (kK BK215 hb); have n3_ := Aside0.mk (KeepBut.trans z54_ (KeepBut.of_below hb g none) (.inl rfl)); have n4_ := Aside0.mk (below_step z37_ hb); clear HI0; clear BK215; clear HK; clear HB; have HO228 := n0_; have HI0 := n1_; have BK215 := n2_; have HK := n3_; have HB := n4_; clear n0_ n1_ n2_ n3_ n4_; (try clear hb); (try clear hb2); (try clear hk); (try clear hi); (try clear ho0)) | ((with_reducible refine gate_dst (N := 5) rfl ?_); refine box_event ?hg (N := 5) ?hd (cs := #[.slice none 0 0]) (t := 26) ?hr ?_; (case hd => rfl); (case hg => rfl); (case hr => exact z116_); intro gb229 hg w18 hbox hb; have n0_ := Aside0.mk (Kd.S_below (by (with_reducible repeat (first | apply Kd.S_alloc | apply Kd.S_drewN | apply Kd.S_drew)); exact HO228.out) hb); have n1_ := Aside0.mk (IsS92.below z47_ hb); have n2_ := Aside0.mk (kK BK215 hb); have n3_ := Aside0.mk (KeepBut.trans z54_ (KeepBut.of_below hb g none) (.inl rfl)); have n4_ := Aside0.mk (below_step z37_ hb); have n5_ := Aside0.mk (hbox); have n6_ := Aside0.mk ((by rw [hg]; exact (keep_size (w := w) (g := g) (row := none) z54_) : w.heap.size ≤ gb229)); have n7_ := Aside0.mk ((Nat.le_trans HW0.out (by rw [hg]; exact (keep_size (w := w) (g := g) (row := none) z54_) : w.heap.size ≤ gb229) : w0.heap.size ≤ gb229)); have n8_ := Aside0.mk ((by rw [hg]; exact Nat.ne_of_lt (blk_lt (g := gb215) (o := .cells #[.slice none 0 0] 26 (0, 0)) (bA BK215)) : gb215 ≠ gb229)); have n9_ := Aside0.mk ((by rw [hg]; exact Nat.ne_of_gt (blk_lt (g := gb215) (o := .cells #[.slice none 0 0] 26 (0, 0)) (bA BK215)) : gb229 ≠ gb215)); have n10_ := Aside0.mk ((by rw [hg]; exact Nat.ne_of_lt (IsS92.lt (show IsS92 w0 _ g s0_0 t217 t218 from z47_)) : g ≠ gb229)); have n11_ := Aside0.mk ((by rw [hg]; exact Nat.ne_of_gt (IsS92.lt (show IsS92 w0 _ g s0_0 t217 t218 from z47_)) : gb229 ≠ g)); clear HO228; clear HI0; clear BK215; clear HK; clear HB; have HO228 := n0_; have HI0 := n1_; have BK215 := n2_; have HK := n3_; have HB := n4_; have BK229 := n5_; have GW229 := n6_; have GE229 := n7_; have NB215_229 := n8_; have NB229_215 := n9_; have NB0_229 := n10_; have NB229_0 := n11_; clear n0_ n1_ n2_ n3_ n4_ n5_ n6_ n7_ n8_ n9_ n10_ n11_; clear hb hbox hg; obtain ⟨Ao19, co19, eo19⟩ := Kd.S_slice HO228.out; subst eo19; have hnb20 := NB229_215.out; have hnc20 := NB215_229.out; have hnb21 := NB229_0.out; have hnc21 := NB0_229.out; have hcz22_0 : w18.cell? ⟨gb229, 0, none⟩ = some (.slice none 0 0) := (blk_cell BK229.out 0).trans rfl; have hfz22_0 := blk_frozen BK229.out 0))
  go_loopg [21] k (fun kq v21 w' => ∃ (x21_1 : Int) (x1001_1 : Int) (x1002_1 : Int) (x230000_1 : List (List Int)) (u230000 : Value), v21 = .int .i64 x21_1 ∧ Aside0 (spec_l1Cur_form.l0 kq (t226.length : Int) x21_1 s0_0 x1001_1 x1002_1 x230000_1 = some (r1, r2, r3)) ∧ Aside0 (kq ≤ k) ∧ Aside0 (Kd.S (Kd.slice 3 (Kd.int .i64)) 34 w' w.heap.size (fun k_ => (w.heap.size ≤ k_)) u230000 x230000_1) ∧ Aside0 (w'.heap[gb215]? = some (.cells #[(.slice none 0 0)] 26 (0, 0))) ∧ Aside0 (w'.heap[gb229]? = some (.cells #[u230000] 26 (0, 0))) ∧ Aside0 (IsS92 w0 w' g s0_0 x1001_1 x1002_1) ∧ Aside0 (KeepBut w w' g none) ∧ Aside0 (Below w0.heap.size w0 w'))
  case atStart => exact ⟨(0), (t217), (t218), (t226), (.slice Ao19 t226.length co19), e2, H', ⟨Nat.le_refl _⟩, ⟨by (with_reducible repeat (first | apply Kd.S_alloc | apply Kd.S_drewN | apply Kd.S_drew)); exact Kd.S_mono (Kd.S_far (p := ⟨gb229, 0, none⟩) (Kd.S_types HO228.out BK229.out (by decide)) (fun _ hk => hk.2) (.slice Ao19 t226.length co19)) (fun _ hk => hk.1.1)⟩, ⟨by (with_reducible repeat (first | refine blk_drewN ?_ _ | refine blk_drew ?_ | refine blk_alloc ?_ _)); refine blk_far ?_ NB215_229.out _; (with_reducible repeat (first | refine blk_drewN ?_ _ | refine blk_drew ?_ | refine blk_alloc ?_ _)); exact BK215.out⟩, ⟨by (with_reducible repeat (first | refine blk_drewN ?_ _ | refine blk_drew ?_ | refine blk_alloc ?_ _)); refine blk_put (cs := #[.slice none 0 0]) ?_ 0 _ rfl; (with_reducible repeat (first | refine blk_drewN ?_ _ | refine blk_drew ?_ | refine blk_alloc ?_ _)); exact BK229.out⟩, ⟨z34_⟩, ⟨z45_⟩, ⟨z21_⟩⟩
  case round =>
   clear H'; (try clear c1); (try clear c2); (try clear p2); (try clear c4); (try clear c7); (try clear c9); (try clear c10); (try clear c11); (try clear c20); (try clear c21); (try clear hcz11_0); (try clear hcz22_0); (try clear hfz11_0); (try clear hfz22_0)
   obtain ⟨x21_1, x1001_1, x1002_1, x230000_1, u230000, rfl, HA, HK1, HO_230000, BK215, BK229, HI0, HK, HB⟩ := hrel
   cases gk with
   | zero => exact absurd HA.out (by simp [spec_l1Cur_form.l0])
   | succ k1 =>
    have H := HA.out
    clear HA
    simp only [spec_l1Cur_form.l0] at H
    by_cases c23 : x21_1 < (t226.length : Int)
    ·
     rw [if_pos c23] at H
     have c23b0 : decide (x21_1 < (t226.length : Int)) = true := decide_eq_true c23
     clear c23
     by_cases c24 : 0 ≤ x21_1
     ·
      rw [if_pos c24] at H
      have c24b0 : decide (0 ≤ x21_1) = true := decide_eq_true c24
      clear c24
      by_cases c25 : x21_1 < (x230000_1.length : Int)
      ·
       rw [if_pos c25] at H
       have c25b0 : decide (x21_1 < (x230000_1.length : Int)) = true := decide_eq_true c25
       clear c25
       obtain ⟨y231, hy231⟩ : ∃ y_ : List Int, y_ = (([1, 1, (-1), 2, 0] : List Int)) := ⟨_, rfl⟩
       replace H : ((spec_l1Cur_among.f s0_0 x1001_1 x1002_1 y231).bind fun bt234 => (if x21_1 < ((rd_L2 x230000_1 x21_1).length : Int) then (spec_l1Cur_form.l1 k1 x21_1 0 (t226.length : Int) x21_1 s0_0 bt234.2.1 bt234.2.2 (x230000_1.set (x21_1 : Int).toNat ((rd_L2 x230000_1 x21_1).set (x21_1 : Int).toNat bt234.1))) else (none))) = some (r1, r2, r3) := by first | (rw [hy231]; with_reducible exact H) | (have H2_ := (Option.bind_some _ _).symm.trans H; rw [hy231]; with_reducible exact H2_) | (have H2_ := (Option.bind_some _ _).symm.trans H; with_reducible exact H2_) | with_reducible exact H | (rw [hy231]; exact H) | exact H
       have Ny231 := Aside0.mk hy231
       clear hy231
       replace H := Option.bind_eq_some_iff.mp H
       obtain ⟨⟨t234, t235, t236⟩, A260, H⟩ := H
       replace H : (if x21_1 < ((rd_L2 x230000_1 x21_1).length : Int) then (spec_l1Cur_form.l1 k1 x21_1 0 (t226.length : Int) x21_1 s0_0 t235 t236 (x230000_1.set (x21_1 : Int).toNat ((rd_L2 x230000_1 x21_1).set (x21_1 : Int).toNat t234))) else (none)) = some (r1, r2, r3) := H
       have A26 := Aside0.mk A260
       clear A260
       by_cases c27 : x21_1 < ((rd_L2 x230000_1 x21_1).length : Int)
       ·
        rw [if_pos c27] at H
        have c27b0 : decide (x21_1 < ((rd_L2 x230000_1 x21_1).length : Int)) = true := decide_eq_true c27
        clear c27
        obtain ⟨y237, hy237⟩ : ∃ y_ : List Int, y_ = ((rd_L2 x230000_1 x21_1).set (x21_1 : Int).toNat t234) := ⟨_, rfl⟩
        replace H : (spec_l1Cur_form.l1 k1 x21_1 0 (t226.length : Int) x21_1 s0_0 t235 t236 (x230000_1.set (x21_1 : Int).toNat y237)) = some (r1, r2, r3) := by first | (rw [hy237]; with_reducible exact H) | (have H2_ := (Option.bind_some _ _).symm.trans H; rw [hy237]; with_reducible exact H2_) | (have H2_ := (Option.bind_some _ _).symm.trans H; with_reducible exact H2_) | with_reducible exact H | (rw [hy237]; exact H) | exact H
        have Ny237 := Aside0.mk hy237
        clear hy237
        obtain ⟨y239, hy239⟩ : ∃ y_ : List (List Int), y_ = (x230000_1.set (x21_1 : Int).toNat y237) := ⟨_, rfl⟩
        replace H : (spec_l1Cur_form.l1 k1 x21_1 0 (t226.length : Int) x21_1 s0_0 t235 t236 y239) = some (r1, r2, r3) := by first | (rw [hy239]; with_reducible exact H) | (have H2_ := (Option.bind_some _ _).symm.trans H; rw [hy239]; with_reducible exact H2_) | (have H2_ := (Option.bind_some _ _).symm.trans H; with_reducible exact H2_) | with_reducible exact H | (rw [hy239]; exact H) | exact H
        have Ny239 := Aside0.mk hy239
        clear hy239
        have H' := Aside0.mk H
        clear H
        try go_wp2
        have n0_ := Aside0.mk (Kd.S_drew HO_230000.out)
        have n1_ := Aside0.mk (blk_drew BK215.out)
        have n2_ := Aside0.mk (blk_drew BK229.out)
        have n3_ := Aside0.mk (IsS92.drew HI0.out)
        have n4_ := Aside0.mk (keep_drew HK.out)
        have n5_ := Aside0.mk (below_drew1 HB.out)
        clear HO_230000; clear BK215; clear BK229; clear HI0; clear HK; clear HB
        have HO_230000 := n0_
        have BK215 := n1_
        have BK229 := n2_
        have HI0 := n3_
        have HK := n4_
        have HB := n5_
        clear n0_ n1_ n2_ n3_ n4_ n5_
        obtain ⟨Ao30, co30, eo30⟩ := Kd.S_slice HO_230000.out
        (first | subst eo30 | (injection eo30 with f1_ f2_ f3_; have f4_ := f1_.symm; have f5_ := f3_.symm; clear f1_ f2_ f3_; subst f4_; subst f5_))
        have p230 : 0 ≤ (x21_1 : Int) := od
        have q230 : x21_1 < (x230000_1.length : Int) := od
        obtain ⟨ad230, A230_0, c230_0, e230, hx230_0, hl230_0, hi230_0⟩ := at_L2 (Kd.S_reads' HO_230000.out).2.2 x21_1 p230 q230
        cases e230
        obtain ⟨ce230, hce230, hMe230, hcc230⟩ := Kd.S_get HO_230000.out [] x21_1 p230 (by first | exact q230 | exact od | (have e_ := (Kd.S_reads' HO_230000.out).1; omega))
        obtain ⟨ve230_0, rfl, ge230_0⟩ := hMe230
        have hv230_0 := hcc230 0 _ rfl
        rw [Nat.add_zero, show ((Kd.slice 3 (Kd.int .i64))).sz = 1 from rfl, Nat.mul_one] at hv230_0
        replace hv230_0 := Option.some.inj (hv230_0.symm.trans hx230_0)
        rw [hv230_0] at ge230_0
        have HL230_0 := Aside0.mk (show Kd.R (Kd.int .i64) 3 _ _ _ _ (rd_L2 x230000_1 x21_1) from ge230_0)
        clear hv230_0 ge230_0
        have HX230_0 := Aside0.mk hx230_0
        clear hcc230 hce230
        have HR230_0 := Aside0.mk hi230_0
        have HC230_0 := Aside0.mk hl230_0
        clear hi230_0 hl230_0
        replace p230 := eq_true p230
        replace q230 := eq_true q230
        refine start_ (n := 11) (S := fun w' => w'.cell? ⟨gb229, 0, none⟩ = some (.slice (some ad230) x230000_1.length co30) ∧ w'.cell? (ad230.add (x21_1).toNat) = some (.slice A230_0 (rd_L2 x230000_1 x21_1).length c230_0)) (ds := [10]) #[O,O,O,O,O,O,O,O,O,O,O] (by kernel_rfl) rfl rfl ⟨(blk_cell BK229.out 0).trans rfl, hx230_0⟩ (fun hHeld => ?_); refine with_tabW spec_l1Cur_form.tab7 spec_l1Cur_form.bits7 (fun HT_ HW_ => ?_)
        generalize wr.drew = w29 at HO_230000 BK215 BK229 HI0 HK HB HL230_0 HR230_0 HX230_0 hx230_0 hHeld ⊢
        refine pS 0 24 (BM 11 1) ?_
        refine pS 2 26 (BM 11 5) ?_
        refine pS 5 29 (BM 11 37) ?_
        refine pS 6 30 (BM 11 101) ?_
        refine take_ (i := 1) (N := some 25) (v := ?_) (a' := ?_) (BM 11 103) rfl rfl (take_ofW HT_.out HW_.out (by kernel_rfl)) (fun _ _ _ h => h) (Or.inl ⟨by rfl, ?_⟩) hHeld ?_ ?_
        rotate_left
        ·
         rintro w' ⟨s0, s1⟩
         go_simp
         with_reducible rfl
        rotate_left
        ·
         simp only [AP]
         rfl
        refine pS 3 27 (BM 11 111) ?_
        refine take_ (i := 4) (N := some 28) (v := ?_) (a' := ?_) (BM 11 127) rfl rfl (take_ofW HT_.out HW_.out (by kernel_rfl)) (fun _ _ _ h => h) (Or.inl ⟨by rfl, ?_⟩) hHeld ?_ ?_
        rotate_left
        ·
         rintro w' ⟨s0, s1⟩
         go_simp
         with_reducible rfl
        rotate_left
        ·
         simp only [AP]
         rfl
        refine one_ (i := 7) (N := some 31) (BM 11 255) rfl rfl (one_of HT_.out (by kernel_rfl)) (by decide) (fun K hK => ?_)
        refine Kd.R_lit_step (Kd.int .i64) _ 3 ?hg (N := 31) ?hd (xs := ([1, 1, (-1), 2, 0] : List Int)) (inner := [.int .i64 1, .int .i64 1, .int .i64 (-1), .int .i64 2, .int .i64 0]) (ok := fun _ => True) (okp := fun _ => True) ?hr ?hp (fun _ hk => hk) trivial (Below.refl _ _) (Nat.le_refl _) (by simp) ?_; (case hd => rfl); (case hg => rfl); (case hr => exact z116_); (case hp => exact (Reps.one (show Kd.M (Kd.int .i64) _ _ _ 1 [.int .i64 1] from rfl) (Reps.one (show Kd.M (Kd.int .i64) _ _ _ 1 [.int .i64 1] from rfl) (Reps.one (show Kd.M (Kd.int .i64) _ _ _ (-1) [.int .i64 (-1)] from rfl) (Reps.one (show Kd.M (Kd.int .i64) _ _ _ 2 [.int .i64 2] from rfl) (Reps.one (show Kd.M (Kd.int .i64) _ _ _ 0 [.int .i64 0] from rfl) (Reps.none _ _)))))))
        intro v232 w31 ho32 hb hg_ hnew_
        have HS1_ := (hb.cell (World.block_lt_of_cell? _ _ (hHeld.2))).trans (hHeld.2)
        clear hg_ hnew_
        (first | rw [← Ny231.out] at ho32 | (simp only [Int.reduceToNat] at ho32; rw [← Ny231.out] at ho32))
        have n0_ := Aside0.mk (Kd.S_elder' z93_ (Kd.R_base ho32) hb)
        have n1_ := Aside0.mk (Kd.R_elder' (rA HL230_0) (Kd.R_base ho32) hb)
        have n2_ := Aside0.mk (Kd.R_lower (Kd.R_new' (Kd.R_newM (M := fun k_ => (w.heap.size ≤ k_)) ho32 (keep_size (w := w) (g := g) (row := none) z45_) (fun k_ h_ => h_)) (Kd.R_lt (rA HL230_0))) (keep_size (w := w) (g := g) (row := none) z45_))
        have n3_ := Aside0.mk (kK BK215 hb)
        have n4_ := Aside0.mk (kK BK229 hb)
        have n5_ := Aside0.mk (IsS92.below z34_ hb)
        have n6_ := Aside0.mk ((by with_reducible first | exact Kd.C_below HR230_0.out hb | exact Kd.C_below (Kd.C_drewN HR230_0.out _) hb | exact Kd.C_below (Kd.C_alloc HR230_0.out _) hb | exact Kd.C_below (Kd.C_drewN (Kd.C_drewN HR230_0.out _) _) hb))
        have n7_ := Aside0.mk (pw_cell_below hb HX230_0.out)
        have n8_ := Aside0.mk (KeepBut.trans z45_ (KeepBut.of_below hb g none) (.inl rfl))
        have n9_ := Aside0.mk (below_step z21_ hb)
        clear HO_230000; clear HL230_0; clear BK215; clear BK229; clear HI0; clear HR230_0; clear HX230_0; clear HK; clear HB
        have HO_230000 := n0_
        have HL230_0 := n1_
        have HO233 := n2_
        have BK215 := n3_
        have BK229 := n4_
        have HI0 := n5_
        have HR230_0 := n6_
        have HX230_0 := n7_
        have HK := n8_
        have HB := n9_
        clear n0_ n1_ n2_ n3_ n4_ n5_ n6_ n7_ n8_ n9_
        clear hb ho32
        obtain ⟨Ao33, co33, eo33⟩ := Kd.R_slice HO233.out
        (first | subst eo33 | (injection eo33 with f1_ f2_ f3_; have f4_ := f1_.symm; have f5_ := f3_.symm; clear f1_ f2_ f3_; subst f4_; subst f5_))
        refine hK.out _ _ ⟨(blk_cell BK229.out 0).trans rfl, HS1_⟩ (fun hHeld => ?_)
        clear hK K
        refine norm_ (a' := ?_) ?_ ?_
        rotate_left
        ·
         show Act.put _ (some 31) _ = _
         simp only [AP]
         rfl
        refine one_ (i := 8) (N := some 32) (BM 11 511) rfl rfl (one_of HT_.out (by kernel_rfl)) (by decide) (fun K hK => ?_)
        refine goes_ Try.func99 (by kernel_rfl) rfl #[.pointer (some ⟨g, 0, none⟩), .slice Ao33 y231.length co33] (by rfl) rfl rfl (by (try simp only [List.map_toArray, List.map_cons, List.map_nil]); first | done | rfl | (simp only [List.length_drop, List.length_take]; rfl)) ?_
        with_reducible refine (spec_l1Cur_among.calls g s0_0 x1001_1 x1002_1 _ _ y231 t234 t235 t236 w0 _ ?side1 ?side2 ?side3 ?side4 ?side5 A26.out).mono ?_
        (case side1 => exact z34_)
        (case side2 => exact z21_)
        (case side3 => exact cC (Kd.R_reads' HO233.out).2.2)
        (case side4 => exact (Kd.R_reads' HO233.out).2.1)
        (case side5 => exact far_slice (IsS92.own_ne HI0.out HO233.out (by decide)))
        rintro e w34 ⟨rfl, hi, hb, hk⟩
        have HS1_ := keep_cell hk (hHeld.2) (by first | (rw [add_block]; exact Kd.own_blk (IsS92.own_neS HI0.out HO_230000.out (by decide))) | (show (Addr.add _ _).block ≠ _; rw [add_block]; exact Kd.own_blk (IsS92.own_neS HI0.out HO_230000.out (by decide))) | exact Kd.own_blk (IsS92.own_neS HI0.out HO_230000.out (by decide)))
        refine ⟨_, rfl, ?_⟩
        have n0_ := Aside0.mk (Kd.S_mono (Kd.S_keep (IsS92.apartS (show IsS92 w0 _ g s0_0 x1001_1 x1002_1 from z34_) z93_ (by decide)) hk (fun _ h => h.2)) (fun _ h => h.1))
        have n1_ := Aside0.mk (KeepBut.blk hk (g' := gb215) (o := .cells #[.slice none 0 0] 26 (0, 0)) (bA BK215) NB215_0.out (by simp))
        have n2_ := Aside0.mk (KeepBut.blk hk (g' := gb229) (o := .cells #[.slice (some ad230) x230000_1.length co30] 26 (0, 0)) (bA BK229) NB229_0.out (by simp))
        have n3_ := Aside0.mk (Kd.R_mono (Kd.R_keep (IsS92.apart (show IsS92 w0 _ g s0_0 x1001_1 x1002_1 from z34_) (rA HL230_0) (by decide)) hk (fun _ h => h.2)) (fun _ h => h.1))
        have n4_ := Aside0.mk (keep_cell hk HX230_0.out (by first | (rw [add_block]; exact Kd.own_blk (IsS92.own_neS HI0.out HO_230000.out (by decide))) | (show (Addr.add _ _).block ≠ _; rw [add_block]; exact Kd.own_blk (IsS92.own_neS HI0.out HO_230000.out (by decide))) | exact Kd.own_blk (IsS92.own_neS HI0.out HO_230000.out (by decide)) | (dsimp only; exact Kd.own_blk (IsS92.own_neS HI0.out HO_230000.out (by decide)))))
        have n5_ := Aside0.mk (Kd.R_mono (Kd.R_keep (IsS92.apart (show IsS92 w0 _ g s0_0 x1001_1 x1002_1 from z34_) (rA HO233) (by decide)) hk (fun _ h => h.2)) (fun _ h => h.1))
        have n6_ := Aside0.mk (KeepBut.trans z45_ hk (.inl rfl))
        have n7_ := Aside0.mk (hb)
        have n8_ := Aside0.mk (hi)
        clear HO_230000; clear BK215; clear BK229; clear HL230_0; clear HX230_0; clear HO233; clear HK; clear HB; clear HI0
        have HO_230000 := n0_
        have BK215 := n1_
        have BK229 := n2_
        have HL230_0 := n3_
        have HX230_0 := n4_
        have HO233 := n5_
        have HK := n6_
        have HB := n7_
        have HI0 := n8_
        clear n0_ n1_ n2_ n3_ n4_ n5_ n6_ n7_ n8_
        (try clear hb)
        (try clear hb2)
        (try clear hk)
        (try clear hi)
        have p28 : 0 ≤ (x21_1 : Int) := od
        have q28 : (x21_1 : Int) < (((rd_L2 x230000_1 x21_1).length : Int) : Int) := od
        obtain ⟨go28, co28, eo28, gb28, gl28, cl28, HG28⟩ := Kd.R_form HL230_0.out (by omega)
        (first | cases eo28 | (injection eo28 with ea_ en_ ec_; (first | subst ea_ | (injection ea_ with ea_; subst ea_)); subst ec_; clear en_))
        have GB28 := Aside0.mk gb28
        have GG28 := Aside0.mk HG28
        clear gb28 gl28 HG28
        obtain ⟨hx28_0, hf28_0⟩ := Kd.R_celln 0 HL230_0.out (x21_1 : Int) p28 q28
        replace p28 := eq_true p28
        replace q28 := eq_true q28
        have hq35 : (x21_1 : Int) < (x230000_1.length : Int) := (by have h_ : (x21_1 : Int) < ((x230000_1.length : Int) : Int) := od; first | exact h_ | (have e_ := (Kd.S_reads' HO_230000.out).1; omega) | simpa only [List.length_set, List.length_set] using h_)
        obtain ⟨oki35, ce35, hcl35, hM35, hcc35, hok35, hbk35⟩ := Kd.S_borrow HO_230000.out [] (x21_1 : Int) (od) hq35
        obtain ⟨ve35_0, rfl, ge35_0⟩ := hM35
        have hv35 := hcc35 0 _ rfl
        rw [Nat.add_zero, show ((Kd.slice 3 (Kd.int .i64))).sz = 1 from rfl, Nat.mul_one] at hv35
        replace hv35 := Option.some.inj (hv35.symm.trans HX230_0.out)
        subst hv35
        clear hcc35 hcl35
        replace ge35_0 := (show Kd.R (Kd.int .i64) 3 _ _ _ _ (rd_L2 x230000_1 x21_1) from ge35_0)
        have HP35 := Kd.R_putg ge35_0 (x21_1 : Int) t234
        have HN0_go28 := Aside0.mk (show g ≠ go28 from by have h_ := IsS92.own_ne HI0.out HL230_0.out (by decide); intro e_; exact h_ (by rw [e_]; rfl))
        rw [← Ny237.out] at HP35
        have HS35 := hbk35 HP35.2 (fun k_ e_ => by injection e_ with e_; subst e_; exact ge35_0.1 _ rfl) (x' := y237) (Kd.M_row HP35.1)
        rw [← Ny239.out] at HS35
        have HQ35 := Aside0.mk HS35
        clear HP35 HS35 hbk35 hok35
        refine hK.out _ _ ⟨(blk_cell BK229.out 0).trans rfl, HS1_⟩ (fun hHeld => ?_)
        clear hK K
        refine norm_ (a' := ?_) ?_ ?_
        rotate_left
        ·
         show Act.put _ (some 32) _ = _
         simp only [AP]
         rfl
        refine pS 9 33 (BM 11 1023) ?_
        refine last_ (i := 10) (N := none) (BM 11 2047) rfl rfl (one_of HT_.out (by kernel_rfl)) (by decide) (fun K hK => ?_)
        refine skip_ (w1 := ?_) (by rfl) rfl ?_ ?_
        rotate_left
        ·
         go_simp
         rfl
        refine hK.out _ _ ?_
        clear hK K
        refine done_ (done_of HT_.out (by kernel_rfl)) ?_
        try go_wp2
        go_loopg [7] k1 (fun kq v7 w' => ∃ (x7_2 : Int) (x1001_2 : Int) (x1002_2 : Int) (x230000_2 : List (List Int)) (u230000 : Value), v7 = .int .i64 x7_2 ∧ Aside0 (spec_l1Cur_form.l1 kq x21_1 x7_2 (t226.length : Int) x21_1 s0_0 x1001_2 x1002_2 x230000_2 = some (r1, r2, r3)) ∧ Aside0 (kq ≤ k1) ∧ Aside0 (Kd.S (Kd.slice 3 (Kd.int .i64)) 34 w' w.heap.size (fun k_ => (w.heap.size ≤ k_)) u230000 x230000_2) ∧ Aside0 (w'.heap[gb215]? = some (.cells #[(.slice none 0 0)] 26 (0, 0))) ∧ Aside0 (w'.heap[gb229]? = some (.cells #[u230000] 26 (0, 0))) ∧ Aside0 (IsS92 w0 w' g s0_0 x1001_2 x1002_2) ∧ Aside0 (KeepBut w w' g none) ∧ Aside0 (Below w0.heap.size w0 w'))
        case atStart => exact ⟨(0), (t235), (t236), (y239), (.slice (some ad230) x230000_1.length co30), e2, H', ⟨Nat.le_refl _⟩, ⟨by (with_reducible repeat (first | apply Kd.S_alloc | apply Kd.S_drewN | apply Kd.S_drew)); exact Kd.S_mono HQ35.out (fun _ hk => hk.1)⟩, ⟨by (with_reducible repeat (first | refine blk_drewN ?_ _ | refine blk_drew ?_ | refine blk_alloc ?_ _)); refine blk_far ?_ (by have h_ := Kd.R_ne HL230_0.out BK215.out (by decide); intro e_; exact h_ (by rw [e_]; rfl)) _; (with_reducible repeat (first | refine blk_drewN ?_ _ | refine blk_drew ?_ | refine blk_alloc ?_ _)); exact BK215.out⟩, ⟨by (with_reducible repeat (first | refine blk_drewN ?_ _ | refine blk_drew ?_ | refine blk_alloc ?_ _)); refine blk_far ?_ (by have h_ := Kd.R_ne HL230_0.out BK229.out (by decide); intro e_; exact h_ (by rw [e_]; rfl)) _; (with_reducible repeat (first | refine blk_drewN ?_ _ | refine blk_drew ?_ | refine blk_alloc ?_ _)); exact BK229.out⟩, ⟨by repeat (first | (with_reducible first | exact HI0.out | apply IsS92.alloc | apply IsS92.drewN | apply IsS92.drew | apply IsS92.set_1 | apply IsS92.set_2 | refine IsS92.far ?_ HN0_go28.out _ | refine IsS92.far ?_ NB0_215.out _ | refine IsS92.far ?_ NB0_229.out _) | exact HI0.out)⟩, ⟨by repeat (first | (with_reducible first | exact HK.out | apply KeepBut.set_ | apply keep_drewN | apply keep_drew | apply keep_alloc | refine keep_far ?_ GB28.out _ | refine keep_far ?_ GW215.out _ | refine keep_far ?_ GW229.out _) | exact HK.out)⟩, ⟨by repeat (first | (with_reducible first | exact HB.out | apply below_alloc | apply pw_below_drewN | apply below_drew1 | refine below_set ?_ (Nat.le_trans HL.out GB28.out) | refine below_set ?_ (IsS92.ge HI0.out) | refine below_set ?_ GE215.out | refine below_set ?_ GE229.out) | exact HB.out | exact Below.refl _ _)⟩⟩
        case round =>
         clear H'; (try clear c1); (try clear c2); (try clear p2); (try clear q2); (try clear hx2); (try clear hf2); (try clear c3); (try clear q3); (try clear c4); (try clear c7); (try clear c9); (try clear c10); (try clear c11); (try clear c20); (try clear c21); (try clear c23); (try clear c23b0); (try clear p23); (try clear q23); (try clear hx23); (try clear c24); (try clear c24b0); (try clear c25); (try clear c25b0); (try clear c27); (try clear c27b0); (try clear p28); (try clear q28); (try clear hx28); (try clear hf28); (try clear c35); (try clear q35); (try clear hcz11_0); (try clear hcz22_0); (try clear hfz11_0); (try clear hfz22_0); (try clear hx230_0); (try clear hx28_0); (try clear p2); (try clear p230); (try clear p28); (try clear q230); (try clear q28)
         obtain ⟨x7_2, x1001_2, x1002_2, x230000_2, u230000, rfl, HA, HK2, HO_230000, BK215, BK229, HI0, HK, HB⟩ := hrel
         cases gk with
         | zero => exact absurd HA.out (by simp [spec_l1Cur_form.l1])
         | succ k2 =>
          have H := HA.out
          clear HA
          simp only [spec_l1Cur_form.l1] at H
          by_cases c37 : x7_2 < x21_1
          ·
           rw [if_pos c37] at H
           have c37b0 : decide (x7_2 < x21_1) = true := decide_eq_true c37
           clear c37
           obtain ⟨y240, hy240⟩ : ∃ y_ : List Int, y_ = (([0, 0, 1, (-1), 2] : List Int)) := ⟨_, rfl⟩
           replace H : ((spec_l1Cur_among.f s0_0 x1001_2 x1002_2 y240).bind fun bt243 => (if 0 ≤ x21_1 then (if x21_1 < (x230000_2.length : Int) then (if 0 ≤ x7_2 then (if x7_2 < ((rd_L2 x230000_2 x21_1).length : Int) then ((some (x230000_2.set (x21_1 : Int).toNat ((rd_L2 x230000_2 x21_1).set (x7_2 : Int).toNat bt243.1) : List (List Int))).bind fun y249 => (if x7_2 < (x230000_2.length : Int) then (if x21_1 < ((rd_L2 y249 x7_2).length : Int) then (spec_l1Cur_form.l1 k2 x21_1 (wrap64 (x7_2 + 1)) (t226.length : Int) x21_1 s0_0 bt243.2.1 bt243.2.2 (y249.set (x7_2 : Int).toNat ((rd_L2 y249 x7_2).set (x21_1 : Int).toNat bt243.1))) else (none)) else (none))) else (none)) else (none)) else (none)) else (none))) = some (r1, r2, r3) := by first | (rw [hy240]; with_reducible exact H) | (have H2_ := (Option.bind_some _ _).symm.trans H; rw [hy240]; with_reducible exact H2_) | (have H2_ := (Option.bind_some _ _).symm.trans H; with_reducible exact H2_) | with_reducible exact H | (rw [hy240]; exact H) | exact H
           have Ny240 := Aside0.mk hy240
           clear hy240
           replace H := Option.bind_eq_some_iff.mp H
           obtain ⟨⟨t243, t244, t245⟩, A380, H⟩ := H
           replace H : (if 0 ≤ x21_1 then (if x21_1 < (x230000_2.length : Int) then (if 0 ≤ x7_2 then (if x7_2 < ((rd_L2 x230000_2 x21_1).length : Int) then ((some (x230000_2.set (x21_1 : Int).toNat ((rd_L2 x230000_2 x21_1).set (x7_2 : Int).toNat t243) : List (List Int))).bind fun y249 => (if x7_2 < (x230000_2.length : Int) then (if x21_1 < ((rd_L2 y249 x7_2).length : Int) then (spec_l1Cur_form.l1 k2 x21_1 (wrap64 (x7_2 + 1)) (t226.length : Int) x21_1 s0_0 t244 t245 (y249.set (x7_2 : Int).toNat ((rd_L2 y249 x7_2).set (x21_1 : Int).toNat t243))) else (none)) else (none))) else (none)) else (none)) else (none)) else (none)) = some (r1, r2, r3) := H
           have A38 := Aside0.mk A380
           clear A380
           by_cases c39 : 0 ≤ x21_1
           ·
            rw [if_pos c39] at H
            have c39b0 : decide (0 ≤ x21_1) = true := decide_eq_true c39
            clear c39
            by_cases c40 : x21_1 < (x230000_2.length : Int)
            ·
             rw [if_pos c40] at H
             have c40b0 : decide (x21_1 < (x230000_2.length : Int)) = true := decide_eq_true c40
             clear c40
             by_cases c41 : 0 ≤ x7_2
             ·
              rw [if_pos c41] at H
              have c41b0 : decide (0 ≤ x7_2) = true := decide_eq_true c41
              clear c41
              by_cases c42 : x7_2 < ((rd_L2 x230000_2 x21_1).length : Int)
              ·
               rw [if_pos c42] at H
               have c42b0 : decide (x7_2 < ((rd_L2 x230000_2 x21_1).length : Int)) = true := decide_eq_true c42
               clear c42
               obtain ⟨y247, hy247⟩ : ∃ y_ : List Int, y_ = ((rd_L2 x230000_2 x21_1).set (x7_2 : Int).toNat t243) := ⟨_, rfl⟩
               replace H : ((some (x230000_2.set (x21_1 : Int).toNat y247 : List (List Int))).bind fun y249 => (if x7_2 < (x230000_2.length : Int) then (if x21_1 < ((rd_L2 y249 x7_2).length : Int) then (spec_l1Cur_form.l1 k2 x21_1 (wrap64 (x7_2 + 1)) (t226.length : Int) x21_1 s0_0 t244 t245 (y249.set (x7_2 : Int).toNat ((rd_L2 y249 x7_2).set (x21_1 : Int).toNat t243))) else (none)) else (none))) = some (r1, r2, r3) := by first | (rw [hy247]; with_reducible exact H) | (have H2_ := (Option.bind_some _ _).symm.trans H; rw [hy247]; with_reducible exact H2_) | (have H2_ := (Option.bind_some _ _).symm.trans H; with_reducible exact H2_) | with_reducible exact H | (rw [hy247]; exact H) | exact H
               have Ny247 := Aside0.mk hy247
               clear hy247
               obtain ⟨y249, hy249⟩ : ∃ y_ : List (List Int), y_ = (x230000_2.set (x21_1 : Int).toNat y247) := ⟨_, rfl⟩
               replace H : (if x7_2 < (x230000_2.length : Int) then (if x21_1 < ((rd_L2 y249 x7_2).length : Int) then (spec_l1Cur_form.l1 k2 x21_1 (wrap64 (x7_2 + 1)) (t226.length : Int) x21_1 s0_0 t244 t245 (y249.set (x7_2 : Int).toNat ((rd_L2 y249 x7_2).set (x21_1 : Int).toNat t243))) else (none)) else (none)) = some (r1, r2, r3) := by first | (rw [hy249]; with_reducible exact H) | (have H2_ := (Option.bind_some _ _).symm.trans H; rw [hy249]; with_reducible exact H2_) | (have H2_ := (Option.bind_some _ _).symm.trans H; with_reducible exact H2_) | with_reducible exact H | (rw [hy249]; exact H) | exact H
               have Ny249 := Aside0.mk hy249
               clear hy249
               by_cases c44 : x7_2 < (x230000_2.length : Int)
               ·
                rw [if_pos c44] at H
                have c44b0 : decide (x7_2 < (x230000_2.length : Int)) = true := decide_eq_true c44
                clear c44
                by_cases c45 : x21_1 < ((rd_L2 y249 x7_2).length : Int)
                ·
                 rw [if_pos c45] at H
                 have c45b0 : decide (x21_1 < ((rd_L2 y249 x7_2).length : Int)) = true := decide_eq_true c45
                 clear c45
                 obtain ⟨y251, hy251⟩ : ∃ y_ : List Int, y_ = ((rd_L2 y249 x7_2).set (x21_1 : Int).toNat t243) := ⟨_, rfl⟩
                 replace H : (spec_l1Cur_form.l1 k2 x21_1 (wrap64 (x7_2 + 1)) (t226.length : Int) x21_1 s0_0 t244 t245 (y249.set (x7_2 : Int).toNat y251)) = some (r1, r2, r3) := by first | (rw [hy251]; with_reducible exact H) | (have H2_ := (Option.bind_some _ _).symm.trans H; rw [hy251]; with_reducible exact H2_) | (have H2_ := (Option.bind_some _ _).symm.trans H; with_reducible exact H2_) | with_reducible exact H | (rw [hy251]; exact H) | exact H
                 have Ny251 := Aside0.mk hy251
                 clear hy251
                 obtain ⟨y253, hy253⟩ : ∃ y_ : List (List Int), y_ = (y249.set (x7_2 : Int).toNat y251) := ⟨_, rfl⟩
                 replace H : (spec_l1Cur_form.l1 k2 x21_1 (wrap64 (x7_2 + 1)) (t226.length : Int) x21_1 s0_0 t244 t245 y253) = some (r1, r2, r3) := by first | (rw [hy253]; with_reducible exact H) | (have H2_ := (Option.bind_some _ _).symm.trans H; rw [hy253]; with_reducible exact H2_) | (have H2_ := (Option.bind_some _ _).symm.trans H; with_reducible exact H2_) | with_reducible exact H | (rw [hy253]; exact H) | exact H
                 have Ny253 := Aside0.mk hy253
                 clear hy253
                 have H' := Aside0.mk H
                 clear H
                 go_wp2_with (first | ((with_reducible refine gate_dst (N := 40) rfl ?_); refine Kd.R_lit (Kd.int .i64) _ 3 ?hg (N := 40) ?hd (xs := ([0, 0, 1, (-1), 2] : List Int)) (inner := [.int .i64 0, .int .i64 0, .int .i64 1, .int .i64 (-1), .int .i64 2]) (ok := fun _ => True) (okp := fun _ => True) ?hr ?hp (fun _ hk => hk) trivial (Below.refl _ _) (Nat.le_refl _) (by simp) ?_; (case hd => rfl); (case hg => rfl); (case hr => exact z116_); (case hp => exact (Reps.one (show Kd.M (Kd.int .i64) _ _ _ 0 [.int .i64 0] from rfl) (Reps.one (show Kd.M (Kd.int .i64) _ _ _ 0 [.int .i64 0] from rfl) (Reps.one (show Kd.M (Kd.int .i64) _ _ _ 1 [.int .i64 1] from rfl) (Reps.one (show Kd.M (Kd.int .i64) _ _ _ (-1) [.int .i64 (-1)] from rfl) (Reps.one (show Kd.M (Kd.int .i64) _ _ _ 2 [.int .i64 2] from rfl) (Reps.none _ _))))))); intro v241 w47 ho48 hb hg_ hnew_; clear hg_ hnew_; (first | rw [← Ny240.out] at ho48 | (simp only [Int.reduceToNat] at ho48; rw [← Ny240.out] at ho48)); have n0_ := Aside0.mk (Kd.S_elder' z93_ (Kd.R_base ho48) hb); have n1_ := Aside0.mk (Kd.R_lower (Kd.R_newM (M := fun k_ => (w.heap.size ≤ k_)) ho48 (keep_size (w := w) (g := g) (row := none) z45_) (fun k_ h_ => h_)) (keep_size (w := w) (g := g) (row := none) z45_)); have n2_ := Aside0.mk (kK BK215 hb); have n3_ := Aside0.mk (kK BK229 hb); have n4_ := Aside0.mk (IsS92.below z34_ hb); have n5_ := Aside0.mk (KeepBut.trans z45_ (KeepBut.of_below hb g none) (.inl rfl)); have n6_ := Aside0.mk (below_step z21_ hb); clear HO_230000; clear BK215; clear BK229; clear HI0; clear HK; clear HB; have HO_230000 := n0_; have HO242 := n1_; have BK215 := n2_; have BK229 := n3_; have HI0 := n4_; have HK := n5_; have HB := n6_; clear n0_ n1_ n2_ n3_ n4_ n5_ n6_; clear hb ho48; obtain ⟨Ao49, co49, eo49⟩ := Kd.R_slice HO242.out; subst eo49) | ((with_reducible refine gate_callee (f := 99) rfl ?_); refine gL (some 41) rfl rfl Try.func99 (by kernel_rfl) rfl #[.pointer (some ⟨g, 0, none⟩), .slice Ao49 y240.length co49] rfl ?_; (with_reducible refine (spec_l1Cur_among.calls g s0_0 x1001_2 x1002_2 _ _ y240 t243 t244 t245 w0 _ ?side1 ?side2 ?side3 ?side4 ?side5 A38.out).mono ?_); (case side1 => exact z34_); (case side2 => exact z21_); (case side3 => exact cC (Kd.R_reads' HO242.out).2.2); (case side4 => exact (Kd.R_reads' HO242.out).2.1); (case side5 => exact far_slice (IsS92.own_ne HI0.out HO242.out (by decide))); rintro e w50 ⟨rfl, hi, hb, hk⟩; refine ⟨_, rfl, ?_⟩; have n0_ := Aside0.mk (Kd.S_mono (Kd.S_keep (IsS92.apartS (show IsS92 w0 _ g s0_0 x1001_2 x1002_2 from z34_) z93_ (by decide)) hk (fun _ h => h.2)) (fun _ h => h.1)); have n1_ := Aside0.mk (KeepBut.blk hk (g' := gb215) (o := .cells #[.slice none 0 0] 26 (0, 0)) (bA BK215) NB215_0.out (by simp)); have n2_ := Aside0.mk (KeepBut.blk hk (g' := gb229) (o := .cells #[u230000] 26 (0, 0)) (bA BK229) NB229_0.out (by simp)); have n3_ := Aside0.mk (Kd.R_mono (Kd.R_keep (IsS92.apart (show IsS92 w0 _ g s0_0 x1001_2 x1002_2 from z34_) (rA HO242) (by decide)) hk (fun _ h => h.2)) (fun _ h => h.1)); have n4_ := Aside0.mk (KeepBut.trans z45_ hk (.inl rfl)); have n5_ := Aside0.mk (hb); have n6_ := Aside0.mk (hi); clear HO_230000; clear BK215; clear BK229; clear HO242; clear HK; clear HB; clear HI0; have HO_230000 := n0_; have BK215 := n1_; have BK229 := n2_; have HO242 := n3_; have HK := n4_; have HB := n5_; have HI0 := n6_; clear n0_ n1_ n2_ n3_ n4_ n5_ n6_; (try clear hb); (try clear hb2); (try clear hk); (try clear hi); have hnb51 := NB229_215.out; have hnc51 := NB215_229.out; have hnb52 := NB229_0.out; have hnc52 := NB0_229.out; have hcz53_0 : w50.cell? ⟨gb229, 0, none⟩ = some (u230000) := (blk_cell BK229.out 0).trans rfl; have hfz53_0 := blk_frozen BK229.out 0; obtain ⟨Ao54, co54, eo54⟩ := Kd.S_slice HO_230000.out; subst eo54; have p246 : 0 ≤ (x21_1 : Int) := od; have q246 : x21_1 < (x230000_2.length : Int) := od; obtain ⟨ad246, A246_0, c246_0, e246, hx246_0, hl246_0, hi246_0⟩ := at_L2 (Kd.S_reads' HO_230000.out).2.2 x21_1 p246 q246; cases e246; obtain ⟨ce246, hce246, hMe246, hcc246⟩ := Kd.S_get HO_230000.out [] x21_1 p246 (by first | exact q246 | exact od | (have e_ := (Kd.S_reads' HO_230000.out).1; omega)); obtain ⟨ve246_0, rfl, ge246_0⟩ := hMe246; have hv246_0 := hcc246 0 _ rfl; rw [Nat.add_zero, show ((Kd.slice 3 (Kd.int .i64))).sz = 1 from rfl, Nat.mul_one] at hv246_0; replace hv246_0 := Option.some.inj (hv246_0.symm.trans hx246_0); rw [hv246_0] at ge246_0; have HL246_0 := Aside0.mk (show Kd.R (Kd.int .i64) 3 _ _ _ _ (rd_L2 x230000_2 x21_1) from ge246_0); clear hv246_0 ge246_0; have HX246_0 := Aside0.mk hx246_0; clear hcc246 hce246; have HR246_0 := Aside0.mk hi246_0; have HC246_0 := Aside0.mk hl246_0; clear hi246_0 hl246_0; replace p246 := eq_true p246; replace q246 := eq_true q246; have p43 : 0 ≤ (x7_2 : Int) := od; have q43 : (x7_2 : Int) < (((rd_L2 x230000_2 x21_1).length : Int) : Int) := od; obtain ⟨go43, co43, eo43, gb43, gl43, cl43, HG43⟩ := Kd.R_form HL246_0.out (by omega); (first | cases eo43 | (injection eo43 with ea_ en_ ec_; (first | subst ea_ | (injection ea_ with ea_; subst ea_)); subst ec_; clear en_)); have GB43 := Aside0.mk gb43; have GG43 := Aside0.mk HG43; clear gb43 gl43 HG43; obtain ⟨hx43_0, hf43_0⟩ := Kd.R_celln 0 HL246_0.out (x7_2 : Int) p43 q43; replace p43 := eq_true p43; replace q43 := eq_true q43; have hq55 : (x21_1 : Int) < (x230000_2.length : Int) := (by have h_ : (x21_1 : Int) < ((x230000_2.length : Int) : Int) := od; first | exact h_ | (have e_ := (Kd.S_reads' HO_230000.out).1; omega) | simpa only [List.length_set, List.length_set] using h_); obtain ⟨oki55, ce55, hcl55, hM55, hcc55, hok55, hbk55⟩ := Kd.S_borrow HO_230000.out [] (x21_1 : Int) (od) (by first | exact hq55 | (have e_ := (Kd.S_reads' HO_230000.out).1; omega)); obtain ⟨ve55_0, rfl, ge55_0⟩ := hM55; have hv55 := hcc55 0 _ rfl; rw [Nat.add_zero, show ((Kd.slice 3 (Kd.int .i64))).sz = 1 from rfl, Nat.mul_one] at hv55; replace hv55 := Option.some.inj (hv55.symm.trans HX246_0.out); subst hv55; clear hcc55 hcl55; replace ge55_0 := (show Kd.R (Kd.int .i64) 3 _ _ _ _ (rd_L2 x230000_2 x21_1) from ge55_0); have HP55 := Kd.R_putg ge55_0 (x7_2 : Int) t243) | ((with_reducible refine gate_store (t := 3) (p := 49) rfl ?_); refine store_event (t := 3) (p := 49) (v := ?vo_w56) (w1 := (w50.setCell ⟨go43, (x7_2 : Int).toNat, none⟩ (.int .i64 t243))) ?hg ?ho ?hn ?hr ?_; (case ho => rfl); (case hg => rfl); (case hn => rfl); (case hr => exact z116_); intro w56 hw; have hg : w50.grownBy w56 (some go43) := (by rw [hw]; exact HP55.2); have hz_ : Kd.R (Kd.int .i64) 3 w56 w.heap.size oki55 (.slice (some ⟨go43, 0, none⟩) (rd_L2 x230000_2 x21_1).length c246_0) y247 := (by rw [hw, Ny247.out]; exact HP55.1); have hp_ : Kd.S (Kd.slice 3 (Kd.int .i64)) 34 w56 w.heap.size (fun k_ => (w.heap.size ≤ k_) ∧ some k_ ≠ (.slice Ao49 y240.length co49 : Value).ownBlock) (.slice (some ad246) x230000_2.length co54) y249 := (by rw [Ny249.out]; exact hbk55 hg (fun k_ e_ => by injection e_ with e_; subst e_; exact ge55_0.1 _ rfl) (Kd.M_row hz_)); have hm_ := Kd.R_mono hz_ hok55; clear HP55 hbk55; have n0_ := Aside0.mk (hp_); have n1_ := Aside0.mk (blk_grown (g := gb215) (o := .cells #[.slice none 0 0] 26 (0, 0)) (bA BK215) hg (Kd.R_ne HL246_0.out BK215.out (by decide))); have n2_ := Aside0.mk (blk_grown (g := gb229) (o := .cells #[.slice (some ad246) x230000_2.length co54] 26 (0, 0)) (bA BK229) hg (Kd.R_ne HL246_0.out BK229.out (by decide))); have n3_ := Aside0.mk (IsS92.grown z34_ hg (IsS92.own_ne HI0.out HL246_0.out (by decide))); have n4_ := Aside0.mk (Kd.R_grown1 (rA HO242) rfl hg ((HL246_0.out.1 _ rfl).1.2)); have n5_ := Aside0.mk ((by rw [hw]; exact below_set (HB.out) (Nat.le_trans HL.out GB43.out) : Below w0.heap.size w0 w56)); have n6_ := Aside0.mk (KeepBut.trans z45_ (KeepBut.of_grown hg g) (Kd.R_base2 HL246_0.out)); have n7_ := Aside0.mk (hm_); have n8_ := Aside0.mk ((Kd.R_reads' hm_).2.1); clear HO_230000; clear BK215; clear BK229; clear HI0; clear HO242; clear HB; clear HK; clear HL246_0; have HO_230000 := n0_; have BK215 := n1_; have BK229 := n2_; have HI0 := n3_; have HO242 := n4_; have HB := n5_; have HK := n6_; have HL254 := n7_; have HC248 := n8_; clear n0_ n1_ n2_ n3_ n4_ n5_ n6_ n7_ n8_; clear hg hw hp_ hz_ hm_ hok55; have hcz57_0 : w56.cell? ⟨gb229, 0, none⟩ = some (.slice (some ad246) x230000_2.length co54) := (blk_cell BK229.out 0).trans rfl; have hfz57_0 := blk_frozen BK229.out 0; have p250 : 0 ≤ (x7_2 : Int) := od; have q250 : x7_2 < (y249.length : Int) := (by have h_ : (x7_2 : Int) < ((x230000_2.length : Int) : Int) := od; first | (have e_ := (Kd.S_reads' HO_230000.out).1; omega) | simpa only [Ny249.out, List.length_set] using h_); have ql250 : ((x7_2 : Int) < ((x230000_2.length : Int) : Int)) = True := eq_true (od); obtain ⟨ad250, A250_0, c250_0, e250, hx250_0, hl250_0, hi250_0⟩ := at_L2 (Kd.S_reads' HO_230000.out).2.2 x7_2 p250 q250; obtain rfl : ad246 = ad250 := (by injection e250); obtain ⟨ce250, hce250, hMe250, hcc250⟩ := Kd.S_get HO_230000.out [] x7_2 p250 (by first | exact q250 | exact od | (have e_ := (Kd.S_reads' HO_230000.out).1; omega)); obtain ⟨ve250_0, rfl, ge250_0⟩ := hMe250; have hv250_0 := hcc250 0 _ rfl; rw [Nat.add_zero, show ((Kd.slice 3 (Kd.int .i64))).sz = 1 from rfl, Nat.mul_one] at hv250_0; replace hv250_0 := Option.some.inj (hv250_0.symm.trans hx250_0); rw [hv250_0] at ge250_0; have HL250_0 := Aside0.mk (show Kd.R (Kd.int .i64) 3 _ _ _ _ (rd_L2 y249 x7_2) from ge250_0); clear hv250_0 ge250_0; have HX250_0 := Aside0.mk hx250_0; clear hcc250 hce250; have HR250_0 := Aside0.mk hi250_0; have HC250_0 := Aside0.mk hl250_0; clear hi250_0 hl250_0; replace p250 := eq_true p250; replace q250 := eq_true q250; have p46 : 0 ≤ (x21_1 : Int) := od; have q46 : (x21_1 : Int) < (((rd_L2 y249 x7_2).length : Int) : Int) := od; obtain ⟨go46, co46, eo46, gb46, gl46, cl46, HG46⟩ := Kd.R_form HL250_0.out (by omega); (first | cases eo46 | (injection eo46 with ea_ en_ ec_; (first | subst ea_ | (injection ea_ with ea_; subst ea_)); subst ec_; clear en_)); have GB46 := Aside0.mk gb46; have GG46 := Aside0.mk HG46; clear gb46 gl46 HG46; obtain ⟨hx46_0, hf46_0⟩ := Kd.R_celln 0 HL250_0.out (x21_1 : Int) p46 q46; replace p46 := eq_true p46; replace q46 := eq_true q46; have hq58 : (x7_2 : Int) < (y249.length : Int) := (by have h_ : (x7_2 : Int) < ((x230000_2.length : Int) : Int) := od; first | exact h_ | (have e_ := (Kd.S_reads' HO_230000.out).1; omega) | simpa only [Ny249.out, List.length_set] using h_); obtain ⟨oki58, ce58, hcl58, hM58, hcc58, hok58, hbk58⟩ := Kd.S_borrow HO_230000.out [] (x7_2 : Int) (od) (by first | exact hq58 | (have e_ := (Kd.S_reads' HO_230000.out).1; omega)); obtain ⟨ve58_0, rfl, ge58_0⟩ := hM58; have hv58 := hcc58 0 _ rfl; rw [Nat.add_zero, show ((Kd.slice 3 (Kd.int .i64))).sz = 1 from rfl, Nat.mul_one] at hv58; replace hv58 := Option.some.inj (hv58.symm.trans HX250_0.out); subst hv58; clear hcc58 hcl58; replace ge58_0 := (show Kd.R (Kd.int .i64) 3 _ _ _ _ (rd_L2 y249 x7_2) from ge58_0); have HP58 := Kd.R_putg ge58_0 (x21_1 : Int) t243) | ((with_reducible refine gate_store (t := 3) (p := 57) rfl ?_); refine store_event (t := 3) (p := 57) (v := ?vo_w59) (w1 := (w56.setCell ⟨go46, (x21_1 : Int).toNat, none⟩ (.int .i64 t243))) ?hg ?ho ?hn ?hr ?_; (case ho => rfl); (case hg => rfl); (case hn => rfl); (case hr => exact z116_); intro w59 hw; have hg : w56.grownBy w59 (some go46) := (by rw [hw]; exact HP58.2); have hz_ : Kd.R (Kd.int .i64) 3 w59 w.heap.size oki58 (.slice (some ⟨go46, 0, none⟩) (rd_L2 y249 x7_2).length c250_0) y251 := (by rw [hw, Ny251.out]; exact HP58.1); have hp_ : Kd.S (Kd.slice 3 (Kd.int .i64)) 34 w59 w.heap.size (fun k_ => (w.heap.size ≤ k_) ∧ some k_ ≠ (.slice Ao49 y240.length co49 : Value).ownBlock) (.slice (some ad246) x230000_2.length co54) y253 := (by rw [Ny253.out]; exact hbk58 hg (fun k_ e_ => by injection e_ with e_; subst e_; exact ge58_0.1 _ rfl) (Kd.M_row hz_)); have hm_ := Kd.R_mono hz_ hok58; clear HP58 hbk58; have n0_ := Aside0.mk (hp_); have n1_ := Aside0.mk (blk_grown (g := gb215) (o := .cells #[.slice none 0 0] 26 (0, 0)) (bA BK215) hg (Kd.R_ne HL250_0.out BK215.out (by decide))); have n2_ := Aside0.mk (blk_grown (g := gb229) (o := .cells #[.slice (some ad246) x230000_2.length co54] 26 (0, 0)) (bA BK229) hg (Kd.R_ne HL250_0.out BK229.out (by decide))); have n3_ := Aside0.mk (IsS92.grown z34_ hg (IsS92.own_ne HI0.out HL250_0.out (by decide))); have n4_ := Aside0.mk (Kd.R_grown1 (rA HO242) rfl hg ((HL250_0.out.1 _ rfl).1.2)); have n5_ := Aside0.mk ((by rw [hw]; exact below_set (HB.out) (Nat.le_trans HL.out GB46.out) : Below w0.heap.size w0 w59)); have n6_ := Aside0.mk (KeepBut.trans z45_ (KeepBut.of_grown hg g) (Kd.R_base2 HL250_0.out)); have n7_ := Aside0.mk (hm_); have n8_ := Aside0.mk ((Kd.R_reads' hm_).2.1); clear HO_230000; clear BK215; clear BK229; clear HI0; clear HO242; clear HB; clear HK; clear HL254; clear HL250_0; have HO_230000 := n0_; have BK215 := n1_; have BK229 := n2_; have HI0 := n3_; have HO242 := n4_; have HB := n5_; have HK := n6_; have HL255 := n7_; have HC252 := n8_; clear n0_ n1_ n2_ n3_ n4_ n5_ n6_ n7_ n8_; clear hg hw hp_ hz_ hm_ hok58))
                 go_roundg k2
                 case measure => have := HK1.out; have := HK2.out; omega
                 case rel => exact ⟨(wrap64 (x7_2 + 1)), (t244), (t245), (y253), (.slice (some ad246) x230000_2.length co54), e2, H', ⟨by have := HK1.out; have := HK2.out; omega⟩, ⟨by (with_reducible repeat (first | apply Kd.S_alloc | apply Kd.S_drewN | apply Kd.S_drew)); exact Kd.S_mono HO_230000.out (fun _ hk => hk.1)⟩, ⟨z88_⟩, ⟨z81_⟩, ⟨z34_⟩, ⟨z45_⟩, ⟨z21_⟩⟩
                ·
                 rw [if_neg c45] at H
                 exact absurd H (by simp)
               ·
                rw [if_neg c44] at H
                exact absurd H (by simp)
              ·
               rw [if_neg c42] at H
               exact absurd H (by simp)
             ·
              rw [if_neg c41] at H
              exact absurd H (by simp)
            ·
             rw [if_neg c40] at H
             exact absurd H (by simp)
           ·
            rw [if_neg c39] at H
            exact absurd H (by simp)
          ·
           rw [if_neg c37] at H
           have c37b0 : decide (x7_2 < x21_1) = false := decide_eq_false c37
           clear c37
           have H' := Aside0.mk H
           clear H
           go_wp2
           go_roundg k2
           case measure => have := HK1.out; have := HK2.out; omega
           case rel => exact ⟨(wrap64 (x21_1 + 1)), (x1001_2), (x1002_2), (x230000_2), (u230000), e2, H', ⟨by have := HK1.out; have := HK2.out; omega⟩, ⟨z93_⟩, ⟨z88_⟩, ⟨z81_⟩, ⟨z34_⟩, ⟨z45_⟩, ⟨z21_⟩⟩
       ·
        rw [if_neg c27] at H
        exact absurd H (by simp)
      ·
       rw [if_neg c25] at H
       exact absurd H (by simp)
     ·
      rw [if_neg c24] at H
      exact absurd H (by simp)
    ·
     rw [if_neg c23] at H
     have c23b0 : decide (x21_1 < (t226.length : Int)) = false := decide_eq_false c23
     clear c23
     simp only [Option.some.injEq, Prod.mk.injEq] at H
     obtain ⟨rfl, rfl, rfl⟩ := H
     have hnb60 := NB229_215.out
     have hnc60 := NB215_229.out
     have hnb61 := NB229_0.out
     have hnc61 := NB0_229.out
     have hcz62_0 : wr.cell? ⟨gb229, 0, none⟩ = some (u230000) := (blk_cell BK229.out 0).trans rfl
     have hfz62_0 := blk_frozen BK229.out 0
     obtain ⟨Ao63, co63, eo63⟩ := Kd.S_slice HO_230000.out
     subst eo63
     have hnb64 := NB215_0.out
     have hnc64 := NB0_215.out
     have hcz65_0 : wr.cell? ⟨gb215, 0, none⟩ = some (.slice none 0 0) := (blk_cell BK215.out 0).trans rfl
     have hfz65_0 := blk_frozen BK215.out 0
     go_wp2
     refine bodyPost_ret (results_cell_row rfl _ _ gb215 26 #[.slice Ao63 x230000_1.length co63] (0, 0) _ rfl z19_ Try.underlying26 rfl (by kernel_rfl)) rfl ?_
     exact ⟨_, e1, Kd.S_V (by (with_reducible repeat (first | apply Kd.S_alloc | apply Kd.S_drewN | apply Kd.S_drew)); exact Kd.S_mono (Kd.S_far (p := ⟨gb215, 0, none⟩) (Kd.S_types HO_230000.out BK215.out (by decide)) (fun _ hk => hk.2) (.slice Ao63 x230000_1.length co63)) (fun _ hk => hk.1)), z34_, z21_, z45_⟩

/-! ### spec_l1Cur_vector: function 101 -/
def spec_l1Cur_vector.l0 : Nat → Int → List Int → List Int → Int → Int → Option (List Int × Int × Int)
 | 0, _, _, _, _, _ => none
 | k + 1, x1, x5, x1000, x1001, x1002 => if x1 > 0 then ((spec_l1Cur_pick.f x1000 x1001 x1002 13).bind fun bt256 => (if x5.length < 17592186044416 then (spec_l1Cur_vector.l0 k (wrap64 (x1 - 1)) (x5 ++ [wrap64 (bt256.1 - 6)]) x1000 bt256.2.1 bt256.2.2) else (none))) else ((spec_l1Cur_pick.f x1000 x1001 x1002 20).bind fun bt262 => (if bt262.1 = 0 then (if x5.length < 17592186044416 then (some ((x5 ++ [1]), bt262.2.1, bt262.2.2)) else (none)) else (if bt262.1 = 1 then (if (x5.length : Int) > 0 then ((spec_l1Cur_among.f x1000 bt262.2.1 bt262.2.2 (([1000000, (-1000000), 1000001, 4611686018427387904] : List Int))).bind fun bt271 => (if 0 < (x5.length : Int) then (some ((x5.set (0 : Int).toNat bt271.1), bt271.2.1, bt271.2.2)) else (none))) else (some (x5, bt262.2.1, bt262.2.2))) else (some (x5, bt262.2.1, bt262.2.2)))))
def spec_l1Cur_vector.f (k : Nat) (s0_0 : List Int) (s0_1 : Int) (s0_2 : Int) (a1 : Int) : Option (List Int × Int × Int) := spec_l1Cur_vector.l0 k a1 ([] : List Int) s0_0 s0_1 s0_2
theorem spec_l1Cur_vector.mono_l : ∀ k, (∀ y0 y1 y2 y3 y4, LeO (spec_l1Cur_vector.l0 k y0 y1 y2 y3 y4) (spec_l1Cur_vector.l0 (k + 1) y0 y1 y2 y3 y4))
 | 0 => fun _ _ _ _ _ r h => by simp [spec_l1Cur_vector.l0] at h
 | k + 1 => by
  have ih0 := spec_l1Cur_vector.mono_l k
  ·
   intro y0 y1 y2 y3 y4
   unfold spec_l1Cur_vector.l0
   repeat' first
   | (with_reducible exact ih0 _ _ _ _ _)
   | (with_reducible exact LeO.refl _)
   | (with_reducible exact LeO.none _)
   | (with_reducible refine LeO.ite ?_ ?_)
   | (with_reducible refine LeO.bind ?_ (fun _ => ?_))
   | exact ih0 _ _ _ _ _
   | exact LeO.none _
   | refine LeO.ite ?_ ?_
   | refine LeO.bind ?_ (fun _ => ?_)
theorem spec_l1Cur_vector.mono : ∀ a0 a1 a2 a3 k, LeO (spec_l1Cur_vector.f k a0 a1 a2 a3) (spec_l1Cur_vector.f (k + 1) a0 a1 a2 a3) := by
 intro a0 a1 a2 a3 k
 have ih0 := spec_l1Cur_vector.mono_l k
 unfold spec_l1Cur_vector.f
 repeat' first
  | (with_reducible exact ih0 _ _ _ _ _)
  | (with_reducible exact LeO.refl _)
  | (with_reducible exact LeO.none _)
  | (with_reducible refine LeO.ite ?_ ?_)
  | (with_reducible refine LeO.bind ?_ (fun _ => ?_))
  | exact ih0 _ _ _ _ _
  | exact LeO.none _
  | refine LeO.ite ?_ ?_
  | refine LeO.bind ?_ (fun _ => ?_)
set_option maxHeartbeats 8000000 in
set_option maxRecDepth 100000 in
theorem spec_l1Cur_vector.calls (k : Nat) (g : Nat) (s0_0 : List Int) (s0_1 : Int) (s0_2 : Int) (a1 : Int) (r1 : List Int) (r2 : Int) (r3 : Int) (w0 w : World) (hI : IsS92 w0 w g s0_0 s0_1 s0_2) (hB : Below w0.heap.size w0 w) (h : spec_l1Cur_vector.f k s0_0 s0_1 s0_2 a1 = some (r1, r2, r3)) :
 Calls Try.prog 101 #[.pointer (some ⟨g, 0, none⟩), .int .i64 a1] w fun e w' => ∃ v0_ : Value, e = .returned (v0_) ∧ Kd.R (Kd.int .i64) 3 w' w.heap.size (fun _ => True) v0_ r1 ∧ IsS92 w0 w' g s0_0 r2 r3 ∧ Below w0.heap.size w0 w' ∧ KeepBut w w' g none := by
 have HI0 := Aside0.mk hI
 have HK := Aside0.mk (KeepBut.refl w g none)
 have HL := Aside0.mk hB.size
 clear hI
 have HW0 := Aside0.mk hB.size
 have HB := Aside0.mk hB
 clear hB
 have H : (spec_l1Cur_vector.l0 k a1 ([] : List Int) s0_0 s0_1 s0_2) = some (r1, r2, r3) := h
 clear h
 have H' := Aside0.mk H
 clear H
 go_enter Try.func101, Try.ntmps101
 go_wp2
 go_loopg [1, 5] k (fun kq v1 v5 w' => ∃ (x1_1 : Int) (x5_1 : List Int) (x1001_1 : Int) (x1002_1 : Int), v1 = .int .i64 x1_1 ∧ Aside0 (spec_l1Cur_vector.l0 kq x1_1 x5_1 s0_0 x1001_1 x1002_1 = some (r1, r2, r3)) ∧ Aside0 (kq ≤ k) ∧ Aside0 (Kd.R (Kd.int .i64) 3 w' w.heap.size (fun _ => True) v5 x5_1) ∧ Aside0 (IsS92 w0 w' g s0_0 x1001_1 x1002_1) ∧ Aside0 (KeepBut w w' g none) ∧ Aside0 (Below w0.heap.size w0 w'))
 case atStart => exact ⟨(a1), (([] : List Int)), (s0_1), (s0_2), e2, H', ⟨Nat.le_refl _⟩, ⟨z59_⟩, ⟨z55_⟩, ⟨kH HK⟩, ⟨z49_⟩⟩
 case round =>
  clear H'; (try clear c1); (try clear p2)
  obtain ⟨x1_1, x5_1, x1001_1, x1002_1, rfl, HA, HK1, HO_5, HI0, HK, HB⟩ := hrel
  cases gk with
  | zero => exact absurd HA.out (by simp [spec_l1Cur_vector.l0])
  | succ k1 =>
   have H := HA.out
   clear HA
   simp only [spec_l1Cur_vector.l0] at H
   by_cases c3 : x1_1 > 0
   ·
    rw [if_pos c3] at H
    have c3b0 : decide (0 < x1_1) = true := decide_eq_true c3
    clear c3
    replace H := Option.bind_eq_some_iff.mp H
    obtain ⟨⟨t256, t257, t258⟩, A40, H⟩ := H
    replace H : (if x5_1.length < 17592186044416 then (spec_l1Cur_vector.l0 k1 (wrap64 (x1_1 - 1)) (x5_1 ++ [wrap64 (t256 - 6)]) s0_0 t257 t258) else (none)) = some (r1, r2, r3) := H
    have A4 := Aside0.mk A40
    clear A40
    by_cases c5 : x5_1.length < 17592186044416
    ·
     rw [if_pos c5] at H
     have LMc5 := Aside0.mk c5
     clear c5
     obtain ⟨y259, hy259⟩ : ∃ y_ : List Int, y_ = (x5_1 ++ [wrap64 (t256 - 6)]) := ⟨_, rfl⟩
     replace H : (spec_l1Cur_vector.l0 k1 (wrap64 (x1_1 - 1)) y259 s0_0 t257 t258) = some (r1, r2, r3) := by first | (rw [hy259]; with_reducible exact H) | (have H2_ := (Option.bind_some _ _).symm.trans H; rw [hy259]; with_reducible exact H2_) | (have H2_ := (Option.bind_some _ _).symm.trans H; with_reducible exact H2_) | with_reducible exact H | (rw [hy259]; exact H) | exact H
     have Ny259 := Aside0.mk hy259
     clear hy259
     have H' := Aside0.mk H
     clear H
     go_wp2_with (first | ((with_reducible refine gate_callee (f := 107) rfl ?_); refine gL (some 12) rfl rfl Try.func107 (by kernel_rfl) rfl #[.pointer (some ⟨g, 0, none⟩), .int .i64 13] rfl ?_; (with_reducible refine (spec_l1Cur_pick.calls g s0_0 x1001_1 x1002_1 13 t256 t257 t258 w0 _ ?side1 ?side2 A4.out).mono ?_); (case side1 => exact z55_); (case side2 => exact z49_); rintro e w6 ⟨rfl, hi, hb, hk⟩; refine ⟨_, rfl, ?_⟩; have n0_ := Aside0.mk (Kd.R_mono (Kd.R_keep (IsS92.apart (show IsS92 w0 _ g s0_0 x1001_1 x1002_1 from z55_) (rA HO_5) (by decide)) hk (fun _ h => h.2)) (fun _ h => h.1)); have n1_ := Aside0.mk (KeepBut.trans (kH HK) hk (.inl rfl)); have n2_ := Aside0.mk (hb); have n3_ := Aside0.mk (hi); clear HO_5; clear HK; clear HB; clear HI0; have HO_5 := n0_; have HK := n1_; have HB := n2_; have HI0 := n3_; clear n0_ n1_ n2_ n3_; (try clear hb); (try clear hb2); (try clear hk); (try clear hi)) | ((with_reducible refine gate_builtin (b := .append) (xs := #[.tmp 10, .tmp 14]) rfl ?_); at_builtin; refine Kd.R_append (Kd.int .i64) w.heap.size rfl (.tmp 10) (.tmp 14) 34 3 (.int .i64 0) 8 rfl Try.underlying34 info3 rfl (by decide) (by omega) u5 x5_1 (wrap64 (t256 - 6)) [.int .i64 (wrap64 (t256 - 6))] (fun _ => True) (fun _ => False) rfl rfl ?aP (fun _ hk => hk.elim) ?aF ?aO (Below.refl _ _) ?aS ?aL ?_; (case aP => exact rfl); (case aF => exact (fun _ _ => trivial)); (case aO => exact (rA HO_5)); (case aS => exact (keep_size (w := w) (g := g) (row := none) (kH HK))); (case aL => have := LMc5.out; omega); intro v260 w7 ho hb hg hat; rw [← Ny259.out] at ho; have n0_ := Aside0.mk (IsS92.grown z55_ hg (IsS92.own_ne HI0.out HO_5.out (by decide))); have n1_ := Aside0.mk (below_weaken z49_ HL.out hb); have n2_ := Aside0.mk (KeepBut.trans (kH HK) (KeepBut.of_grown hg g) (Kd.R_base2 HO_5.out)); have n3_ := Aside0.mk (ho); clear HI0; clear HB; clear HK; clear HO_5; have HI0 := n0_; have HB := n1_; have HK := n2_; have HO261 := n3_; clear n0_ n1_ n2_ n3_; clear ho hb hg hat))
     go_roundg k1
     case measure => have := HK1.out; omega
     case rel => exact ⟨(wrap64 (x1_1 - 1)), (y259), (t257), (t258), e2, H', ⟨by have := HK1.out; omega⟩, ⟨by (with_reducible repeat (first | apply Kd.R_alloc | apply Kd.R_drewN | apply Kd.R_drew)); exact HO261.out⟩, ⟨z55_⟩, ⟨kH HK⟩, ⟨z49_⟩⟩
    ·
     rw [if_neg c5] at H
     exact absurd H (by simp)
   ·
    rw [if_neg c3] at H
    have c3b0 : decide (0 < x1_1) = false := decide_eq_false c3
    clear c3
    replace H := Option.bind_eq_some_iff.mp H
    obtain ⟨⟨t262, t263, t264⟩, A80, H⟩ := H
    replace H : (if t262 = 0 then (if x5_1.length < 17592186044416 then (some ((x5_1 ++ [1]), t263, t264)) else (none)) else (if t262 = 1 then (if (x5_1.length : Int) > 0 then ((spec_l1Cur_among.f s0_0 t263 t264 (([1000000, (-1000000), 1000001, 4611686018427387904] : List Int))).bind fun bt271 => (if 0 < (x5_1.length : Int) then (some ((x5_1.set (0 : Int).toNat bt271.1), bt271.2.1, bt271.2.2)) else (none))) else (some (x5_1, t263, t264))) else (some (x5_1, t263, t264)))) = some (r1, r2, r3) := H
    have A8 := Aside0.mk A80
    clear A80
    by_cases c9 : t262 = 0
    ·
     rw [if_pos c9] at H
     have c9b0 : (t262 == 0) = true := beq_iff_eq.mpr c9
     have c9b1 : (t262 != 0) = false := bne_eq_false_iff_eq.mpr c9
     clear c9
     by_cases c10 : x5_1.length < 17592186044416
     ·
      rw [if_pos c10] at H
      have LMc10 := Aside0.mk c10
      clear c10
      obtain ⟨y265, hy265⟩ : ∃ y_ : List Int, y_ = (x5_1 ++ [1]) := ⟨_, rfl⟩
      replace H : (some (y265, t263, t264)) = some (r1, r2, r3) := by first | (rw [hy265]; with_reducible exact H) | (have H2_ := (Option.bind_some _ _).symm.trans H; rw [hy265]; with_reducible exact H2_) | (have H2_ := (Option.bind_some _ _).symm.trans H; with_reducible exact H2_) | with_reducible exact H | (rw [hy265]; exact H) | exact H
      have Ny265 := Aside0.mk hy265
      clear hy265
      simp only [Option.some.injEq, Prod.mk.injEq] at H
      obtain ⟨rfl, rfl, rfl⟩ := H
      go_wp2_with (first | ((with_reducible refine gate_callee (f := 107) rfl ?_); refine gL (some 17) rfl rfl Try.func107 (by kernel_rfl) rfl #[.pointer (some ⟨g, 0, none⟩), .int .i64 20] rfl ?_; (with_reducible refine (spec_l1Cur_pick.calls g s0_0 x1001_1 x1002_1 20 t262 t263 t264 w0 _ ?side1 ?side2 A8.out).mono ?_); (case side1 => exact z55_); (case side2 => exact z49_); rintro e w11 ⟨rfl, hi, hb, hk⟩; refine ⟨_, rfl, ?_⟩; have n0_ := Aside0.mk (Kd.R_mono (Kd.R_keep (IsS92.apart (show IsS92 w0 _ g s0_0 x1001_1 x1002_1 from z55_) (rA HO_5) (by decide)) hk (fun _ h => h.2)) (fun _ h => h.1)); have n1_ := Aside0.mk (KeepBut.trans (kH HK) hk (.inl rfl)); have n2_ := Aside0.mk (hb); have n3_ := Aside0.mk (hi); clear HO_5; clear HK; clear HB; clear HI0; have HO_5 := n0_; have HK := n1_; have HB := n2_; have HI0 := n3_; clear n0_ n1_ n2_ n3_; (try clear hb); (try clear hb2); (try clear hk); (try clear hi)) | ((with_reducible refine gate_builtin (b := .append) (xs := #[.tmp 20, .tmp 21]) rfl ?_); at_builtin; refine Kd.R_append (Kd.int .i64) w.heap.size rfl (.tmp 20) (.tmp 21) 34 3 (.int .i64 0) 8 rfl Try.underlying34 info3 rfl (by decide) (by omega) u5 x5_1 1 [.int .i64 1] (fun _ => True) (fun _ => False) rfl rfl ?aP (fun _ hk => hk.elim) ?aF ?aO (Below.refl _ _) ?aS ?aL ?_; (case aP => exact rfl); (case aF => exact (fun _ _ => trivial)); (case aO => exact (rA HO_5)); (case aS => exact (keep_size (w := w) (g := g) (row := none) (kH HK))); (case aL => have := LMc10.out; omega); intro v266 w12 ho hb hg hat; rw [← Ny265.out] at ho; have n0_ := Aside0.mk (IsS92.grown z55_ hg (IsS92.own_ne HI0.out HO_5.out (by decide))); have n1_ := Aside0.mk (below_weaken z49_ HL.out hb); have n2_ := Aside0.mk (KeepBut.trans (kH HK) (KeepBut.of_grown hg g) (Kd.R_base2 HO_5.out)); have n3_ := Aside0.mk (ho); clear HI0; clear HB; clear HK; clear HO_5; have HI0 := n0_; have HB := n1_; have HK := n2_; have HO267 := n3_; clear n0_ n1_ n2_ n3_; clear ho hb hg hat))
      go_ret
      exact ⟨_, e1, by (with_reducible repeat (first | apply Kd.R_alloc | apply Kd.R_drewN | apply Kd.R_drew)); exact HO267.out, z55_, z49_, kH HK⟩
     ·
      rw [if_neg c10] at H
      exact absurd H (by simp)
    ·
     rw [if_neg c9] at H
     have c9b0 : (t262 == 0) = false := beq_eq_false_iff_ne.mpr c9
     have c9b1 : (t262 != 0) = true := bne_iff_ne.mpr c9
     by_cases c13 : t262 = 1
     ·
      rw [if_pos c13] at H
      have c13b0 : (t262 == 1) = true := beq_iff_eq.mpr c13
      have c13b1 : (t262 != 1) = false := bne_eq_false_iff_eq.mpr c13
      clear c13
      by_cases c14 : (x5_1.length : Int) > 0
      ·
       rw [if_pos c14] at H
       have c14b0 : decide (0 < (x5_1.length : Int)) = true := decide_eq_true c14
       have c14b1 : decide (0 < x5_1.length) = true := decide_eq_true (by omega)
       clear c14
       obtain ⟨y268, hy268⟩ : ∃ y_ : List Int, y_ = (([1000000, (-1000000), 1000001, 4611686018427387904] : List Int)) := ⟨_, rfl⟩
       replace H : ((spec_l1Cur_among.f s0_0 t263 t264 y268).bind fun bt271 => (if 0 < (x5_1.length : Int) then (some ((x5_1.set (0 : Int).toNat bt271.1), bt271.2.1, bt271.2.2)) else (none))) = some (r1, r2, r3) := by first | (rw [hy268]; with_reducible exact H) | (have H2_ := (Option.bind_some _ _).symm.trans H; rw [hy268]; with_reducible exact H2_) | (have H2_ := (Option.bind_some _ _).symm.trans H; with_reducible exact H2_) | with_reducible exact H | (rw [hy268]; exact H) | exact H
       have Ny268 := Aside0.mk hy268
       clear hy268
       replace H := Option.bind_eq_some_iff.mp H
       obtain ⟨⟨t271, t272, t273⟩, A150, H⟩ := H
       replace H : (if 0 < (x5_1.length : Int) then (some ((x5_1.set (0 : Int).toNat t271), t272, t273)) else (none)) = some (r1, r2, r3) := H
       have A15 := Aside0.mk A150
       clear A150
       by_cases c16 : 0 < (x5_1.length : Int)
       ·
        rw [if_pos c16] at H
        have c16b0 : decide (0 < (x5_1.length : Int)) = true := decide_eq_true c16
        have c16b1 : decide (0 < x5_1.length) = true := decide_eq_true (by omega)
        clear c16
        obtain ⟨y274, hy274⟩ : ∃ y_ : List Int, y_ = (x5_1.set (0 : Int).toNat t271) := ⟨_, rfl⟩
        replace H : (some (y274, t272, t273)) = some (r1, r2, r3) := by first | (rw [hy274]; with_reducible exact H) | (have H2_ := (Option.bind_some _ _).symm.trans H; rw [hy274]; with_reducible exact H2_) | (have H2_ := (Option.bind_some _ _).symm.trans H; with_reducible exact H2_) | with_reducible exact H | (rw [hy274]; exact H) | exact H
        have Ny274 := Aside0.mk hy274
        clear hy274
        simp only [Option.some.injEq, Prod.mk.injEq] at H
        obtain ⟨rfl, rfl, rfl⟩ := H
        go_wp2_with (first | ((with_reducible refine gate_callee (f := 107) rfl ?_); refine gL (some 17) rfl rfl Try.func107 (by kernel_rfl) rfl #[.pointer (some ⟨g, 0, none⟩), .int .i64 20] rfl ?_; (with_reducible refine (spec_l1Cur_pick.calls g s0_0 x1001_1 x1002_1 20 t262 t263 t264 w0 _ ?side1 ?side2 A8.out).mono ?_); (case side1 => exact z55_); (case side2 => exact z49_); rintro e w18 ⟨rfl, hi, hb, hk⟩; refine ⟨_, rfl, ?_⟩; have n0_ := Aside0.mk (Kd.R_mono (Kd.R_keep (IsS92.apart (show IsS92 w0 _ g s0_0 x1001_1 x1002_1 from z55_) (rA HO_5) (by decide)) hk (fun _ h => h.2)) (fun _ h => h.1)); have n1_ := Aside0.mk (KeepBut.trans (kH HK) hk (.inl rfl)); have n2_ := Aside0.mk (hb); have n3_ := Aside0.mk (hi); clear HO_5; clear HK; clear HB; clear HI0; have HO_5 := n0_; have HK := n1_; have HB := n2_; have HI0 := n3_; clear n0_ n1_ n2_ n3_; (try clear hb); (try clear hb2); (try clear hk); (try clear hi); obtain ⟨Ao19, co19, eo19⟩ := Kd.R_slice HO_5.out; subst eo19) | ((with_reducible refine gate_dst (N := 30) rfl ?_); refine Kd.R_lit (Kd.int .i64) _ 3 ?hg (N := 30) ?hd (xs := ([1000000, (-1000000), 1000001, 4611686018427387904] : List Int)) (inner := [.int .i64 1000000, .int .i64 (-1000000), .int .i64 1000001, .int .i64 4611686018427387904]) (ok := fun _ => True) (okp := fun _ => True) ?hr ?hp (fun _ hk => hk) trivial (Below.refl _ _) (Nat.le_refl _) (by simp) ?_; (case hd => rfl); (case hg => rfl); (case hr => exact z116_); (case hp => exact (Reps.one (show Kd.M (Kd.int .i64) _ _ _ 1000000 [.int .i64 1000000] from rfl) (Reps.one (show Kd.M (Kd.int .i64) _ _ _ (-1000000) [.int .i64 (-1000000)] from rfl) (Reps.one (show Kd.M (Kd.int .i64) _ _ _ 1000001 [.int .i64 1000001] from rfl) (Reps.one (show Kd.M (Kd.int .i64) _ _ _ 4611686018427387904 [.int .i64 4611686018427387904] from rfl) (Reps.none _ _)))))); intro v269 w20 ho21 hb hg_ hnew_; clear hg_ hnew_; (first | rw [← Ny268.out] at ho21 | (simp only [Int.reduceToNat] at ho21; rw [← Ny268.out] at ho21)); have n0_ := Aside0.mk (Kd.R_elder' (rA HO_5) (Kd.R_base ho21) hb); have n1_ := Aside0.mk (Kd.R_lower (Kd.R_new' ho21 (Kd.R_lt (rA HO_5))) (keep_size (w := w) (g := g) (row := none) (kH HK))); have n2_ := Aside0.mk (IsS92.below z55_ hb); have n3_ := Aside0.mk (KeepBut.trans (kH HK) (KeepBut.of_below hb g none) (.inl rfl)); have n4_ := Aside0.mk (below_step z49_ hb); clear HO_5; clear HI0; clear HK; clear HB; have HO_5 := n0_; have HO270 := n1_; have HI0 := n2_; have HK := n3_; have HB := n4_; clear n0_ n1_ n2_ n3_ n4_; clear hb ho21; obtain ⟨Ao22, co22, eo22⟩ := Kd.R_slice HO270.out; subst eo22) | ((with_reducible refine gate_callee (f := 99) rfl ?_); refine gL (some 31) rfl rfl Try.func99 (by kernel_rfl) rfl #[.pointer (some ⟨g, 0, none⟩), .slice Ao22 y268.length co22] rfl ?_; (with_reducible refine (spec_l1Cur_among.calls g s0_0 t263 t264 _ _ y268 t271 t272 t273 w0 _ ?side1 ?side2 ?side3 ?side4 ?side5 A15.out).mono ?_); (case side1 => exact z55_); (case side2 => exact z49_); (case side3 => exact cC (Kd.R_reads' HO270.out).2.2); (case side4 => exact (Kd.R_reads' HO270.out).2.1); (case side5 => exact far_slice (IsS92.own_ne HI0.out HO270.out (by decide))); rintro e w23 ⟨rfl, hi, hb, hk⟩; refine ⟨_, rfl, ?_⟩; have n0_ := Aside0.mk (Kd.R_mono (Kd.R_keep (IsS92.apart (show IsS92 w0 _ g s0_0 t263 t264 from z55_) (rA HO_5) (by decide)) hk (fun _ h => h.2)) (fun _ h => h.1)); have n1_ := Aside0.mk (Kd.R_mono (Kd.R_keep (IsS92.apart (show IsS92 w0 _ g s0_0 t263 t264 from z55_) (rA HO270) (by decide)) hk (fun _ h => h.2)) (fun _ h => h.1)); have n2_ := Aside0.mk (KeepBut.trans (kH HK) hk (.inl rfl)); have n3_ := Aside0.mk (hb); have n4_ := Aside0.mk (hi); clear HO_5; clear HO270; clear HK; clear HB; clear HI0; have HO_5 := n0_; have HO270 := n1_; have HK := n2_; have HB := n3_; have HI0 := n4_; clear n0_ n1_ n2_ n3_ n4_; (try clear hb); (try clear hb2); (try clear hk); (try clear hi); have p17 : 0 ≤ (0 : Int) := (by omega); have q17 : (0 : Int) < ((x5_1.length : Int) : Int) := od; have qi17 : (0 < x5_1.length) = True := eq_true (by omega); obtain ⟨go17, co17, eo17, gb17, gl17, cl17, HG17⟩ := Kd.R_form HO_5.out (by omega); (first | cases eo17 | (injection eo17 with ea_ en_ ec_; (first | subst ea_ | (injection ea_ with ea_; subst ea_)); subst ec_; clear en_)); have GB17 := Aside0.mk gb17; have GG17 := Aside0.mk HG17; clear gb17 gl17 HG17; obtain ⟨hx17_0, hf17_0⟩ := Kd.R_celln 0 HO_5.out (0 : Int) p17 q17; (try rw [show ((0 : Int)).toNat = 0 from rfl] at hx17_0); (try simp only [Nat.reduceMul, Nat.zero_mul, Nat.zero_add, Nat.reduceAdd] at hx17_0); (try rw [show ((0 : Int)).toNat = 0 from rfl] at hf17_0); (try simp only [Nat.reduceMul, Nat.zero_mul, Nat.zero_add, Nat.reduceAdd] at hf17_0); replace p17 := eq_true p17; replace q17 := eq_true q17; have n_ := Aside0.mk (Kd.R_mono (ok' := (fun k_ => some k_ ≠ (.slice Ao22 y268.length co22 : Value).ownBlock)) HO_5.out (fun k_ hk => hk.2)); clear HO_5; have HO_5 := n_; clear n_; obtain ⟨hy24_, hz24_⟩ := Kd.R_celln 0 HO_5.out (0 : Int) (by omega) (od); (try simp only [Int.reduceToNat, Int.toNat_zero, Int.toNat_ofNat, Nat.reduceMul, Nat.zero_mul, Nat.zero_add] at hy24_ hz24_); (try rw [show ((0 : Int)).toNat = 0 from rfl] at hy24_); (try rw [show ((0 : Int)).toNat = 0 from rfl] at hz24_); have HP24 := Kd.R_putg HO_5.out (0 : Int) t271) | ((with_reducible refine gate_store (t := 3) (p := 32) rfl ?_); refine store_event (t := 3) (p := 32) (v := ?vo_w25) (w1 := (w23.setCell ⟨go17, (0 : Int).toNat, none⟩ (.int .i64 t271))) ?hg ?ho ?hn ?hr ?_; (case ho => rfl); (case hg => rfl); (case hn => rfl); (case hr => exact z116_); intro w25 hw; have hg : w23.grownBy w25 (some go17) := (by rw [hw]; exact HP24.2); have hp_ : Kd.R (Kd.int .i64) 3 w25 w.heap.size (fun k_ => some k_ ≠ (.slice Ao22 y268.length co22 : Value).ownBlock) (.slice (some ⟨go17, 0, none⟩) x5_1.length co19) y274 := (by rw [hw, Ny274.out]; exact HP24.1); clear HP24; have n0_ := Aside0.mk (hp_); have n1_ := Aside0.mk (IsS92.grown z55_ hg (IsS92.own_ne HI0.out HO_5.out (by decide))); have n2_ := Aside0.mk (Kd.R_after (v := (.slice (some ⟨go17, 0, none⟩) x5_1.length co19)) (v1 := (.slice (some ⟨go17, 0, none⟩) x5_1.length co19)) (ok := (fun _ => True)) (rA HO270) hg (.inl rfl)); have n3_ := Aside0.mk ((by rw [hw]; exact below_set (HB.out) (Nat.le_trans HL.out GB17.out) : Below w0.heap.size w0 w25)); have n4_ := Aside0.mk (KeepBut.trans (kH HK) (KeepBut.of_grown hg g) (Kd.R_base2 HO_5.out)); clear HO_5; clear HI0; clear HO270; clear HB; clear HK; have HO_5 := n0_; have HI0 := n1_; have HO270 := n2_; have HB := n3_; have HK := n4_; clear n0_ n1_ n2_ n3_ n4_; clear hg hw hp_))
        go_ret
        exact ⟨_, e1, by (with_reducible repeat (first | apply Kd.R_alloc | apply Kd.R_drewN | apply Kd.R_drew)); exact Kd.R_mono HO_5.out (fun _ hk => trivial), z55_, z49_, kH HK⟩
       ·
        rw [if_neg c16] at H
        exact absurd H (by simp)
      ·
       rw [if_neg c14] at H
       have c14b0 : decide (0 < (x5_1.length : Int)) = false := decide_eq_false c14
       have c14b1 : decide (0 < x5_1.length) = false := decide_eq_false (by omega)
       clear c14
       simp only [Option.some.injEq, Prod.mk.injEq] at H
       obtain ⟨rfl, rfl, rfl⟩ := H
       go_wp2_with (first | ((with_reducible refine gate_callee (f := 107) rfl ?_); refine gL (some 17) rfl rfl Try.func107 (by kernel_rfl) rfl #[.pointer (some ⟨g, 0, none⟩), .int .i64 20] rfl ?_; (with_reducible refine (spec_l1Cur_pick.calls g s0_0 x1001_1 x1002_1 20 t262 t263 t264 w0 _ ?side1 ?side2 A8.out).mono ?_); (case side1 => exact z55_); (case side2 => exact z49_); rintro e w26 ⟨rfl, hi, hb, hk⟩; refine ⟨_, rfl, ?_⟩; have n0_ := Aside0.mk (Kd.R_mono (Kd.R_keep (IsS92.apart (show IsS92 w0 _ g s0_0 x1001_1 x1002_1 from z55_) (rA HO_5) (by decide)) hk (fun _ h => h.2)) (fun _ h => h.1)); have n1_ := Aside0.mk (KeepBut.trans (kH HK) hk (.inl rfl)); have n2_ := Aside0.mk (hb); have n3_ := Aside0.mk (hi); clear HO_5; clear HK; clear HB; clear HI0; have HO_5 := n0_; have HK := n1_; have HB := n2_; have HI0 := n3_; clear n0_ n1_ n2_ n3_; (try clear hb); (try clear hb2); (try clear hk); (try clear hi); obtain ⟨Ao27, co27, eo27⟩ := Kd.R_slice HO_5.out; subst eo27))
       go_ret
       exact ⟨_, e1, z115_, z55_, z49_, kH HK⟩
     ·
      rw [if_neg c13] at H
      have c13b0 : (t262 == 1) = false := beq_eq_false_iff_ne.mpr c13
      have c13b1 : (t262 != 1) = true := bne_iff_ne.mpr c13
      simp only [Option.some.injEq, Prod.mk.injEq] at H
      obtain ⟨rfl, rfl, rfl⟩ := H
      go_wp2_with (first | ((with_reducible refine gate_callee (f := 107) rfl ?_); refine gL (some 17) rfl rfl Try.func107 (by kernel_rfl) rfl #[.pointer (some ⟨g, 0, none⟩), .int .i64 20] rfl ?_; (with_reducible refine (spec_l1Cur_pick.calls g s0_0 x1001_1 x1002_1 20 t262 t263 t264 w0 _ ?side1 ?side2 A8.out).mono ?_); (case side1 => exact z55_); (case side2 => exact z49_); rintro e w28 ⟨rfl, hi, hb, hk⟩; refine ⟨_, rfl, ?_⟩; have n0_ := Aside0.mk (Kd.R_mono (Kd.R_keep (IsS92.apart (show IsS92 w0 _ g s0_0 x1001_1 x1002_1 from z55_) (rA HO_5) (by decide)) hk (fun _ h => h.2)) (fun _ h => h.1)); have n1_ := Aside0.mk (KeepBut.trans (kH HK) hk (.inl rfl)); have n2_ := Aside0.mk (hb); have n3_ := Aside0.mk (hi); clear HO_5; clear HK; clear HB; clear HI0; have HO_5 := n0_; have HK := n1_; have HB := n2_; have HI0 := n3_; clear n0_ n1_ n2_ n3_; (try clear hb); (try clear hb2); (try clear hk); (try clear hi)))
      go_ret
      exact ⟨_, e1, z115_, z55_, z49_, kH HK⟩

/-! ### spec_DrawProductAt: function 42 -/
def spec_DrawProductAt.f (k : Nat) (l0 : List Int) : Option ((List (List Int)) × List Int × List Int) := (spec_l1Cur_size.f l0 0 0).bind fun bt277 => ((spec_l1Cur_form.f k l0 bt277.2.1 bt277.2.2 bt277.1).bind fun bt280 => ((spec_l1Cur_vector.f k l0 bt280.2.1 bt280.2.2 bt277.1).bind fun bt285 => ((spec_l1Cur_vector.f k l0 bt285.2.1 bt285.2.2 bt277.1).bind fun bt290 => (some (bt280.1, bt285.1, bt290.1)))))
theorem spec_DrawProductAt.mono : ∀ a0 k, LeO (spec_DrawProductAt.f k a0) (spec_DrawProductAt.f (k + 1) a0) := by
 intro a0 k
 unfold spec_DrawProductAt.f
 repeat' first
  | (with_reducible exact spec_l1Cur_form.mono _ _ _ _ _)
  | (with_reducible exact spec_l1Cur_vector.mono _ _ _ _ _)
  | (with_reducible exact LeO.refl _)
  | (with_reducible exact LeO.none _)
  | (with_reducible refine LeO.ite ?_ ?_)
  | (with_reducible refine LeO.bind ?_ (fun _ => ?_))
  | exact spec_l1Cur_form.mono _ _ _ _ _
  | exact spec_l1Cur_vector.mono _ _ _ _ _
  | exact LeO.none _
  | refine LeO.ite ?_ ?_
  | refine LeO.bind ?_ (fun _ => ?_)
set_option maxHeartbeats 8000000 in
set_option maxRecDepth 100000 in
theorem spec_DrawProductAt.calls (k : Nat) (A0 : Option Addr) (c0 : Nat) (l0 : List Int) (r1 : List (List Int)) (r2 : List Int) (r3 : List Int) (w : World) (hr0 : Kd.C (Kd.int .u8) w A0 l0.length l0) (hc0 : l0.length ≤ c0) (h : spec_DrawProductAt.f k l0 = some (r1, r2, r3)) :
 Calls Try.prog 42 #[.slice A0 l0.length c0] w fun e w' => ∃ v0_ v1_ v2_ : Value, e = .returned (.tuple #[.agg #[v0_], v1_, v2_]) ∧ Kd.V (Kd.slice 3 (Kd.int .i64)) 34 w' w.heap.size (fun k_ => (w.heap.size ≤ k_) ∧ some k_ ≠ (v1_ : Value).ownBlock ∧ some k_ ≠ (v2_ : Value).ownBlock) v0_ r1 ∧ Kd.R (Kd.int .i64) 3 w' w.heap.size (fun k_ => (w.heap.size ≤ k_) ∧ some k_ ≠ (v2_ : Value).ownBlock) v1_ r2 ∧ Kd.R (Kd.int .i64) 3 w' w.heap.size (fun k_ => (w.heap.size ≤ k_) ∧ some k_ ≠ (v1_ : Value).ownBlock) v2_ r3 ∧ Below w.heap.size w w' := by
 have hu26 := Try.underlying26
 have hu92 := Try.underlying92
 have HR0 := Aside0.mk hr0
 have HC0 := Aside0.mk hc0
 clear hr0 hc0
 have HB := Aside0.mk (Below.refl w.heap.size w)
 have H : ((spec_l1Cur_size.f l0 0 0).bind fun bt277 => ((spec_l1Cur_form.f k l0 bt277.2.1 bt277.2.2 bt277.1).bind fun bt280 => ((spec_l1Cur_vector.f k l0 bt280.2.1 bt280.2.2 bt277.1).bind fun bt285 => ((spec_l1Cur_vector.f k l0 bt285.2.1 bt285.2.2 bt277.1).bind fun bt290 => (some (bt280.1, bt285.1, bt290.1)))))) = some (r1, r2, r3) := h
 clear h
 replace H := Option.bind_eq_some_iff.mp H
 obtain ⟨⟨t277, t278, t279⟩, A20, H⟩ := H
 replace H : ((spec_l1Cur_form.f k l0 t278 t279 t277).bind fun bt280 => ((spec_l1Cur_vector.f k l0 bt280.2.1 bt280.2.2 t277).bind fun bt285 => ((spec_l1Cur_vector.f k l0 bt285.2.1 bt285.2.2 t277).bind fun bt290 => (some (bt280.1, bt285.1, bt290.1))))) = some (r1, r2, r3) := H
 have A2 := Aside0.mk A20
 clear A20
 replace H := Option.bind_eq_some_iff.mp H
 obtain ⟨⟨t280, t283, t284⟩, A30, H⟩ := H
 replace H : ((spec_l1Cur_vector.f k l0 t283 t284 t277).bind fun bt285 => ((spec_l1Cur_vector.f k l0 bt285.2.1 bt285.2.2 t277).bind fun bt290 => (some (t280, bt285.1, bt290.1)))) = some (r1, r2, r3) := H
 have A3 := Aside0.mk A30
 clear A30
 replace H := Option.bind_eq_some_iff.mp H
 obtain ⟨⟨t285, t288, t289⟩, A40, H⟩ := H
 replace H : ((spec_l1Cur_vector.f k l0 t288 t289 t277).bind fun bt290 => (some (t280, t285, bt290.1))) = some (r1, r2, r3) := H
 have A4 := Aside0.mk A40
 clear A40
 replace H := Option.bind_eq_some_iff.mp H
 obtain ⟨⟨t290, t293, t294⟩, A50, H⟩ := H
 replace H : (some (t280, t285, t290)) = some (r1, r2, r3) := H
 have A5 := Aside0.mk A50
 clear A50
 simp only [Option.some.injEq, Prod.mk.injEq] at H
 obtain ⟨rfl, rfl, rfl⟩ := H
 go_enter Try.func42, Try.ntmps42
 go_wp2_with (first | ((with_reducible refine gate_dst (N := 2) rfl ?_); refine box_event ?hg (N := 2) ?hd (cs := #[.slice none 0 0]) (t := 26) ?hr ?_; (case hd => rfl); (case hg => rfl); (case hr => exact z116_); intro gb275 hg w6 hbox hb; have n0_ := Aside0.mk (below_step bq hb); have n1_ := Aside0.mk (hbox); have n2_ := Aside0.mk ((by rw [hg]; exact (below_size bq) : w.heap.size ≤ gb275)); have n3_ := Aside0.mk ((by rw [hg]; exact (below_size bq) : w.heap.size ≤ gb275)); clear HB; have HB := n0_; have BK275 := n1_; have GW275 := n2_; have GE275 := n3_; clear n0_ n1_ n2_ n3_; clear hb hbox hg) | ((with_reducible refine gate_dst (N := 9) rfl ?_); refine box_event ?hg (N := 9) ?hd (cs := #[.slice A0 l0.length c0, .int .i64 0, .int .u64 0]) (t := 92) ?hr ?_; (case hd => rfl); (case hg => rfl); (case hr => exact z116_); intro gb276 hg w7 hbox hb; have n0_ := Aside0.mk (kK BK275 hb); have n1_ := Aside0.mk (below_step (kB HB) hb); have n2_ := Aside0.mk ((by rw [hg]; exact (below_size (kB HB)) : w.heap.size ≤ gb276)); have n3_ := Aside0.mk ((by rw [hg]; exact (below_size (kB HB)) : w.heap.size ≤ gb276)); have n4_ := Aside0.mk ((by rw [hg]; exact Nat.ne_of_lt (blk_lt (g := gb275) (o := .cells #[.slice none 0 0] 26 (0, 0)) (bA BK275)) : gb275 ≠ gb276)); have n5_ := Aside0.mk ((by rw [hg]; exact Nat.ne_of_gt (blk_lt (g := gb275) (o := .cells #[.slice none 0 0] 26 (0, 0)) (bA BK275)) : gb276 ≠ gb275)); have n6_ := Aside0.mk ((show IsS92 w w7 gb276 l0 0 0 from ⟨A0, c0, hbox, (by rw [hg]; exact (below_size (kB HB)) : w.heap.size ≤ gb276), HR0.out⟩)); clear BK275; clear HB; have BK275 := n0_; have HB := n1_; have GW276 := n2_; have GE276 := n3_; have NB275_276 := n4_; have NB276_275 := n5_; have HI276 := n6_; clear n0_ n1_ n2_ n3_ n4_ n5_ n6_; clear hb hbox hg) | ((with_reducible refine gate_callee (f := 89) rfl ?_); refine gL (some 11) rfl rfl Try.func89 (by kernel_rfl) rfl #[.pointer (some ⟨gb276, 0, none⟩)] rfl ?_; (with_reducible refine (spec_l1Cur_size.calls gb276 l0 0 0 t277 t278 t279 w _ ?side1 ?side2 A2.out).mono ?_); (case side1 => exact z44_); (case side2 => exact z35_); rintro e w8 ⟨rfl, hi, hb, hk⟩; refine ⟨_, rfl, ?_⟩; have n0_ := Aside0.mk (KeepBut.blk hk (g' := gb275) (o := .cells #[.slice none 0 0] 26 (0, 0)) (bA BK275) NB275_276.out (by simp)); have n1_ := Aside0.mk (hb); have n2_ := Aside0.mk (hi); clear BK275; clear HB; clear HI276; have BK275 := n0_; have HB := n1_; have HI276 := n2_; clear n0_ n1_ n2_; (try clear hb); (try clear hb2); (try clear hk); (try clear hi)) | ((with_reducible refine gate_callee (f := 100) rfl ?_); refine gL (some 14) rfl rfl Try.func100 (by kernel_rfl) rfl #[.pointer (some ⟨gb276, 0, none⟩), .int .i64 t277] rfl ?_; (with_reducible refine (spec_l1Cur_form.calls k gb276 l0 t278 t279 t277 t280 t283 t284 w _ ?side1 ?side2 A3.out).mono ?_); (case side1 => exact z44_); (case side2 => exact z35_); rintro e w9 ⟨v281, rfl, ho0, hi, hb, hk⟩; refine ⟨_, rfl, ?_⟩; have n0_ := Aside0.mk (KeepBut.blk hk (g' := gb275) (o := .cells #[.slice none 0 0] 26 (0, 0)) (bA BK275) NB275_276.out (by simp)); have n1_ := Aside0.mk (Kd.V_lower (Kd.V_mono (ok' := fun k_ => (w.heap.size ≤ k_) ∧ k_ ≠ gb275 ∧ k_ ≠ gb276) ho0 (fun k_ hk_ => ⟨(Nat.le_trans (below_size z35_) hk_), (Kd.freshB (g := gb275) (o := .cells #[.slice none 0 0] 26 (0, 0)) (bA BK275) k_ hk_), (IsS92.fresh z44_ k_ hk_)⟩)) (below_size z35_)); have n2_ := Aside0.mk (hb); have n3_ := Aside0.mk (hi); clear BK275; clear HB; clear HI276; have BK275 := n0_; have HO282 := n1_; have HB := n2_; have HI276 := n3_; clear n0_ n1_ n2_ n3_; (try clear hb); (try clear hb2); (try clear hk); (try clear hi); (try clear ho0)) | ((with_reducible refine gate_callee (f := 101) rfl ?_); refine gL (some 17) rfl rfl Try.func101 (by kernel_rfl) rfl #[.pointer (some ⟨gb276, 0, none⟩), .int .i64 t277] rfl ?_; (with_reducible refine (spec_l1Cur_vector.calls k gb276 l0 t283 t284 t277 t285 t288 t289 w _ ?side1 ?side2 A4.out).mono ?_); (case side1 => exact z44_); (case side2 => exact z35_); rintro e w10 ⟨v286, rfl, ho0, hi, hb, hk⟩; refine ⟨_, rfl, ?_⟩; have n0_ := Aside0.mk (KeepBut.blk hk (g' := gb275) (o := .cells #[.slice none 0 0] 26 (0, 0)) (bA BK275) NB275_276.out (by simp)); have n1_ := Aside0.mk (Kd.V_mono (Kd.V_told (Kd.V_oldK (Kd.V_mono (ok := fun k_ => (((w.heap.size ≤ k_)) ∧ (k_ ≠ gb275 ∧ k_ ≠ gb276))) z103_ (fun k_ hk_ => (⟨hk_, hk_.2.2⟩ : _ ∧ k_ ≠ gb276))) hk) (Kd.R_base ho0)) (fun _ h_ => h_.1)); have n2_ := Aside0.mk (Kd.R_lower (Kd.R_newM (M := fun k_ => (w.heap.size ≤ k_)) ho0 (below_size z35_) (fun k_ h_ => h_)) (below_size z35_)); have n3_ := Aside0.mk (hb); have n4_ := Aside0.mk (hi); clear BK275; clear HO282; clear HB; clear HI276; have BK275 := n0_; have HO282 := n1_; have HO287 := n2_; have HB := n3_; have HI276 := n4_; clear n0_ n1_ n2_ n3_ n4_; (try clear hb); (try clear hb2); (try clear hk); (try clear hi); (try clear ho0)) | ((with_reducible refine gate_callee (f := 101) rfl ?_); refine gL (some 20) rfl rfl Try.func101 (by kernel_rfl) rfl #[.pointer (some ⟨gb276, 0, none⟩), .int .i64 t277] rfl ?_; (with_reducible refine (spec_l1Cur_vector.calls k gb276 l0 t288 t289 t277 t290 t293 t294 w _ ?side1 ?side2 A5.out).mono ?_); (case side1 => exact z44_); (case side2 => exact z35_); rintro e w11 ⟨v291, rfl, ho0, hi, hb, hk⟩; refine ⟨_, rfl, ?_⟩; have n0_ := Aside0.mk (KeepBut.blk hk (g' := gb275) (o := .cells #[.slice none 0 0] 26 (0, 0)) (bA BK275) NB275_276.out (by simp)); have n1_ := Aside0.mk (Kd.V_mono (Kd.V_told (Kd.V_oldK (Kd.V_mono (ok := fun k_ => ((((w.heap.size ≤ k_)) ∧ (k_ ≠ gb275 ∧ k_ ≠ gb276)) ∧ some k_ ≠ (v286 : Value).ownBlock)) z103_ (fun k_ hk_ => (⟨hk_, hk_.1.2.2⟩ : _ ∧ k_ ≠ gb276))) hk) (Kd.R_base ho0)) (fun _ h_ => h_.1)); have n2_ := Aside0.mk (Kd.R_mono (Kd.R_told (Kd.R_oldK (IsS92.apart (show IsS92 w _ gb276 l0 t288 t289 from z44_) (rA HO287) (by decide)) hk) (Kd.R_base ho0)) (fun _ h_ => h_.1)); have n3_ := Aside0.mk (Kd.R_lower (Kd.R_new' (Kd.R_newM (M := fun k_ => (w.heap.size ≤ k_)) ho0 (below_size z35_) (fun k_ h_ => h_)) (Kd.R_lt (rA HO287))) (below_size z35_)); have n4_ := Aside0.mk (hb); have n5_ := Aside0.mk (hi); clear BK275; clear HO282; clear HO287; clear HB; clear HI276; have BK275 := n0_; have HO282 := n1_; have HO287 := n2_; have HO292 := n3_; have HB := n4_; have HI276 := n5_; clear n0_ n1_ n2_ n3_ n4_ n5_; (try clear hb); (try clear hb2); (try clear hk); (try clear hi); (try clear ho0); obtain ⟨Ao12, co12, eo12⟩ := Kd.V_slice HO282.out; subst eo12; have hnb13 := NB275_276.out; have hnc13 := NB276_275.out; have hcz14_0 : w11.cell? ⟨gb275, 0, none⟩ = some (.slice none 0 0) := (blk_cell BK275.out 0).trans rfl; have hfz14_0 := blk_frozen BK275.out 0))
 refine bodyPost_ret (results_ctt rfl _ _ gb275 26 #[.slice Ao12 t280.length co12] (0, 0) _ rfl (by (with_reducible repeat (first | refine blk_drewN ?_ _ | refine blk_drew ?_ | refine blk_alloc ?_ _)); refine blk_put (cs := #[.slice none 0 0]) ?_ 0 _ rfl; (with_reducible repeat (first | refine blk_drewN ?_ _ | refine blk_drew ?_ | refine blk_alloc ?_ _)); exact BK275.out) Try.underlying26 rfl (by kernel_rfl)) rfl ?_
 exact ⟨_, _, _, e1, by (with_reducible repeat (first | apply Kd.V_alloc | apply Kd.V_drewN | apply Kd.V_drew)); exact Kd.V_mono (Kd.V_far (p := ⟨gb275, 0, none⟩) (Kd.V_mono HO282.out (fun k_ hk => (⟨hk, hk.1.1.2.1⟩ : _ ∧ k_ ≠ gb275))) (fun _ hk => hk.2) (.slice Ao12 t280.length co12)) (fun _ hk => ⟨hk.1.1.1.1, ⟨hk.1.1.2, hk.1.2⟩⟩), by (with_reducible repeat (first | apply Kd.R_alloc | apply Kd.R_drewN | apply Kd.R_drew)); exact Kd.R_mono (Kd.R_far (p := ⟨gb275, 0, none⟩) (Kd.R_types HO287.out BK275.out (by decide)) (fun _ hk => hk.2) (.slice Ao12 t280.length co12)) (fun _ hk => ⟨hk.1.1.1, hk.1.2⟩), by (with_reducible repeat (first | apply Kd.R_alloc | apply Kd.R_drewN | apply Kd.R_drew)); exact Kd.R_mono (Kd.R_far (p := ⟨gb275, 0, none⟩) (Kd.R_types HO292.out BK275.out (by decide)) (fun _ hk => hk.2) (.slice Ao12 t280.length co12)) (fun _ hk => ⟨hk.1.1.1, hk.1.2⟩), z35_⟩

/-! ### impl_Matrix_size: function 67 -/
def impl_Matrix_size.f (l0_0 : List (List Int)) : Option (Int) := some (l0_0.length : Int)
set_option maxHeartbeats 8000000 in
set_option maxRecDepth 100000 in
theorem impl_Matrix_size.calls (A0_0 : Option Addr) (c0_0 : Nat) (l0_0 : List (List Int)) (r : Int) (w : World) (hr0_0 : Kd.C (Kd.slice 3 (Kd.int .i64)) w A0_0 l0_0.length l0_0) (hc0_0 : l0_0.length ≤ c0_0) (h : impl_Matrix_size.f l0_0 = some r) :
 Calls Try.prog 67 #[.agg #[.slice A0_0 l0_0.length c0_0]] w fun e w' => e = .returned (.int .i64 r) ∧ Below w.heap.size w w' := by
 have hu26 := Try.underlying26
 have HR0_0 := Aside0.mk hr0_0
 have HC0_0 := Aside0.mk hc0_0
 clear hr0_0 hc0_0
 have HB := Aside0.mk (Below.refl w.heap.size w)
 have H : (some (l0_0.length : Int)) = some r := h
 clear h
 obtain rfl := Option.some.inj H
 go_enter Try.func67, Try.ntmps67
 go_wp2_with (first | ((with_reducible refine gate_dst (N := 1) rfl ?_); refine box_event ?hg (N := 1) ?hd (cs := #[.slice A0_0 l0_0.length c0_0]) (t := 26) ?hr ?_; (case hd => rfl); (case hg => rfl); (case hr => exact z116_); intro gb295 hg w2 hbox hb; have n0_ := Aside0.mk (below_step bq hb); have n1_ := Aside0.mk (hbox); have n2_ := Aside0.mk ((by rw [hg]; exact (below_size bq) : w.heap.size ≤ gb295)); have n3_ := Aside0.mk ((by rw [hg]; exact (below_size bq) : w.heap.size ≤ gb295)); clear HB; have HB := n0_; have BK295 := n1_; have GW295 := n2_; have GE295 := n3_; clear n0_ n1_ n2_ n3_; clear hb hbox hg; have hcz3_0 : w2.cell? ⟨gb295, 0, none⟩ = some (.slice A0_0 l0_0.length c0_0) := (blk_cell BK295.out 0).trans rfl; have hfz3_0 := blk_frozen BK295.out 0))
 go_ret
 exact ⟨e1, kB HB⟩

end Go.Proofs.Ytldkkfpodldbgaa.P
