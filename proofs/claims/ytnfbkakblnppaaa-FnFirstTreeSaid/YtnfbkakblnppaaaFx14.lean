-- Written by a program of this session (wip/mkprint.py over the kit's print), out of the translation. Not trusted: Lean checks it.
import Derived.Test.YtnfbkakblnppaaaFx0
import Derived.Test.YtnfbkakblnppaaaFx3
import Derived.Test.YtnfbkakblnppaaaFx4
import Derived.Test.YtnfbkakblnppaaaFx5
import Derived.Test.YtnfbkakblnppaaaFx6
import Derived.Test.YtnfbkakblnppaaaFx7
import Derived.Test.YtnfbkakblnppaaaFx8
import Derived.Test.YtnfbkakblnppaaaFx12
import Derived.Test.YtnfbkakblnppaaaFx13
namespace Go.Proofs.Ytnfbkakblnppaaa.P
open Go.RowKit Go.Proofs.YtnfbkakblnppaaaW.PrintWords Go.Proofs.YtnfbkakblnppaaaW.PrintLast Go.Proofs.YtnfbkakblnppaaaW.PrintMore
attribute [local go_sem] max2_int min2_int max_two min_two max_three min_three max_four min_four   -- for this text's walks alone
set_option linter.unusedVariables false
set_option linter.unusedSimpArgs false

/-! ### impl_BergWord: function 31 -/
def impl_tree_wordOfB.l0 : Nat → List Int → Int → Int → Int → Option (List Int × Bool)
 | 0, _, _, _, _ => none
 | k + 1, x6, x8, x184000, x184001 => if x8 ≥ 0 then (if x6.length < 17592186044416 then ((impl_berg_2.f x184000 x184001).bind fun bt187 => (impl_tree_wordOfB.l0 k (x6 ++ [x8]) bt187.2.2 bt187.1 bt187.2.1)) else (none)) else ((slices_Reverse_int_int.f k x6).bind fun t190 => (some (t190, true)))
def impl_tree_wordOfB.f (k : Nat) (a0_0 : Int) (a0_1 : Int) (l1 : List Int) : Option (List Int × Bool) := (impl_IsRight.f k l1).bind fun t174 => (if t174 = true then ((impl_pairOf.f k l1).bind fun bt178 => ((impl_berg_2.f bt178.1 bt178.2).bind fun bt180 => (impl_tree_wordOfB.l0 k (([] : List Int)) bt180.2.2 bt180.1 bt180.2.1))) else (some (([] : List Int), false)))
theorem impl_tree_wordOfB.mono_l : ∀ k, (∀ y0 y1 y2 y3, LeO (impl_tree_wordOfB.l0 k y0 y1 y2 y3) (impl_tree_wordOfB.l0 (k + 1) y0 y1 y2 y3))
 | 0 => fun _ _ _ _ r h => by simp [impl_tree_wordOfB.l0] at h
 | k + 1 => by
  have ih0 := impl_tree_wordOfB.mono_l k
  ·
   intro y0 y1 y2 y3
   unfold impl_tree_wordOfB.l0
   repeat' first
   | (with_reducible exact ih0 _ _ _ _)
   | (with_reducible exact impl_IsRight.mono _ _)
   | (with_reducible exact impl_pairOf.mono _ _)
   | (with_reducible exact slices_Reverse_int_int.mono _ _)
   | (with_reducible exact LeO.refl _)
   | (with_reducible exact LeO.none _)
   | (with_reducible refine LeO.ite ?_ ?_)
   | (with_reducible refine LeO.bind ?_ (fun _ => ?_))
   | exact ih0 _ _ _ _
   | exact impl_IsRight.mono _ _
   | exact impl_pairOf.mono _ _
   | exact slices_Reverse_int_int.mono _ _
   | exact LeO.none _
   | refine LeO.ite ?_ ?_
   | refine LeO.bind ?_ (fun _ => ?_)
theorem impl_tree_wordOfB.mono : ∀ a0 a1 a2 k, LeO (impl_tree_wordOfB.f k a0 a1 a2) (impl_tree_wordOfB.f (k + 1) a0 a1 a2) := by
 intro a0 a1 a2 k
 have ih0 := impl_tree_wordOfB.mono_l k
 unfold impl_tree_wordOfB.f
 repeat' first
  | (with_reducible exact ih0 _ _ _ _)
  | (with_reducible exact impl_IsRight.mono _ _)
  | (with_reducible exact impl_pairOf.mono _ _)
  | (with_reducible exact slices_Reverse_int_int.mono _ _)
  | (with_reducible exact LeO.refl _)
  | (with_reducible exact LeO.none _)
  | (with_reducible refine LeO.ite ?_ ?_)
  | (with_reducible refine LeO.bind ?_ (fun _ => ?_))
  | exact ih0 _ _ _ _
  | exact impl_IsRight.mono _ _
  | exact impl_pairOf.mono _ _
  | exact slices_Reverse_int_int.mono _ _
  | exact LeO.none _
  | refine LeO.ite ?_ ?_
  | refine LeO.bind ?_ (fun _ => ?_)
def impl_tree_wordOfB.T4 : Bool × List (List Nat × List Nat) := (true, [([], []), ([0], [0]), ([], []), ([2], [2]), ([1, 3, 3], [1, 3]), ([4], [4]), ([5], [5]), ([5], [5]), ([], []), ([8, 6, 4, 0, 1, 2, 3, 4, 5, 6, 8], [6, 8]), ([7, 9, 0, 1, 2, 3, 4, 5, 6, 7, 8, 9], [7])])
def impl_tree_wordOfB.B4 : List Nat := [0, 1, 0, 4, 15, 31, 63, 63, 0, 383, 1023]
theorem impl_tree_wordOfB.tab4 : rtab .any (opsOf Try.f89 4) = impl_tree_wordOfB.T4 := by kernel_rfl
theorem impl_tree_wordOfB.bits4 : waitsOk impl_tree_wordOfB.T4.2 impl_tree_wordOfB.B4 = true := by kernel_rfl
set_option maxHeartbeats 8000000 in
set_option maxRecDepth 100000 in
theorem impl_tree_wordOfB.calls (k : Nat) (a0_0 : Int) (a0_1 : Int) (A1 : Option Addr) (c1 : Nat) (l1 : List Int) (r1 : List Int) (r2 : Bool) (w : World) (hr1 : Kd.C (Kd.int .i64) w A1 l1.length l1) (hc1 : l1.length ≤ c1) (h : impl_tree_wordOfB.f k a0_0 a0_1 l1 = some (r1, r2)) :
 Calls Try.prog 89 #[.agg #[.func (.func 119) #[] #[], .func (.func 120) #[] #[]], .slice A1 l1.length c1] w fun e w' => ∃ v0_ : Value, e = .returned (.tuple #[v0_, .bool r2]) ∧ Kd.R (Kd.int .i64) 3 w' w.heap.size (fun _ => True) v0_ r1 ∧ Below w.heap.size w w' := by
 have hu61 := Try.underlying61
 have hu90 := Try.underlying90
 have HR1 := Aside0.mk hr1
 have HC1 := Aside0.mk hc1
 clear hr1 hc1
 have HB := Aside0.mk (Below.refl w.heap.size w)
 have H : ((impl_IsRight.f k l1).bind fun t174 => (if t174 = true then ((impl_pairOf.f k l1).bind fun bt178 => ((impl_berg_2.f bt178.1 bt178.2).bind fun bt180 => (impl_tree_wordOfB.l0 k (([] : List Int)) bt180.2.2 bt180.1 bt180.2.1))) else (some (([] : List Int), false)))) = some (r1, r2) := h
 clear h
 replace H := Option.bind_eq_some_iff.mp H
 obtain ⟨t174, A30, H⟩ := H
 replace H : (if t174 = true then ((impl_pairOf.f k l1).bind fun bt178 => ((impl_berg_2.f bt178.1 bt178.2).bind fun bt180 => (impl_tree_wordOfB.l0 k (([] : List Int)) bt180.2.2 bt180.1 bt180.2.1))) else (some (([] : List Int), false))) = some (r1, r2) := H
 have A3 := Aside0.mk A30
 clear A30
 by_cases c4 : t174 = true
 ·
  subst c4
  have H1 : ((impl_pairOf.f k l1).bind fun bt178 => ((impl_berg_2.f bt178.1 bt178.2).bind fun bt180 => (impl_tree_wordOfB.l0 k (([] : List Int)) bt180.2.2 bt180.1 bt180.2.1))) = some (r1, r2) := by rw [if_pos rfl] at H; exact H
  clear H
  have H := H1
  clear H1
  obtain ⟨y175, hy175⟩ : ∃ y_ : List Int, y_ = (([] : List Int)) := ⟨_, rfl⟩
  replace H : ((impl_pairOf.f k l1).bind fun bt178 => ((impl_berg_2.f bt178.1 bt178.2).bind fun bt180 => (impl_tree_wordOfB.l0 k y175 bt180.2.2 bt180.1 bt180.2.1))) = some (r1, r2) := by first | (rw [hy175]; with_reducible exact H) | (have H2_ := (Option.bind_some _ _).symm.trans H; rw [hy175]; with_reducible exact H2_) | (have H2_ := (Option.bind_some _ _).symm.trans H; with_reducible exact H2_) | with_reducible exact H | (rw [hy175]; exact H) | exact H
  have Ny175 := Aside0.mk hy175
  clear hy175
  replace H := Option.bind_eq_some_iff.mp H
  obtain ⟨⟨t178, t179⟩, A50, H⟩ := H
  replace H : ((impl_berg_2.f t178 t179).bind fun bt180 => (impl_tree_wordOfB.l0 k y175 bt180.2.2 bt180.1 bt180.2.1)) = some (r1, r2) := H
  have A5 := Aside0.mk A50
  clear A50
  replace H := Option.bind_eq_some_iff.mp H
  obtain ⟨⟨t180, t181, t182⟩, A60, H⟩ := H
  replace H : (impl_tree_wordOfB.l0 k y175 t182 t180 t181) = some (r1, r2) := H
  have A6 := Aside0.mk A60
  clear A60
  have H' := Aside0.mk H
  clear H
  go_enter Try.func89, Try.ntmps89
  try go_wp2_with (first | ((with_reducible refine gate_dst (N := 2) rfl ?_); refine box_event ?hg (N := 2) ?hd (cs := #[.func (.func 119) #[] #[], .func (.func 120) #[] #[]]) (t := 61) ?hr ?_; (case hd => rfl); (case hg => rfl); (case hr => first | (go_simp; done) | (go_simp; rfl)); intro gb173 hg w7 hbox hb; have n0_ := Aside0.mk (below_step bq hb); have n1_ := Aside0.mk (hbox); have n2_ := Aside0.mk ((by rw [hg]; exact (below_size bq) : w.heap.size ≤ gb173)); have n3_ := Aside0.mk ((by rw [hg]; exact (below_size bq) : w.heap.size ≤ gb173)); clear HB; have HB := n0_; have BK173 := n1_; have GW173 := n2_; have GE173 := n3_; clear n0_ n1_ n2_ n3_; clear hb hbox hg) | ((with_reducible refine gate_callee (f := 21) rfl ?_); refine gL (some 10) rfl rfl Try.func21 (by kernel_rfl) rfl #[.slice A1 l1.length c1] rfl ?_; (with_reducible refine (impl_IsRight.calls k _ _ l1 true _ ?side1 ?side2 A3.out).mono ?_); (case side1 => exact cC (Kd.C_below HR1.out HB.out)); (case side2 => exact HC1.out); rintro e w8 ⟨rfl, hb⟩; refine ⟨_, rfl, ?_⟩; have n0_ := Aside0.mk (kK BK173 hb); have n1_ := Aside0.mk (below_step (kB HB) hb); clear BK173; clear HB; have BK173 := n0_; have HB := n1_; clear n0_ n1_; (try clear hb); (try clear hb2); (try clear hk); (try clear hi)) | ((with_reducible refine gate_dst (N := 12) rfl ?_); refine Kd.R_lit (Kd.int .i64) _ 3 ?hg (N := 12) ?hd (xs := ([] : List Int)) (inner := []) (ok := fun _ => True) (okp := fun _ => True) ?hr ?hp (fun _ hk => hk) trivial (Below.refl _ _) (Nat.le_refl _) (by simp) ?_; (case hd => rfl); (case hg => rfl); (case hr => first | (go_simp; done) | (go_simp; rfl)); (case hp => exact (Reps.none _ _)); intro v176 w9 ho10 hb hg_ hnew_; clear hg_ hnew_; (first | rw [← Ny175.out] at ho10 | (simp only [Int.reduceToNat] at ho10; rw [← Ny175.out] at ho10)); have n0_ := Aside0.mk (Kd.R_lower ho10 (below_size (kB HB))); have n1_ := Aside0.mk (kK BK173 hb); have n2_ := Aside0.mk (below_step (kB HB) hb); clear BK173; clear HB; have HO177 := n0_; have BK173 := n1_; have HB := n2_; clear n0_ n1_ n2_; clear hb ho10))
  have n0_ := Aside0.mk (Kd.R_drew HO177.out)
  have n1_ := Aside0.mk (blk_drew BK173.out)
  have n2_ := Aside0.mk (below_drew1 HB.out)
  clear HO177; clear BK173; clear HB
  have HO177 := n0_
  have BK173 := n1_
  have HB := n2_
  clear n0_ n1_ n2_
  refine start_ (n := 11) (S := fun w' => w'.cell? ⟨gb173, 0, none⟩ = some (.func (.func 119) #[] #[]) ∧ w'.cell? ⟨gb173, 1, none⟩ = some (.func (.func 120) #[] #[])) (ds := []) #[O,O,O,O,O,O,O,O,O,O,O] (by kernel_rfl) rfl rfl ⟨(blk_cell BK173.out 0).trans rfl, (blk_cell BK173.out 1).trans rfl⟩ (fun hHeld => ?_); refine with_tabW impl_tree_wordOfB.tab4 impl_tree_wordOfB.bits4 (fun HT_ HW_ => ?_)
  generalize w9.drew = w11 at HO177 BK173 HB hHeld ⊢
  refine pS 0 14 (BM 11 1) ?_
  refine pS 2 16 (BM 11 5) ?_
  refine take_ (i := 1) (N := some 15) (v := ?_) (a' := ?_) (BM 11 7) rfl rfl (take_ofW HT_.out HW_.out (by kernel_rfl)) (fun _ _ _ h => h) (Or.inl ⟨by rfl, ?_⟩) hHeld ?_ ?_
  rotate_left
  ·
   rintro w' ⟨s0, s1⟩
   go_simp
   with_reducible rfl
  rotate_left
  ·
   simp only [AP]
   rfl
  refine join_ (σ := Nat) 2 #[Y,Y,Y,Y,Y,Y,Y,Y,Y,O,O] (fun s_ => [(17, .agg #[.int .i64 t178, .int .i64 t179]), (18, .tuple #[.agg #[.int .i64 t180, .int .i64 t181], .int .i64 t182]), (7, .pointer (some ⟨s_, 0, none⟩)), (13, .tuple #[.agg #[.int .i64 t180, .int .i64 t181], .int .i64 t182]), (19, .agg #[.int .i64 t180, .int .i64 t181]), (20, .int .i64 t182)]) (fun s_ w' => (w'.cell? ⟨gb173, 0, none⟩ = some (.func (.func 119) #[] #[]) ∧ w'.cell? ⟨gb173, 1, none⟩ = some (.func (.func 120) #[] #[])) ∧ (Kd.R (Kd.int .i64) 3 w' w.heap.size (fun _ => True) v176 y175) ∧ (w'.heap[gb173]? = some (.cells #[.func (.func 119) #[] #[], .func (.func 120) #[] #[]] 61 (0, 0))) ∧ (w'.heap[s_]? = some (.cells #[.int .i64 0, .int .i64 0] 90 (0, 0))) ∧ (w.heap.size ≤ s_) ∧ (w.heap.size ≤ s_) ∧ (gb173 ≠ s_) ∧ (s_ ≠ gb173) ∧ (Below w.heap.size w w')) ?_ ?_
  rotate_left
  ·
   intro hCont
   refine two_ (i := 3) (j := 8) (Ni := some 17) (Nj := some 7) (BM 11 15) (BM 11 263) rfl rfl rfl rfl (two_of HT_.out (by kernel_rfl)) (by decide) (by decide) (fun K hK => ?_) (fun K hK => ?_)
   ·
    skip
    refine goes_ Try.func102 (by kernel_rfl) rfl #[.slice A1 l1.length c1] (by rfl) rfl rfl (by (try simp only [List.map_toArray, List.map_cons, List.map_nil]); first | done | rfl | (simp only [List.length_drop, List.length_take]; rfl)) ?_
    with_reducible refine (impl_pairOf.calls k _ _ l1 t178 t179 _ ?side1 ?side2 A5.out).mono ?_
    (case side1 => exact cC (Kd.C_below HR1.out HB.out))
    (case side2 => exact HC1.out)
    rintro e w12 ⟨rfl, hb⟩
    refine ⟨_, rfl, ?_⟩
    have n0_ := Aside0.mk (Kd.R_below (rA HO177) hb)
    have n1_ := Aside0.mk (kK BK173 hb)
    have n2_ := Aside0.mk (below_step (kB HB) hb)
    clear HO177; clear BK173; clear HB
    have HO177 := n0_
    have BK173 := n1_
    have HB := n2_
    clear n0_ n1_ n2_
    (try clear hb)
    (try clear hb2)
    (try clear hk)
    (try clear hi)
    refine hK.out _ _ ⟨(blk_cell BK173.out 0).trans rfl, (blk_cell BK173.out 1).trans rfl⟩ (fun hHeld => ?_)
    clear hK K
    refine norm_ (a' := ?_) ?_ ?_
    rotate_left
    ·
     show Act.put _ (some 17) _ = _
     simp only [AP]
     rfl
    refine two_ (i := 4) (j := 8) (Ni := some 18) (Nj := some 7) (BM 11 31) (BM 11 271) rfl rfl rfl rfl (two_of HT_.out (by kernel_rfl)) (by decide) (by decide) (fun K hK => ?_) (fun K hK => ?_)
    ·
     skip
     refine goesV_berg Try.func120 (by kernel_rfl) rfl #[.agg #[.int .i64 t178, .int .i64 t179]] (by rfl) rfl rfl rfl (by (try simp only [List.map_toArray, List.map_cons, List.map_nil]); first | done | rfl | (simp only [List.length_drop, List.length_take]; rfl)) ?_
     with_reducible refine (impl_berg_2.calls t178 t179 t180 t181 t182 _ A6.out).mono ?_
     rintro e w13 ⟨rfl, hb⟩
     refine ⟨_, rfl, ?_⟩
     have n0_ := Aside0.mk (Kd.R_below (rA HO177) hb)
     have n1_ := Aside0.mk (kK BK173 hb)
     have n2_ := Aside0.mk (below_step (kB HB) hb)
     clear HO177; clear BK173; clear HB
     have HO177 := n0_
     have BK173 := n1_
     have HB := n2_
     clear n0_ n1_ n2_
     (try clear hb)
     (try clear hb2)
     (try clear hk)
     (try clear hi)
     refine hK.out _ _ ⟨(blk_cell BK173.out 0).trans rfl, (blk_cell BK173.out 1).trans rfl⟩ (fun hHeld => ?_)
     clear hK K
     refine norm_ (a' := ?_) ?_ ?_
     rotate_left
     ·
      show Act.put _ (some 18) _ = _
      simp only [AP]
      rfl
     refine pS 5 13 (BM 11 63) ?_
     refine pS 6 19 (BM 11 127) ?_
     refine pS 7 20 (BM 11 255) ?_
     refine one_ (i := 8) (N := some 7) (BM 11 511) rfl rfl (one_of HT_.out (by kernel_rfl)) (by decide) (fun K hK => ?_)
     refine box_step ?hg (N := 7) ?hd (cs := #[.int .i64 0, .int .i64 0]) (t := 90) ?hr ?_; (case hd => rfl); (case hg => rfl); (case hr => first | (go_simp; done) | (go_simp; rfl))
     intro gb183 hg w14 hbox hb
     have n0_ := Aside0.mk (Kd.R_below (rA HO177) hb)
     have n1_ := Aside0.mk (kK BK173 hb)
     have n2_ := Aside0.mk (below_step (kB HB) hb)
     have n3_ := Aside0.mk (hbox)
     have n4_ := Aside0.mk ((by rw [hg]; exact (below_size (kB HB)) : w.heap.size ≤ gb183))
     have n5_ := Aside0.mk ((by rw [hg]; exact (below_size (kB HB)) : w.heap.size ≤ gb183))
     have n6_ := Aside0.mk ((by rw [hg]; exact Nat.ne_of_lt (blk_lt (g := gb173) (o := .cells #[.func (.func 119) #[] #[], .func (.func 120) #[] #[]] 61 (0, 0)) (bA BK173)) : gb173 ≠ gb183))
     have n7_ := Aside0.mk ((by rw [hg]; exact Nat.ne_of_gt (blk_lt (g := gb173) (o := .cells #[.func (.func 119) #[] #[], .func (.func 120) #[] #[]] 61 (0, 0)) (bA BK173)) : gb183 ≠ gb173))
     clear HO177; clear BK173; clear HB
     have HO177 := n0_
     have BK173 := n1_
     have HB := n2_
     have BK183 := n3_
     have GW183 := n4_
     have GE183 := n5_
     have NB173_183 := n6_
     have NB183_173 := n7_
     clear n0_ n1_ n2_ n3_ n4_ n5_ n6_ n7_
     clear hb hbox hg
     refine hK.out _ _ ⟨(blk_cell BK173.out 0).trans rfl, (blk_cell BK173.out 1).trans rfl⟩ (fun hHeld => ?_)
     clear hK K
     refine norm_ (a' := ?_) ?_ ?_
     rotate_left
     ·
      show Act.put _ (some 7) _ = _
      simp only [AP]
      rfl
     exact norm_ (by simp only [putAll, Act.put, List.setIfInBounds_toArray, List.set_cons_zero, List.set_cons_succ]) (hCont (gb183) _ ⟨hHeld, (rA HO177), (bA BK173), (bA BK183), GW183.out, GE183.out, NB173_183.out, NB183_173.out, (kB HB)⟩)
    ·
     skip
     refine box_step ?hg (N := 7) ?hd (cs := #[.int .i64 0, .int .i64 0]) (t := 90) ?hr ?_; (case hd => rfl); (case hg => rfl); (case hr => first | (go_simp; done) | (go_simp; rfl))
     intro gb183 hg w13 hbox hb
     have n0_ := Aside0.mk (Kd.R_below (rA HO177) hb)
     have n1_ := Aside0.mk (kK BK173 hb)
     have n2_ := Aside0.mk (below_step (kB HB) hb)
     have n3_ := Aside0.mk (hbox)
     have n4_ := Aside0.mk ((by rw [hg]; exact (below_size (kB HB)) : w.heap.size ≤ gb183))
     have n5_ := Aside0.mk ((by rw [hg]; exact (below_size (kB HB)) : w.heap.size ≤ gb183))
     have n6_ := Aside0.mk ((by rw [hg]; exact Nat.ne_of_lt (blk_lt (g := gb173) (o := .cells #[.func (.func 119) #[] #[], .func (.func 120) #[] #[]] 61 (0, 0)) (bA BK173)) : gb173 ≠ gb183))
     have n7_ := Aside0.mk ((by rw [hg]; exact Nat.ne_of_gt (blk_lt (g := gb173) (o := .cells #[.func (.func 119) #[] #[], .func (.func 120) #[] #[]] 61 (0, 0)) (bA BK173)) : gb183 ≠ gb173))
     clear HO177; clear BK173; clear HB
     have HO177 := n0_
     have BK173 := n1_
     have HB := n2_
     have BK183 := n3_
     have GW183 := n4_
     have GE183 := n5_
     have NB173_183 := n6_
     have NB183_173 := n7_
     clear n0_ n1_ n2_ n3_ n4_ n5_ n6_ n7_
     clear hb hbox hg
     refine hK.out _ _ ⟨(blk_cell BK173.out 0).trans rfl, (blk_cell BK173.out 1).trans rfl⟩ (fun hHeld => ?_)
     clear hK K
     refine norm_ (a' := ?_) ?_ ?_
     rotate_left
     ·
      show Act.put _ (some 7) _ = _
      simp only [AP]
      rfl
     refine one_ (i := 4) (N := some 18) (BM 11 287) rfl rfl (one_of HT_.out (by kernel_rfl)) (by decide) (fun K hK => ?_)
     refine goesV_berg Try.func120 (by kernel_rfl) rfl #[.agg #[.int .i64 t178, .int .i64 t179]] (by rfl) rfl rfl rfl (by (try simp only [List.map_toArray, List.map_cons, List.map_nil]); first | done | rfl | (simp only [List.length_drop, List.length_take]; rfl)) ?_
     with_reducible refine (impl_berg_2.calls t178 t179 t180 t181 t182 _ A6.out).mono ?_
     rintro e w14 ⟨rfl, hb⟩
     refine ⟨_, rfl, ?_⟩
     have n0_ := Aside0.mk (Kd.R_below (rA HO177) hb)
     have n1_ := Aside0.mk (kK BK173 hb)
     have n2_ := Aside0.mk (kK BK183 hb)
     have n3_ := Aside0.mk (below_step (kB HB) hb)
     clear HO177; clear BK173; clear BK183; clear HB
     have HO177 := n0_
     have BK173 := n1_
     have BK183 := n2_
     have HB := n3_
     clear n0_ n1_ n2_ n3_
     (try clear hb)
     (try clear hb2)
     (try clear hk)
     (try clear hi)
     refine hK.out _ _ ⟨(blk_cell BK173.out 0).trans rfl, (blk_cell BK173.out 1).trans rfl⟩ (fun hHeld => ?_)
     clear hK K
     refine norm_ (a' := ?_) ?_ ?_
     rotate_left
     ·
      show Act.put _ (some 18) _ = _
      simp only [AP]
      rfl
     refine pS 5 13 (BM 11 319) ?_
     refine pS 6 19 (BM 11 383) ?_
     refine pS 7 20 (BM 11 511) ?_
     exact norm_ (by simp only [putAll, Act.put, List.setIfInBounds_toArray, List.set_cons_zero, List.set_cons_succ]) (hCont (gb183) _ ⟨hHeld, (rA HO177), (bA BK173), (bA BK183), GW183.out, GE183.out, NB173_183.out, NB183_173.out, (kB HB)⟩)
   ·
    skip
    refine box_step ?hg (N := 7) ?hd (cs := #[.int .i64 0, .int .i64 0]) (t := 90) ?hr ?_; (case hd => rfl); (case hg => rfl); (case hr => first | (go_simp; done) | (go_simp; rfl))
    intro gb183 hg w12 hbox hb
    have n0_ := Aside0.mk (Kd.R_below (rA HO177) hb)
    have n1_ := Aside0.mk (kK BK173 hb)
    have n2_ := Aside0.mk (below_step (kB HB) hb)
    have n3_ := Aside0.mk (hbox)
    have n4_ := Aside0.mk ((by rw [hg]; exact (below_size (kB HB)) : w.heap.size ≤ gb183))
    have n5_ := Aside0.mk ((by rw [hg]; exact (below_size (kB HB)) : w.heap.size ≤ gb183))
    have n6_ := Aside0.mk ((by rw [hg]; exact Nat.ne_of_lt (blk_lt (g := gb173) (o := .cells #[.func (.func 119) #[] #[], .func (.func 120) #[] #[]] 61 (0, 0)) (bA BK173)) : gb173 ≠ gb183))
    have n7_ := Aside0.mk ((by rw [hg]; exact Nat.ne_of_gt (blk_lt (g := gb173) (o := .cells #[.func (.func 119) #[] #[], .func (.func 120) #[] #[]] 61 (0, 0)) (bA BK173)) : gb183 ≠ gb173))
    clear HO177; clear BK173; clear HB
    have HO177 := n0_
    have BK173 := n1_
    have HB := n2_
    have BK183 := n3_
    have GW183 := n4_
    have GE183 := n5_
    have NB173_183 := n6_
    have NB183_173 := n7_
    clear n0_ n1_ n2_ n3_ n4_ n5_ n6_ n7_
    clear hb hbox hg
    refine hK.out _ _ ⟨(blk_cell BK173.out 0).trans rfl, (blk_cell BK173.out 1).trans rfl⟩ (fun hHeld => ?_)
    clear hK K
    refine norm_ (a' := ?_) ?_ ?_
    rotate_left
    ·
     show Act.put _ (some 7) _ = _
     simp only [AP]
     rfl
    refine one_ (i := 3) (N := some 17) (BM 11 271) rfl rfl (one_of HT_.out (by kernel_rfl)) (by decide) (fun K hK => ?_)
    refine goes_ Try.func102 (by kernel_rfl) rfl #[.slice A1 l1.length c1] (by rfl) rfl rfl (by (try simp only [List.map_toArray, List.map_cons, List.map_nil]); first | done | rfl | (simp only [List.length_drop, List.length_take]; rfl)) ?_
    with_reducible refine (impl_pairOf.calls k _ _ l1 t178 t179 _ ?side1 ?side2 A5.out).mono ?_
    (case side1 => exact cC (Kd.C_below HR1.out HB.out))
    (case side2 => exact HC1.out)
    rintro e w13 ⟨rfl, hb⟩
    refine ⟨_, rfl, ?_⟩
    have n0_ := Aside0.mk (Kd.R_below (rA HO177) hb)
    have n1_ := Aside0.mk (kK BK173 hb)
    have n2_ := Aside0.mk (kK BK183 hb)
    have n3_ := Aside0.mk (below_step (kB HB) hb)
    clear HO177; clear BK173; clear BK183; clear HB
    have HO177 := n0_
    have BK173 := n1_
    have BK183 := n2_
    have HB := n3_
    clear n0_ n1_ n2_ n3_
    (try clear hb)
    (try clear hb2)
    (try clear hk)
    (try clear hi)
    refine hK.out _ _ ⟨(blk_cell BK173.out 0).trans rfl, (blk_cell BK173.out 1).trans rfl⟩ (fun hHeld => ?_)
    clear hK K
    refine norm_ (a' := ?_) ?_ ?_
    rotate_left
    ·
     show Act.put _ (some 17) _ = _
     simp only [AP]
     rfl
    refine one_ (i := 4) (N := some 18) (BM 11 287) rfl rfl (one_of HT_.out (by kernel_rfl)) (by decide) (fun K hK => ?_)
    refine goesV_berg Try.func120 (by kernel_rfl) rfl #[.agg #[.int .i64 t178, .int .i64 t179]] (by rfl) rfl rfl rfl (by (try simp only [List.map_toArray, List.map_cons, List.map_nil]); first | done | rfl | (simp only [List.length_drop, List.length_take]; rfl)) ?_
    with_reducible refine (impl_berg_2.calls t178 t179 t180 t181 t182 _ A6.out).mono ?_
    rintro e w14 ⟨rfl, hb⟩
    refine ⟨_, rfl, ?_⟩
    have n0_ := Aside0.mk (Kd.R_below (rA HO177) hb)
    have n1_ := Aside0.mk (kK BK173 hb)
    have n2_ := Aside0.mk (kK BK183 hb)
    have n3_ := Aside0.mk (below_step (kB HB) hb)
    clear HO177; clear BK173; clear BK183; clear HB
    have HO177 := n0_
    have BK173 := n1_
    have BK183 := n2_
    have HB := n3_
    clear n0_ n1_ n2_ n3_
    (try clear hb)
    (try clear hb2)
    (try clear hk)
    (try clear hi)
    refine hK.out _ _ ⟨(blk_cell BK173.out 0).trans rfl, (blk_cell BK173.out 1).trans rfl⟩ (fun hHeld => ?_)
    clear hK K
    refine norm_ (a' := ?_) ?_ ?_
    rotate_left
    ·
     show Act.put _ (some 18) _ = _
     simp only [AP]
     rfl
    refine pS 5 13 (BM 11 319) ?_
    refine pS 6 19 (BM 11 383) ?_
    refine pS 7 20 (BM 11 511) ?_
    exact norm_ (by simp only [putAll, Act.put, List.setIfInBounds_toArray, List.set_cons_zero, List.set_cons_succ]) (hCont (gb183) _ ⟨hHeld, (rA HO177), (bA BK173), (bA BK183), GW183.out, GE183.out, NB173_183.out, NB183_173.out, (kB HB)⟩)
  rintro gb183 w15 ⟨hS_, h0_, h1_, h2_, h3_, h4_, h5_, h6_, h7_⟩
  have n0_ : Aside0 (Kd.R (Kd.int .i64) 3 w15 w.heap.size (fun _ => True) v176 y175) := ⟨h0_⟩
  have n1_ : Aside0 (w15.heap[gb173]? = some (.cells #[.func (.func 119) #[] #[], .func (.func 120) #[] #[]] 61 (0, 0))) := ⟨h1_⟩
  have n2_ : Aside0 (w15.heap[gb183]? = some (.cells #[.int .i64 0, .int .i64 0] 90 (0, 0))) := ⟨h2_⟩
  have n3_ : Aside0 (w.heap.size ≤ gb183) := ⟨h3_⟩
  have n4_ : Aside0 (w.heap.size ≤ gb183) := ⟨h4_⟩
  have n5_ : Aside0 (gb173 ≠ gb183) := ⟨h5_⟩
  have n6_ : Aside0 (gb183 ≠ gb173) := ⟨h6_⟩
  have n7_ : Aside0 (Below w.heap.size w w15) := ⟨h7_⟩
  clear HO177; clear BK173; clear HB
  clear h0_ h1_ h2_ h3_ h4_ h5_ h6_ h7_
  have HO177 := n0_
  have BK173 := n1_
  have BK183 := n2_
  have GW183 := n3_
  have GE183 := n4_
  have NB173_183 := n5_
  have NB183_173 := n6_
  have HB := n7_
  clear n0_ n1_ n2_ n3_ n4_ n5_ n6_ n7_
  have hHeld : w15.cell? ⟨gb173, 0, none⟩ = some (.func (.func 119) #[] #[]) ∧ w15.cell? ⟨gb173, 1, none⟩ = some (.func (.func 120) #[] #[]) := hS_
  refine norm_ (a' := ?_) ?_ ?_
  rotate_left
  ·
   simp only [putAll, Act.put, List.setIfInBounds_toArray, List.set_cons_zero, List.set_cons_succ]
   rfl
  refine one_ (i := 9) (N := none) (BM 11 1023) rfl rfl (one_of HT_.out (by kernel_rfl)) (by decide) (fun K hK => ?_)
  have hs16 : w15.cell? ⟨gb183, 0, none⟩ = some (.int .i64 0) := (blk_cell BK183.out 0).trans rfl
  have hfs16 := blk_frozen BK183.out 0
  have hns16_0 := NB173_183.out
  have hms16_0 := NB183_173.out
  have hs17 : w15.cell? ⟨gb183, 1, none⟩ = some (.int .i64 0) := (blk_cell BK183.out 1).trans rfl
  have hfs17 := blk_frozen BK183.out 1
  have hns17_0 := NB173_183.out
  have hms17_0 := NB183_173.out
  refine skip_ (w1 := ?_) (by rfl) rfl ?_ ?_
  rotate_left
  ·
   go_simp
   rfl
  refine hK.out _ _ ⟨((cell_far (p := ⟨gb183, _, none⟩) NB173_183.out _).trans (((cell_far (p := ⟨gb183, _, none⟩) NB173_183.out _).trans (hHeld.1)))), ((cell_far (p := ⟨gb183, _, none⟩) NB173_183.out _).trans (((cell_far (p := ⟨gb183, _, none⟩) NB173_183.out _).trans (hHeld.2))))⟩ (fun hHeld => ?_)
  clear hK K
  refine pS 10 8 (BM 11 2047) ?_
  refine done_ (done_of HT_.out (by kernel_rfl)) ?_
  try go_wp2
  go_loopg [6, 8] k (fun kq v6 v8 w' => ∃ (x6_1 : List Int) (x8_1 : Int) (x184000_1 : Int) (x184001_1 : Int), v8 = .int .i64 x8_1 ∧ Aside0 (impl_tree_wordOfB.l0 kq x6_1 x8_1 x184000_1 x184001_1 = some (r1, r2)) ∧ Aside0 (kq ≤ k) ∧ Aside0 (Kd.R (Kd.int .i64) 3 w' w.heap.size (fun _ => True) v6 x6_1) ∧ Aside0 (w'.heap[gb173]? = some (.cells #[.func (.func 119) #[] #[], .func (.func 120) #[] #[]] 61 (0, 0))) ∧ Aside0 (w'.heap[gb183]? = some (.cells #[.int .i64 x184000_1, .int .i64 x184001_1] 90 (0, 0))) ∧ Aside0 (Below w.heap.size w w'))
  case atStart => exact ⟨(y175), (t182), (t180), (t181), e2, H', ⟨Nat.le_refl _⟩, ⟨by (with_reducible repeat (first | apply Kd.R_alloc | apply Kd.R_drewN | apply Kd.R_drew)); exact Kd.R_mono (Kd.R_far (p := ⟨gb183, 1, none⟩) (Kd.R_far (p := ⟨gb183, 0, none⟩) (Kd.R_types HO177.out BK183.out (by decide)) (fun _ hk => hk.2) (.int .i64 t180)) (fun _ hk => hk.2) (.int .i64 t181)) (fun _ hk => trivial)⟩, ⟨by (with_reducible repeat (first | refine blk_drewN ?_ _ | refine blk_drew ?_ | refine blk_alloc ?_ _)); refine blk_far ?_ NB173_183.out _; (with_reducible repeat (first | refine blk_drewN ?_ _ | refine blk_drew ?_ | refine blk_alloc ?_ _)); refine blk_far ?_ NB173_183.out _; (with_reducible repeat (first | refine blk_drewN ?_ _ | refine blk_drew ?_ | refine blk_alloc ?_ _)); exact BK173.out⟩, ⟨by (with_reducible repeat (first | refine blk_drewN ?_ _ | refine blk_drew ?_ | refine blk_alloc ?_ _)); refine blk_put (cs := #[.int .i64 t180, .int .i64 0]) ?_ 1 _ rfl; (with_reducible repeat (first | refine blk_drewN ?_ _ | refine blk_drew ?_ | refine blk_alloc ?_ _)); refine blk_put (cs := #[.int .i64 0, .int .i64 0]) ?_ 0 _ rfl; (with_reducible repeat (first | refine blk_drewN ?_ _ | refine blk_drew ?_ | refine blk_alloc ?_ _)); exact BK183.out⟩, ⟨kB HB⟩⟩
  case round =>
   clear H'; (try clear c1); (try clear c2); (try clear p2); (try clear c4); (try clear c8); (try clear c10); (try clear c12)
   obtain ⟨x6_1, x8_1, x184000_1, x184001_1, rfl, HA, HK1, HO_6, BK173, BK183, HB⟩ := hrel
   cases gk with
   | zero => exact absurd HA.out (by simp [impl_tree_wordOfB.l0])
   | succ k1 =>
    have H := HA.out
    clear HA
    simp only [impl_tree_wordOfB.l0] at H
    by_cases c18 : x8_1 ≥ 0
    ·
     rw [if_pos c18] at H
     have c18b0 : decide (0 ≤ x8_1) = true := decide_eq_true c18
     clear c18
     by_cases c19 : x6_1.length < 17592186044416
     ·
      rw [if_pos c19] at H
      have LMc19 := Aside0.mk c19
      clear c19
      obtain ⟨y184, hy184⟩ : ∃ y_ : List Int, y_ = (x6_1 ++ [x8_1]) := ⟨_, rfl⟩
      replace H : ((impl_berg_2.f x184000_1 x184001_1).bind fun bt187 => (impl_tree_wordOfB.l0 k1 y184 bt187.2.2 bt187.1 bt187.2.1)) = some (r1, r2) := by first | (rw [hy184]; with_reducible exact H) | (have H2_ := (Option.bind_some _ _).symm.trans H; rw [hy184]; with_reducible exact H2_) | (have H2_ := (Option.bind_some _ _).symm.trans H; with_reducible exact H2_) | with_reducible exact H | (rw [hy184]; exact H) | exact H
      have Ny184 := Aside0.mk hy184
      clear hy184
      replace H := Option.bind_eq_some_iff.mp H
      obtain ⟨⟨t187, t188, t189⟩, A200, H⟩ := H
      replace H : (impl_tree_wordOfB.l0 k1 y184 t189 t187 t188) = some (r1, r2) := H
      have A20 := Aside0.mk A200
      clear A200
      have H' := Aside0.mk H
      clear H
      go_wp2_with (first | ((with_reducible refine gate_builtin (b := .append) (xs := #[.tmp 23, .tmp 25]) rfl ?_); at_builtin; refine Kd.R_append (Kd.int .i64) (w0 := w) w.heap.size rfl (.tmp 23) (.tmp 25) 24 3 (.int .i64 0) 8 rfl Try.underlying24 info3 rfl (by decide) (by omega) u6 x6_1 x8_1 [.int .i64 x8_1] (fun _ => True) (fun _ => False) rfl rfl ?aP (fun _ hk => hk.elim) ?aF ?aO ?aB ?aS ?aL ?_; (case aP => exact rfl); (case aB => exact (kB HB)); (case aF => exact (fun _ _ => trivial)); (case aO => exact (rA HO_6)); (case aS => exact (below_size (kB HB))); (case aL => have := LMc19.out; omega); intro v185 w21 ho hb hg hat; rw [← Ny184.out] at ho; have n0_ := Aside0.mk (blk_grown (g := gb173) (o := .cells #[.func (.func 119) #[] #[], .func (.func 120) #[] #[]] 61 (0, 0)) (bA BK173) hg (Kd.R_ne HO_6.out BK173.out (by decide))); have n1_ := Aside0.mk (blk_grown (g := gb183) (o := .cells #[.int .i64 x184000_1, .int .i64 x184001_1] 90 (0, 0)) (bA BK183) hg (Kd.R_ne HO_6.out BK183.out (by decide))); have n2_ := Aside0.mk (hb); have n3_ := Aside0.mk (ho); clear BK173; clear BK183; clear HB; clear HO_6; have BK173 := n0_; have BK183 := n1_; have HB := n2_; have HO186 := n3_; clear n0_ n1_ n2_ n3_; clear ho hb hg hat; have hnb22 := NB173_183.out; have hnc22 := NB183_173.out; have hcz23_0 : w21.cell? ⟨gb173, 0, none⟩ = some (.func (.func 119) #[] #[]) := (blk_cell BK173.out 0).trans rfl; have hcz23_1 : w21.cell? ⟨gb173, 1, none⟩ = some (.func (.func 120) #[] #[]) := (blk_cell BK173.out 1).trans rfl; have hfz23_0 := blk_frozen BK173.out 0; have hfz23_1 := blk_frozen BK173.out 1; have hcz24_0 : w21.cell? ⟨gb183, 0, none⟩ = some (.int .i64 x184000_1) := (blk_cell BK183.out 0).trans rfl; have hcz24_1 : w21.cell? ⟨gb183, 1, none⟩ = some (.int .i64 x184001_1) := (blk_cell BK183.out 1).trans rfl; have hfz24_0 := blk_frozen BK183.out 0; have hfz24_1 := blk_frozen BK183.out 1) | ((with_reducible refine gate_dst (N := 31) rfl ?_); refine goesVL_berg (some 31) rfl rfl Try.func120 (by kernel_rfl) rfl #[.agg #[.int .i64 x184000_1, .int .i64 x184001_1]] rfl rfl (by (try simp only [List.map_toArray, List.map_cons, List.map_nil]); first | done | rfl | (simp only [List.length_drop, List.length_take]; rfl)) ?_; (with_reducible refine (impl_berg_2.calls x184000_1 x184001_1 t187 t188 t189 _ A20.out).mono ?_); rintro e w25 ⟨rfl, hb⟩; refine ⟨_, rfl, ?_⟩; have n0_ := Aside0.mk (Kd.R_below (rA HO186) hb); have n1_ := Aside0.mk (kK BK173 hb); have n2_ := Aside0.mk (kK BK183 hb); have n3_ := Aside0.mk (below_step (kB HB) hb); clear HO186; clear BK173; clear BK183; clear HB; have HO186 := n0_; have BK173 := n1_; have BK183 := n2_; have HB := n3_; clear n0_ n1_ n2_ n3_; (try clear hb); (try clear hb2); (try clear hk); (try clear hi); have hcz26_0 : w25.cell? ⟨gb183, 0, none⟩ = some (.int .i64 x184000_1) := (blk_cell BK183.out 0).trans rfl; have hcz26_1 : w25.cell? ⟨gb183, 1, none⟩ = some (.int .i64 x184001_1) := (blk_cell BK183.out 1).trans rfl; have hfz26_0 := blk_frozen BK183.out 0; have hfz26_1 := blk_frozen BK183.out 1))
      go_roundg k1
      case measure => have := HK1.out; omega
      case rel => exact ⟨(y184), (t189), (t187), (t188), e2, H', ⟨by have := HK1.out; omega⟩, ⟨by (with_reducible repeat (first | apply Kd.R_alloc | apply Kd.R_drewN | apply Kd.R_drew)); exact Kd.R_mono (Kd.R_far (p := ⟨gb183, 1, none⟩) (Kd.R_far (p := ⟨gb183, 0, none⟩) (Kd.R_types HO186.out BK183.out (by decide)) (fun _ hk => hk.2) (.int .i64 t187)) (fun _ hk => hk.2) (.int .i64 t188)) (fun _ hk => trivial)⟩, ⟨by (with_reducible repeat (first | refine blk_drewN ?_ _ | refine blk_drew ?_ | refine blk_alloc ?_ _)); refine blk_far ?_ NB173_183.out _; (with_reducible repeat (first | refine blk_drewN ?_ _ | refine blk_drew ?_ | refine blk_alloc ?_ _)); refine blk_far ?_ NB173_183.out _; (with_reducible repeat (first | refine blk_drewN ?_ _ | refine blk_drew ?_ | refine blk_alloc ?_ _)); exact BK173.out⟩, ⟨by (with_reducible repeat (first | refine blk_drewN ?_ _ | refine blk_drew ?_ | refine blk_alloc ?_ _)); refine blk_put (cs := #[.int .i64 t187, .int .i64 x184001_1]) ?_ 1 _ rfl; (with_reducible repeat (first | refine blk_drewN ?_ _ | refine blk_drew ?_ | refine blk_alloc ?_ _)); refine blk_put (cs := #[.int .i64 x184000_1, .int .i64 x184001_1]) ?_ 0 _ rfl; (with_reducible repeat (first | refine blk_drewN ?_ _ | refine blk_drew ?_ | refine blk_alloc ?_ _)); exact BK183.out⟩, ⟨kB HB⟩⟩
     ·
      rw [if_neg c19] at H
      exact absurd H (by simp)
    ·
     rw [if_neg c18] at H
     have c18b0 : decide (0 ≤ x8_1) = false := decide_eq_false c18
     clear c18
     replace H := Option.bind_eq_some_iff.mp H
     obtain ⟨t190, A270, H⟩ := H
     replace H : (some (t190, true)) = some (r1, r2) := H
     have A27 := Aside0.mk A270
     clear A270
     simp only [Option.some.injEq, Prod.mk.injEq] at H
     obtain ⟨rfl, rfl⟩ := H
     obtain ⟨Ao28, co28, eo28⟩ := Kd.R_slice HO_6.out
     subst eo28
     go_wp2_with (first | ((with_reducible refine gate_callee (f := 128) rfl ?_); refine gL (some 35) rfl rfl Try.func128 (by kernel_rfl) rfl #[.slice Ao28 x6_1.length co28] rfl ?_; (with_reducible refine (slices_Reverse_int_int.calls k1 (fun k_ => some k_ = (.slice Ao28 x6_1.length co28 : Value).ownBlock) (.slice Ao28 x6_1.length co28) x6_1 t190 w _ ?side1 ?side2 A27.out).mono ?_); (case side1 => exact kB HB); (case side2 => exact Kd.R_tight rfl HO_6.out); rintro e w29 ⟨rfl, hy0, hb, hkp⟩; refine ⟨_, rfl, ?_⟩; have n0_ := Aside0.mk (Kd.R_reok rfl hy0 (fun k_ e_ => HO_6.out.1 k_ e_)); have n1_ := Aside0.mk (blk_kept (bA BK173) hkp (fun hs_ => (fun e_ => (Kd.R_ne HO_6.out BK173.out (by decide)) e_) hs_)); have n2_ := Aside0.mk (blk_kept (bA BK183) hkp (fun hs_ => (fun e_ => (Kd.R_ne HO_6.out BK183.out (by decide)) e_) hs_)); have n3_ := Aside0.mk (hb); clear HO_6; clear BK173; clear BK183; clear HB; have HO_6 := n0_; have BK173 := n1_; have BK183 := n2_; have HB := n3_; clear n0_ n1_ n2_ n3_; (try clear hb); (try clear hkp); (try clear hy0)))
     go_ret2
     exact ⟨_, e1, by (with_reducible repeat (first | apply Kd.R_alloc | apply Kd.R_drewN | apply Kd.R_drew)); exact HO_6.out, kB HB⟩
 ·
  replace c4 := Bool.eq_false_iff.mpr c4
  subst c4
  have H1 : (some (([] : List Int), false)) = some (r1, r2) := by rw [if_neg (show ¬ (false = true) by decide)] at H; exact H
  clear H
  have H := H1
  clear H1
  simp only [Option.some.injEq, Prod.mk.injEq] at H
  obtain ⟨rfl, rfl⟩ := H
  go_enter Try.func89, Try.ntmps89
  go_wp2_with (first | ((with_reducible refine gate_dst (N := 2) rfl ?_); refine box_event ?hg (N := 2) ?hd (cs := #[.func (.func 119) #[] #[], .func (.func 120) #[] #[]]) (t := 61) ?hr ?_; (case hd => rfl); (case hg => rfl); (case hr => first | (go_simp; done) | (go_simp; rfl)); intro gb173 hg w30 hbox hb; have n0_ := Aside0.mk (below_step bq hb); have n1_ := Aside0.mk (hbox); have n2_ := Aside0.mk ((by rw [hg]; exact (below_size bq) : w.heap.size ≤ gb173)); have n3_ := Aside0.mk ((by rw [hg]; exact (below_size bq) : w.heap.size ≤ gb173)); clear HB; have HB := n0_; have BK173 := n1_; have GW173 := n2_; have GE173 := n3_; clear n0_ n1_ n2_ n3_; clear hb hbox hg) | ((with_reducible refine gate_callee (f := 21) rfl ?_); refine gL (some 10) rfl rfl Try.func21 (by kernel_rfl) rfl #[.slice A1 l1.length c1] rfl ?_; (with_reducible refine (impl_IsRight.calls k _ _ l1 false _ ?side1 ?side2 A3.out).mono ?_); (case side1 => exact cC (Kd.C_below HR1.out HB.out)); (case side2 => exact HC1.out); rintro e w31 ⟨rfl, hb⟩; refine ⟨_, rfl, ?_⟩; have n0_ := Aside0.mk (kK BK173 hb); have n1_ := Aside0.mk (below_step (kB HB) hb); clear BK173; clear HB; have BK173 := n0_; have HB := n1_; clear n0_ n1_; (try clear hb); (try clear hb2); (try clear hk); (try clear hi)))
  go_ret2
  exact ⟨_, e1, by first | exact Kd.R_nil _ _ _ _ _ | exact Kd.N_nil _ _ _ _ _ | exact Kd.V_nil _ _ _ _ _ | exact Kd.Q_nil _ _ _ _ _ | exact Kd.S_nil _ _ _ _ _, kB HB⟩

def impl_BergWord.f (k : Nat) (l0 : List Int) : Option (List Int × Bool) := (impl_berg.f).bind fun bt191 => ((impl_tree_wordOfB.f k bt191.1 bt191.2 l0).bind fun bt193 => (some (bt193.1, bt193.2)))
theorem impl_BergWord.mono : ∀ a0 k, LeO (impl_BergWord.f k a0) (impl_BergWord.f (k + 1) a0) := by
 intro a0 k
 unfold impl_BergWord.f
 repeat' first
  | (with_reducible exact impl_tree_wordOfB.mono _ _ _ _)
  | (with_reducible exact LeO.refl _)
  | (with_reducible exact LeO.none _)
  | (with_reducible refine LeO.ite ?_ ?_)
  | (with_reducible refine LeO.bind ?_ (fun _ => ?_))
  | exact impl_tree_wordOfB.mono _ _ _ _
  | exact LeO.none _
  | refine LeO.ite ?_ ?_
  | refine LeO.bind ?_ (fun _ => ?_)
set_option maxHeartbeats 8000000 in
set_option maxRecDepth 100000 in
theorem impl_BergWord.calls (k : Nat) (A0 : Option Addr) (c0 : Nat) (l0 : List Int) (r1 : List Int) (r2 : Bool) (w : World) (hr0 : Kd.C (Kd.int .i64) w A0 l0.length l0) (hc0 : l0.length ≤ c0) (h : impl_BergWord.f k l0 = some (r1, r2)) :
 Calls Try.prog 31 #[.slice A0 l0.length c0] w fun e w' => ∃ v0_ : Value, e = .returned (.tuple #[v0_, .bool r2]) ∧ Kd.R (Kd.int .i64) 3 w' w.heap.size (fun _ => True) v0_ r1 ∧ Below w.heap.size w w' := by
 have HR0 := Aside0.mk hr0
 have HC0 := Aside0.mk hc0
 clear hr0 hc0
 have HB := Aside0.mk (Below.refl w.heap.size w)
 have H : ((impl_berg.f).bind fun bt191 => ((impl_tree_wordOfB.f k bt191.1 bt191.2 l0).bind fun bt193 => (some (bt193.1, bt193.2)))) = some (r1, r2) := h
 clear h
 replace H := Option.bind_eq_some_iff.mp H
 obtain ⟨⟨t191, t192⟩, A20, H⟩ := H
 replace H : ((impl_tree_wordOfB.f k t191 t192 l0).bind fun bt193 => (some (bt193.1, bt193.2))) = some (r1, r2) := H
 have A2 := Aside0.mk A20
 clear A20
 replace H := Option.bind_eq_some_iff.mp H
 obtain ⟨⟨t193, t196⟩, A30, H⟩ := H
 replace H : (some (t193, t196)) = some (r1, r2) := H
 have A3 := Aside0.mk A30
 clear A30
 simp only [Option.some.injEq, Prod.mk.injEq] at H
 obtain ⟨rfl, rfl⟩ := H
 go_enter Try.func31, Try.ntmps31
 go_wp2_with (first | ((with_reducible refine gate_callee (f := 80) rfl ?_); refine gL (some 4) rfl rfl Try.func80 (by kernel_rfl) rfl #[] rfl ?_; (with_reducible refine (impl_berg.calls  t191 t192 _ A2.out).mono ?_); rintro e w4 ⟨rfl, hb⟩; refine ⟨_, rfl, ?_⟩; have n0_ := Aside0.mk (below_step bq hb); clear HB; have HB := n0_; clear n0_; (try clear hb); (try clear hb2); (try clear hk); (try clear hi)) | ((with_reducible refine gate_callee (f := 89) rfl ?_); refine gL (some 6) rfl rfl Try.func89 (by kernel_rfl) rfl #[.agg #[.func (.func 119) #[] #[], .func (.func 120) #[] #[]], .slice A0 l0.length c0] rfl ?_; (with_reducible refine (impl_tree_wordOfB.calls k t191 t192 _ _ l0 t193 t196 _ ?side1 ?side2 A3.out).mono ?_); (case side1 => exact cC (Kd.C_below HR0.out HB.out)); (case side2 => exact HC0.out); rintro e w5 ⟨v194, rfl, ho0, hb⟩; refine ⟨_, rfl, ?_⟩; have n0_ := Aside0.mk (Kd.R_lower ho0 (below_size bq)); have n1_ := Aside0.mk (below_step bq hb); clear HB; have HO195 := n0_; have HB := n1_; clear n0_ n1_; (try clear hb); (try clear hb2); (try clear hk); (try clear hi); (try clear ho0)))
 go_ret2
 exact ⟨_, e1, by (with_reducible repeat (first | apply Kd.R_alloc | apply Kd.R_drewN | apply Kd.R_drew)); exact HO195.out, bq⟩

/-! ### spec_DrawIsRight: function 73 -/
def spec_DrawIsRight.f (k : Nat) (l0 : List Int) : Option (List Int) := (spec_l1Cur_triple.f k l0 0 0).bind fun bt407 => (some bt407.1)
theorem spec_DrawIsRight.mono : ∀ a0 k, LeO (spec_DrawIsRight.f k a0) (spec_DrawIsRight.f (k + 1) a0) := by
 intro a0 k
 unfold spec_DrawIsRight.f
 repeat' first
  | (with_reducible exact spec_l1Cur_triple.mono _ _ _ _)
  | (with_reducible exact LeO.refl _)
  | (with_reducible exact LeO.none _)
  | (with_reducible refine LeO.ite ?_ ?_)
  | (with_reducible refine LeO.bind ?_ (fun _ => ?_))
  | exact spec_l1Cur_triple.mono _ _ _ _
  | exact LeO.none _
  | refine LeO.ite ?_ ?_
  | refine LeO.bind ?_ (fun _ => ?_)
set_option maxHeartbeats 8000000 in
set_option maxRecDepth 100000 in
theorem spec_DrawIsRight.calls (k : Nat) (A0 : Option Addr) (c0 : Nat) (l0 : List Int) (r : List Int) (w : World) (hr0 : Kd.C (Kd.int .u8) w A0 l0.length l0) (hc0 : l0.length ≤ c0) (h : spec_DrawIsRight.f k l0 = some r) :
 Calls Try.prog 73 #[.slice A0 l0.length c0] w fun e w' => ∃ v0_ : Value, e = .returned (v0_) ∧ Kd.R (Kd.int .i64) 3 w' w.heap.size (fun _ => True) v0_ r ∧ Below w.heap.size w w' := by
 have hu79 := Try.underlying79
 have HR0 := Aside0.mk hr0
 have HC0 := Aside0.mk hc0
 clear hr0 hc0
 have HB := Aside0.mk (Below.refl w.heap.size w)
 have H : ((spec_l1Cur_triple.f k l0 0 0).bind fun bt407 => (some bt407.1)) = some r := h
 clear h
 replace H := Option.bind_eq_some_iff.mp H
 obtain ⟨⟨t407, t410, t411⟩, A20, H⟩ := H
 replace H : (some t407) = some r := H
 have A2 := Aside0.mk A20
 clear A20
 obtain rfl := Option.some.inj H
 go_enter Try.func73, Try.ntmps73
 go_wp2_with (first | ((with_reducible refine gate_dst (N := 6) rfl ?_); refine box_event ?hg (N := 6) ?hd (cs := #[.slice A0 l0.length c0, .int .i64 0, .int .u64 0]) (t := 79) ?hr ?_; (case hd => rfl); (case hg => rfl); (case hr => first | (go_simp; done) | (go_simp; rfl)); intro gb406 hg w3 hbox hb; have n0_ := Aside0.mk (below_step bq hb); have n1_ := Aside0.mk ((by rw [hg]; exact (below_size bq) : w.heap.size ≤ gb406)); have n2_ := Aside0.mk ((by rw [hg]; exact (below_size bq) : w.heap.size ≤ gb406)); have n3_ := Aside0.mk ((show IsS79 w w3 gb406 l0 0 0 from ⟨A0, c0, hbox, (by rw [hg]; exact (below_size bq) : w.heap.size ≤ gb406), HR0.out⟩)); clear HB; have HB := n0_; have GW406 := n1_; have GE406 := n2_; have HI406 := n3_; clear n0_ n1_ n2_ n3_; clear hb hbox hg) | ((with_reducible refine gate_callee (f := 78) rfl ?_); refine gL (some 8) rfl rfl Try.func78 (by kernel_rfl) rfl #[.pointer (some ⟨gb406, 0, none⟩)] rfl ?_; (with_reducible refine (spec_l1Cur_triple.calls k gb406 l0 0 0 t407 t410 t411 w _ ?side1 ?side2 A2.out).mono ?_); (case side1 => repeat (first | (with_reducible first | exact HI406.out | apply IsS79.alloc | apply IsS79.drewN | apply IsS79.drew | apply IsS79.set_1 | apply IsS79.set_2) | exact HI406.out)); (case side2 => repeat (first | (with_reducible first | exact HB.out | apply below_alloc | apply pw_below_drewN | apply below_drew1 | refine below_set ?_ (IsS79.ge HI406.out)) | exact HB.out | exact Below.refl _ _)); rintro e w4 ⟨v408, rfl, ho0, hi, hb, hk⟩; refine ⟨_, rfl, ?_⟩; have n0_ := Aside0.mk (Kd.R_lower ho0 (below_size (by repeat (first | (with_reducible first | exact HB.out | apply below_alloc | apply pw_below_drewN | apply below_drew1 | refine below_set ?_ (IsS79.ge HI406.out)) | exact HB.out | exact Below.refl _ _)))); have n1_ := Aside0.mk (hb); have n2_ := Aside0.mk (hi); clear HB; clear HI406; have HO409 := n0_; have HB := n1_; have HI406 := n2_; clear n0_ n1_ n2_; (try clear hb); (try clear hb2); (try clear hk); (try clear hi); (try clear ho0)))
 go_ret
 exact ⟨_, e1, by (with_reducible repeat (first | apply Kd.R_alloc | apply Kd.R_drewN | apply Kd.R_drew)); exact HO409.out, by repeat (first | (with_reducible first | exact HB.out | apply below_alloc | apply pw_below_drewN | apply below_drew1 | refine below_set ?_ (IsS79.ge HI406.out)) | exact HB.out | exact Below.refl _ _)⟩

/-! ### spec_DrawBergParent: function 32 -/
def spec_DrawBergParent.f (k : Nat) (l0 : List Int) : Option (List Int) := (spec_DrawIsRight.f k l0).bind fun t412 => (some t412)
theorem spec_DrawBergParent.mono : ∀ a0 k, LeO (spec_DrawBergParent.f k a0) (spec_DrawBergParent.f (k + 1) a0) := by
 intro a0 k
 unfold spec_DrawBergParent.f
 repeat' first
  | (with_reducible exact spec_DrawIsRight.mono _ _)
  | (with_reducible exact LeO.refl _)
  | (with_reducible exact LeO.none _)
  | (with_reducible refine LeO.ite ?_ ?_)
  | (with_reducible refine LeO.bind ?_ (fun _ => ?_))
  | exact spec_DrawIsRight.mono _ _
  | exact LeO.none _
  | refine LeO.ite ?_ ?_
  | refine LeO.bind ?_ (fun _ => ?_)
set_option maxHeartbeats 8000000 in
set_option maxRecDepth 100000 in
theorem spec_DrawBergParent.calls (k : Nat) (A0 : Option Addr) (c0 : Nat) (l0 : List Int) (r : List Int) (w : World) (hr0 : Kd.C (Kd.int .u8) w A0 l0.length l0) (hc0 : l0.length ≤ c0) (h : spec_DrawBergParent.f k l0 = some r) :
 Calls Try.prog 32 #[.slice A0 l0.length c0] w fun e w' => ∃ v0_ : Value, e = .returned (v0_) ∧ Kd.R (Kd.int .i64) 3 w' w.heap.size (fun _ => True) v0_ r ∧ Below w.heap.size w w' := by
 have HR0 := Aside0.mk hr0
 have HC0 := Aside0.mk hc0
 clear hr0 hc0
 have HB := Aside0.mk (Below.refl w.heap.size w)
 have H : ((spec_DrawIsRight.f k l0).bind fun t412 => (some t412)) = some r := h
 clear h
 replace H := Option.bind_eq_some_iff.mp H
 obtain ⟨t412, A20, H⟩ := H
 replace H : (some t412) = some r := H
 have A2 := Aside0.mk A20
 clear A20
 obtain rfl := Option.some.inj H
 go_enter Try.func32, Try.ntmps32
 go_wp2_with (first | ((with_reducible refine gate_callee (f := 73) rfl ?_); refine gL (some 4) rfl rfl Try.func73 (by kernel_rfl) rfl #[.slice A0 l0.length c0] rfl ?_; (with_reducible refine (spec_DrawIsRight.calls k _ _ l0 t412 _ ?side1 ?side2 A2.out).mono ?_); (case side1 => exact cC HR0.out); (case side2 => exact HC0.out); rintro e w3 ⟨v413, rfl, ho0, hb⟩; refine ⟨_, rfl, ?_⟩; have n0_ := Aside0.mk (Kd.R_lower ho0 (below_size bq)); have n1_ := Aside0.mk (below_step bq hb); clear HB; have HO414 := n0_; have HB := n1_; clear n0_ n1_; (try clear hb); (try clear hb2); (try clear hk); (try clear hi); (try clear ho0)))
 go_ret
 exact ⟨_, e1, by (with_reducible repeat (first | apply Kd.R_alloc | apply Kd.R_drewN | apply Kd.R_drew)); exact HO414.out, bq⟩

/-! ### spec_riBergUp: function 90 -/
def spec_riBergUp.f (a0 : Int) (a1 : Int) : Option (Int × Int × Int) := if a0 < (wrap64 (2 * a1)) then (some (a1, wrap64 ((wrap64 (2 * a1)) - a0), 0)) else (if a0 < (wrap64 (3 * a1)) then (some (a1, wrap64 (a0 - (wrap64 (2 * a1))), 1)) else (some (wrap64 (a0 - (wrap64 (2 * a1))), a1, 2)))
set_option maxHeartbeats 8000000 in
set_option maxRecDepth 100000 in
theorem spec_riBergUp.calls (a0 : Int) (a1 : Int) (r1 : Int) (r2 : Int) (r3 : Int) (w : World) (h : spec_riBergUp.f a0 a1 = some (r1, r2, r3)) :
 Calls Try.prog 90 #[.int .i64 a0, .int .i64 a1] w fun e w' => e = .returned (.tuple #[.int .i64 r1, .int .i64 r2, .int .i64 r3]) ∧ Drawn0 w w' := by
 have H : (if a0 < (wrap64 (2 * a1)) then (some (a1, wrap64 ((wrap64 (2 * a1)) - a0), 0)) else (if a0 < (wrap64 (3 * a1)) then (some (a1, wrap64 (a0 - (wrap64 (2 * a1))), 1)) else (some (wrap64 (a0 - (wrap64 (2 * a1))), a1, 2)))) = some (r1, r2, r3) := h
 clear h
 by_cases c3 : a0 < (wrap64 (2 * a1))
 ·
  rw [if_pos c3] at H
  have c3b0 : decide (a0 < (wrap64 (2 * a1))) = true := decide_eq_true c3
  clear c3
  simp only [Option.some.injEq, Prod.mk.injEq] at H
  obtain ⟨rfl, rfl, rfl⟩ := H
  go_enter Try.func90, Try.ntmps90
  go_wp2
  go_ret3
  exact ⟨e2, dz⟩
 ·
  rw [if_neg c3] at H
  have c3b0 : decide (a0 < (wrap64 (2 * a1))) = false := decide_eq_false c3
  clear c3
  by_cases c4 : a0 < (wrap64 (3 * a1))
  ·
   rw [if_pos c4] at H
   have c4b0 : decide (a0 < (wrap64 (3 * a1))) = true := decide_eq_true c4
   clear c4
   simp only [Option.some.injEq, Prod.mk.injEq] at H
   obtain ⟨rfl, rfl, rfl⟩ := H
   go_enter Try.func90, Try.ntmps90
   go_wp2
   go_ret3
   exact ⟨e2, dz⟩
  ·
   rw [if_neg c4] at H
   have c4b0 : decide (a0 < (wrap64 (3 * a1))) = false := decide_eq_false c4
   clear c4
   simp only [Option.some.injEq, Prod.mk.injEq] at H
   obtain ⟨rfl, rfl, rfl⟩ := H
   go_enter Try.func90, Try.ntmps90
   go_wp2
   go_ret3
   exact ⟨e2, dz⟩

/-! ### spec_BergParent: function 33 -/
def spec_BergParent.j0 : Nat → List Int → Bool → Option (List Int × Int × Bool)
 | 0, _, _ => none
 | k + 1, x0, x18 => if x18 = true then (some (([] : List Int), 0, false)) else ((spec_riBack.f k x0).bind fun bt417 => ((spec_riBergUp.f bt417.1 bt417.2).bind fun bt419 => ((spec_riOf.f bt419.1 bt419.2.1).bind fun t422 => (some (t422, bt419.2.2, true)))))
def spec_BergParent.f (k : Nat) (l0 : List Int) : Option (List Int × Int × Bool) := (spec_riGood.f k l0).bind fun t415 => (if t415 = true then (if 2 < (l0.length : Int) then (spec_BergParent.j0 k l0 ((rd l0 2) == 5)) else (none)) else (spec_BergParent.j0 k l0 true))
theorem spec_BergParent.mono_l : ∀ k, (∀ y0 y1, LeO (spec_BergParent.j0 k y0 y1) (spec_BergParent.j0 (k + 1) y0 y1))
 | 0 => fun _ _ r h => by simp [spec_BergParent.j0] at h
 | k + 1 => by
  have ih0 := spec_BergParent.mono_l k
  ·
   intro y0 y1
   unfold spec_BergParent.j0
   repeat' first
   | (with_reducible exact ih0 _ _)
   | (with_reducible exact spec_riBack.mono _ _)
   | (with_reducible exact spec_riGood.mono _ _)
   | (with_reducible exact LeO.refl _)
   | (with_reducible exact LeO.none _)
   | (with_reducible refine LeO.ite ?_ ?_)
   | (with_reducible refine LeO.bind ?_ (fun _ => ?_))
   | exact ih0 _ _
   | exact spec_riBack.mono _ _
   | exact spec_riGood.mono _ _
   | exact LeO.none _
   | refine LeO.ite ?_ ?_
   | refine LeO.bind ?_ (fun _ => ?_)
theorem spec_BergParent.mono : ∀ a0 k, LeO (spec_BergParent.f k a0) (spec_BergParent.f (k + 1) a0) := by
 intro a0 k
 have ih0 := spec_BergParent.mono_l k
 unfold spec_BergParent.f
 repeat' first
  | (with_reducible exact ih0 _ _)
  | (with_reducible exact spec_riBack.mono _ _)
  | (with_reducible exact spec_riGood.mono _ _)
  | (with_reducible exact LeO.refl _)
  | (with_reducible exact LeO.none _)
  | (with_reducible refine LeO.ite ?_ ?_)
  | (with_reducible refine LeO.bind ?_ (fun _ => ?_))
  | exact ih0 _ _
  | exact spec_riBack.mono _ _
  | exact spec_riGood.mono _ _
  | exact LeO.none _
  | refine LeO.ite ?_ ?_
  | refine LeO.bind ?_ (fun _ => ?_)
set_option maxHeartbeats 8000000 in
set_option maxRecDepth 100000 in
theorem spec_BergParent.calls (k : Nat) (A0 : Option Addr) (c0 : Nat) (l0 : List Int) (r1 : List Int) (r2 : Int) (r3 : Bool) (w : World) (hr0 : Kd.C (Kd.int .i64) w A0 l0.length l0) (hc0 : l0.length ≤ c0) (h : spec_BergParent.f k l0 = some (r1, r2, r3)) :
 Calls Try.prog 33 #[.slice A0 l0.length c0] w fun e w' => ∃ v0_ : Value, e = .returned (.tuple #[v0_, .int .i64 r2, .bool r3]) ∧ Kd.R (Kd.int .i64) 3 w' w.heap.size (fun _ => True) v0_ r1 ∧ Below w.heap.size w w' := by
 have HR0 := Aside0.mk hr0
 have HC0 := Aside0.mk hc0
 clear hr0 hc0
 have HB := Aside0.mk (Below.refl w.heap.size w)
 have H : ((spec_riGood.f k l0).bind fun t415 => (if t415 = true then (if 2 < (l0.length : Int) then (spec_BergParent.j0 k l0 ((rd l0 2) == 5)) else (none)) else (spec_BergParent.j0 k l0 true))) = some (r1, r2, r3) := h
 clear h
 have HC2 := Aside0.mk H
 clear H
 go_enter Try.func33, Try.ntmps33
 go_upto_region 1 with (fail)
 go_cut [18] (fun v18 wc => ∃ (kq : Nat) (x18_1 : Bool), v18 = .bool x18_1 ∧ Aside0 (spec_BergParent.j0 kq l0 x18_1 = some (r1, r2, r3)) ∧ Aside0 (kq ≤ k) ∧ Aside0 (Below w.heap.size w wc))
 case first =>
  have H := HC2.out
  clear HC2
  replace H := Option.bind_eq_some_iff.mp H
  obtain ⟨t415, A30, H⟩ := H
  replace H : (if t415 = true then (if 2 < (l0.length : Int) then (spec_BergParent.j0 k l0 ((rd l0 2) == 5)) else (none)) else (spec_BergParent.j0 k l0 true)) = some (r1, r2, r3) := H
  have A3 := Aside0.mk A30
  clear A30
  by_cases c4 : t415 = true
  ·
   subst c4
   have H1 : (if 2 < (l0.length : Int) then (spec_BergParent.j0 k l0 ((rd l0 2) == 5)) else (none)) = some (r1, r2, r3) := by rw [if_pos rfl] at H; exact H
   clear H
   have H := H1
   clear H1
   by_cases c5 : 2 < (l0.length : Int)
   ·
    rw [if_pos c5] at H
    have c5b0 : decide (2 < (l0.length : Int)) = true := decide_eq_true c5
    have c5b1 : decide (2 < l0.length) = true := decide_eq_true (by omega)
    clear c5
    (first | rw [c5b0] | (simp only [i64_w, i32_w]; rw [c5b0]) | skip)
    have H' := Aside0.mk H
    clear H
    go_wp2_with (first | ((with_reducible refine gate_callee (f := 62) rfl ?_); refine gL (some 11) rfl rfl Try.func62 (by kernel_rfl) rfl #[.slice A0 l0.length c0] rfl ?_; (with_reducible refine (spec_riGood.calls k _ _ l0 true _ ?side1 ?side2 A3.out).mono ?_); (case side1 => exact cC (Kd.C_below HR0.out HB.out)); (case side2 => exact HC0.out); rintro e w6 ⟨rfl, hb⟩; refine ⟨_, rfl, ?_⟩; have n0_ := Aside0.mk (below_step bq hb); clear HB; have HB := n0_; clear n0_; (try clear hb); (try clear hb2); (try clear hk); (try clear hi); have p416 : 0 ≤ (2 : Int) := (by omega); have q416 : 2 < (l0.length : Int) := od; obtain ⟨ad416, e416, hx416_0⟩ := Kd.at_int HR0.out 2 p416 q416; cases e416; (try simp only [show (2 : Int).toNat = 2 from rfl, Nat.reduceMul, Nat.reduceEqDiff, Go.Addr.add, ↓reduceIte] at hx416_0); have qi416 : (2 < l0.length) = True := eq_true (by omega); (try rw [show ((2 : Int)).toNat = 2 from rfl] at hx416_0); replace hx416_0 := (HB.out.cell (World.block_lt_of_cell? w _ hx416_0)).trans hx416_0; replace p416 := eq_true p416; replace q416 := eq_true q416))
    go_meet
    case rel => exact ⟨_, (((rd l0 2) == 5)), e2, H', ⟨by first | omega | exact Nat.le_refl _⟩, ⟨bq⟩⟩
   ·
    rw [if_neg c5] at H
    exact absurd H (by simp)
  ·
   replace c4 := Bool.eq_false_iff.mpr c4
   subst c4
   have H1 : (spec_BergParent.j0 k l0 true) = some (r1, r2, r3) := by rw [if_neg (show ¬ (false = true) by decide)] at H; exact H
   clear H
   have H := H1
   clear H1
   have H' := Aside0.mk H
   clear H
   go_wp2_with (first | ((with_reducible refine gate_callee (f := 62) rfl ?_); refine gL (some 11) rfl rfl Try.func62 (by kernel_rfl) rfl #[.slice A0 l0.length c0] rfl ?_; (with_reducible refine (spec_riGood.calls k _ _ l0 false _ ?side1 ?side2 A3.out).mono ?_); (case side1 => exact cC (Kd.C_below HR0.out HB.out)); (case side2 => exact HC0.out); rintro e w7 ⟨rfl, hb⟩; refine ⟨_, rfl, ?_⟩; have n0_ := Aside0.mk (below_step bq hb); clear HB; have HB := n0_; clear n0_; (try clear hb); (try clear hb2); (try clear hk); (try clear hi)))
   go_meet
   case rel => exact ⟨_, (true), e2, H', ⟨by first | omega | exact Nat.le_refl _⟩, ⟨bq⟩⟩
 case rest =>
  clear HC2; (try clear p2); (try clear c3); (try clear c4); (try clear p4); (try clear q4); (try clear hx4); (try clear qi4); (try clear c5); (try clear c5b0); (try clear c5b1); (try clear c6); (try clear hx416_0); (try clear p416); (try clear q416)
  obtain ⟨kq, x18_1, rfl, HA, HJ1, HB⟩ := hcut
  cases kq with
  | zero => exact absurd HA.out (by simp [spec_BergParent.j0])
  | succ kj1 =>
   have H := HA.out
   clear HA
   simp only [spec_BergParent.j0] at H
   by_cases c8 : x18_1 = true
   ·
    subst c8
    have H1 : (some (([] : List Int), 0, false)) = some (r1, r2, r3) := by rw [if_pos rfl] at H; exact H
    clear H
    have H := H1
    clear H1
    simp only [Option.some.injEq, Prod.mk.injEq] at H
    obtain ⟨rfl, rfl, rfl⟩ := H
    go_wp2
    go_ret3
    exact ⟨_, e1, by first | exact Kd.R_nil _ _ _ _ _ | exact Kd.N_nil _ _ _ _ _ | exact Kd.V_nil _ _ _ _ _ | exact Kd.Q_nil _ _ _ _ _ | exact Kd.S_nil _ _ _ _ _, bq⟩
   ·
    replace c8 := Bool.eq_false_iff.mpr c8
    subst c8
    have H1 : ((spec_riBack.f kj1 l0).bind fun bt417 => ((spec_riBergUp.f bt417.1 bt417.2).bind fun bt419 => ((spec_riOf.f bt419.1 bt419.2.1).bind fun t422 => (some (t422, bt419.2.2, true))))) = some (r1, r2, r3) := by rw [if_neg (show ¬ (false = true) by decide)] at H; exact H
    clear H
    have H := H1
    clear H1
    replace H := Option.bind_eq_some_iff.mp H
    obtain ⟨⟨t417, t418⟩, A90, H⟩ := H
    replace H : ((spec_riBergUp.f t417 t418).bind fun bt419 => ((spec_riOf.f bt419.1 bt419.2.1).bind fun t422 => (some (t422, bt419.2.2, true)))) = some (r1, r2, r3) := H
    have A9 := Aside0.mk A90
    clear A90
    replace H := Option.bind_eq_some_iff.mp H
    obtain ⟨⟨t419, t420, t421⟩, A100, H⟩ := H
    replace H : ((spec_riOf.f t419 t420).bind fun t422 => (some (t422, t421, true))) = some (r1, r2, r3) := H
    have A10 := Aside0.mk A100
    clear A100
    replace H := Option.bind_eq_some_iff.mp H
    obtain ⟨t422, A110, H⟩ := H
    replace H : (some (t422, t421, true)) = some (r1, r2, r3) := H
    have A11 := Aside0.mk A110
    clear A110
    simp only [Option.some.injEq, Prod.mk.injEq] at H
    obtain ⟨rfl, rfl, rfl⟩ := H
    go_wp2_with (first | ((with_reducible refine gate_callee (f := 64) rfl ?_); refine gL (some 21) rfl rfl Try.func64 (by kernel_rfl) rfl #[.slice A0 l0.length c0] rfl ?_; (with_reducible refine (spec_riBack.calls kj1 _ _ l0 t417 t418 _ ?side1 ?side2 A9.out).mono ?_); (case side1 => exact cC (Kd.C_below HR0.out HB.out)); (case side2 => exact HC0.out); rintro e w' ⟨rfl, ⟨nd, rfl⟩⟩; refine ⟨_, rfl, ?_⟩) | ((with_reducible refine gate_callee (f := 90) rfl ?_); refine gL (some 27) rfl rfl Try.func90 (by kernel_rfl) rfl #[.int .i64 t417, .int .i64 t418] rfl ?_; (with_reducible refine (spec_riBergUp.calls t417 t418 t419 t420 t421 _ A10.out).mono ?_); rintro e w' ⟨rfl, ⟨nd, rfl⟩⟩; refine ⟨_, rfl, ?_⟩) | ((with_reducible refine gate_callee (f := 75) rfl ?_); refine gL (some 33) rfl rfl Try.func75 (by kernel_rfl) rfl #[.int .i64 t419, .int .i64 t420] rfl ?_; (with_reducible refine (spec_riOf.calls t419 t420 t422 _ A11.out).mono ?_); rintro e w12 ⟨v423, rfl, ho0, hb⟩; refine ⟨_, rfl, ?_⟩; have n0_ := Aside0.mk (Kd.R_lower ho0 (below_size bq)); have n1_ := Aside0.mk (below_step bq hb); clear HB; have HO424 := n0_; have HB := n1_; clear n0_ n1_; (try clear hb); (try clear hb2); (try clear hk); (try clear hi); (try clear ho0)))
    go_ret3
    exact ⟨_, e1, by (with_reducible repeat (first | apply Kd.R_alloc | apply Kd.R_drewN | apply Kd.R_drew)); exact HO424.out, bq⟩

end Go.Proofs.Ytnfbkakblnppaaa.P
