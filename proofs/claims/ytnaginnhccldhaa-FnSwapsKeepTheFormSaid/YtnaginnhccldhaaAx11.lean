-- Written by a program of this session (wip/mkprint.py over the kit's print), out of the translation. Not trusted: Lean checks it.
import Derived.Test.YtnaginnhccldhaaAx0
import Derived.Test.YtnaginnhccldhaaAx3
import Derived.Test.YtnaginnhccldhaaAx5
import Derived.Test.YtnaginnhccldhaaAx9
namespace Go.Proofs.Ytnaginnhccldhaa.P
open Go.RowKit Go.Proofs.YtnaginnhccldhaaW.PrintWords Go.Proofs.YtnaginnhccldhaaW.PrintLast Go.Proofs.YtnaginnhccldhaaW.PrintMore
attribute [local go_sem] max2_int min2_int max_two min_two max_three min_three max_four min_four   -- for this text's walks alone
set_option linter.unusedVariables false
set_option linter.unusedSimpArgs false

/-! ### impl_isVector: function 82 -/
def impl_isVector.f (l0 : List Int) (a1 : Int) : Option (Bool) := if (l0.length : Int) = a1 then ((impl_allWithin.f l0 (-1000000) 1000000).bind fun t426 => (some t426)) else (some false)
set_option maxHeartbeats 8000000 in
set_option maxRecDepth 100000 in
theorem impl_isVector.calls (A0 : Option Addr) (c0 : Nat) (l0 : List Int) (a1 : Int) (r : Bool) (w : World) (hr0 : Kd.C (Kd.int .i64) w A0 l0.length l0) (hc0 : l0.length ≤ c0) (h : impl_isVector.f l0 a1 = some r) :
 Calls Try.prog 82 #[.slice A0 l0.length c0, .int .i64 a1] w fun e w' => e = .returned (.bool r) ∧ Below w.heap.size w w' := by
 have HR0 := Aside0.mk hr0
 have HC0 := Aside0.mk hc0
 clear hr0 hc0
 have HB := Aside0.mk (Below.refl w.heap.size w)
 have H : (if (l0.length : Int) = a1 then ((impl_allWithin.f l0 (-1000000) 1000000).bind fun t426 => (some t426)) else (some false)) = some r := h
 clear h
 by_cases c3 : (l0.length : Int) = a1
 ·
  rw [if_pos c3] at H
  have c3b0 : ((l0.length : Int) == a1) = true := beq_iff_eq.mpr c3
  have c3b1 : ((l0.length : Int) != a1) = false := bne_eq_false_iff_eq.mpr c3
  clear c3
  replace H := Option.bind_eq_some_iff.mp H
  obtain ⟨t426, A40, H⟩ := H
  replace H : (some t426) = some r := H
  have A4 := Aside0.mk A40
  clear A40
  obtain rfl := Option.some.inj H
  go_enter Try.func82, Try.ntmps82
  go_wp2_with (first | (go_at_call 69; (with_reducible refine (impl_allWithin.calls _ _ l0 (-1000000) 1000000 t426 _ ?side1 ?side2 A4.out).mono ?_); (case side1 => exact cC HR0.out); (case side2 => exact HC0.out); rintro e w5 ⟨rfl, hb⟩; have n0_ := Aside0.mk (below_step bq hb); clear HB; have HB := n0_; clear n0_; (try clear hb); (try clear hb2); (try clear hk); (try clear hi)))
  go_ret
  exact ⟨e1, bq⟩
 ·
  rw [if_neg c3] at H
  have c3b0 : ((l0.length : Int) == a1) = false := beq_eq_false_iff_ne.mpr c3
  have c3b1 : ((l0.length : Int) != a1) = true := bne_iff_ne.mpr c3
  obtain rfl := Option.some.inj H
  go_enter Try.func82, Try.ntmps82
  go_wp2
  go_ret
  exact ⟨e1, bq⟩

/-! ### impl_Matrix_apply: function 84 -/
mutual
def impl_Matrix_apply.l0 : Nat → List Int → List Int → List (List Int) → Int → Int → Option (List Int)
 | 0, _, _, _, _, _ => none
 | k + 1, x1, x5, x13, x14, x15 => if x15 < x14 then (if 0 ≤ x15 then (if x15 < (x13.length : Int) then (impl_Matrix_apply.l1 k x1 x5 0 x13 x14 x15 (rd_L2 x13 x15) ((rd_L2 x13 x15).length : Int) 0) else (none)) else (none)) else (some x5)
def impl_Matrix_apply.l1 : Nat → List Int → List Int → Int → List (List Int) → Int → Int → List Int → Int → Int → Option (List Int)
 | 0, _, _, _, _, _, _, _, _, _ => none
 | k + 1, x1, x5, x8, x13, x14, x15, x19, x20, x21 => if x21 < x20 then (if 0 ≤ x21 then (if x21 < (x19.length : Int) then (if x21 < (x1.length : Int) then (impl_Matrix_apply.l1 k x1 x5 (wrap64 (x8 + (wrap64 ((rd x19 x21) * (rd x1 x21))))) x13 x14 x15 x19 x20 (wrap64 (x21 + 1))) else (none)) else (none)) else (none)) else (if x5.length < 17592186044416 then (impl_Matrix_apply.l0 k x1 (x5 ++ [x8]) x13 x14 (wrap64 (x15 + 1))) else (none))
end
def impl_Matrix_apply.f (k : Nat) (l0_0 : List (List Int)) (l1 : List Int) : Option (List Int) := impl_Matrix_apply.l0 k l1 (([] : List Int)) l0_0 (l0_0.length : Int) 0
theorem impl_Matrix_apply.mono_l : ∀ k, (∀ y0 y1 y2 y3 y4, LeO (impl_Matrix_apply.l0 k y0 y1 y2 y3 y4) (impl_Matrix_apply.l0 (k + 1) y0 y1 y2 y3 y4)) ∧ (∀ y0 y1 y2 y3 y4 y5 y6 y7 y8, LeO (impl_Matrix_apply.l1 k y0 y1 y2 y3 y4 y5 y6 y7 y8) (impl_Matrix_apply.l1 (k + 1) y0 y1 y2 y3 y4 y5 y6 y7 y8))
 | 0 => ⟨fun _ _ _ _ _ r h => by simp [impl_Matrix_apply.l0] at h, fun _ _ _ _ _ _ _ _ _ r h => by simp [impl_Matrix_apply.l1] at h⟩
 | k + 1 => by
  obtain ⟨ih0, ih1⟩ := impl_Matrix_apply.mono_l k
  refine ⟨?_, ?_⟩
  ·
   intro y0 y1 y2 y3 y4
   unfold impl_Matrix_apply.l0
   repeat' first
   | (with_reducible exact ih0 _ _ _ _ _)
   | (with_reducible exact ih1 _ _ _ _ _ _ _ _ _)
   | (with_reducible exact LeO.refl _)
   | (with_reducible exact LeO.none _)
   | (with_reducible refine LeO.ite ?_ ?_)
   | (with_reducible refine LeO.bind ?_ (fun _ => ?_))
   | exact ih0 _ _ _ _ _
   | exact ih1 _ _ _ _ _ _ _ _ _
   | exact LeO.none _
   | refine LeO.ite ?_ ?_
   | refine LeO.bind ?_ (fun _ => ?_)
  ·
   intro y0 y1 y2 y3 y4 y5 y6 y7 y8
   unfold impl_Matrix_apply.l1
   repeat' first
   | (with_reducible exact ih0 _ _ _ _ _)
   | (with_reducible exact ih1 _ _ _ _ _ _ _ _ _)
   | (with_reducible exact LeO.refl _)
   | (with_reducible exact LeO.none _)
   | (with_reducible refine LeO.ite ?_ ?_)
   | (with_reducible refine LeO.bind ?_ (fun _ => ?_))
   | exact ih0 _ _ _ _ _
   | exact ih1 _ _ _ _ _ _ _ _ _
   | exact LeO.none _
   | refine LeO.ite ?_ ?_
   | refine LeO.bind ?_ (fun _ => ?_)
theorem impl_Matrix_apply.mono : ∀ a0 a1 k, LeO (impl_Matrix_apply.f k a0 a1) (impl_Matrix_apply.f (k + 1) a0 a1) := by
 intro a0 a1 k
 obtain ⟨ih0, ih1⟩ := impl_Matrix_apply.mono_l k
 unfold impl_Matrix_apply.f
 repeat' first
  | (with_reducible exact ih0 _ _ _ _ _)
  | (with_reducible exact ih1 _ _ _ _ _ _ _ _ _)
  | (with_reducible exact LeO.refl _)
  | (with_reducible exact LeO.none _)
  | (with_reducible refine LeO.ite ?_ ?_)
  | (with_reducible refine LeO.bind ?_ (fun _ => ?_))
  | exact ih0 _ _ _ _ _
  | exact ih1 _ _ _ _ _ _ _ _ _
  | exact LeO.none _
  | refine LeO.ite ?_ ?_
  | refine LeO.bind ?_ (fun _ => ?_)
set_option maxHeartbeats 8000000 in
set_option maxRecDepth 100000 in
theorem impl_Matrix_apply.calls (k : Nat) (A0_0 : Option Addr) (c0_0 : Nat) (l0_0 : List (List Int)) (A1 : Option Addr) (c1 : Nat) (l1 : List Int) (r : List Int) (w : World) (hr0_0 : Kd.C (Kd.slice 3 (Kd.int .i64)) w A0_0 l0_0.length l0_0) (hc0_0 : l0_0.length ≤ c0_0) (hr1 : Kd.C (Kd.int .i64) w A1 l1.length l1) (hc1 : l1.length ≤ c1) (h : impl_Matrix_apply.f k l0_0 l1 = some r) :
 Calls Try.prog 84 #[.agg #[.slice A0_0 l0_0.length c0_0], .slice A1 l1.length c1] w fun e w' => ∃ v0_ : Value, e = .returned (v0_) ∧ Kd.R (Kd.int .i64) 3 w' w.heap.size (fun _ => True) v0_ r ∧ Below w.heap.size w w' := by
 have hu26 := Try.underlying26
 have HR0_0 := Aside0.mk hr0_0
 have HC0_0 := Aside0.mk hc0_0
 clear hr0_0 hc0_0
 have HR1 := Aside0.mk hr1
 have HC1 := Aside0.mk hc1
 clear hr1 hc1
 have HB := Aside0.mk (Below.refl w.heap.size w)
 have H : (impl_Matrix_apply.l0 k l1 (([] : List Int)) l0_0 (l0_0.length : Int) 0) = some r := h
 clear h
 obtain ⟨y428, hy428⟩ : ∃ y_ : List Int, y_ = (([] : List Int)) := ⟨_, rfl⟩
 replace H : (impl_Matrix_apply.l0 k l1 y428 l0_0 (l0_0.length : Int) 0) = some r := by first | (rw [hy428]; with_reducible exact H) | (have H2_ := (Option.bind_some _ _).symm.trans H; rw [hy428]; with_reducible exact H2_) | (have H2_ := (Option.bind_some _ _).symm.trans H; with_reducible exact H2_) | with_reducible exact H | (rw [hy428]; exact H) | exact H
 have Ny428 := Aside0.mk hy428
 clear hy428
 have H' := Aside0.mk H
 clear H
 go_enter Try.func84, Try.ntmps84
 go_wp2_with (first | ((with_reducible refine gate_dst (N := 2) rfl ?_); refine box_event ?hg (N := 2) ?hd (cs := #[.slice A0_0 l0_0.length c0_0]) (t := 26) ?hr ?_; (case hd => rfl); (case hg => rfl); (case hr => first | (go_simp; done) | (go_simp; rfl)); intro gb427 hg w3 hbox hb; have n0_ := Aside0.mk (below_step bq hb); have n1_ := Aside0.mk (hbox); have n2_ := Aside0.mk ((by rw [hg]; exact (below_size bq) : w.heap.size ≤ gb427)); have n3_ := Aside0.mk ((by rw [hg]; exact (below_size bq) : w.heap.size ≤ gb427)); clear HB; have HB := n0_; have BK427 := n1_; have GW427 := n2_; have GE427 := n3_; clear n0_ n1_ n2_ n3_; clear hb hbox hg) | ((with_reducible refine gate_dst (N := 11) rfl ?_); refine Kd.R_lit (Kd.int .i64) _ 3 ?hg (N := 11) ?hd (xs := ([] : List Int)) (inner := []) (ok := fun _ => True) (okp := fun _ => True) ?hr ?hp (fun _ hk => hk) trivial (Below.refl _ _) (Nat.le_refl _) (by simp) ?_; (case hd => rfl); (case hg => rfl); (case hr => first | (go_simp; done) | (go_simp; rfl)); (case hp => exact (Reps.none _ _)); intro v429 w4 ho5 hb hg_ hnew_; clear hg_ hnew_; (first | rw [← Ny428.out] at ho5 | (simp only [Int.reduceToNat] at ho5; rw [← Ny428.out] at ho5)); have n0_ := Aside0.mk (Kd.R_lower ho5 (below_size (kB HB))); have n1_ := Aside0.mk (kK BK427 hb); have n2_ := Aside0.mk (below_step (kB HB) hb); clear BK427; clear HB; have HO430 := n0_; have BK427 := n1_; have HB := n2_; clear n0_ n1_ n2_; clear hb ho5; have hcz6_0 : w4.cell? ⟨gb427, 0, none⟩ = some (.slice A0_0 l0_0.length c0_0) := (blk_cell BK427.out 0).trans rfl; have hfz6_0 := blk_frozen BK427.out 0))
 go_loopg [5, 15] k (fun kq v5 v15 w' => ∃ (x5_1 : List Int) (x15_1 : Int), v15 = .int .i64 x15_1 ∧ Aside0 (impl_Matrix_apply.l0 kq l1 x5_1 l0_0 (l0_0.length : Int) x15_1 = some r) ∧ Aside0 (kq ≤ k) ∧ Aside0 (Kd.R (Kd.int .i64) 3 w' w.heap.size (fun _ => True) v5 x5_1) ∧ Aside0 (w'.heap[gb427]? = some (.cells #[(.slice A0_0 l0_0.length c0_0)] 26 (0, 0))) ∧ Aside0 (Below w.heap.size w w'))
 case atStart => exact ⟨(y428), (0), e2, H', ⟨Nat.le_refl _⟩, ⟨by (with_reducible repeat (first | apply Kd.R_alloc | apply Kd.R_drewN | apply Kd.R_drew)); exact HO430.out⟩, ⟨by (with_reducible repeat (first | refine blk_drewN ?_ _ | refine blk_drew ?_ | refine blk_alloc ?_ _)); exact BK427.out⟩, ⟨kB HB⟩⟩
 case round =>
  clear H'; (try clear c1); (try clear p2); (try clear hcz6_0); (try clear hfz6_0)
  obtain ⟨x5_1, x15_1, rfl, HA, HK1, HO_5, BK427, HB⟩ := hrel
  cases gk with
  | zero => exact absurd HA.out (by simp [impl_Matrix_apply.l0])
  | succ k1 =>
   have H := HA.out
   clear HA
   simp only [impl_Matrix_apply.l0] at H
   by_cases c7 : x15_1 < (l0_0.length : Int)
   ·
    rw [if_pos c7] at H
    have c7b0 : decide (x15_1 < (l0_0.length : Int)) = true := decide_eq_true c7
    clear c7
    by_cases c8 : 0 ≤ x15_1
    ·
     rw [if_pos c8] at H
     have c8b0 : decide (0 ≤ x15_1) = true := decide_eq_true c8
     clear c8
     by_cases c9 : x15_1 < (l0_0.length : Int)
     ·
      rw [if_pos c9] at H
      have c9b0 : decide (x15_1 < (l0_0.length : Int)) = true := decide_eq_true c9
      clear c9
      have H' := Aside0.mk H
      clear H
      have p431 : 0 ≤ (x15_1 : Int) := od
      have q431 : x15_1 < (l0_0.length : Int) := od
      obtain ⟨ad431, A431_0, c431_0, e431, hx431_0, hl431_0, hi431_0⟩ := at_L2 HR0_0.out x15_1 p431 q431
      cases e431
      replace hx431_0 := (HB.out.cell (World.block_lt_of_cell? w _ hx431_0)).trans hx431_0
      have HR431_0 := Aside0.mk hi431_0
      have HC431_0 := Aside0.mk hl431_0
      clear hi431_0 hl431_0
      replace p431 := eq_true p431
      replace q431 := eq_true q431
      go_wp2
      go_loopg [8, 21] k1 (fun kq v8 v21 w' => ∃ (x8_2 : Int) (x21_2 : Int), v8 = .int .i64 x8_2 ∧ v21 = .int .i64 x21_2 ∧ Aside0 (impl_Matrix_apply.l1 kq l1 x5_1 x8_2 l0_0 (l0_0.length : Int) x15_1 (rd_L2 l0_0 x15_1) ((rd_L2 l0_0 x15_1).length : Int) x21_2 = some r) ∧ Aside0 (kq ≤ k1) ∧ Aside0 (Kd.R (Kd.int .i64) 3 w' w.heap.size (fun _ => True) u5 x5_1) ∧ Aside0 (w'.heap[gb427]? = some (.cells #[(.slice (some ad431) l0_0.length c0_0)] 26 (0, 0))) ∧ Aside0 (Below w.heap.size w w'))
      case atStart => exact ⟨(0), (0), e2, e2, H', ⟨Nat.le_refl _⟩, ⟨by (with_reducible repeat (first | apply Kd.R_alloc | apply Kd.R_drewN | apply Kd.R_drew)); exact HO_5.out⟩, ⟨by (with_reducible repeat (first | refine blk_drewN ?_ _ | refine blk_drew ?_ | refine blk_alloc ?_ _)); exact BK427.out⟩, ⟨kB HB⟩⟩
      case round =>
       clear H'; (try clear c1); (try clear p2); (try clear c4); (try clear p4); (try clear q4); (try clear hx4); (try clear c7); (try clear c7b0); (try clear c8); (try clear c8b0); (try clear c9); (try clear c9b0); (try clear hcz6_0); (try clear hfz6_0); (try clear hx431_0); (try clear p2); (try clear p431); (try clear q431)
       obtain ⟨x8_2, x21_2, rfl, rfl, HA, HK2, HO_5, BK427, HB⟩ := hrel
       cases gk with
       | zero => exact absurd HA.out (by simp [impl_Matrix_apply.l1])
       | succ k2 =>
        have H := HA.out
        clear HA
        simp only [impl_Matrix_apply.l1] at H
        by_cases c10 : x21_2 < ((rd_L2 l0_0 x15_1).length : Int)
        ·
         rw [if_pos c10] at H
         have c10b0 : decide (x21_2 < ((rd_L2 l0_0 x15_1).length : Int)) = true := decide_eq_true c10
         clear c10
         by_cases c11 : 0 ≤ x21_2
         ·
          rw [if_pos c11] at H
          have c11b0 : decide (0 ≤ x21_2) = true := decide_eq_true c11
          clear c11
          by_cases c12 : x21_2 < ((rd_L2 l0_0 x15_1).length : Int)
          ·
           rw [if_pos c12] at H
           have c12b0 : decide (x21_2 < ((rd_L2 l0_0 x15_1).length : Int)) = true := decide_eq_true c12
           clear c12
           by_cases c13 : x21_2 < (l1.length : Int)
           ·
            rw [if_pos c13] at H
            have c13b0 : decide (x21_2 < (l1.length : Int)) = true := decide_eq_true c13
            clear c13
            have H' := Aside0.mk H
            clear H
            have p432 : 0 ≤ (x21_2 : Int) := od
            have q432 : x21_2 < ((rd_L2 l0_0 x15_1).length : Int) := od
            obtain ⟨ad432, e432, hx432_0⟩ := Kd.at_int HR431_0.out x21_2 p432 q432
            cases e432
            replace hx432_0 := (HB.out.cell (World.block_lt_of_cell? w _ hx432_0)).trans hx432_0
            replace p432 := eq_true p432
            replace q432 := eq_true q432
            have p433 : 0 ≤ (x21_2 : Int) := od
            have q433 : x21_2 < (l1.length : Int) := od
            obtain ⟨ad433, e433, hx433_0⟩ := Kd.at_int HR1.out x21_2 p433 q433
            cases e433
            replace hx433_0 := (HB.out.cell (World.block_lt_of_cell? w _ hx433_0)).trans hx433_0
            replace p433 := eq_true p433
            replace q433 := eq_true q433
            go_wp2
            go_roundg k2
            case measure => have := HK1.out; have := HK2.out; omega
            case rel => exact ⟨(wrap64 (x8_2 + (wrap64 ((rd (rd_L2 l0_0 x15_1) x21_2) * (rd l1 x21_2))))), (wrap64 (x21_2 + 1)), e2, e2, H', ⟨by have := HK1.out; have := HK2.out; omega⟩, ⟨by (with_reducible repeat (first | apply Kd.R_alloc | apply Kd.R_drewN | apply Kd.R_drew)); exact HO_5.out⟩, ⟨by (with_reducible repeat (first | refine blk_drewN ?_ _ | refine blk_drew ?_ | refine blk_alloc ?_ _)); exact BK427.out⟩, ⟨kB HB⟩⟩
           ·
            rw [if_neg c13] at H
            exact absurd H (by simp)
          ·
           rw [if_neg c12] at H
           exact absurd H (by simp)
         ·
          rw [if_neg c11] at H
          exact absurd H (by simp)
        ·
         rw [if_neg c10] at H
         have c10b0 : decide (x21_2 < ((rd_L2 l0_0 x15_1).length : Int)) = false := decide_eq_false c10
         clear c10
         by_cases c14 : x5_1.length < 17592186044416
         ·
          rw [if_pos c14] at H
          have LMc14 := Aside0.mk c14
          clear c14
          obtain ⟨y434, hy434⟩ : ∃ y_ : List Int, y_ = (x5_1 ++ [x8_2]) := ⟨_, rfl⟩
          replace H : (impl_Matrix_apply.l0 k2 l1 y434 l0_0 (l0_0.length : Int) (wrap64 (x15_1 + 1))) = some r := by first | (rw [hy434]; with_reducible exact H) | (have H2_ := (Option.bind_some _ _).symm.trans H; rw [hy434]; with_reducible exact H2_) | (have H2_ := (Option.bind_some _ _).symm.trans H; with_reducible exact H2_) | with_reducible exact H | (rw [hy434]; exact H) | exact H
          have Ny434 := Aside0.mk hy434
          clear hy434
          have H' := Aside0.mk H
          clear H
          go_wp2_with (first | ((with_reducible refine gate_builtin (b := .append) (xs := #[.tmp 35, .tmp 37]) rfl ?_); at_builtin; refine Kd.R_append (Kd.int .i64) (w0 := w) w.heap.size rfl (.tmp 35) (.tmp 37) 35 3 (.int .i64 0) 8 rfl Try.underlying35 info3 rfl (by decide) (by omega) u5 x5_1 x8_2 [.int .i64 x8_2] (fun _ => True) (fun _ => False) rfl rfl ?aP (fun _ hk => hk.elim) ?aF ?aO ?aB ?aS ?aL ?_; (case aP => exact rfl); (case aB => exact (kB HB)); (case aF => exact (fun _ _ => trivial)); (case aO => exact (rA HO_5)); (case aS => exact (below_size (kB HB))); (case aL => have := LMc14.out; omega); intro v435 w15 ho hb hg hat; rw [← Ny434.out] at ho; have n0_ := Aside0.mk (blk_grown (g := gb427) (o := .cells #[.slice (some ad431) l0_0.length c0_0] 26 (0, 0)) (bA BK427) hg (Kd.R_ne HO_5.out BK427.out (by decide))); have n1_ := Aside0.mk (hb); have n2_ := Aside0.mk (ho); clear BK427; clear HB; clear HO_5; have BK427 := n0_; have HB := n1_; have HO436 := n2_; clear n0_ n1_ n2_; clear ho hb hg hat))
          go_roundg k2
          case measure => have := HK1.out; have := HK2.out; omega
          case rel => exact ⟨(y434), (wrap64 (x15_1 + 1)), e2, H', ⟨by have := HK1.out; have := HK2.out; omega⟩, ⟨by (with_reducible repeat (first | apply Kd.R_alloc | apply Kd.R_drewN | apply Kd.R_drew)); exact HO436.out⟩, ⟨by (with_reducible repeat (first | refine blk_drewN ?_ _ | refine blk_drew ?_ | refine blk_alloc ?_ _)); exact BK427.out⟩, ⟨kB HB⟩⟩
         ·
          rw [if_neg c14] at H
          exact absurd H (by simp)
     ·
      rw [if_neg c9] at H
      exact absurd H (by simp)
    ·
     rw [if_neg c8] at H
     exact absurd H (by simp)
   ·
    rw [if_neg c7] at H
    have c7b0 : decide (x15_1 < (l0_0.length : Int)) = false := decide_eq_false c7
    clear c7
    obtain rfl := Option.some.inj H
    go_wp2
    go_ret
    exact ⟨_, e1, by (with_reducible repeat (first | apply Kd.R_alloc | apply Kd.R_drewN | apply Kd.R_drew)); exact HO_5.out, kB HB⟩

/-! ### impl_ProductAt: function 78 -/
def impl_ProductAt.j0 : Nat → List Int → List Int → Bool → List (List Int) → Option (Int × Bool)
 | 0, _, _, _, _ => none
 | k + 1, x1, x2, x24, x438000 => if x24 = true then (some (0, false)) else ((impl_Matrix_apply.f k x438000 x2).bind fun t443 => ((impl_dot.f k x1 t443).bind fun t446 => (some (t446, true))))
def impl_ProductAt.f (k : Nat) (l0_0 : List (List Int)) (l1 : List Int) (l2 : List Int) : Option (Int × Bool) := (impl_isForm.f l0_0).bind fun t438 => (if t438 = true then ((impl_Matrix_size.f l0_0).bind fun t439 => ((impl_isVector.f l1 t439).bind fun t440 => (if t440 = true then ((impl_Matrix_size.f l0_0).bind fun t441 => ((impl_isVector.f l2 t441).bind fun t442 => (impl_ProductAt.j0 k l1 l2 (!t442) l0_0))) else (impl_ProductAt.j0 k l1 l2 true l0_0)))) else (impl_ProductAt.j0 k l1 l2 true l0_0))
theorem impl_ProductAt.mono_l : ∀ k, (∀ y0 y1 y2 y3, LeO (impl_ProductAt.j0 k y0 y1 y2 y3) (impl_ProductAt.j0 (k + 1) y0 y1 y2 y3))
 | 0 => fun _ _ _ _ r h => by simp [impl_ProductAt.j0] at h
 | k + 1 => by
  have ih0 := impl_ProductAt.mono_l k
  ·
   intro y0 y1 y2 y3
   unfold impl_ProductAt.j0
   repeat' first
   | (with_reducible exact ih0 _ _ _ _)
   | (with_reducible exact impl_Matrix_apply.mono _ _ _)
   | (with_reducible exact impl_dot.mono _ _ _)
   | (with_reducible exact LeO.refl _)
   | (with_reducible exact LeO.none _)
   | (with_reducible refine LeO.ite ?_ ?_)
   | (with_reducible refine LeO.bind ?_ (fun _ => ?_))
   | exact ih0 _ _ _ _
   | exact impl_Matrix_apply.mono _ _ _
   | exact impl_dot.mono _ _ _
   | exact LeO.none _
   | refine LeO.ite ?_ ?_
   | refine LeO.bind ?_ (fun _ => ?_)
theorem impl_ProductAt.mono : ∀ a0 a1 a2 k, LeO (impl_ProductAt.f k a0 a1 a2) (impl_ProductAt.f (k + 1) a0 a1 a2) := by
 intro a0 a1 a2 k
 have ih0 := impl_ProductAt.mono_l k
 unfold impl_ProductAt.f
 repeat' first
  | (with_reducible exact ih0 _ _ _ _)
  | (with_reducible exact impl_Matrix_apply.mono _ _ _)
  | (with_reducible exact impl_dot.mono _ _ _)
  | (with_reducible exact LeO.refl _)
  | (with_reducible exact LeO.none _)
  | (with_reducible refine LeO.ite ?_ ?_)
  | (with_reducible refine LeO.bind ?_ (fun _ => ?_))
  | exact ih0 _ _ _ _
  | exact impl_Matrix_apply.mono _ _ _
  | exact impl_dot.mono _ _ _
  | exact LeO.none _
  | refine LeO.ite ?_ ?_
  | refine LeO.bind ?_ (fun _ => ?_)
set_option maxHeartbeats 8000000 in
set_option maxRecDepth 100000 in
theorem impl_ProductAt.calls (k : Nat) (A0_0 : Option Addr) (c0_0 : Nat) (l0_0 : List (List Int)) (A1 : Option Addr) (c1 : Nat) (l1 : List Int) (A2 : Option Addr) (c2 : Nat) (l2 : List Int) (r1 : Int) (r2 : Bool) (w : World) (hr0_0 : Kd.C (Kd.slice 3 (Kd.int .i64)) w A0_0 l0_0.length l0_0) (hc0_0 : l0_0.length ≤ c0_0) (hr1 : Kd.C (Kd.int .i64) w A1 l1.length l1) (hc1 : l1.length ≤ c1) (hr2 : Kd.C (Kd.int .i64) w A2 l2.length l2) (hc2 : l2.length ≤ c2) (h : impl_ProductAt.f k l0_0 l1 l2 = some (r1, r2)) :
 Calls Try.prog 78 #[.agg #[.slice A0_0 l0_0.length c0_0], .slice A1 l1.length c1, .slice A2 l2.length c2] w fun e w' => e = .returned (.tuple #[.int .i64 r1, .bool r2]) ∧ Below w.heap.size w w' := by
 have hu26 := Try.underlying26
 have HR0_0 := Aside0.mk hr0_0
 have HC0_0 := Aside0.mk hc0_0
 clear hr0_0 hc0_0
 have HR1 := Aside0.mk hr1
 have HC1 := Aside0.mk hc1
 clear hr1 hc1
 have HR2 := Aside0.mk hr2
 have HC2 := Aside0.mk hc2
 clear hr2 hc2
 have HB := Aside0.mk (Below.refl w.heap.size w)
 have H : ((impl_isForm.f l0_0).bind fun t438 => (if t438 = true then ((impl_Matrix_size.f l0_0).bind fun t439 => ((impl_isVector.f l1 t439).bind fun t440 => (if t440 = true then ((impl_Matrix_size.f l0_0).bind fun t441 => ((impl_isVector.f l2 t441).bind fun t442 => (impl_ProductAt.j0 k l1 l2 (!t442) l0_0))) else (impl_ProductAt.j0 k l1 l2 true l0_0)))) else (impl_ProductAt.j0 k l1 l2 true l0_0))) = some (r1, r2) := h
 clear h
 have HC4 := Aside0.mk H
 clear H
 go_enter Try.func78, Try.ntmps78
 go_upto_region 1 with (first | ((with_reducible refine gate_dst (N := 3) rfl ?_); refine box_event ?hg (N := 3) ?hd (cs := #[.slice A0_0 l0_0.length c0_0]) (t := 26) ?hr ?_; (case hd => rfl); (case hg => rfl); (case hr => first | (go_simp; done) | (go_simp; rfl)); intro gb437 hg w5 hbox hb; have n0_ := Aside0.mk (below_step bq hb); have n1_ := Aside0.mk (hbox); have n2_ := Aside0.mk ((by rw [hg]; exact (below_size bq) : w.heap.size ≤ gb437)); have n3_ := Aside0.mk ((by rw [hg]; exact (below_size bq) : w.heap.size ≤ gb437)); clear HB; have HB := n0_; have BK437 := n1_; have GW437 := n2_; have GE437 := n3_; clear n0_ n1_ n2_ n3_; clear hb hbox hg))
 (try simp only [Act.put, List.setIfInBounds_toArray, List.set_cons_zero, List.set_cons_succ])
 go_cut [24] (fun v24 wc => ∃ (kq : Nat) (x24_3 : Bool), v24 = .bool x24_3 ∧ Aside0 (impl_ProductAt.j0 kq l1 l2 x24_3 l0_0 = some (r1, r2)) ∧ Aside0 (kq ≤ k) ∧ Aside0 (wc.heap[gb437]? = some (.cells #[(.slice A0_0 l0_0.length c0_0)] 26 (0, 0))) ∧ Aside0 (Below w.heap.size w wc))
 case first =>
  have H := HC4.out
  clear HC4
  replace H := Option.bind_eq_some_iff.mp H
  obtain ⟨t438, A60, H⟩ := H
  replace H : (if t438 = true then ((impl_Matrix_size.f l0_0).bind fun t439 => ((impl_isVector.f l1 t439).bind fun t440 => (if t440 = true then ((impl_Matrix_size.f l0_0).bind fun t441 => ((impl_isVector.f l2 t441).bind fun t442 => (impl_ProductAt.j0 k l1 l2 (!t442) l0_0))) else (impl_ProductAt.j0 k l1 l2 true l0_0)))) else (impl_ProductAt.j0 k l1 l2 true l0_0)) = some (r1, r2) := H
  have A6 := Aside0.mk A60
  clear A60
  by_cases c7 : t438 = true
  ·
   subst c7
   have H1 : ((impl_Matrix_size.f l0_0).bind fun t439 => ((impl_isVector.f l1 t439).bind fun t440 => (if t440 = true then ((impl_Matrix_size.f l0_0).bind fun t441 => ((impl_isVector.f l2 t441).bind fun t442 => (impl_ProductAt.j0 k l1 l2 (!t442) l0_0))) else (impl_ProductAt.j0 k l1 l2 true l0_0)))) = some (r1, r2) := by rw [if_pos rfl] at H; exact H
   clear H
   have H := H1
   clear H1
   replace H := Option.bind_eq_some_iff.mp H
   obtain ⟨t439, A80, H⟩ := H
   replace H : ((impl_isVector.f l1 t439).bind fun t440 => (if t440 = true then ((impl_Matrix_size.f l0_0).bind fun t441 => ((impl_isVector.f l2 t441).bind fun t442 => (impl_ProductAt.j0 k l1 l2 (!t442) l0_0))) else (impl_ProductAt.j0 k l1 l2 true l0_0))) = some (r1, r2) := H
   have A8 := Aside0.mk A80
   clear A80
   replace H := Option.bind_eq_some_iff.mp H
   obtain ⟨t440, A90, H⟩ := H
   replace H : (if t440 = true then ((impl_Matrix_size.f l0_0).bind fun t441 => ((impl_isVector.f l2 t441).bind fun t442 => (impl_ProductAt.j0 k l1 l2 (!t442) l0_0))) else (impl_ProductAt.j0 k l1 l2 true l0_0)) = some (r1, r2) := H
   have A9 := Aside0.mk A90
   clear A90
   by_cases c10 : t440 = true
   ·
    subst c10
    have H1 : ((impl_Matrix_size.f l0_0).bind fun t441 => ((impl_isVector.f l2 t441).bind fun t442 => (impl_ProductAt.j0 k l1 l2 (!t442) l0_0))) = some (r1, r2) := by rw [if_pos rfl] at H; exact H
    clear H
    have H := H1
    clear H1
    replace H := Option.bind_eq_some_iff.mp H
    obtain ⟨t441, A110, H⟩ := H
    obtain rfl : t439 = t441 := Option.some.inj (A8.out.symm.trans A110)
    replace H : ((impl_isVector.f l2 t439).bind fun t442 => (impl_ProductAt.j0 k l1 l2 (!t442) l0_0)) = some (r1, r2) := H
    have A11 := Aside0.mk A110
    clear A110
    replace H := Option.bind_eq_some_iff.mp H
    obtain ⟨t442, A120, H⟩ := H
    replace H : (impl_ProductAt.j0 k l1 l2 (!t442) l0_0) = some (r1, r2) := H
    have A12 := Aside0.mk A120
    clear A120
    have H' := Aside0.mk H
    clear H
    have hcz13_0 : w5.cell? ⟨gb437, 0, none⟩ = some (.slice A0_0 l0_0.length c0_0) := (blk_cell BK437.out 0).trans rfl
    have hfz13_0 := blk_frozen BK437.out 0
    go_wp2_with (first | ((with_reducible refine gate_callee (f := 60) rfl ?_); refine gL (some 9) rfl rfl Try.func60 (by kernel_rfl) rfl #[.agg #[.slice A0_0 l0_0.length c0_0]] rfl ?_; (with_reducible refine (impl_isForm.calls _ _ l0_0 true _ ?side1 ?side2 A6.out).mono ?_); (case side1 => exact cC (Kd.C_below HR0_0.out HB.out)); (case side2 => exact HC0_0.out); rintro e w14 ⟨rfl, hb⟩; refine ⟨_, rfl, ?_⟩; have n0_ := Aside0.mk (kK BK437 hb); have n1_ := Aside0.mk (below_step (kB HB) hb); clear BK437; clear HB; have BK437 := n0_; have HB := n1_; clear n0_ n1_; (try clear hb); (try clear hb2); (try clear hk); (try clear hi); have hcz15_0 : w14.cell? ⟨gb437, 0, none⟩ = some (.slice A0_0 l0_0.length c0_0) := (blk_cell BK437.out 0).trans rfl; have hfz15_0 := blk_frozen BK437.out 0) | (go_at_call 83; (with_reducible refine (impl_Matrix_size.calls _ _ l0_0 t439 _ ?side1 ?side2 A8.out).mono ?_); (case side1 => exact cC (Kd.C_below HR0_0.out HB.out)); (case side2 => exact HC0_0.out); rintro e w16 ⟨rfl, hb⟩; have n0_ := Aside0.mk (kK BK437 hb); have n1_ := Aside0.mk (below_step (kB HB) hb); clear BK437; clear HB; have BK437 := n0_; have HB := n1_; clear n0_ n1_; (try clear hb); (try clear hb2); (try clear hk); (try clear hi)) | (go_at_call 82; (with_reducible refine (impl_isVector.calls _ _ l1 t439 true _ ?side1 ?side2 A9.out).mono ?_); (case side1 => exact cC (Kd.C_below HR1.out HB.out)); (case side2 => exact HC1.out); rintro e w17 ⟨rfl, hb⟩; have n0_ := Aside0.mk (kK BK437 hb); have n1_ := Aside0.mk (below_step (kB HB) hb); clear BK437; clear HB; have BK437 := n0_; have HB := n1_; clear n0_ n1_; (try clear hb); (try clear hb2); (try clear hk); (try clear hi); have hcz18_0 : w17.cell? ⟨gb437, 0, none⟩ = some (.slice A0_0 l0_0.length c0_0) := (blk_cell BK437.out 0).trans rfl; have hfz18_0 := blk_frozen BK437.out 0) | (go_at_call 83; (with_reducible refine (impl_Matrix_size.calls _ _ l0_0 t439 _ ?side1 ?side2 A11.out).mono ?_); (case side1 => exact cC (Kd.C_below HR0_0.out HB.out)); (case side2 => exact HC0_0.out); rintro e w19 ⟨rfl, hb⟩; have n0_ := Aside0.mk (kK BK437 hb); have n1_ := Aside0.mk (below_step (kB HB) hb); clear BK437; clear HB; have BK437 := n0_; have HB := n1_; clear n0_ n1_; (try clear hb); (try clear hb2); (try clear hk); (try clear hi)) | (go_at_call 82; (with_reducible refine (impl_isVector.calls _ _ l2 t439 t442 _ ?side1 ?side2 A12.out).mono ?_); (case side1 => exact cC (Kd.C_below HR2.out HB.out)); (case side2 => exact HC2.out); rintro e w20 ⟨rfl, hb⟩; have n0_ := Aside0.mk (kK BK437 hb); have n1_ := Aside0.mk (below_step (kB HB) hb); clear BK437; clear HB; have BK437 := n0_; have HB := n1_; clear n0_ n1_; (try clear hb); (try clear hb2); (try clear hk); (try clear hi)))
    go_meet
    case rel => exact ⟨_, (!t442), e2, H', ⟨by first | omega | exact Nat.le_refl _⟩, ⟨by (with_reducible repeat (first | refine blk_drewN ?_ _ | refine blk_drew ?_ | refine blk_alloc ?_ _)); exact BK437.out⟩, ⟨kB HB⟩⟩
   ·
    replace c10 := Bool.eq_false_iff.mpr c10
    subst c10
    have H1 : (impl_ProductAt.j0 k l1 l2 true l0_0) = some (r1, r2) := by rw [if_neg (show ¬ (false = true) by decide)] at H; exact H
    clear H
    have H := H1
    clear H1
    have H' := Aside0.mk H
    clear H
    have hcz21_0 : w5.cell? ⟨gb437, 0, none⟩ = some (.slice A0_0 l0_0.length c0_0) := (blk_cell BK437.out 0).trans rfl
    have hfz21_0 := blk_frozen BK437.out 0
    go_wp2_with (first | ((with_reducible refine gate_callee (f := 60) rfl ?_); refine gL (some 9) rfl rfl Try.func60 (by kernel_rfl) rfl #[.agg #[.slice A0_0 l0_0.length c0_0]] rfl ?_; (with_reducible refine (impl_isForm.calls _ _ l0_0 true _ ?side1 ?side2 A6.out).mono ?_); (case side1 => exact cC (Kd.C_below HR0_0.out HB.out)); (case side2 => exact HC0_0.out); rintro e w22 ⟨rfl, hb⟩; refine ⟨_, rfl, ?_⟩; have n0_ := Aside0.mk (kK BK437 hb); have n1_ := Aside0.mk (below_step (kB HB) hb); clear BK437; clear HB; have BK437 := n0_; have HB := n1_; clear n0_ n1_; (try clear hb); (try clear hb2); (try clear hk); (try clear hi); have hcz23_0 : w22.cell? ⟨gb437, 0, none⟩ = some (.slice A0_0 l0_0.length c0_0) := (blk_cell BK437.out 0).trans rfl; have hfz23_0 := blk_frozen BK437.out 0) | (go_at_call 83; (with_reducible refine (impl_Matrix_size.calls _ _ l0_0 t439 _ ?side1 ?side2 A8.out).mono ?_); (case side1 => exact cC (Kd.C_below HR0_0.out HB.out)); (case side2 => exact HC0_0.out); rintro e w24 ⟨rfl, hb⟩; have n0_ := Aside0.mk (kK BK437 hb); have n1_ := Aside0.mk (below_step (kB HB) hb); clear BK437; clear HB; have BK437 := n0_; have HB := n1_; clear n0_ n1_; (try clear hb); (try clear hb2); (try clear hk); (try clear hi)) | (go_at_call 82; (with_reducible refine (impl_isVector.calls _ _ l1 t439 false _ ?side1 ?side2 A9.out).mono ?_); (case side1 => exact cC (Kd.C_below HR1.out HB.out)); (case side2 => exact HC1.out); rintro e w25 ⟨rfl, hb⟩; have n0_ := Aside0.mk (kK BK437 hb); have n1_ := Aside0.mk (below_step (kB HB) hb); clear BK437; clear HB; have BK437 := n0_; have HB := n1_; clear n0_ n1_; (try clear hb); (try clear hb2); (try clear hk); (try clear hi)))
    go_meet
    case rel => exact ⟨_, (true), e2, H', ⟨by first | omega | exact Nat.le_refl _⟩, ⟨by (with_reducible repeat (first | refine blk_drewN ?_ _ | refine blk_drew ?_ | refine blk_alloc ?_ _)); exact BK437.out⟩, ⟨kB HB⟩⟩
  ·
   replace c7 := Bool.eq_false_iff.mpr c7
   subst c7
   have H1 : (impl_ProductAt.j0 k l1 l2 true l0_0) = some (r1, r2) := by rw [if_neg (show ¬ (false = true) by decide)] at H; exact H
   clear H
   have H := H1
   clear H1
   have H' := Aside0.mk H
   clear H
   have hcz26_0 : w5.cell? ⟨gb437, 0, none⟩ = some (.slice A0_0 l0_0.length c0_0) := (blk_cell BK437.out 0).trans rfl
   have hfz26_0 := blk_frozen BK437.out 0
   go_wp2_with (first | ((with_reducible refine gate_callee (f := 60) rfl ?_); refine gL (some 9) rfl rfl Try.func60 (by kernel_rfl) rfl #[.agg #[.slice A0_0 l0_0.length c0_0]] rfl ?_; (with_reducible refine (impl_isForm.calls _ _ l0_0 false _ ?side1 ?side2 A6.out).mono ?_); (case side1 => exact cC (Kd.C_below HR0_0.out HB.out)); (case side2 => exact HC0_0.out); rintro e w27 ⟨rfl, hb⟩; refine ⟨_, rfl, ?_⟩; have n0_ := Aside0.mk (kK BK437 hb); have n1_ := Aside0.mk (below_step (kB HB) hb); clear BK437; clear HB; have BK437 := n0_; have HB := n1_; clear n0_ n1_; (try clear hb); (try clear hb2); (try clear hk); (try clear hi)))
   go_meet
   case rel => exact ⟨_, (true), e2, H', ⟨by first | omega | exact Nat.le_refl _⟩, ⟨by (with_reducible repeat (first | refine blk_drewN ?_ _ | refine blk_drew ?_ | refine blk_alloc ?_ _)); exact BK437.out⟩, ⟨kB HB⟩⟩
 case rest =>
  clear HC4; (try clear c1); (try clear c2); (try clear p2); (try clear c6); (try clear c7); (try clear c10); (try clear hcz13_0); (try clear hcz15_0); (try clear hcz18_0); (try clear hcz21_0); (try clear hcz23_0); (try clear hcz26_0); (try clear hfz13_0); (try clear hfz15_0); (try clear hfz18_0); (try clear hfz21_0); (try clear hfz23_0); (try clear hfz26_0)
  obtain ⟨kq, x24_3, rfl, HA, HJ3, BK437, HB⟩ := hcut
  cases kq with
  | zero => exact absurd HA.out (by simp [impl_ProductAt.j0])
  | succ kj3 =>
   have H := HA.out
   clear HA
   simp only [impl_ProductAt.j0] at H
   by_cases c28 : x24_3 = true
   ·
    subst c28
    have H1 : (some (0, false)) = some (r1, r2) := by rw [if_pos rfl] at H; exact H
    clear H
    have H := H1
    clear H1
    simp only [Option.some.injEq, Prod.mk.injEq] at H
    obtain ⟨rfl, rfl⟩ := H
    go_wp2
    go_ret2
    exact ⟨e1, kB HB⟩
   ·
    replace c28 := Bool.eq_false_iff.mpr c28
    subst c28
    have H1 : ((impl_Matrix_apply.f kj3 l0_0 l2).bind fun t443 => ((impl_dot.f kj3 l1 t443).bind fun t446 => (some (t446, true)))) = some (r1, r2) := by rw [if_neg (show ¬ (false = true) by decide)] at H; exact H
    clear H
    have H := H1
    clear H1
    replace H := Option.bind_eq_some_iff.mp H
    obtain ⟨t443, A290, H⟩ := H
    replace H : ((impl_dot.f kj3 l1 t443).bind fun t446 => (some (t446, true))) = some (r1, r2) := H
    have A29 := Aside0.mk A290
    clear A290
    replace H := Option.bind_eq_some_iff.mp H
    obtain ⟨t446, A300, H⟩ := H
    replace H : (some (t446, true)) = some (r1, r2) := H
    have A30 := Aside0.mk A300
    clear A300
    simp only [Option.some.injEq, Prod.mk.injEq] at H
    obtain ⟨rfl, rfl⟩ := H
    have hcz31_0 : wc.cell? ⟨gb437, 0, none⟩ = some (.slice A0_0 l0_0.length c0_0) := (blk_cell BK437.out 0).trans rfl
    have hfz31_0 := blk_frozen BK437.out 0
    go_wp2_with (first | ((with_reducible refine gate_callee (f := 84) rfl ?_); refine gL (some 28) rfl rfl Try.func84 (by kernel_rfl) rfl #[.agg #[.slice A0_0 l0_0.length c0_0], .slice A2 l2.length c2] rfl ?_; (with_reducible refine (impl_Matrix_apply.calls kj3 _ _ l0_0 _ _ l2 t443 _ ?side1 ?side2 ?side3 ?side4 A29.out).mono ?_); (case side1 => exact cC (Kd.C_below HR0_0.out HB.out)); (case side2 => exact HC0_0.out); (case side3 => exact cC (Kd.C_below HR2.out HB.out)); (case side4 => exact HC2.out); rintro e w32 ⟨v444, rfl, ho0, hb⟩; refine ⟨_, rfl, ?_⟩; have n0_ := Aside0.mk (Kd.R_lower ho0 (below_size (kB HB))); have n1_ := Aside0.mk (kK BK437 hb); have n2_ := Aside0.mk (below_step (kB HB) hb); clear BK437; clear HB; have HO445 := n0_; have BK437 := n1_; have HB := n2_; clear n0_ n1_ n2_; (try clear hb); (try clear hb2); (try clear hk); (try clear hi); (try clear ho0); obtain ⟨Ao33, co33, eo33⟩ := Kd.R_slice HO445.out; subst eo33) | ((with_reducible refine gate_callee (f := 77) rfl ?_); refine gL (some 29) rfl rfl Try.func77 (by kernel_rfl) rfl #[.slice A1 l1.length c1, .slice Ao33 t443.length co33] rfl ?_; (with_reducible refine (impl_dot.calls kj3 _ _ l1 _ _ t443 t446 _ ?side1 ?side2 ?side3 ?side4 A30.out).mono ?_); (case side1 => exact cC (Kd.C_below HR1.out HB.out)); (case side2 => exact HC1.out); (case side3 => exact cC (Kd.R_reads' HO445.out).2.2); (case side4 => exact (Kd.R_reads' HO445.out).2.1); rintro e w' ⟨rfl, ⟨nd, rfl⟩⟩; refine ⟨_, rfl, ?_⟩))
    go_ret2
    exact ⟨e1, kB HB⟩

/-! ### impl_FormAt: function 21 -/
def impl_FormAt.f (k : Nat) (l0_0 : List (List Int)) (l1 : List Int) : Option (Int × Bool) := (impl_ProductAt.f k l0_0 l1 l1).bind fun bt448 => (some (bt448.1, bt448.2))
theorem impl_FormAt.mono : ∀ a0 a1 k, LeO (impl_FormAt.f k a0 a1) (impl_FormAt.f (k + 1) a0 a1) := by
 intro a0 a1 k
 unfold impl_FormAt.f
 repeat' first
  | (with_reducible exact impl_ProductAt.mono _ _ _ _)
  | (with_reducible exact LeO.refl _)
  | (with_reducible exact LeO.none _)
  | (with_reducible refine LeO.ite ?_ ?_)
  | (with_reducible refine LeO.bind ?_ (fun _ => ?_))
  | exact impl_ProductAt.mono _ _ _ _
  | exact LeO.none _
  | refine LeO.ite ?_ ?_
  | refine LeO.bind ?_ (fun _ => ?_)
set_option maxHeartbeats 8000000 in
set_option maxRecDepth 100000 in
theorem impl_FormAt.calls (k : Nat) (A0_0 : Option Addr) (c0_0 : Nat) (l0_0 : List (List Int)) (A1 : Option Addr) (c1 : Nat) (l1 : List Int) (r1 : Int) (r2 : Bool) (w : World) (hr0_0 : Kd.C (Kd.slice 3 (Kd.int .i64)) w A0_0 l0_0.length l0_0) (hc0_0 : l0_0.length ≤ c0_0) (hr1 : Kd.C (Kd.int .i64) w A1 l1.length l1) (hc1 : l1.length ≤ c1) (h : impl_FormAt.f k l0_0 l1 = some (r1, r2)) :
 Calls Try.prog 21 #[.agg #[.slice A0_0 l0_0.length c0_0], .slice A1 l1.length c1] w fun e w' => e = .returned (.tuple #[.int .i64 r1, .bool r2]) ∧ Below w.heap.size w w' := by
 have hu26 := Try.underlying26
 have HR0_0 := Aside0.mk hr0_0
 have HC0_0 := Aside0.mk hc0_0
 clear hr0_0 hc0_0
 have HR1 := Aside0.mk hr1
 have HC1 := Aside0.mk hc1
 clear hr1 hc1
 have HB := Aside0.mk (Below.refl w.heap.size w)
 have H : ((impl_ProductAt.f k l0_0 l1 l1).bind fun bt448 => (some (bt448.1, bt448.2))) = some (r1, r2) := h
 clear h
 replace H := Option.bind_eq_some_iff.mp H
 obtain ⟨⟨t448, t449⟩, A30, H⟩ := H
 replace H : (some (t448, t449)) = some (r1, r2) := H
 have A3 := Aside0.mk A30
 clear A30
 simp only [Option.some.injEq, Prod.mk.injEq] at H
 obtain ⟨rfl, rfl⟩ := H
 go_enter Try.func21, Try.ntmps21
 go_wp2_with (first | ((with_reducible refine gate_dst (N := 2) rfl ?_); refine box_event ?hg (N := 2) ?hd (cs := #[.slice A0_0 l0_0.length c0_0]) (t := 26) ?hr ?_; (case hd => rfl); (case hg => rfl); (case hr => first | (go_simp; done) | (go_simp; rfl)); intro gb447 hg w4 hbox hb; have n0_ := Aside0.mk (below_step bq hb); have n1_ := Aside0.mk (hbox); have n2_ := Aside0.mk ((by rw [hg]; exact (below_size bq) : w.heap.size ≤ gb447)); have n3_ := Aside0.mk ((by rw [hg]; exact (below_size bq) : w.heap.size ≤ gb447)); clear HB; have HB := n0_; have BK447 := n1_; have GW447 := n2_; have GE447 := n3_; clear n0_ n1_ n2_ n3_; clear hb hbox hg; have hcz5_0 : w4.cell? ⟨gb447, 0, none⟩ = some (.slice A0_0 l0_0.length c0_0) := (blk_cell BK447.out 0).trans rfl; have hfz5_0 := blk_frozen BK447.out 0) | ((with_reducible refine gate_callee (f := 78) rfl ?_); refine gL (some 9) rfl rfl Try.func78 (by kernel_rfl) rfl #[.agg #[.slice A0_0 l0_0.length c0_0], .slice A1 l1.length c1, .slice A1 l1.length c1] rfl ?_; (with_reducible refine (impl_ProductAt.calls k _ _ l0_0 _ _ l1 _ _ l1 t448 t449 _ ?side1 ?side2 ?side3 ?side4 ?side5 ?side6 A3.out).mono ?_); (case side1 => exact cC (Kd.C_below HR0_0.out HB.out)); (case side2 => exact HC0_0.out); (case side3 => exact cC (Kd.C_below HR1.out HB.out)); (case side4 => exact HC1.out); (case side5 => exact cC (Kd.C_below HR1.out HB.out)); (case side6 => exact HC1.out); rintro e w6 ⟨rfl, hb⟩; refine ⟨_, rfl, ?_⟩; have n0_ := Aside0.mk (kK BK447 hb); have n1_ := Aside0.mk (below_step (kB HB) hb); clear BK447; clear HB; have BK447 := n0_; have HB := n1_; clear n0_ n1_; (try clear hb); (try clear hb2); (try clear hk); (try clear hi)))
 go_ret2
 exact ⟨e1, kB HB⟩

/-! ### impl_divisor: function 80 -/
def impl_divisor.l0 : Nat → Int → Int → Option (Int)
 | 0, _, _ => none
 | k + 1, x0, x1 => if x1 = 0 then (some (mx x0 (wrap64 (-x0)))) else (impl_divisor.l0 k x1 (Int.tmod x0 x1))
def impl_divisor.f (k : Nat) (a0 : Int) (a1 : Int) : Option (Int) := impl_divisor.l0 k a0 a1
theorem impl_divisor.mono_l : ∀ k, (∀ y0 y1, LeO (impl_divisor.l0 k y0 y1) (impl_divisor.l0 (k + 1) y0 y1))
 | 0 => fun _ _ r h => by simp [impl_divisor.l0] at h
 | k + 1 => by
  have ih0 := impl_divisor.mono_l k
  ·
   intro y0 y1
   unfold impl_divisor.l0
   repeat' first
   | (with_reducible exact ih0 _ _)
   | (with_reducible exact LeO.refl _)
   | (with_reducible exact LeO.none _)
   | (with_reducible refine LeO.ite ?_ ?_)
   | (with_reducible refine LeO.bind ?_ (fun _ => ?_))
   | exact ih0 _ _
   | exact LeO.none _
   | refine LeO.ite ?_ ?_
   | refine LeO.bind ?_ (fun _ => ?_)
theorem impl_divisor.mono : ∀ a0 a1 k, LeO (impl_divisor.f k a0 a1) (impl_divisor.f (k + 1) a0 a1) := by
 intro a0 a1 k
 have ih0 := impl_divisor.mono_l k
 unfold impl_divisor.f
 repeat' first
  | (with_reducible exact ih0 _ _)
  | (with_reducible exact LeO.refl _)
  | (with_reducible exact LeO.none _)
  | (with_reducible refine LeO.ite ?_ ?_)
  | (with_reducible refine LeO.bind ?_ (fun _ => ?_))
  | exact ih0 _ _
  | exact LeO.none _
  | refine LeO.ite ?_ ?_
  | refine LeO.bind ?_ (fun _ => ?_)
set_option maxHeartbeats 8000000 in
set_option maxRecDepth 100000 in
theorem impl_divisor.calls (k : Nat) (a0 : Int) (a1 : Int) (r : Int) (w : World) (h : impl_divisor.f k a0 a1 = some r) :
 Calls Try.prog 80 #[.int .i64 a0, .int .i64 a1] w fun e w' => e = .returned (.int .i64 r) ∧ Below w.heap.size w w' := by
 have HB := Aside0.mk (Below.refl w.heap.size w)
 have H : (impl_divisor.l0 k a0 a1) = some r := h
 clear h
 have H' := Aside0.mk H
 clear H
 go_enter Try.func80, Try.ntmps80
 go_wp2
 repeat (go_quiet (fail); try go_wp2)
 go_loopg [0, 1] k (fun kq v0 v1 w' => ∃ (x0_1 : Int) (x1_1 : Int), v0 = .int .i64 x0_1 ∧ v1 = .int .i64 x1_1 ∧ Aside0 (impl_divisor.l0 kq x0_1 x1_1 = some r) ∧ Aside0 (kq ≤ k) ∧ Aside0 (Below w.heap.size w w'))
 case atStart => exact ⟨(a0), (a1), e2, e2, H', ⟨Nat.le_refl _⟩, ⟨bq⟩⟩
 case round =>
  clear H'; (try clear p2)
  obtain ⟨x0_1, x1_1, rfl, rfl, HA, HK1, HB⟩ := hrel
  cases gk with
  | zero => exact absurd HA.out (by simp [impl_divisor.l0])
  | succ k1 =>
   have H := HA.out
   clear HA
   simp only [impl_divisor.l0] at H
   by_cases c3 : x1_1 = 0
   ·
    rw [if_pos c3] at H
    have c3b0 : (x1_1 == 0) = true := beq_iff_eq.mpr c3
    have c3b1 : (x1_1 != 0) = false := bne_eq_false_iff_eq.mpr c3
    clear c3
    obtain ⟨ji4, hji4⟩ : ∃ j_ : Int, (mx x0_1 (wrap64 (-x0_1))) = j_ := ⟨_, rfl⟩
    replace H : (some ji4) = some r := by first | (rw [hji4] at H; exact H) | (simp only [hji4] at H ⊢; exact H)
    have hji4_ : (if x0_1 < (wrap64 (-x0_1)) then (wrap64 (-x0_1)) else x0_1) = ji4 := hji4
    obtain rfl := Option.some.inj H
    go_wp2
    repeat (go_quiet (fail); try go_wp2)
    go_ret
    exact ⟨by first | rfl | (simp [errW_none, errW_some] <;> rfl) | (simp only [← hji4]; first | rfl | (simp [errW_none, errW_some] <;> rfl)) | (simp [*, errW_none, errW_some] <;> rfl), bq⟩
   ·
    rw [if_neg c3] at H
    have c3b0 : (x1_1 == 0) = false := beq_eq_false_iff_ne.mpr c3
    have c3b1 : (x1_1 != 0) = true := bne_iff_ne.mpr c3
    have H' := Aside0.mk H
    clear H
    go_wp2
    repeat (go_quiet (fail); try go_wp2)
    go_roundg k1
    case measure => have := HK1.out; omega
    case rel => exact ⟨(x1_1), (Int.tmod x0_1 x1_1), e2, e2, H', ⟨by have := HK1.out; omega⟩, ⟨bq⟩⟩

/-! ### impl_scale: function 79 -/
def impl_scale.l0 : Nat → Int → List Int → Int → Int → Option (Int)
 | 0, _, _, _, _ => none
 | k + 1, x3, x6, x7, x8 => if x8 < x7 then (if 0 ≤ x8 then (if x8 < (x6.length : Int) then ((impl_divisor.f k x3 (rd x6 x8)).bind fun t451 => (impl_scale.l0 k t451 x6 x7 (wrap64 (x8 + 1)))) else (none)) else (none)) else (some x3)
def impl_scale.f (k : Nat) (l0 : List Int) : Option (Int) := impl_scale.l0 k 0 l0 (l0.length : Int) 0
theorem impl_scale.mono_l : ∀ k, (∀ y0 y1 y2 y3, LeO (impl_scale.l0 k y0 y1 y2 y3) (impl_scale.l0 (k + 1) y0 y1 y2 y3))
 | 0 => fun _ _ _ _ r h => by simp [impl_scale.l0] at h
 | k + 1 => by
  have ih0 := impl_scale.mono_l k
  ·
   intro y0 y1 y2 y3
   unfold impl_scale.l0
   repeat' first
   | (with_reducible exact ih0 _ _ _ _)
   | (with_reducible exact impl_divisor.mono _ _ _)
   | (with_reducible exact LeO.refl _)
   | (with_reducible exact LeO.none _)
   | (with_reducible refine LeO.ite ?_ ?_)
   | (with_reducible refine LeO.bind ?_ (fun _ => ?_))
   | exact ih0 _ _ _ _
   | exact impl_divisor.mono _ _ _
   | exact LeO.none _
   | refine LeO.ite ?_ ?_
   | refine LeO.bind ?_ (fun _ => ?_)
theorem impl_scale.mono : ∀ a0 k, LeO (impl_scale.f k a0) (impl_scale.f (k + 1) a0) := by
 intro a0 k
 have ih0 := impl_scale.mono_l k
 unfold impl_scale.f
 repeat' first
  | (with_reducible exact ih0 _ _ _ _)
  | (with_reducible exact impl_divisor.mono _ _ _)
  | (with_reducible exact LeO.refl _)
  | (with_reducible exact LeO.none _)
  | (with_reducible refine LeO.ite ?_ ?_)
  | (with_reducible refine LeO.bind ?_ (fun _ => ?_))
  | exact ih0 _ _ _ _
  | exact impl_divisor.mono _ _ _
  | exact LeO.none _
  | refine LeO.ite ?_ ?_
  | refine LeO.bind ?_ (fun _ => ?_)
set_option maxHeartbeats 8000000 in
set_option maxRecDepth 100000 in
theorem impl_scale.calls (k : Nat) (A0 : Option Addr) (c0 : Nat) (l0 : List Int) (r : Int) (w : World) (hr0 : Kd.C (Kd.int .i64) w A0 l0.length l0) (hc0 : l0.length ≤ c0) (h : impl_scale.f k l0 = some r) :
 Calls Try.prog 79 #[.slice A0 l0.length c0] w fun e w' => e = .returned (.int .i64 r) ∧ Below w.heap.size w w' := by
 have HR0 := Aside0.mk hr0
 have HC0 := Aside0.mk hc0
 clear hr0 hc0
 have HB := Aside0.mk (Below.refl w.heap.size w)
 have H : (impl_scale.l0 k 0 l0 (l0.length : Int) 0) = some r := h
 clear h
 have H' := Aside0.mk H
 clear H
 go_enter Try.func79, Try.ntmps79
 go_wp2
 go_loopg [3, 8] k (fun kq v3 v8 w' => ∃ (x3_1 : Int) (x8_1 : Int), v3 = .int .i64 x3_1 ∧ v8 = .int .i64 x8_1 ∧ Aside0 (impl_scale.l0 kq x3_1 l0 (l0.length : Int) x8_1 = some r) ∧ Aside0 (kq ≤ k) ∧ Aside0 (Below w.heap.size w w'))
 case atStart => exact ⟨(0), (0), e2, e2, H', ⟨Nat.le_refl _⟩, ⟨bq⟩⟩
 case round =>
  clear H'
  obtain ⟨x3_1, x8_1, rfl, rfl, HA, HK1, HB⟩ := hrel
  cases gk with
  | zero => exact absurd HA.out (by simp [impl_scale.l0])
  | succ k1 =>
   have H := HA.out
   clear HA
   simp only [impl_scale.l0] at H
   by_cases c2 : x8_1 < (l0.length : Int)
   ·
    rw [if_pos c2] at H
    have c2b0 : decide (x8_1 < (l0.length : Int)) = true := decide_eq_true c2
    clear c2
    by_cases c3 : 0 ≤ x8_1
    ·
     rw [if_pos c3] at H
     have c3b0 : decide (0 ≤ x8_1) = true := decide_eq_true c3
     clear c3
     by_cases c4 : x8_1 < (l0.length : Int)
     ·
      rw [if_pos c4] at H
      have c4b0 : decide (x8_1 < (l0.length : Int)) = true := decide_eq_true c4
      clear c4
      replace H := Option.bind_eq_some_iff.mp H
      obtain ⟨t451, A50, H⟩ := H
      replace H : (impl_scale.l0 k1 t451 l0 (l0.length : Int) (wrap64 (x8_1 + 1))) = some r := H
      have A5 := Aside0.mk A50
      clear A50
      have H' := Aside0.mk H
      clear H
      have p450 : 0 ≤ (x8_1 : Int) := od
      have q450 : x8_1 < (l0.length : Int) := od
      obtain ⟨ad450, e450, hx450_0⟩ := Kd.at_int HR0.out x8_1 p450 q450
      cases e450
      replace hx450_0 := (HB.out.cell (World.block_lt_of_cell? w _ hx450_0)).trans hx450_0
      replace p450 := eq_true p450
      replace q450 := eq_true q450
      go_wp2_with (first | ((with_reducible refine gate_callee (f := 80) rfl ?_); refine gL (some 14) rfl rfl Try.func80 (by kernel_rfl) rfl #[.int .i64 x3_1, .int .i64 (rd l0 x8_1)] rfl ?_; (with_reducible refine (impl_divisor.calls k1 x3_1 (rd l0 x8_1) t451 _ A5.out).mono ?_); rintro e w6 ⟨rfl, hb⟩; refine ⟨_, rfl, ?_⟩; have n0_ := Aside0.mk (below_step bq hb); clear HB; have HB := n0_; clear n0_; (try clear hb); (try clear hb2); (try clear hk); (try clear hi)))
      go_roundg k1
      case measure => have := HK1.out; omega
      case rel => exact ⟨(t451), (wrap64 (x8_1 + 1)), e2, e2, H', ⟨by have := HK1.out; omega⟩, ⟨bq⟩⟩
     ·
      rw [if_neg c4] at H
      exact absurd H (by simp)
    ·
     rw [if_neg c3] at H
     exact absurd H (by simp)
   ·
    rw [if_neg c2] at H
    have c2b0 : decide (x8_1 < (l0.length : Int)) = false := decide_eq_false c2
    clear c2
    obtain rfl := Option.some.inj H
    go_wp2
    go_ret
    exact ⟨e1, bq⟩

/-! ### impl_ScaleOf: function 22 -/
def impl_ScaleOf.f (k : Nat) (l0 : List Int) : Option (Int × Bool) := (impl_IsQuad.f k l0).bind fun t452 => (if t452 = true then ((impl_scale.f k l0).bind fun t453 => (some (t453, true))) else (some (0, false)))
theorem impl_ScaleOf.mono : ∀ a0 k, LeO (impl_ScaleOf.f k a0) (impl_ScaleOf.f (k + 1) a0) := by
 intro a0 k
 unfold impl_ScaleOf.f
 repeat' first
  | (with_reducible exact impl_IsQuad.mono _ _)
  | (with_reducible exact impl_scale.mono _ _)
  | (with_reducible exact LeO.refl _)
  | (with_reducible exact LeO.none _)
  | (with_reducible refine LeO.ite ?_ ?_)
  | (with_reducible refine LeO.bind ?_ (fun _ => ?_))
  | exact impl_IsQuad.mono _ _
  | exact impl_scale.mono _ _
  | exact LeO.none _
  | refine LeO.ite ?_ ?_
  | refine LeO.bind ?_ (fun _ => ?_)
set_option maxHeartbeats 8000000 in
set_option maxRecDepth 100000 in
theorem impl_ScaleOf.calls (k : Nat) (A0 : Option Addr) (c0 : Nat) (l0 : List Int) (r1 : Int) (r2 : Bool) (w : World) (hr0 : Kd.C (Kd.int .i64) w A0 l0.length l0) (hc0 : l0.length ≤ c0) (h : impl_ScaleOf.f k l0 = some (r1, r2)) :
 Calls Try.prog 22 #[.slice A0 l0.length c0] w fun e w' => e = .returned (.tuple #[.int .i64 r1, .bool r2]) ∧ Below w.heap.size w w' := by
 have HR0 := Aside0.mk hr0
 have HC0 := Aside0.mk hc0
 clear hr0 hc0
 have HB := Aside0.mk (Below.refl w.heap.size w)
 have H : ((impl_IsQuad.f k l0).bind fun t452 => (if t452 = true then ((impl_scale.f k l0).bind fun t453 => (some (t453, true))) else (some (0, false)))) = some (r1, r2) := h
 clear h
 replace H := Option.bind_eq_some_iff.mp H
 obtain ⟨t452, A20, H⟩ := H
 replace H : (if t452 = true then ((impl_scale.f k l0).bind fun t453 => (some (t453, true))) else (some (0, false))) = some (r1, r2) := H
 have A2 := Aside0.mk A20
 clear A20
 by_cases c3 : t452 = true
 ·
  subst c3
  have H1 : ((impl_scale.f k l0).bind fun t453 => (some (t453, true))) = some (r1, r2) := by rw [if_pos rfl] at H; exact H
  clear H
  have H := H1
  clear H1
  replace H := Option.bind_eq_some_iff.mp H
  obtain ⟨t453, A40, H⟩ := H
  replace H : (some (t453, true)) = some (r1, r2) := H
  have A4 := Aside0.mk A40
  clear A40
  simp only [Option.some.injEq, Prod.mk.injEq] at H
  obtain ⟨rfl, rfl⟩ := H
  go_enter Try.func22, Try.ntmps22
  go_wp2_with (first | ((with_reducible refine gate_callee (f := 20) rfl ?_); refine gL (some 5) rfl rfl Try.func20 (by kernel_rfl) rfl #[.slice A0 l0.length c0] rfl ?_; (with_reducible refine (impl_IsQuad.calls k _ _ l0 true _ ?side1 ?side2 A2.out).mono ?_); (case side1 => exact cC HR0.out); (case side2 => exact HC0.out); rintro e w5 ⟨rfl, hb⟩; refine ⟨_, rfl, ?_⟩; have n0_ := Aside0.mk (below_step bq hb); clear HB; have HB := n0_; clear n0_; (try clear hb); (try clear hb2); (try clear hk); (try clear hi)) | ((with_reducible refine gate_callee (f := 79) rfl ?_); refine gL (some 8) rfl rfl Try.func79 (by kernel_rfl) rfl #[.slice A0 l0.length c0] rfl ?_; (with_reducible refine (impl_scale.calls k _ _ l0 t453 _ ?side1 ?side2 A4.out).mono ?_); (case side1 => exact cC (Kd.C_below HR0.out HB.out)); (case side2 => exact HC0.out); rintro e w6 ⟨rfl, hb⟩; refine ⟨_, rfl, ?_⟩; have n0_ := Aside0.mk (below_step bq hb); clear HB; have HB := n0_; clear n0_; (try clear hb); (try clear hb2); (try clear hk); (try clear hi)))
  go_ret2
  exact ⟨e1, bq⟩
 ·
  replace c3 := Bool.eq_false_iff.mpr c3
  subst c3
  have H1 : (some (0, false)) = some (r1, r2) := by rw [if_neg (show ¬ (false = true) by decide)] at H; exact H
  clear H
  have H := H1
  clear H1
  simp only [Option.some.injEq, Prod.mk.injEq] at H
  obtain ⟨rfl, rfl⟩ := H
  go_enter Try.func22, Try.ntmps22
  go_wp2_with (first | ((with_reducible refine gate_callee (f := 20) rfl ?_); refine gL (some 5) rfl rfl Try.func20 (by kernel_rfl) rfl #[.slice A0 l0.length c0] rfl ?_; (with_reducible refine (impl_IsQuad.calls k _ _ l0 false _ ?side1 ?side2 A2.out).mono ?_); (case side1 => exact cC HR0.out); (case side2 => exact HC0.out); rintro e w7 ⟨rfl, hb⟩; refine ⟨_, rfl, ?_⟩; have n0_ := Aside0.mk (below_step bq hb); clear HB; have HB := n0_; clear n0_; (try clear hb); (try clear hb2); (try clear hk); (try clear hi)))
  go_ret2
  exact ⟨e1, bq⟩

end Go.Proofs.Ytnaginnhccldhaa.P
