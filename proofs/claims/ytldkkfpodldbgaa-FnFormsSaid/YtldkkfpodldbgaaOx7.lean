-- Written by a program of this session (wip/mkprint.py over the kit's print), out of the translation. Not trusted: Lean checks it.
import Derived.Test.YtldkkfpodldbgaaOx0
import Derived.Test.YtldkkfpodldbgaaOx1
import Derived.Test.YtldkkfpodldbgaaOx6
namespace Go.Proofs.Ytldkkfpodldbgaa.P
open Go.RowKit Go.Proofs.YtldkkfpodldbgaaW.PrintWords Go.Proofs.YtldkkfpodldbgaaW.PrintLast Go.Proofs.YtldkkfpodldbgaaW.PrintMore
attribute [local go_sem] max2_int min2_int max_two min_two max_three min_three max_four min_four   -- for this text's walks alone
set_option linter.unusedVariables false
set_option linter.unusedSimpArgs false

/-! ### spec_foTranspose: function 106 -/
mutual
def spec_foTranspose.l0 : Nat → List (List Int) → Int → Int → List (List Int) → Option ((List (List Int)))
 | 0, _, _, _, _ => none
 | k + 1, x13, x14, x15, x351000 => if x15 < x14 then (if 0 ≤ x15 then (if x15 < (x13.length : Int) then (spec_foTranspose.l1 k x15 x13 x14 x15 (rd_L2 x13 x15) ((rd_L2 x13 x15).length : Int) 0 x351000) else (none)) else (none)) else (some x351000)
def spec_foTranspose.l1 : Nat → Int → List (List Int) → Int → Int → List Int → Int → Int → List (List Int) → Option ((List (List Int)))
 | 0, _, _, _, _, _, _, _, _ => none
 | k + 1, x4, x13, x14, x15, x20, x21, x22, x351000 => if x22 < x21 then (if 0 ≤ x22 then (if x22 < (x20.length : Int) then (if x22 < (x351000.length : Int) then (if 0 ≤ x4 then (if x4 < ((rd_L2 x351000 x22).length : Int) then (spec_foTranspose.l1 k x4 x13 x14 x15 x20 x21 (wrap64 (x22 + 1)) (x351000.set (x22 : Int).toNat ((rd_L2 x351000 x22).set (x4 : Int).toNat (rd x20 x22)))) else (none)) else (none)) else (none)) else (none)) else (none)) else (spec_foTranspose.l0 k x13 x14 (wrap64 (x15 + 1)) x351000)
end
def spec_foTranspose.f (k : Nat) (l0_0 : List (List Int)) : Option ((List (List Int))) := (spec_foZero.f k (l0_0.length : Int)).bind fun t347 => (spec_foTranspose.l0 k l0_0 (l0_0.length : Int) 0 t347)
theorem spec_foTranspose.mono_l : ∀ k, (∀ y0 y1 y2 y3, LeO (spec_foTranspose.l0 k y0 y1 y2 y3) (spec_foTranspose.l0 (k + 1) y0 y1 y2 y3)) ∧ (∀ y0 y1 y2 y3 y4 y5 y6 y7, LeO (spec_foTranspose.l1 k y0 y1 y2 y3 y4 y5 y6 y7) (spec_foTranspose.l1 (k + 1) y0 y1 y2 y3 y4 y5 y6 y7))
 | 0 => ⟨fun _ _ _ _ r h => by simp [spec_foTranspose.l0] at h, fun _ _ _ _ _ _ _ _ r h => by simp [spec_foTranspose.l1] at h⟩
 | k + 1 => by
  obtain ⟨ih0, ih1⟩ := spec_foTranspose.mono_l k
  refine ⟨?_, ?_⟩
  ·
   intro y0 y1 y2 y3
   unfold spec_foTranspose.l0
   repeat' first
   | (with_reducible exact ih0 _ _ _ _)
   | (with_reducible exact ih1 _ _ _ _ _ _ _ _)
   | (with_reducible exact spec_foZero.mono _ _)
   | (with_reducible exact LeO.refl _)
   | (with_reducible exact LeO.none _)
   | (with_reducible refine LeO.ite ?_ ?_)
   | (with_reducible refine LeO.bind ?_ (fun _ => ?_))
   | exact ih0 _ _ _ _
   | exact ih1 _ _ _ _ _ _ _ _
   | exact spec_foZero.mono _ _
   | exact LeO.none _
   | refine LeO.ite ?_ ?_
   | refine LeO.bind ?_ (fun _ => ?_)
  ·
   intro y0 y1 y2 y3 y4 y5 y6 y7
   unfold spec_foTranspose.l1
   repeat' first
   | (with_reducible exact ih0 _ _ _ _)
   | (with_reducible exact ih1 _ _ _ _ _ _ _ _)
   | (with_reducible exact spec_foZero.mono _ _)
   | (with_reducible exact LeO.refl _)
   | (with_reducible exact LeO.none _)
   | (with_reducible refine LeO.ite ?_ ?_)
   | (with_reducible refine LeO.bind ?_ (fun _ => ?_))
   | exact ih0 _ _ _ _
   | exact ih1 _ _ _ _ _ _ _ _
   | exact spec_foZero.mono _ _
   | exact LeO.none _
   | refine LeO.ite ?_ ?_
   | refine LeO.bind ?_ (fun _ => ?_)
theorem spec_foTranspose.mono : ∀ a0 k, LeO (spec_foTranspose.f k a0) (spec_foTranspose.f (k + 1) a0) := by
 intro a0 k
 obtain ⟨ih0, ih1⟩ := spec_foTranspose.mono_l k
 unfold spec_foTranspose.f
 repeat' first
  | (with_reducible exact ih0 _ _ _ _)
  | (with_reducible exact ih1 _ _ _ _ _ _ _ _)
  | (with_reducible exact spec_foZero.mono _ _)
  | (with_reducible exact LeO.refl _)
  | (with_reducible exact LeO.none _)
  | (with_reducible refine LeO.ite ?_ ?_)
  | (with_reducible refine LeO.bind ?_ (fun _ => ?_))
  | exact ih0 _ _ _ _
  | exact ih1 _ _ _ _ _ _ _ _
  | exact spec_foZero.mono _ _
  | exact LeO.none _
  | refine LeO.ite ?_ ?_
  | refine LeO.bind ?_ (fun _ => ?_)
set_option maxHeartbeats 8000000 in
set_option maxRecDepth 100000 in
theorem spec_foTranspose.calls (k : Nat) (A0_0 : Option Addr) (c0_0 : Nat) (l0_0 : List (List Int)) (r : List (List Int)) (w : World) (hr0_0 : Kd.C (Kd.slice 3 (Kd.int .i64)) w A0_0 l0_0.length l0_0) (hc0_0 : l0_0.length ≤ c0_0) (h : spec_foTranspose.f k l0_0 = some r) :
 Calls Try.prog 106 #[.agg #[.slice A0_0 l0_0.length c0_0]] w fun e w' => ∃ v0_ : Value, e = .returned (.agg #[v0_]) ∧ Kd.S (Kd.slice 3 (Kd.int .i64)) 34 w' w.heap.size (fun _ => True) v0_ r ∧ Below w.heap.size w w' := by
 have hu26 := Try.underlying26
 have HR0_0 := Aside0.mk hr0_0
 have HC0_0 := Aside0.mk hc0_0
 clear hr0_0 hc0_0
 have HB := Aside0.mk (Below.refl w.heap.size w)
 have H : ((spec_foZero.f k (l0_0.length : Int)).bind fun t347 => (spec_foTranspose.l0 k l0_0 (l0_0.length : Int) 0 t347)) = some r := h
 clear h
 replace H := Option.bind_eq_some_iff.mp H
 obtain ⟨t347, A20, H⟩ := H
 replace H : (spec_foTranspose.l0 k l0_0 (l0_0.length : Int) 0 t347) = some r := H
 have A2 := Aside0.mk A20
 clear A20
 have H' := Aside0.mk H
 clear H
 go_enter Try.func106, Try.ntmps106
 go_wp2_with (first | ((with_reducible refine gate_dst (N := 1) rfl ?_); refine box_event ?hg (N := 1) ?hd (cs := #[.slice A0_0 l0_0.length c0_0]) (t := 26) ?hr ?_; (case hd => rfl); (case hg => rfl); (case hr => exact z116_); intro gb345 hg w3 hbox hb; have n0_ := Aside0.mk (below_step bq hb); have n1_ := Aside0.mk (hbox); have n2_ := Aside0.mk ((by rw [hg]; exact (below_size bq) : w.heap.size ≤ gb345)); have n3_ := Aside0.mk ((by rw [hg]; exact (below_size bq) : w.heap.size ≤ gb345)); clear HB; have HB := n0_; have BK345 := n1_; have GW345 := n2_; have GE345 := n3_; clear n0_ n1_ n2_ n3_; clear hb hbox hg) | ((with_reducible refine gate_dst (N := 2) rfl ?_); refine box_event ?hg (N := 2) ?hd (cs := #[.slice none 0 0]) (t := 26) ?hr ?_; (case hd => rfl); (case hg => rfl); (case hr => exact z116_); intro gb346 hg w4 hbox hb; have n0_ := Aside0.mk (kK BK345 hb); have n1_ := Aside0.mk (below_step (kB HB) hb); have n2_ := Aside0.mk (hbox); have n3_ := Aside0.mk ((by rw [hg]; exact (below_size (kB HB)) : w.heap.size ≤ gb346)); have n4_ := Aside0.mk ((by rw [hg]; exact (below_size (kB HB)) : w.heap.size ≤ gb346)); have n5_ := Aside0.mk ((by rw [hg]; exact Nat.ne_of_lt (blk_lt (g := gb345) (o := .cells #[.slice A0_0 l0_0.length c0_0] 26 (0, 0)) (bA BK345)) : gb345 ≠ gb346)); have n6_ := Aside0.mk ((by rw [hg]; exact Nat.ne_of_gt (blk_lt (g := gb345) (o := .cells #[.slice A0_0 l0_0.length c0_0] 26 (0, 0)) (bA BK345)) : gb346 ≠ gb345)); clear BK345; clear HB; have BK345 := n0_; have HB := n1_; have BK346 := n2_; have GW346 := n3_; have GE346 := n4_; have NB345_346 := n5_; have NB346_345 := n6_; clear n0_ n1_ n2_ n3_ n4_ n5_ n6_; clear hb hbox hg; have hnb5 := NB345_346.out; have hnc5 := NB346_345.out; have hcz6_0 : w4.cell? ⟨gb345, 0, none⟩ = some (.slice A0_0 l0_0.length c0_0) := (blk_cell BK345.out 0).trans rfl; have hfz6_0 := blk_frozen BK345.out 0) | ((with_reducible refine gate_callee (f := 59) rfl ?_); refine gL (some 11) rfl rfl Try.func59 (by kernel_rfl) rfl #[.int .i64 (l0_0.length : Int)] rfl ?_; (with_reducible refine (spec_foZero.calls k (l0_0.length : Int) t347 _ A2.out).mono ?_); rintro e w7 ⟨v348, rfl, ho0, hb⟩; refine ⟨_, rfl, ?_⟩; have n0_ := Aside0.mk (Kd.S_lower ho0 (below_size (kB HB))); have n1_ := Aside0.mk (kK BK345 hb); have n2_ := Aside0.mk (kK BK346 hb); have n3_ := Aside0.mk (below_step (kB HB) hb); clear BK345; clear BK346; clear HB; have HO349 := n0_; have BK345 := n1_; have BK346 := n2_; have HB := n3_; clear n0_ n1_ n2_ n3_; (try clear hb); (try clear hb2); (try clear hk); (try clear hi); (try clear ho0)) | ((with_reducible refine gate_dst (N := 3) rfl ?_); refine box_event ?hg (N := 3) ?hd (cs := #[.slice none 0 0]) (t := 26) ?hr ?_; (case hd => rfl); (case hg => rfl); (case hr => exact z116_); intro gb350 hg w8 hbox hb; have n0_ := Aside0.mk (Kd.S_below (by (with_reducible repeat (first | apply Kd.S_alloc | apply Kd.S_drewN | apply Kd.S_drew)); exact HO349.out) hb); have n1_ := Aside0.mk (kK BK345 hb); have n2_ := Aside0.mk (kK BK346 hb); have n3_ := Aside0.mk (below_step (kB HB) hb); have n4_ := Aside0.mk (hbox); have n5_ := Aside0.mk ((by rw [hg]; exact (below_size (kB HB)) : w.heap.size ≤ gb350)); have n6_ := Aside0.mk ((by rw [hg]; exact (below_size (kB HB)) : w.heap.size ≤ gb350)); have n7_ := Aside0.mk ((by rw [hg]; exact Nat.ne_of_lt (blk_lt (g := gb345) (o := .cells #[.slice A0_0 l0_0.length c0_0] 26 (0, 0)) (bA BK345)) : gb345 ≠ gb350)); have n8_ := Aside0.mk ((by rw [hg]; exact Nat.ne_of_gt (blk_lt (g := gb345) (o := .cells #[.slice A0_0 l0_0.length c0_0] 26 (0, 0)) (bA BK345)) : gb350 ≠ gb345)); have n9_ := Aside0.mk ((by rw [hg]; exact Nat.ne_of_lt (blk_lt (g := gb346) (o := .cells #[.slice none 0 0] 26 (0, 0)) (bA BK346)) : gb346 ≠ gb350)); have n10_ := Aside0.mk ((by rw [hg]; exact Nat.ne_of_gt (blk_lt (g := gb346) (o := .cells #[.slice none 0 0] 26 (0, 0)) (bA BK346)) : gb350 ≠ gb346)); clear HO349; clear BK345; clear BK346; clear HB; have HO349 := n0_; have BK345 := n1_; have BK346 := n2_; have HB := n3_; have BK350 := n4_; have GW350 := n5_; have GE350 := n6_; have NB345_350 := n7_; have NB350_345 := n8_; have NB346_350 := n9_; have NB350_346 := n10_; clear n0_ n1_ n2_ n3_ n4_ n5_ n6_ n7_ n8_ n9_ n10_; clear hb hbox hg; obtain ⟨Ao9, co9, eo9⟩ := Kd.S_slice HO349.out; subst eo9; have hnb10 := NB350_345.out; have hnc10 := NB345_350.out; have hnb11 := NB350_346.out; have hnc11 := NB346_350.out; have hcz12_0 : w8.cell? ⟨gb350, 0, none⟩ = some (.slice none 0 0) := (blk_cell BK350.out 0).trans rfl; have hfz12_0 := blk_frozen BK350.out 0; have hcz13_0 : w8.cell? ⟨gb345, 0, none⟩ = some (.slice A0_0 l0_0.length c0_0) := (blk_cell BK345.out 0).trans rfl; have hfz13_0 := blk_frozen BK345.out 0))
 go_loopg [15] k (fun kq v15 w' => ∃ (x15_1 : Int) (x351000_1 : List (List Int)) (u351000 : Value), v15 = .int .i64 x15_1 ∧ Aside0 (spec_foTranspose.l0 kq l0_0 (l0_0.length : Int) x15_1 x351000_1 = some r) ∧ Aside0 (kq ≤ k) ∧ Aside0 (Kd.S (Kd.slice 3 (Kd.int .i64)) 34 w' w.heap.size (fun _ => True) u351000 x351000_1) ∧ Aside0 (w'.heap[gb345]? = some (.cells #[(.slice A0_0 l0_0.length c0_0)] 26 (0, 0))) ∧ Aside0 (w'.heap[gb346]? = some (.cells #[(.slice none 0 0)] 26 (0, 0))) ∧ Aside0 (w'.heap[gb350]? = some (.cells #[u351000] 26 (0, 0))) ∧ Aside0 (Below w.heap.size w w'))
 case atStart => exact ⟨(0), (t347), (.slice Ao9 t347.length co9), e2, H', ⟨Nat.le_refl _⟩, ⟨by (with_reducible repeat (first | apply Kd.S_alloc | apply Kd.S_drewN | apply Kd.S_drew)); exact Kd.S_mono (Kd.S_far (p := ⟨gb350, 0, none⟩) (Kd.S_types HO349.out BK350.out (by decide)) (fun _ hk => hk.2) (.slice Ao9 t347.length co9)) (fun _ hk => trivial)⟩, ⟨by (with_reducible repeat (first | refine blk_drewN ?_ _ | refine blk_drew ?_ | refine blk_alloc ?_ _)); refine blk_far ?_ NB345_350.out _; (with_reducible repeat (first | refine blk_drewN ?_ _ | refine blk_drew ?_ | refine blk_alloc ?_ _)); exact BK345.out⟩, ⟨by (with_reducible repeat (first | refine blk_drewN ?_ _ | refine blk_drew ?_ | refine blk_alloc ?_ _)); refine blk_far ?_ NB346_350.out _; (with_reducible repeat (first | refine blk_drewN ?_ _ | refine blk_drew ?_ | refine blk_alloc ?_ _)); exact BK346.out⟩, ⟨by (with_reducible repeat (first | refine blk_drewN ?_ _ | refine blk_drew ?_ | refine blk_alloc ?_ _)); refine blk_put (cs := #[.slice none 0 0]) ?_ 0 _ rfl; (with_reducible repeat (first | refine blk_drewN ?_ _ | refine blk_drew ?_ | refine blk_alloc ?_ _)); exact BK350.out⟩, ⟨kB HB⟩⟩
 case round =>
  clear H'; (try clear c1); (try clear p2); (try clear c5); (try clear c10); (try clear c11); (try clear hcz12_0); (try clear hcz13_0); (try clear hcz6_0); (try clear hfz12_0); (try clear hfz13_0); (try clear hfz6_0)
  obtain ⟨x15_1, x351000_1, u351000, rfl, HA, HK1, HO_351000, BK345, BK346, BK350, HB⟩ := hrel
  cases gk with
  | zero => exact absurd HA.out (by simp [spec_foTranspose.l0])
  | succ k1 =>
   have H := HA.out
   clear HA
   simp only [spec_foTranspose.l0] at H
   by_cases c14 : x15_1 < (l0_0.length : Int)
   ·
    rw [if_pos c14] at H
    have c14b0 : decide (x15_1 < (l0_0.length : Int)) = true := decide_eq_true c14
    clear c14
    by_cases c15 : 0 ≤ x15_1
    ·
     rw [if_pos c15] at H
     have c15b0 : decide (0 ≤ x15_1) = true := decide_eq_true c15
     clear c15
     by_cases c16 : x15_1 < (l0_0.length : Int)
     ·
      rw [if_pos c16] at H
      have c16b0 : decide (x15_1 < (l0_0.length : Int)) = true := decide_eq_true c16
      clear c16
      have H' := Aside0.mk H
      clear H
      have p351 : 0 ≤ (x15_1 : Int) := od
      have q351 : x15_1 < (l0_0.length : Int) := od
      obtain ⟨ad351, A351_0, c351_0, e351, hx351_0, hl351_0, hi351_0⟩ := at_L2 HR0_0.out x15_1 p351 q351
      cases e351
      replace hx351_0 := (HB.out.cell (World.block_lt_of_cell? w _ hx351_0)).trans hx351_0
      have HR351_0 := Aside0.mk hi351_0
      have HC351_0 := Aside0.mk hl351_0
      clear hi351_0 hl351_0
      replace p351 := eq_true p351
      replace q351 := eq_true q351
      go_wp2
      go_loopg [22] k1 (fun kq v22 w' => ∃ (x22_2 : Int) (x351000_2 : List (List Int)) (u351000 : Value), v22 = .int .i64 x22_2 ∧ Aside0 (spec_foTranspose.l1 kq x15_1 l0_0 (l0_0.length : Int) x15_1 (rd_L2 l0_0 x15_1) ((rd_L2 l0_0 x15_1).length : Int) x22_2 x351000_2 = some r) ∧ Aside0 (kq ≤ k1) ∧ Aside0 (Kd.S (Kd.slice 3 (Kd.int .i64)) 34 w' w.heap.size (fun _ => True) u351000 x351000_2) ∧ Aside0 (w'.heap[gb345]? = some (.cells #[(.slice (some ad351) l0_0.length c0_0)] 26 (0, 0))) ∧ Aside0 (w'.heap[gb346]? = some (.cells #[(.slice none 0 0)] 26 (0, 0))) ∧ Aside0 (w'.heap[gb350]? = some (.cells #[u351000] 26 (0, 0))) ∧ Aside0 (Below w.heap.size w w'))
      case atStart => exact ⟨(0), (x351000_1), (u351000), e2, H', ⟨Nat.le_refl _⟩, ⟨z97_⟩, ⟨z66_⟩, ⟨z62_⟩, ⟨z63_⟩, ⟨kB HB⟩⟩
      case round =>
       clear H'; (try clear c1); (try clear p2); (try clear c3); (try clear p3); (try clear q3); (try clear hx3); (try clear c5); (try clear c10); (try clear c11); (try clear c14); (try clear c14b0); (try clear c15); (try clear c15b0); (try clear c16); (try clear c16b0); (try clear hcz12_0); (try clear hcz13_0); (try clear hcz6_0); (try clear hfz12_0); (try clear hfz13_0); (try clear hfz6_0); (try clear hx351_0); (try clear p2); (try clear p351); (try clear q351)
       obtain ⟨x22_2, x351000_2, u351000, rfl, HA, HK2, HO_351000, BK345, BK346, BK350, HB⟩ := hrel
       cases gk with
       | zero => exact absurd HA.out (by simp [spec_foTranspose.l1])
       | succ k2 =>
        have H := HA.out
        clear HA
        simp only [spec_foTranspose.l1] at H
        by_cases c17 : x22_2 < ((rd_L2 l0_0 x15_1).length : Int)
        ·
         rw [if_pos c17] at H
         have c17b0 : decide (x22_2 < ((rd_L2 l0_0 x15_1).length : Int)) = true := decide_eq_true c17
         clear c17
         by_cases c18 : 0 ≤ x22_2
         ·
          rw [if_pos c18] at H
          have c18b0 : decide (0 ≤ x22_2) = true := decide_eq_true c18
          clear c18
          by_cases c19 : x22_2 < ((rd_L2 l0_0 x15_1).length : Int)
          ·
           rw [if_pos c19] at H
           have c19b0 : decide (x22_2 < ((rd_L2 l0_0 x15_1).length : Int)) = true := decide_eq_true c19
           clear c19
           by_cases c20 : x22_2 < (x351000_2.length : Int)
           ·
            rw [if_pos c20] at H
            have c20b0 : decide (x22_2 < (x351000_2.length : Int)) = true := decide_eq_true c20
            clear c20
            by_cases c21 : 0 ≤ x15_1
            ·
             rw [if_pos c21] at H
             have c21b0 : decide (0 ≤ x15_1) = true := decide_eq_true c21
             clear c21
             by_cases c22 : x15_1 < ((rd_L2 x351000_2 x22_2).length : Int)
             ·
              rw [if_pos c22] at H
              have c22b0 : decide (x15_1 < ((rd_L2 x351000_2 x22_2).length : Int)) = true := decide_eq_true c22
              clear c22
              obtain ⟨y354, hy354⟩ : ∃ y_ : List Int, y_ = ((rd_L2 x351000_2 x22_2).set (x15_1 : Int).toNat (rd (rd_L2 l0_0 x15_1) x22_2)) := ⟨_, rfl⟩
              replace H : (spec_foTranspose.l1 k2 x15_1 l0_0 (l0_0.length : Int) x15_1 (rd_L2 l0_0 x15_1) ((rd_L2 l0_0 x15_1).length : Int) (wrap64 (x22_2 + 1)) (x351000_2.set (x22_2 : Int).toNat y354)) = some r := by first | (rw [hy354]; with_reducible exact H) | (have H2_ := (Option.bind_some _ _).symm.trans H; rw [hy354]; with_reducible exact H2_) | (have H2_ := (Option.bind_some _ _).symm.trans H; with_reducible exact H2_) | with_reducible exact H | (rw [hy354]; exact H) | exact H
              have Ny354 := Aside0.mk hy354
              clear hy354
              obtain ⟨y356, hy356⟩ : ∃ y_ : List (List Int), y_ = (x351000_2.set (x22_2 : Int).toNat y354) := ⟨_, rfl⟩
              replace H : (spec_foTranspose.l1 k2 x15_1 l0_0 (l0_0.length : Int) x15_1 (rd_L2 l0_0 x15_1) ((rd_L2 l0_0 x15_1).length : Int) (wrap64 (x22_2 + 1)) y356) = some r := by first | (rw [hy356]; with_reducible exact H) | (have H2_ := (Option.bind_some _ _).symm.trans H; rw [hy356]; with_reducible exact H2_) | (have H2_ := (Option.bind_some _ _).symm.trans H; with_reducible exact H2_) | with_reducible exact H | (rw [hy356]; exact H) | exact H
              have Ny356 := Aside0.mk hy356
              clear hy356
              have H' := Aside0.mk H
              clear H
              have p352 : 0 ≤ (x22_2 : Int) := od
              have q352 : x22_2 < ((rd_L2 l0_0 x15_1).length : Int) := od
              obtain ⟨ad352, e352, hx352_0⟩ := Kd.at_int HR351_0.out x22_2 p352 q352
              cases e352
              replace hx352_0 := (HB.out.cell (World.block_lt_of_cell? w _ hx352_0)).trans hx352_0
              replace p352 := eq_true p352
              replace q352 := eq_true q352
              have hnb24 := NB350_345.out
              have hnc24 := NB345_350.out
              have hnb25 := NB350_346.out
              have hnc25 := NB346_350.out
              have hcz26_0 : wr.cell? ⟨gb350, 0, none⟩ = some (u351000) := (blk_cell BK350.out 0).trans rfl
              have hfz26_0 := blk_frozen BK350.out 0
              obtain ⟨Ao27, co27, eo27⟩ := Kd.S_slice HO_351000.out
              subst eo27
              have p353 : 0 ≤ (x22_2 : Int) := od
              have q353 : x22_2 < (x351000_2.length : Int) := od
              obtain ⟨ad353, A353_0, c353_0, e353, hx353_0, hl353_0, hi353_0⟩ := at_L2 (Kd.S_reads' HO_351000.out).2.2 x22_2 p353 q353
              cases e353
              obtain ⟨ce353, hce353, hMe353, hcc353⟩ := Kd.S_get HO_351000.out [] x22_2 p353 (by first | exact q353 | exact od | (have e_ := (Kd.S_reads' HO_351000.out).1; omega))
              obtain ⟨ve353_0, rfl, ge353_0⟩ := hMe353
              have hv353_0 := hcc353 0 _ rfl
              rw [Nat.add_zero, show ((Kd.slice 3 (Kd.int .i64))).sz = 1 from rfl, Nat.mul_one] at hv353_0
              replace hv353_0 := Option.some.inj (hv353_0.symm.trans hx353_0)
              rw [hv353_0] at ge353_0
              have HL353_0 := Aside0.mk (show Kd.R (Kd.int .i64) 3 _ _ _ _ (rd_L2 x351000_2 x22_2) from ge353_0)
              clear hv353_0 ge353_0
              have HX353_0 := Aside0.mk hx353_0
              clear hcc353 hce353
              have HR353_0 := Aside0.mk hi353_0
              have HC353_0 := Aside0.mk hl353_0
              clear hi353_0 hl353_0
              replace p353 := eq_true p353
              replace q353 := eq_true q353
              have p23 : 0 ≤ (x15_1 : Int) := od
              have q23 : (x15_1 : Int) < (((rd_L2 x351000_2 x22_2).length : Int) : Int) := od
              obtain ⟨go23, co23, eo23, gb23, gl23, cl23, HG23⟩ := Kd.R_form HL353_0.out (by omega)
              (first | cases eo23 | (injection eo23 with ea_ en_ ec_; (first | subst ea_ | (injection ea_ with ea_; subst ea_)); subst ec_; clear en_))
              have GB23 := Aside0.mk gb23
              have GG23 := Aside0.mk HG23
              clear gb23 gl23 HG23
              obtain ⟨hx23_0, hf23_0⟩ := Kd.R_celln 0 HL353_0.out (x15_1 : Int) p23 q23
              replace p23 := eq_true p23
              replace q23 := eq_true q23
              have hq28 : (x22_2 : Int) < (x351000_2.length : Int) := (by have h_ : (x22_2 : Int) < ((x351000_2.length : Int) : Int) := od; first | exact h_ | (have e_ := (Kd.S_reads' HO_351000.out).1; omega) | simpa only [List.length_set, List.length_set] using h_)
              obtain ⟨oki28, ce28, hcl28, hM28, hcc28, hok28, hbk28⟩ := Kd.S_borrow HO_351000.out [] (x22_2 : Int) (od) hq28
              obtain ⟨ve28_0, rfl, ge28_0⟩ := hM28
              have hv28 := hcc28 0 _ rfl
              rw [Nat.add_zero, show ((Kd.slice 3 (Kd.int .i64))).sz = 1 from rfl, Nat.mul_one] at hv28
              replace hv28 := Option.some.inj (hv28.symm.trans HX353_0.out)
              subst hv28
              clear hcc28 hcl28
              replace ge28_0 := (show Kd.R (Kd.int .i64) 3 _ _ _ _ (rd_L2 x351000_2 x22_2) from ge28_0)
              have HP28 := Kd.R_putg ge28_0 (x15_1 : Int) (rd (rd_L2 l0_0 x15_1) x22_2)
              go_wp2_with (first | ((with_reducible refine gate_store (t := 3) (p := 34) rfl ?_); refine store_event (t := 3) (p := 34) (v := ?vo_w29) (w1 := (wr.setCell ⟨go23, (x15_1 : Int).toNat, none⟩ (.int .i64 (rd (rd_L2 l0_0 x15_1) x22_2)))) ?hg ?ho ?hn ?hr ?_; (case ho => rfl); (case hg => rfl); (case hn => rfl); (case hr => exact z116_); intro w29 hw; have hg : wr.grownBy w29 (some go23) := (by rw [hw]; exact HP28.2); have hz_ : Kd.R (Kd.int .i64) 3 w29 w.heap.size oki28 (.slice (some ⟨go23, 0, none⟩) (rd_L2 x351000_2 x22_2).length c353_0) y354 := (by rw [hw, Ny354.out]; exact HP28.1); have hp_ : Kd.S (Kd.slice 3 (Kd.int .i64)) 34 w29 w.heap.size (fun _ => True) (.slice (some ad353) x351000_2.length co27) y356 := (by rw [Ny356.out]; exact hbk28 hg (fun k_ e_ => by injection e_ with e_; subst e_; exact ge28_0.1 _ rfl) (Kd.M_row hz_)); have hm_ := Kd.R_mono hz_ hok28; clear HP28 hbk28; have n0_ := Aside0.mk (hp_); have n1_ := Aside0.mk (blk_grown (g := gb345) (o := .cells #[.slice (some ad351) l0_0.length c0_0] 26 (0, 0)) (bA BK345) hg (Kd.R_ne HL353_0.out BK345.out (by decide))); have n2_ := Aside0.mk (blk_grown (g := gb346) (o := .cells #[.slice none 0 0] 26 (0, 0)) (bA BK346) hg (Kd.R_ne HL353_0.out BK346.out (by decide))); have n3_ := Aside0.mk (blk_grown (g := gb350) (o := .cells #[.slice (some ad353) x351000_2.length co27] 26 (0, 0)) (bA BK350) hg (Kd.R_ne HL353_0.out BK350.out (by decide))); have n4_ := Aside0.mk ((by rw [hw]; exact below_set (HB.out) GB23.out : Below w.heap.size w w29)); have n5_ := Aside0.mk (hm_); have n6_ := Aside0.mk ((Kd.R_reads' hm_).2.1); clear HO_351000; clear BK345; clear BK346; clear BK350; clear HB; clear HL353_0; have HO_351000 := n0_; have BK345 := n1_; have BK346 := n2_; have BK350 := n3_; have HB := n4_; have HL357 := n5_; have HC355 := n6_; clear n0_ n1_ n2_ n3_ n4_ n5_ n6_; clear hg hw hp_ hz_ hm_ hok28))
              go_roundg k2
              case measure => have := HK1.out; have := HK2.out; omega
              case rel => exact ⟨(wrap64 (x22_2 + 1)), (y356), (.slice (some ad353) x351000_2.length co27), e2, H', ⟨by have := HK1.out; have := HK2.out; omega⟩, ⟨z97_⟩, ⟨z66_⟩, ⟨z62_⟩, ⟨z63_⟩, ⟨kB HB⟩⟩
             ·
              rw [if_neg c22] at H
              exact absurd H (by simp)
            ·
             rw [if_neg c21] at H
             exact absurd H (by simp)
           ·
            rw [if_neg c20] at H
            exact absurd H (by simp)
          ·
           rw [if_neg c19] at H
           exact absurd H (by simp)
         ·
          rw [if_neg c18] at H
          exact absurd H (by simp)
        ·
         rw [if_neg c17] at H
         have c17b0 : decide (x22_2 < ((rd_L2 l0_0 x15_1).length : Int)) = false := decide_eq_false c17
         clear c17
         have H' := Aside0.mk H
         clear H
         go_wp2
         go_roundg k2
         case measure => have := HK1.out; have := HK2.out; omega
         case rel => exact ⟨(wrap64 (x15_1 + 1)), (x351000_2), (u351000), e2, H', ⟨by have := HK1.out; have := HK2.out; omega⟩, ⟨z97_⟩, ⟨z66_⟩, ⟨z62_⟩, ⟨z63_⟩, ⟨kB HB⟩⟩
     ·
      rw [if_neg c16] at H
      exact absurd H (by simp)
    ·
     rw [if_neg c15] at H
     exact absurd H (by simp)
   ·
    rw [if_neg c14] at H
    have c14b0 : decide (x15_1 < (l0_0.length : Int)) = false := decide_eq_false c14
    clear c14
    obtain rfl := Option.some.inj H
    have hnb30 := NB350_345.out
    have hnc30 := NB345_350.out
    have hnb31 := NB350_346.out
    have hnc31 := NB346_350.out
    have hcz32_0 : wr.cell? ⟨gb350, 0, none⟩ = some (u351000) := (blk_cell BK350.out 0).trans rfl
    have hfz32_0 := blk_frozen BK350.out 0
    obtain ⟨Ao33, co33, eo33⟩ := Kd.S_slice HO_351000.out
    subst eo33
    have hnb34 := NB346_345.out
    have hnc34 := NB345_346.out
    have hcz35_0 : wr.cell? ⟨gb346, 0, none⟩ = some (.slice none 0 0) := (blk_cell BK346.out 0).trans rfl
    have hfz35_0 := blk_frozen BK346.out 0
    go_wp2
    refine bodyPost_ret (results_cell_row rfl _ _ gb346 26 #[.slice Ao33 x351000_1.length co33] (0, 0) _ rfl (by (with_reducible repeat (first | refine blk_drewN ?_ _ | refine blk_drew ?_ | refine blk_alloc ?_ _)); refine blk_put (cs := #[.slice none 0 0]) ?_ 0 _ rfl; (with_reducible repeat (first | refine blk_drewN ?_ _ | refine blk_drew ?_ | refine blk_alloc ?_ _)); exact BK346.out) Try.underlying26 rfl (by kernel_rfl)) rfl ?_
    exact ⟨_, e1, by (with_reducible repeat (first | apply Kd.S_alloc | apply Kd.S_drewN | apply Kd.S_drew)); exact Kd.S_mono (Kd.S_far (p := ⟨gb346, 0, none⟩) (Kd.S_types HO_351000.out BK346.out (by decide)) (fun _ hk => hk.2) (.slice Ao33 x351000_1.length co33)) (fun _ hk => trivial), kB HB⟩

/-! ### spec_foForm: function 83 -/
def spec_foForm.f (k : Nat) (l0_0 : List (List Int)) : Option (Bool) := (spec_foSmall.f k l0_0 1000).bind fun t359 => (if t359 = true then ((spec_foTranspose.f k l0_0).bind fun t360 => ((spec_foSame.f k l0_0 t360).bind fun t363 => (some t363))) else (some false))
theorem spec_foForm.mono : ∀ a0 k, LeO (spec_foForm.f k a0) (spec_foForm.f (k + 1) a0) := by
 intro a0 k
 unfold spec_foForm.f
 repeat' first
  | (with_reducible exact spec_foSame.mono _ _ _)
  | (with_reducible exact spec_foSmall.mono _ _ _)
  | (with_reducible exact spec_foTranspose.mono _ _)
  | (with_reducible exact LeO.refl _)
  | (with_reducible exact LeO.none _)
  | (with_reducible refine LeO.ite ?_ ?_)
  | (with_reducible refine LeO.bind ?_ (fun _ => ?_))
  | exact spec_foSame.mono _ _ _
  | exact spec_foSmall.mono _ _ _
  | exact spec_foTranspose.mono _ _
  | exact LeO.none _
  | refine LeO.ite ?_ ?_
  | refine LeO.bind ?_ (fun _ => ?_)
def spec_foForm.T1 : Bool × List (List Nat × List Nat) := (true, [([], []), ([0], [0]), ([1, 1], [1]), ([2], [2]), ([2], [2]), ([4, 2, 2], [2, 4]), ([3, 5, 5, 2], [2, 3, 5]), ([2, 6], [2, 6]), ([7, 6, 0, 1, 2, 3, 4, 5, 6, 7], [7])])
def spec_foForm.B1 : List Nat := [0, 1, 3, 7, 7, 23, 63, 127, 255]
theorem spec_foForm.tab1 : rtab .any (opsOf Try.f83 1) = spec_foForm.T1 := by kernel_rfl
theorem spec_foForm.bits1 : waitsOk spec_foForm.T1.2 spec_foForm.B1 = true := by kernel_rfl
set_option maxHeartbeats 8000000 in
set_option maxRecDepth 100000 in
theorem spec_foForm.calls (k : Nat) (A0_0 : Option Addr) (c0_0 : Nat) (l0_0 : List (List Int)) (r : Bool) (w : World) (hr0_0 : Kd.C (Kd.slice 3 (Kd.int .i64)) w A0_0 l0_0.length l0_0) (hc0_0 : l0_0.length ≤ c0_0) (h : spec_foForm.f k l0_0 = some r) :
 Calls Try.prog 83 #[.agg #[.slice A0_0 l0_0.length c0_0]] w fun e w' => e = .returned (.bool r) ∧ Below w.heap.size w w' := by
 have hu26 := Try.underlying26
 have HR0_0 := Aside0.mk hr0_0
 have HC0_0 := Aside0.mk hc0_0
 clear hr0_0 hc0_0
 have HB := Aside0.mk (Below.refl w.heap.size w)
 have H : ((spec_foSmall.f k l0_0 1000).bind fun t359 => (if t359 = true then ((spec_foTranspose.f k l0_0).bind fun t360 => ((spec_foSame.f k l0_0 t360).bind fun t363 => (some t363))) else (some false))) = some r := h
 clear h
 replace H := Option.bind_eq_some_iff.mp H
 obtain ⟨t359, A20, H⟩ := H
 replace H : (if t359 = true then ((spec_foTranspose.f k l0_0).bind fun t360 => ((spec_foSame.f k l0_0 t360).bind fun t363 => (some t363))) else (some false)) = some r := H
 have A2 := Aside0.mk A20
 clear A20
 by_cases c3 : t359 = true
 ·
  subst c3
  have H1 : ((spec_foTranspose.f k l0_0).bind fun t360 => ((spec_foSame.f k l0_0 t360).bind fun t363 => (some t363))) = some r := by rw [if_pos rfl] at H; exact H
  clear H
  have H := H1
  clear H1
  replace H := Option.bind_eq_some_iff.mp H
  obtain ⟨t360, A40, H⟩ := H
  replace H : ((spec_foSame.f k l0_0 t360).bind fun t363 => (some t363)) = some r := H
  have A4 := Aside0.mk A40
  clear A40
  replace H := Option.bind_eq_some_iff.mp H
  obtain ⟨t363, A50, H⟩ := H
  replace H : (some t363) = some r := H
  have A5 := Aside0.mk A50
  clear A50
  obtain rfl := Option.some.inj H
  go_enter Try.func83, Try.ntmps83
  try go_wp2_with (first | ((with_reducible refine gate_dst (N := 1) rfl ?_); refine box_event ?hg (N := 1) ?hd (cs := #[.slice A0_0 l0_0.length c0_0]) (t := 26) ?hr ?_; (case hd => rfl); (case hg => rfl); (case hr => exact z116_); intro gb358 hg w6 hbox hb; have n0_ := Aside0.mk (below_step bq hb); have n1_ := Aside0.mk (hbox); have n2_ := Aside0.mk ((by rw [hg]; exact (below_size bq) : w.heap.size ≤ gb358)); have n3_ := Aside0.mk ((by rw [hg]; exact (below_size bq) : w.heap.size ≤ gb358)); clear HB; have HB := n0_; have BK358 := n1_; have GW358 := n2_; have GE358 := n3_; clear n0_ n1_ n2_ n3_; clear hb hbox hg))
  have n0_ := Aside0.mk (blk_drew BK358.out)
  have n1_ := Aside0.mk (below_drew1 HB.out)
  clear BK358; clear HB
  have BK358 := n0_
  have HB := n1_
  clear n0_ n1_
  refine start_ (n := 9) (S := fun w' => w'.cell? ⟨gb358, 0, none⟩ = some (.slice A0_0 l0_0.length c0_0)) (ds := []) #[O,O,O,O,O,O,O,O,O] (by kernel_rfl) rfl rfl ((blk_cell BK358.out 0).trans rfl) (fun hHeld => ?_); refine with_tabW spec_foForm.tab1 spec_foForm.bits1 (fun HT_ HW_ => ?_)
  generalize w6.drew = w7 at BK358 HB hHeld ⊢
  refine take_ (i := 0) (N := some 3) (v := ?_) (a' := ?_) (BM 9 1) rfl rfl (take_ofW HT_.out HW_.out (by kernel_rfl)) (fun _ _ _ h => h) (Or.inl ⟨by rfl, ?_⟩) hHeld ?_ ?_
  rotate_left
  ·
   intro w' s0
   go_simp
   with_reducible rfl
  rotate_left
  ·
   simp only [AP]
   rfl
  refine one_ (i := 1) (N := some 4) (BM 9 3) rfl rfl (one_of HT_.out (by kernel_rfl)) (by decide) (fun K hK => ?_)
  refine goes_ Try.func57 (by kernel_rfl) rfl #[.agg #[.slice A0_0 l0_0.length c0_0], .int .i64 1000] (by rfl) rfl rfl (by (try simp only [List.map_toArray, List.map_cons, List.map_nil]); first | done | rfl | (simp only [List.length_drop, List.length_take]; rfl)) ?_
  with_reducible refine (spec_foSmall.calls k _ _ l0_0 1000 true _ ?side1 ?side2 A2.out).mono ?_
  (case side1 => exact cC (Kd.C_below HR0_0.out HB.out))
  (case side2 => exact HC0_0.out)
  rintro e w8 ⟨rfl, hb⟩
  refine ⟨_, rfl, ?_⟩
  have n0_ := Aside0.mk (kK BK358 hb)
  have n1_ := Aside0.mk (below_step (kB HB) hb)
  clear BK358; clear HB
  have BK358 := n0_
  have HB := n1_
  clear n0_ n1_
  (try clear hb)
  (try clear hb2)
  (try clear hk)
  (try clear hi)
  refine hK.out _ _ ((blk_cell BK358.out 0).trans rfl) (fun hHeld => ?_)
  clear hK K
  refine norm_ (a' := ?_) ?_ ?_
  rotate_left
  ·
   show Act.put _ (some 4) _ = _
   simp only [AP]
   rfl
  refine pS 2 5 (BM 9 7) ?_
  refine take_ (i := 3) (N := some 6) (v := ?_) (a' := ?_) (BM 9 15) rfl rfl (take_ofW HT_.out HW_.out (by kernel_rfl)) (fun _ _ _ h => h) (Or.inl ⟨by rfl, ?_⟩) hHeld ?_ ?_
  rotate_left
  ·
   intro w' s0
   go_simp
   with_reducible rfl
  rotate_left
  ·
   simp only [AP]
   rfl
  refine take_ (i := 4) (N := some 7) (v := ?_) (a' := ?_) (BM 9 31) rfl rfl (take_ofW HT_.out HW_.out (by kernel_rfl)) (fun _ _ _ h => h) (Or.inl ⟨by rfl, ?_⟩) hHeld ?_ ?_
  rotate_left
  ·
   intro w' s0
   go_simp
   with_reducible rfl
  rotate_left
  ·
   simp only [AP]
   rfl
  refine one_ (i := 5) (N := some 8) (BM 9 63) rfl rfl (one_of HT_.out (by kernel_rfl)) (by decide) (fun K hK => ?_)
  refine goes_ Try.func106 (by kernel_rfl) rfl #[.agg #[.slice A0_0 l0_0.length c0_0]] (by rfl) rfl rfl (by (try simp only [List.map_toArray, List.map_cons, List.map_nil]); first | done | rfl | (simp only [List.length_drop, List.length_take]; rfl)) ?_
  with_reducible refine (spec_foTranspose.calls k _ _ l0_0 t360 _ ?side1 ?side2 A4.out).mono ?_
  (case side1 => exact cC (Kd.C_below HR0_0.out HB.out))
  (case side2 => exact HC0_0.out)
  rintro e w9 ⟨v361, rfl, ho0, hb⟩
  refine ⟨_, rfl, ?_⟩
  have n0_ := Aside0.mk (Kd.S_lower ho0 (below_size (kB HB)))
  have n1_ := Aside0.mk (kK BK358 hb)
  have n2_ := Aside0.mk (below_step (kB HB) hb)
  clear BK358; clear HB
  have HO362 := n0_
  have BK358 := n1_
  have HB := n2_
  clear n0_ n1_ n2_
  (try clear hb)
  (try clear hb2)
  (try clear hk)
  (try clear hi)
  (try clear ho0)
  obtain ⟨Ao10, co10, eo10⟩ := Kd.S_slice HO362.out
  (first | subst eo10 | (injection eo10 with f1_ f2_ f3_; have f4_ := f1_.symm; have f5_ := f3_.symm; clear f1_ f2_ f3_; subst f4_; subst f5_))
  refine hK.out _ _ ((blk_cell BK358.out 0).trans rfl) (fun hHeld => ?_)
  clear hK K
  refine norm_ (a' := ?_) ?_ ?_
  rotate_left
  ·
   show Act.put _ (some 8) _ = _
   simp only [AP]
   rfl
  refine one_ (i := 6) (N := some 9) (BM 9 127) rfl rfl (one_of HT_.out (by kernel_rfl)) (by decide) (fun K hK => ?_)
  refine goes_ Try.func105 (by kernel_rfl) rfl #[.agg #[.slice A0_0 l0_0.length c0_0], .agg #[.slice Ao10 t360.length co10]] (by rfl) rfl rfl (by (try simp only [List.map_toArray, List.map_cons, List.map_nil]); first | done | rfl | (simp only [List.length_drop, List.length_take]; rfl)) ?_
  with_reducible refine (spec_foSame.calls k _ _ l0_0 _ _ t360 t363 _ ?side1 ?side2 ?side3 ?side4 A5.out).mono ?_
  (case side1 => exact cC (Kd.C_below HR0_0.out HB.out))
  (case side2 => exact HC0_0.out)
  (case side3 => exact cC (Kd.S_reads' HO362.out).2.2)
  (case side4 => exact (Kd.S_reads' HO362.out).2.1)
  rintro e w11 ⟨rfl, hb⟩
  refine ⟨_, rfl, ?_⟩
  have n0_ := Aside0.mk (Kd.S_below (by (with_reducible repeat (first | apply Kd.S_alloc | apply Kd.S_drewN | apply Kd.S_drew)); exact HO362.out) hb)
  have n1_ := Aside0.mk (kK BK358 hb)
  have n2_ := Aside0.mk (below_step (kB HB) hb)
  clear HO362; clear BK358; clear HB
  have HO362 := n0_
  have BK358 := n1_
  have HB := n2_
  clear n0_ n1_ n2_
  (try clear hb)
  (try clear hb2)
  (try clear hk)
  (try clear hi)
  refine hK.out _ _ ((blk_cell BK358.out 0).trans rfl) (fun hHeld => ?_)
  clear hK K
  refine norm_ (a' := ?_) ?_ ?_
  rotate_left
  ·
   show Act.put _ (some 9) _ = _
   simp only [AP]
   rfl
  refine pS 7 10 (BM 9 255) ?_
  refine pS 8 2 (BM 9 511) ?_
  refine done_ (done_of HT_.out (by kernel_rfl)) ?_
  try go_wp2
  go_ret
  exact ⟨e1, kB HB⟩
 ·
  replace c3 := Bool.eq_false_iff.mpr c3
  subst c3
  have H1 : (some false) = some r := by rw [if_neg (show ¬ (false = true) by decide)] at H; exact H
  clear H
  have H := H1
  clear H1
  obtain rfl := Option.some.inj H
  go_enter Try.func83, Try.ntmps83
  try go_wp2_with (first | ((with_reducible refine gate_dst (N := 1) rfl ?_); refine box_event ?hg (N := 1) ?hd (cs := #[.slice A0_0 l0_0.length c0_0]) (t := 26) ?hr ?_; (case hd => rfl); (case hg => rfl); (case hr => exact z116_); intro gb358 hg w12 hbox hb; have n0_ := Aside0.mk (below_step bq hb); have n1_ := Aside0.mk (hbox); have n2_ := Aside0.mk ((by rw [hg]; exact (below_size bq) : w.heap.size ≤ gb358)); have n3_ := Aside0.mk ((by rw [hg]; exact (below_size bq) : w.heap.size ≤ gb358)); clear HB; have HB := n0_; have BK358 := n1_; have GW358 := n2_; have GE358 := n3_; clear n0_ n1_ n2_ n3_; clear hb hbox hg))
  have n0_ := Aside0.mk (blk_drew BK358.out)
  have n1_ := Aside0.mk (below_drew1 HB.out)
  clear BK358; clear HB
  have BK358 := n0_
  have HB := n1_
  clear n0_ n1_
  refine start_ (n := 9) (S := fun w' => w'.cell? ⟨gb358, 0, none⟩ = some (.slice A0_0 l0_0.length c0_0)) (ds := []) #[O,O,O,O,O,O,O,O,O] (by kernel_rfl) rfl rfl ((blk_cell BK358.out 0).trans rfl) (fun hHeld => ?_); refine with_tabW spec_foForm.tab1 spec_foForm.bits1 (fun HT_ HW_ => ?_)
  generalize w12.drew = w13 at BK358 HB hHeld ⊢
  refine take_ (i := 0) (N := some 3) (v := ?_) (a' := ?_) (BM 9 1) rfl rfl (take_ofW HT_.out HW_.out (by kernel_rfl)) (fun _ _ _ h => h) (Or.inl ⟨by rfl, ?_⟩) hHeld ?_ ?_
  rotate_left
  ·
   intro w' s0
   go_simp
   with_reducible rfl
  rotate_left
  ·
   simp only [AP]
   rfl
  refine one_ (i := 1) (N := some 4) (BM 9 3) rfl rfl (one_of HT_.out (by kernel_rfl)) (by decide) (fun K hK => ?_)
  refine goes_ Try.func57 (by kernel_rfl) rfl #[.agg #[.slice A0_0 l0_0.length c0_0], .int .i64 1000] (by rfl) rfl rfl (by (try simp only [List.map_toArray, List.map_cons, List.map_nil]); first | done | rfl | (simp only [List.length_drop, List.length_take]; rfl)) ?_
  with_reducible refine (spec_foSmall.calls k _ _ l0_0 1000 false _ ?side1 ?side2 A2.out).mono ?_
  (case side1 => exact cC (Kd.C_below HR0_0.out HB.out))
  (case side2 => exact HC0_0.out)
  rintro e w14 ⟨rfl, hb⟩
  refine ⟨_, rfl, ?_⟩
  have n0_ := Aside0.mk (kK BK358 hb)
  have n1_ := Aside0.mk (below_step (kB HB) hb)
  clear BK358; clear HB
  have BK358 := n0_
  have HB := n1_
  clear n0_ n1_
  (try clear hb)
  (try clear hb2)
  (try clear hk)
  (try clear hi)
  refine hK.out _ _ ((blk_cell BK358.out 0).trans rfl) (fun hHeld => ?_)
  clear hK K
  refine norm_ (a' := ?_) ?_ ?_
  rotate_left
  ·
   show Act.put _ (some 4) _ = _
   simp only [AP]
   rfl
  refine pS 2 5 (BM 9 7) ?_
  refine pU 3 6 (BM 9 15) ?_
  refine pU 4 7 (BM 9 31) ?_
  refine pU 5 8 (BM 9 63) ?_
  refine pU 6 9 (BM 9 127) ?_
  refine pS 7 10 (BM 9 255) ?_
  refine pS 8 2 (BM 9 511) ?_
  refine done_ (done_of HT_.out (by kernel_rfl)) ?_
  try go_wp2
  go_ret
  exact ⟨e1, kB HB⟩

/-! ### spec_foVector: function 84 -/
def spec_foVector.f (k : Nat) (l0_0 : List (List Int)) (l1 : List Int) : Option (Bool) := (spec_foGood.f k l0_0).bind fun t365 => (if t365 = true then (if (l1.length : Int) = (l0_0.length : Int) then ((spec_l1All.f k l1 (-1000000) 1000000).bind fun t366 => (some t366)) else (some false)) else (some false))
theorem spec_foVector.mono : ∀ a0 a1 k, LeO (spec_foVector.f k a0 a1) (spec_foVector.f (k + 1) a0 a1) := by
 intro a0 a1 k
 unfold spec_foVector.f
 repeat' first
  | (with_reducible exact spec_foGood.mono _ _)
  | (with_reducible exact spec_l1All.mono _ _ _ _)
  | (with_reducible exact LeO.refl _)
  | (with_reducible exact LeO.none _)
  | (with_reducible refine LeO.ite ?_ ?_)
  | (with_reducible refine LeO.bind ?_ (fun _ => ?_))
  | exact spec_foGood.mono _ _
  | exact spec_l1All.mono _ _ _ _
  | exact LeO.none _
  | refine LeO.ite ?_ ?_
  | refine LeO.bind ?_ (fun _ => ?_)
set_option maxHeartbeats 8000000 in
set_option maxRecDepth 100000 in
theorem spec_foVector.calls (k : Nat) (A0_0 : Option Addr) (c0_0 : Nat) (l0_0 : List (List Int)) (A1 : Option Addr) (c1 : Nat) (l1 : List Int) (r : Bool) (w : World) (hr0_0 : Kd.C (Kd.slice 3 (Kd.int .i64)) w A0_0 l0_0.length l0_0) (hc0_0 : l0_0.length ≤ c0_0) (hr1 : Kd.C (Kd.int .i64) w A1 l1.length l1) (hc1 : l1.length ≤ c1) (h : spec_foVector.f k l0_0 l1 = some r) :
 Calls Try.prog 84 #[.agg #[.slice A0_0 l0_0.length c0_0], .slice A1 l1.length c1] w fun e w' => e = .returned (.bool r) ∧ Below w.heap.size w w' := by
 have hu26 := Try.underlying26
 have HR0_0 := Aside0.mk hr0_0
 have HC0_0 := Aside0.mk hc0_0
 clear hr0_0 hc0_0
 have HR1 := Aside0.mk hr1
 have HC1 := Aside0.mk hc1
 clear hr1 hc1
 have HB := Aside0.mk (Below.refl w.heap.size w)
 have H : ((spec_foGood.f k l0_0).bind fun t365 => (if t365 = true then (if (l1.length : Int) = (l0_0.length : Int) then ((spec_l1All.f k l1 (-1000000) 1000000).bind fun t366 => (some t366)) else (some false)) else (some false))) = some r := h
 clear h
 replace H := Option.bind_eq_some_iff.mp H
 obtain ⟨t365, A30, H⟩ := H
 replace H : (if t365 = true then (if (l1.length : Int) = (l0_0.length : Int) then ((spec_l1All.f k l1 (-1000000) 1000000).bind fun t366 => (some t366)) else (some false)) else (some false)) = some r := H
 have A3 := Aside0.mk A30
 clear A30
 by_cases c4 : t365 = true
 ·
  subst c4
  have H1 : (if (l1.length : Int) = (l0_0.length : Int) then ((spec_l1All.f k l1 (-1000000) 1000000).bind fun t366 => (some t366)) else (some false)) = some r := by rw [if_pos rfl] at H; exact H
  clear H
  have H := H1
  clear H1
  by_cases c5 : (l1.length : Int) = (l0_0.length : Int)
  ·
   rw [if_pos c5] at H
   have c5b0 : ((l1.length : Int) == (l0_0.length : Int)) = true := beq_iff_eq.mpr c5
   have c5b1 : ((l1.length : Int) != (l0_0.length : Int)) = false := bne_eq_false_iff_eq.mpr c5
   have c5b2 : (l1.length == l0_0.length) = true := by first | simpa using c5 | (simp at c5 ⊢; omega)
   clear c5
   replace H := Option.bind_eq_some_iff.mp H
   obtain ⟨t366, A60, H⟩ := H
   replace H : (some t366) = some r := H
   have A6 := Aside0.mk A60
   clear A60
   obtain rfl := Option.some.inj H
   go_enter Try.func84, Try.ntmps84
   go_wp2_with (first | ((with_reducible refine gate_dst (N := 2) rfl ?_); (try (refine gate_guard (by rfl) ?_; dsimp only)); refine box_event ?hg (N := 2) ?hd (cs := #[.slice A0_0 l0_0.length c0_0]) (t := 26) ?hr ?_; (case hd => rfl); (case hg => rfl); (case hr => exact z116_); intro gb364 hg w7 hbox hb; have n0_ := Aside0.mk (below_step bq hb); have n1_ := Aside0.mk (hbox); have n2_ := Aside0.mk ((by rw [hg]; exact (below_size bq) : w.heap.size ≤ gb364)); have n3_ := Aside0.mk ((by rw [hg]; exact (below_size bq) : w.heap.size ≤ gb364)); clear HB; have HB := n0_; have BK364 := n1_; have GW364 := n2_; have GE364 := n3_; clear n0_ n1_ n2_ n3_; clear hb hbox hg; have hcz8_0 : w7.cell? ⟨gb364, 0, none⟩ = some (.slice A0_0 l0_0.length c0_0) := (blk_cell BK364.out 0).trans rfl; have hfz8_0 := blk_frozen BK364.out 0) | ((with_reducible refine gate_callee (f := 78) rfl ?_); refine gL (some 6) rfl rfl Try.func78 (by kernel_rfl) rfl #[.agg #[.slice A0_0 l0_0.length c0_0]] rfl ?_; (with_reducible refine (spec_foGood.calls k _ _ l0_0 true _ ?side1 ?side2 A3.out).mono ?_); (case side1 => exact cC (Kd.C_below HR0_0.out HB.out)); (case side2 => exact HC0_0.out); rintro e w9 ⟨rfl, hb⟩; refine ⟨_, rfl, ?_⟩; have n0_ := Aside0.mk (kK BK364 hb); have n1_ := Aside0.mk (below_step (kB HB) hb); clear BK364; clear HB; have BK364 := n0_; have HB := n1_; clear n0_ n1_; (try clear hb); (try clear hb2); (try clear hk); (try clear hi); have hcz10_0 : w9.cell? ⟨gb364, 0, none⟩ = some (.slice A0_0 l0_0.length c0_0) := (blk_cell BK364.out 0).trans rfl; have hfz10_0 := blk_frozen BK364.out 0) | (go_at_call 74; (with_reducible refine (spec_l1All.calls k _ _ l1 (-1000000) 1000000 t366 _ ?side1 ?side2 A6.out).mono ?_); (case side1 => exact cC (Kd.C_below HR1.out HB.out)); (case side2 => exact HC1.out); rintro e w' ⟨rfl, ⟨nd, rfl⟩⟩))
   go_ret
   exact ⟨e1, kB HB⟩
  ·
   rw [if_neg c5] at H
   have c5b0 : ((l1.length : Int) == (l0_0.length : Int)) = false := beq_eq_false_iff_ne.mpr c5
   have c5b1 : ((l1.length : Int) != (l0_0.length : Int)) = true := bne_iff_ne.mpr c5
   have c5b2 : (l1.length == l0_0.length) = false := by first | simpa using c5 | (simp at c5 ⊢; omega)
   obtain rfl := Option.some.inj H
   go_enter Try.func84, Try.ntmps84
   go_wp2_with (first | ((with_reducible refine gate_dst (N := 2) rfl ?_); (try (refine gate_guard (by rfl) ?_; dsimp only)); refine box_event ?hg (N := 2) ?hd (cs := #[.slice A0_0 l0_0.length c0_0]) (t := 26) ?hr ?_; (case hd => rfl); (case hg => rfl); (case hr => exact z116_); intro gb364 hg w11 hbox hb; have n0_ := Aside0.mk (below_step bq hb); have n1_ := Aside0.mk (hbox); have n2_ := Aside0.mk ((by rw [hg]; exact (below_size bq) : w.heap.size ≤ gb364)); have n3_ := Aside0.mk ((by rw [hg]; exact (below_size bq) : w.heap.size ≤ gb364)); clear HB; have HB := n0_; have BK364 := n1_; have GW364 := n2_; have GE364 := n3_; clear n0_ n1_ n2_ n3_; clear hb hbox hg; have hcz12_0 : w11.cell? ⟨gb364, 0, none⟩ = some (.slice A0_0 l0_0.length c0_0) := (blk_cell BK364.out 0).trans rfl; have hfz12_0 := blk_frozen BK364.out 0) | ((with_reducible refine gate_callee (f := 78) rfl ?_); refine gL (some 6) rfl rfl Try.func78 (by kernel_rfl) rfl #[.agg #[.slice A0_0 l0_0.length c0_0]] rfl ?_; (with_reducible refine (spec_foGood.calls k _ _ l0_0 true _ ?side1 ?side2 A3.out).mono ?_); (case side1 => exact cC (Kd.C_below HR0_0.out HB.out)); (case side2 => exact HC0_0.out); rintro e w13 ⟨rfl, hb⟩; refine ⟨_, rfl, ?_⟩; have n0_ := Aside0.mk (kK BK364 hb); have n1_ := Aside0.mk (below_step (kB HB) hb); clear BK364; clear HB; have BK364 := n0_; have HB := n1_; clear n0_ n1_; (try clear hb); (try clear hb2); (try clear hk); (try clear hi); have hcz14_0 : w13.cell? ⟨gb364, 0, none⟩ = some (.slice A0_0 l0_0.length c0_0) := (blk_cell BK364.out 0).trans rfl; have hfz14_0 := blk_frozen BK364.out 0))
   go_ret
   exact ⟨e1, kB HB⟩
 ·
  replace c4 := Bool.eq_false_iff.mpr c4
  subst c4
  have H1 : (some false) = some r := by rw [if_neg (show ¬ (false = true) by decide)] at H; exact H
  clear H
  have H := H1
  clear H1
  obtain rfl := Option.some.inj H
  go_enter Try.func84, Try.ntmps84
  go_wp2_with (first | ((with_reducible refine gate_dst (N := 2) rfl ?_); (try (refine gate_guard (by rfl) ?_; dsimp only)); refine box_event ?hg (N := 2) ?hd (cs := #[.slice A0_0 l0_0.length c0_0]) (t := 26) ?hr ?_; (case hd => rfl); (case hg => rfl); (case hr => exact z116_); intro gb364 hg w15 hbox hb; have n0_ := Aside0.mk (below_step bq hb); have n1_ := Aside0.mk (hbox); have n2_ := Aside0.mk ((by rw [hg]; exact (below_size bq) : w.heap.size ≤ gb364)); have n3_ := Aside0.mk ((by rw [hg]; exact (below_size bq) : w.heap.size ≤ gb364)); clear HB; have HB := n0_; have BK364 := n1_; have GW364 := n2_; have GE364 := n3_; clear n0_ n1_ n2_ n3_; clear hb hbox hg; have hcz16_0 : w15.cell? ⟨gb364, 0, none⟩ = some (.slice A0_0 l0_0.length c0_0) := (blk_cell BK364.out 0).trans rfl; have hfz16_0 := blk_frozen BK364.out 0) | ((with_reducible refine gate_callee (f := 78) rfl ?_); refine gL (some 6) rfl rfl Try.func78 (by kernel_rfl) rfl #[.agg #[.slice A0_0 l0_0.length c0_0]] rfl ?_; (with_reducible refine (spec_foGood.calls k _ _ l0_0 false _ ?side1 ?side2 A3.out).mono ?_); (case side1 => exact cC (Kd.C_below HR0_0.out HB.out)); (case side2 => exact HC0_0.out); rintro e w17 ⟨rfl, hb⟩; refine ⟨_, rfl, ?_⟩; have n0_ := Aside0.mk (kK BK364 hb); have n1_ := Aside0.mk (below_step (kB HB) hb); clear BK364; clear HB; have BK364 := n0_; have HB := n1_; clear n0_ n1_; (try clear hb); (try clear hb2); (try clear hk); (try clear hi)))
  go_ret
  exact ⟨e1, kB HB⟩

/-! ### spec_foApply: function 86 -/
mutual
def spec_foApply.l0 : Nat → List Int → List Int → List (List Int) → Int → Int → Option (List Int)
 | 0, _, _, _, _, _ => none
 | k + 1, x1, x5, x12, x13, x14 => if x14 < x13 then (if 0 ≤ x14 then (if x14 < (x12.length : Int) then (spec_foApply.l1 k x1 x5 0 x12 x13 x14 (rd_L2 x12 x14) ((rd_L2 x12 x14).length : Int) 0) else (none)) else (none)) else (some x5)
def spec_foApply.l1 : Nat → List Int → List Int → Int → List (List Int) → Int → Int → List Int → Int → Int → Option (List Int)
 | 0, _, _, _, _, _, _, _, _, _ => none
 | k + 1, x1, x5, x8, x12, x13, x14, x18, x19, x20 => if x20 < x19 then (if 0 ≤ x20 then (if x20 < (x18.length : Int) then (if x20 < (x1.length : Int) then (spec_foApply.l1 k x1 x5 (wrap64 (x8 + (wrap64 ((rd x18 x20) * (rd x1 x20))))) x12 x13 x14 x18 x19 (wrap64 (x20 + 1))) else (none)) else (none)) else (none)) else (if x5.length < 17592186044416 then (spec_foApply.l0 k x1 (x5 ++ [x8]) x12 x13 (wrap64 (x14 + 1))) else (none))
end
def spec_foApply.f (k : Nat) (l0_0 : List (List Int)) (l1 : List Int) : Option (List Int) := spec_foApply.l0 k l1 ([] : List Int) l0_0 (l0_0.length : Int) 0
theorem spec_foApply.mono_l : ∀ k, (∀ y0 y1 y2 y3 y4, LeO (spec_foApply.l0 k y0 y1 y2 y3 y4) (spec_foApply.l0 (k + 1) y0 y1 y2 y3 y4)) ∧ (∀ y0 y1 y2 y3 y4 y5 y6 y7 y8, LeO (spec_foApply.l1 k y0 y1 y2 y3 y4 y5 y6 y7 y8) (spec_foApply.l1 (k + 1) y0 y1 y2 y3 y4 y5 y6 y7 y8))
 | 0 => ⟨fun _ _ _ _ _ r h => by simp [spec_foApply.l0] at h, fun _ _ _ _ _ _ _ _ _ r h => by simp [spec_foApply.l1] at h⟩
 | k + 1 => by
  obtain ⟨ih0, ih1⟩ := spec_foApply.mono_l k
  refine ⟨?_, ?_⟩
  ·
   intro y0 y1 y2 y3 y4
   unfold spec_foApply.l0
   repeat' first
   | (with_reducible exact ih0 _ _ _ _ _)
   | (with_reducible exact ih1 _ _ _ _ _ _ _ _ _)
   | (with_reducible exact LeO.refl _)
   | (with_reducible exact LeO.none _)
   | (with_reducible refine LeO.ite ?_ ?_)
   | (with_reducible refine LeO.bind ?_ (fun _ => ?_))
   | exact ih0 _ _ _ _ _
   | exact ih1 _ _ _ _ _ _ _ _ _
   | exact LeO.none _
   | refine LeO.ite ?_ ?_
   | refine LeO.bind ?_ (fun _ => ?_)
  ·
   intro y0 y1 y2 y3 y4 y5 y6 y7 y8
   unfold spec_foApply.l1
   repeat' first
   | (with_reducible exact ih0 _ _ _ _ _)
   | (with_reducible exact ih1 _ _ _ _ _ _ _ _ _)
   | (with_reducible exact LeO.refl _)
   | (with_reducible exact LeO.none _)
   | (with_reducible refine LeO.ite ?_ ?_)
   | (with_reducible refine LeO.bind ?_ (fun _ => ?_))
   | exact ih0 _ _ _ _ _
   | exact ih1 _ _ _ _ _ _ _ _ _
   | exact LeO.none _
   | refine LeO.ite ?_ ?_
   | refine LeO.bind ?_ (fun _ => ?_)
theorem spec_foApply.mono : ∀ a0 a1 k, LeO (spec_foApply.f k a0 a1) (spec_foApply.f (k + 1) a0 a1) := by
 intro a0 a1 k
 obtain ⟨ih0, ih1⟩ := spec_foApply.mono_l k
 unfold spec_foApply.f
 repeat' first
  | (with_reducible exact ih0 _ _ _ _ _)
  | (with_reducible exact ih1 _ _ _ _ _ _ _ _ _)
  | (with_reducible exact LeO.refl _)
  | (with_reducible exact LeO.none _)
  | (with_reducible refine LeO.ite ?_ ?_)
  | (with_reducible refine LeO.bind ?_ (fun _ => ?_))
  | exact ih0 _ _ _ _ _
  | exact ih1 _ _ _ _ _ _ _ _ _
  | exact LeO.none _
  | refine LeO.ite ?_ ?_
  | refine LeO.bind ?_ (fun _ => ?_)
set_option maxHeartbeats 8000000 in
set_option maxRecDepth 100000 in
theorem spec_foApply.calls (k : Nat) (A0_0 : Option Addr) (c0_0 : Nat) (l0_0 : List (List Int)) (A1 : Option Addr) (c1 : Nat) (l1 : List Int) (r : List Int) (w : World) (hr0_0 : Kd.C (Kd.slice 3 (Kd.int .i64)) w A0_0 l0_0.length l0_0) (hc0_0 : l0_0.length ≤ c0_0) (hr1 : Kd.C (Kd.int .i64) w A1 l1.length l1) (hc1 : l1.length ≤ c1) (h : spec_foApply.f k l0_0 l1 = some r) :
 Calls Try.prog 86 #[.agg #[.slice A0_0 l0_0.length c0_0], .slice A1 l1.length c1] w fun e w' => ∃ v0_ : Value, e = .returned (v0_) ∧ Kd.R (Kd.int .i64) 3 w' w.heap.size (fun _ => True) v0_ r ∧ Below w.heap.size w w' := by
 have hu26 := Try.underlying26
 have HR0_0 := Aside0.mk hr0_0
 have HC0_0 := Aside0.mk hc0_0
 clear hr0_0 hc0_0
 have HR1 := Aside0.mk hr1
 have HC1 := Aside0.mk hc1
 clear hr1 hc1
 have HB := Aside0.mk (Below.refl w.heap.size w)
 have H : (spec_foApply.l0 k l1 ([] : List Int) l0_0 (l0_0.length : Int) 0) = some r := h
 clear h
 have H' := Aside0.mk H
 clear H
 go_enter Try.func86, Try.ntmps86
 go_wp2_with (first | ((with_reducible refine gate_dst (N := 2) rfl ?_); refine box_event ?hg (N := 2) ?hd (cs := #[.slice A0_0 l0_0.length c0_0]) (t := 26) ?hr ?_; (case hd => rfl); (case hg => rfl); (case hr => exact z116_); intro gb367 hg w3 hbox hb; have n0_ := Aside0.mk (below_step bq hb); have n1_ := Aside0.mk (hbox); have n2_ := Aside0.mk ((by rw [hg]; exact (below_size bq) : w.heap.size ≤ gb367)); have n3_ := Aside0.mk ((by rw [hg]; exact (below_size bq) : w.heap.size ≤ gb367)); clear HB; have HB := n0_; have BK367 := n1_; have GW367 := n2_; have GE367 := n3_; clear n0_ n1_ n2_ n3_; clear hb hbox hg; have hcz4_0 : w3.cell? ⟨gb367, 0, none⟩ = some (.slice A0_0 l0_0.length c0_0) := (blk_cell BK367.out 0).trans rfl; have hfz4_0 := blk_frozen BK367.out 0))
 go_loopg [5, 14] k (fun kq v5 v14 w' => ∃ (x5_1 : List Int) (x14_1 : Int), v14 = .int .i64 x14_1 ∧ Aside0 (spec_foApply.l0 kq l1 x5_1 l0_0 (l0_0.length : Int) x14_1 = some r) ∧ Aside0 (kq ≤ k) ∧ Aside0 (Kd.R (Kd.int .i64) 3 w' w.heap.size (fun _ => True) v5 x5_1) ∧ Aside0 (w'.heap[gb367]? = some (.cells #[(.slice A0_0 l0_0.length c0_0)] 26 (0, 0))) ∧ Aside0 (Below w.heap.size w w'))
 case atStart => exact ⟨(([] : List Int)), (0), e2, H', ⟨Nat.le_refl _⟩, ⟨z59_⟩, ⟨z90_⟩, ⟨kB HB⟩⟩
 case round =>
  clear H'; (try clear c1); (try clear p2); (try clear hcz4_0); (try clear hfz4_0)
  obtain ⟨x5_1, x14_1, rfl, HA, HK1, HO_5, BK367, HB⟩ := hrel
  cases gk with
  | zero => exact absurd HA.out (by simp [spec_foApply.l0])
  | succ k1 =>
   have H := HA.out
   clear HA
   simp only [spec_foApply.l0] at H
   by_cases c5 : x14_1 < (l0_0.length : Int)
   ·
    rw [if_pos c5] at H
    have c5b0 : decide (x14_1 < (l0_0.length : Int)) = true := decide_eq_true c5
    clear c5
    by_cases c6 : 0 ≤ x14_1
    ·
     rw [if_pos c6] at H
     have c6b0 : decide (0 ≤ x14_1) = true := decide_eq_true c6
     clear c6
     by_cases c7 : x14_1 < (l0_0.length : Int)
     ·
      rw [if_pos c7] at H
      have c7b0 : decide (x14_1 < (l0_0.length : Int)) = true := decide_eq_true c7
      clear c7
      have H' := Aside0.mk H
      clear H
      have p368 : 0 ≤ (x14_1 : Int) := od
      have q368 : x14_1 < (l0_0.length : Int) := od
      obtain ⟨ad368, A368_0, c368_0, e368, hx368_0, hl368_0, hi368_0⟩ := at_L2 HR0_0.out x14_1 p368 q368
      cases e368
      replace hx368_0 := (HB.out.cell (World.block_lt_of_cell? w _ hx368_0)).trans hx368_0
      have HR368_0 := Aside0.mk hi368_0
      have HC368_0 := Aside0.mk hl368_0
      clear hi368_0 hl368_0
      replace p368 := eq_true p368
      replace q368 := eq_true q368
      go_wp2
      go_loopg [8, 20] k1 (fun kq v8 v20 w' => ∃ (x8_2 : Int) (x20_2 : Int), v8 = .int .i64 x8_2 ∧ v20 = .int .i64 x20_2 ∧ Aside0 (spec_foApply.l1 kq l1 x5_1 x8_2 l0_0 (l0_0.length : Int) x14_1 (rd_L2 l0_0 x14_1) ((rd_L2 l0_0 x14_1).length : Int) x20_2 = some r) ∧ Aside0 (kq ≤ k1) ∧ Aside0 (Kd.R (Kd.int .i64) 3 w' w.heap.size (fun _ => True) u5 x5_1) ∧ Aside0 (w'.heap[gb367]? = some (.cells #[(.slice (some ad368) l0_0.length c0_0)] 26 (0, 0))) ∧ Aside0 (Below w.heap.size w w'))
      case atStart => exact ⟨(0), (0), e2, e2, H', ⟨Nat.le_refl _⟩, ⟨z115_⟩, ⟨z90_⟩, ⟨kB HB⟩⟩
      case round =>
       clear H'; (try clear c1); (try clear p2); (try clear c3); (try clear p3); (try clear q3); (try clear hx3); (try clear c5); (try clear c5b0); (try clear c6); (try clear c6b0); (try clear c7); (try clear c7b0); (try clear hcz4_0); (try clear hfz4_0); (try clear hx368_0); (try clear p2); (try clear p368); (try clear q368)
       obtain ⟨x8_2, x20_2, rfl, rfl, HA, HK2, HO_5, BK367, HB⟩ := hrel
       cases gk with
       | zero => exact absurd HA.out (by simp [spec_foApply.l1])
       | succ k2 =>
        have H := HA.out
        clear HA
        simp only [spec_foApply.l1] at H
        by_cases c8 : x20_2 < ((rd_L2 l0_0 x14_1).length : Int)
        ·
         rw [if_pos c8] at H
         have c8b0 : decide (x20_2 < ((rd_L2 l0_0 x14_1).length : Int)) = true := decide_eq_true c8
         clear c8
         by_cases c9 : 0 ≤ x20_2
         ·
          rw [if_pos c9] at H
          have c9b0 : decide (0 ≤ x20_2) = true := decide_eq_true c9
          clear c9
          by_cases c10 : x20_2 < ((rd_L2 l0_0 x14_1).length : Int)
          ·
           rw [if_pos c10] at H
           have c10b0 : decide (x20_2 < ((rd_L2 l0_0 x14_1).length : Int)) = true := decide_eq_true c10
           clear c10
           by_cases c11 : x20_2 < (l1.length : Int)
           ·
            rw [if_pos c11] at H
            have c11b0 : decide (x20_2 < (l1.length : Int)) = true := decide_eq_true c11
            clear c11
            have H' := Aside0.mk H
            clear H
            have p369 : 0 ≤ (x20_2 : Int) := od
            have q369 : x20_2 < ((rd_L2 l0_0 x14_1).length : Int) := od
            obtain ⟨ad369, e369, hx369_0⟩ := Kd.at_int HR368_0.out x20_2 p369 q369
            cases e369
            replace hx369_0 := (HB.out.cell (World.block_lt_of_cell? w _ hx369_0)).trans hx369_0
            replace p369 := eq_true p369
            replace q369 := eq_true q369
            have p370 : 0 ≤ (x20_2 : Int) := od
            have q370 : x20_2 < (l1.length : Int) := od
            obtain ⟨ad370, e370, hx370_0⟩ := Kd.at_int HR1.out x20_2 p370 q370
            cases e370
            replace hx370_0 := (HB.out.cell (World.block_lt_of_cell? w _ hx370_0)).trans hx370_0
            replace p370 := eq_true p370
            replace q370 := eq_true q370
            go_wp2
            go_roundg k2
            case measure => have := HK1.out; have := HK2.out; omega
            case rel => exact ⟨(wrap64 (x8_2 + (wrap64 ((rd (rd_L2 l0_0 x14_1) x20_2) * (rd l1 x20_2))))), (wrap64 (x20_2 + 1)), e2, e2, H', ⟨by have := HK1.out; have := HK2.out; omega⟩, ⟨z115_⟩, ⟨z90_⟩, ⟨kB HB⟩⟩
           ·
            rw [if_neg c11] at H
            exact absurd H (by simp)
          ·
           rw [if_neg c10] at H
           exact absurd H (by simp)
         ·
          rw [if_neg c9] at H
          exact absurd H (by simp)
        ·
         rw [if_neg c8] at H
         have c8b0 : decide (x20_2 < ((rd_L2 l0_0 x14_1).length : Int)) = false := decide_eq_false c8
         clear c8
         by_cases c12 : x5_1.length < 17592186044416
         ·
          rw [if_pos c12] at H
          have LMc12 := Aside0.mk c12
          clear c12
          obtain ⟨y371, hy371⟩ : ∃ y_ : List Int, y_ = (x5_1 ++ [x8_2]) := ⟨_, rfl⟩
          replace H : (spec_foApply.l0 k2 l1 y371 l0_0 (l0_0.length : Int) (wrap64 (x14_1 + 1))) = some r := by first | (rw [hy371]; with_reducible exact H) | (have H2_ := (Option.bind_some _ _).symm.trans H; rw [hy371]; with_reducible exact H2_) | (have H2_ := (Option.bind_some _ _).symm.trans H; with_reducible exact H2_) | with_reducible exact H | (rw [hy371]; exact H) | exact H
          have Ny371 := Aside0.mk hy371
          clear hy371
          have H' := Aside0.mk H
          clear H
          go_wp2_with (first | ((with_reducible refine gate_builtin (b := .append) (xs := #[.tmp 34, .tmp 36]) rfl ?_); at_builtin; refine Kd.R_append (Kd.int .i64) (w0 := w) w.heap.size rfl (.tmp 34) (.tmp 36) 34 3 (.int .i64 0) 8 rfl Try.underlying34 info3 rfl (by decide) (by omega) u5 x5_1 x8_2 [.int .i64 x8_2] (fun _ => True) (fun _ => False) rfl rfl ?aP (fun _ hk => hk.elim) ?aF ?aO ?aB ?aS ?aL ?_; (case aP => exact rfl); (case aB => exact (kB HB)); (case aF => exact (fun _ _ => trivial)); (case aO => exact (rA HO_5)); (case aS => exact (below_size (kB HB))); (case aL => have := LMc12.out; omega); intro v372 w13 ho hb hg hat; rw [← Ny371.out] at ho; have n0_ := Aside0.mk (blk_grown (g := gb367) (o := .cells #[.slice (some ad368) l0_0.length c0_0] 26 (0, 0)) (bA BK367) hg (Kd.R_ne HO_5.out BK367.out (by decide))); have n1_ := Aside0.mk (hb); have n2_ := Aside0.mk (ho); clear BK367; clear HB; clear HO_5; have BK367 := n0_; have HB := n1_; have HO373 := n2_; clear n0_ n1_ n2_; clear ho hb hg hat))
          go_roundg k2
          case measure => have := HK1.out; have := HK2.out; omega
          case rel => exact ⟨(y371), (wrap64 (x14_1 + 1)), e2, H', ⟨by have := HK1.out; have := HK2.out; omega⟩, ⟨by (with_reducible repeat (first | apply Kd.R_alloc | apply Kd.R_drewN | apply Kd.R_drew)); exact HO373.out⟩, ⟨z90_⟩, ⟨kB HB⟩⟩
         ·
          rw [if_neg c12] at H
          exact absurd H (by simp)
     ·
      rw [if_neg c7] at H
      exact absurd H (by simp)
    ·
     rw [if_neg c6] at H
     exact absurd H (by simp)
   ·
    rw [if_neg c5] at H
    have c5b0 : decide (x14_1 < (l0_0.length : Int)) = false := decide_eq_false c5
    clear c5
    obtain rfl := Option.some.inj H
    go_wp2
    go_ret
    exact ⟨_, e1, z115_, kB HB⟩

end Go.Proofs.Ytldkkfpodldbgaa.P
