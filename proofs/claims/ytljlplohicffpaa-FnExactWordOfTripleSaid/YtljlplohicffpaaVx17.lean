-- Written by a program of this session (wip/mkprint.py over the kit's print), out of the translation. Not trusted: Lean checks it.
import Derived.Test.YtljlplohicffpaaVx0
import Derived.Test.YtljlplohicffpaaVx16
namespace Go.Proofs.Ytljlplohicffpaa.P
open Go.RowKit Go.Proofs.YtljlplohicffpaaW.PrintWords Go.Proofs.YtljlplohicffpaaW.PrintLast Go.Proofs.YtljlplohicffpaaW.PrintMore
attribute [local go_sem] max2_int min2_int max_two min_two max_three min_three max_four min_four   -- for this text's walks alone
set_option linter.unusedVariables false
set_option linter.unusedSimpArgs false

/-! ### impl_CohnMatrix: function 17 -/
mutual
def impl_CohnMatrix.l0 : Nat → ByteArray → Int → Int → List (List Int) → Option ((List (List Int)) × Bool)
 | 0, _, _, _, _ => none
 | k + 1, x0, x13, x14, x459000 => if x14 < x13 then (if 0 ≤ x14 then (if x14 < (x0.size : Int) then (if (bt x0 x14) = 98 then (impl_CohnMatrix.j1 k x0 x13 x14 x459000 (([(([5, 2] : List Int)), (([2, 1] : List Int))] : List (List Int)))) else (impl_CohnMatrix.j1 k x0 x13 x14 x459000 (([(([2, 1] : List Int)), (([1, 1] : List Int))] : List (List Int))))) else (none)) else (none)) else (some (x459000, true))
def impl_CohnMatrix.j1 : Nat → ByteArray → Int → Int → List (List Int) → List (List Int) → Option ((List (List Int)) × Bool)
 | 0, _, _, _, _, _ => none
 | k + 1, x0, x13, x14, x459000, x469000 => (impl_Matrix_times.f x459000 x469000).bind fun t478 => ((impl_IsMatrix.f t478).bind fun t481 => (if t481 = true then (impl_CohnMatrix.l0 k x0 x13 (wrap64 (x14 + 1)) t478) else (some (([] : List (List Int)), false))))
end
def impl_CohnMatrix.f (k : Nat) (a0 : ByteArray) : Option ((List (List Int)) × Bool) := (impl_IsLetters.f a0).bind fun t454 => (if t454 = true then ((impl_unit.f 2).bind fun t455 => (impl_CohnMatrix.l0 k a0 (a0.size : Int) 0 t455)) else (some (([] : List (List Int)), false)))
theorem impl_CohnMatrix.mono_l : ∀ k, (∀ y0 y1 y2 y3, LeO (impl_CohnMatrix.l0 k y0 y1 y2 y3) (impl_CohnMatrix.l0 (k + 1) y0 y1 y2 y3)) ∧ (∀ y0 y1 y2 y3 y4, LeO (impl_CohnMatrix.j1 k y0 y1 y2 y3 y4) (impl_CohnMatrix.j1 (k + 1) y0 y1 y2 y3 y4))
 | 0 => ⟨fun _ _ _ _ r h => by simp [impl_CohnMatrix.l0] at h, fun _ _ _ _ _ r h => by simp [impl_CohnMatrix.j1] at h⟩
 | k + 1 => by
  obtain ⟨ih0, ih1⟩ := impl_CohnMatrix.mono_l k
  refine ⟨?_, ?_⟩
  ·
   intro y0 y1 y2 y3
   unfold impl_CohnMatrix.l0
   repeat' first
   | (with_reducible exact ih0 _ _ _ _)
   | (with_reducible exact ih1 _ _ _ _ _)
   | (with_reducible exact LeO.refl _)
   | (with_reducible exact LeO.none _)
   | (with_reducible refine LeO.ite ?_ ?_)
   | (with_reducible refine LeO.bind ?_ (fun _ => ?_))
   | exact ih0 _ _ _ _
   | exact ih1 _ _ _ _ _
   | exact LeO.none _
   | refine LeO.ite ?_ ?_
   | refine LeO.bind ?_ (fun _ => ?_)
  ·
   intro y0 y1 y2 y3 y4
   unfold impl_CohnMatrix.j1
   repeat' first
   | (with_reducible exact ih0 _ _ _ _)
   | (with_reducible exact ih1 _ _ _ _ _)
   | (with_reducible exact LeO.refl _)
   | (with_reducible exact LeO.none _)
   | (with_reducible refine LeO.ite ?_ ?_)
   | (with_reducible refine LeO.bind ?_ (fun _ => ?_))
   | exact ih0 _ _ _ _
   | exact ih1 _ _ _ _ _
   | exact LeO.none _
   | refine LeO.ite ?_ ?_
   | refine LeO.bind ?_ (fun _ => ?_)
theorem impl_CohnMatrix.mono : ∀ a0 k, LeO (impl_CohnMatrix.f k a0) (impl_CohnMatrix.f (k + 1) a0) := by
 intro a0 k
 obtain ⟨ih0, ih1⟩ := impl_CohnMatrix.mono_l k
 unfold impl_CohnMatrix.f
 repeat' first
  | (with_reducible exact ih0 _ _ _ _)
  | (with_reducible exact ih1 _ _ _ _ _)
  | (with_reducible exact LeO.refl _)
  | (with_reducible exact LeO.none _)
  | (with_reducible refine LeO.ite ?_ ?_)
  | (with_reducible refine LeO.bind ?_ (fun _ => ?_))
  | exact ih0 _ _ _ _
  | exact ih1 _ _ _ _ _
  | exact LeO.none _
  | refine LeO.ite ?_ ?_
  | refine LeO.bind ?_ (fun _ => ?_)
set_option maxHeartbeats 8000000 in
set_option maxRecDepth 100000 in
theorem impl_CohnMatrix.calls (k : Nat) (a0 : ByteArray) (r1 : List (List Int)) (r2 : Bool) (w : World) (h : impl_CohnMatrix.f k a0 = some (r1, r2)) :
 Calls Try.prog 17 #[.string a0] w fun e w' => ∃ v0_ : Value, e = .returned (.tuple #[.agg #[v0_], .bool r2]) ∧ Kd.N (Kd.slice 3 (Kd.int .i64)) 22 w' w.heap.size (fun k_ => (w.heap.size ≤ k_)) v0_ r1 ∧ Below w.heap.size w w' := by
 have hu34 := Try.underlying34
 have HB := Aside0.mk (Below.refl w.heap.size w)
 have H : ((impl_IsLetters.f a0).bind fun t454 => (if t454 = true then ((impl_unit.f 2).bind fun t455 => (impl_CohnMatrix.l0 k a0 (a0.size : Int) 0 t455)) else (some (([] : List (List Int)), false)))) = some (r1, r2) := h
 clear h
 replace H := Option.bind_eq_some_iff.mp H
 obtain ⟨t454, A20, H⟩ := H
 replace H : (if t454 = true then ((impl_unit.f 2).bind fun t455 => (impl_CohnMatrix.l0 k a0 (a0.size : Int) 0 t455)) else (some (([] : List (List Int)), false))) = some (r1, r2) := H
 have A2 := Aside0.mk A20
 clear A20
 by_cases c3 : t454 = true
 ·
  subst c3
  have H1 : ((impl_unit.f 2).bind fun t455 => (impl_CohnMatrix.l0 k a0 (a0.size : Int) 0 t455)) = some (r1, r2) := by rw [if_pos rfl] at H; exact H
  clear H
  have H := H1
  clear H1
  replace H := Option.bind_eq_some_iff.mp H
  obtain ⟨t455, A40, H⟩ := H
  replace H : (impl_CohnMatrix.l0 k a0 (a0.size : Int) 0 t455) = some (r1, r2) := H
  have A4 := Aside0.mk A40
  clear A40
  have H' := Aside0.mk H
  clear H
  go_enter Try.func17, Try.ntmps17
  go_wp2_with (first | ((with_reducible refine gate_dst (N := 2) rfl ?_); refine box_event ?hg (N := 2) ?hd (cs := #[.slice none 0 0]) (t := 34) ?hr ?_; (case hd => rfl); (case hg => rfl); (case hr => first | (go_simp; done) | (go_simp; rfl)); intro gb453 hg w5 hbox hb; have n0_ := Aside0.mk (below_step (by repeat (first | (with_reducible first | exact HB.out | apply below_alloc | apply pw_below_drewN | apply below_drew1) | exact HB.out | exact Below.refl _ _)) hb); have n1_ := Aside0.mk (hbox); have n2_ := Aside0.mk ((by rw [hg]; exact (below_size (by repeat (first | (with_reducible first | exact HB.out | apply below_alloc | apply pw_below_drewN | apply below_drew1) | exact HB.out | exact Below.refl _ _))) : w.heap.size ≤ gb453)); have n3_ := Aside0.mk ((by rw [hg]; exact (below_size (by repeat (first | (with_reducible first | exact HB.out | apply below_alloc | apply pw_below_drewN | apply below_drew1) | exact HB.out | exact Below.refl _ _))) : w.heap.size ≤ gb453)); clear HB; have HB := n0_; have BK453 := n1_; have GW453 := n2_; have GE453 := n3_; clear n0_ n1_ n2_ n3_; clear hb hbox hg) | ((with_reducible refine gate_callee (f := 32) rfl ?_); refine goesL_ (some 8) rfl rfl Try.func32 (by kernel_rfl) rfl #[.string a0] rfl (by (try simp only [List.map_toArray, List.map_cons, List.map_nil]); first | done | rfl | (simp only [List.length_drop, List.length_take]; rfl)) ?_; (with_reducible refine (impl_IsLetters.calls a0 true _ A2.out).mono ?_); rintro e w6 ⟨rfl, hb⟩; refine ⟨_, rfl, ?_⟩; have n0_ := Aside0.mk (blk_below (g := gb453) (o := .cells #[.slice none 0 0] 34 (0, 0)) (by (with_reducible repeat (first | refine blk_drewN ?_ _ | refine blk_drew ?_ | refine blk_alloc ?_ _)); exact BK453.out) hb); have n1_ := Aside0.mk (below_step (by repeat (first | (with_reducible first | exact HB.out | apply below_alloc | apply pw_below_drewN | apply below_drew1 | refine below_set ?_ GE453.out) | exact HB.out | exact Below.refl _ _)) hb); clear BK453; clear HB; have BK453 := n0_; have HB := n1_; clear n0_ n1_; (try clear hb); (try clear hb2); (try clear hk); (try clear hi)) | ((with_reducible refine gate_callee (f := 33) rfl ?_); refine goesL_ (some 11) rfl rfl Try.func33 (by kernel_rfl) rfl #[.int .i64 2] rfl (by (try simp only [List.map_toArray, List.map_cons, List.map_nil]); first | done | rfl | (simp only [List.length_drop, List.length_take]; rfl)) ?_; (with_reducible refine (impl_unit.calls 2 t455 _ A4.out).mono ?_); rintro e w7 ⟨v456, rfl, ho0, hb⟩; refine ⟨_, rfl, ?_⟩; have n0_ := Aside0.mk (Kd.N_lower (Kd.N_mono (ok' := fun k_ => (w.heap.size ≤ k_) ∧ k_ ≠ gb453) (Kd.S_N (Kd.S_bound ho0)) (fun k_ hk_ => ⟨(Nat.le_trans (below_size (by repeat (first | (with_reducible first | exact HB.out | apply below_alloc | apply pw_below_drewN | apply below_drew1 | refine below_set ?_ GE453.out) | exact HB.out | exact Below.refl _ _))) hk_.2.1), (Kd.freshB (g := gb453) (o := .cells #[.slice none 0 0] 34 (0, 0)) (by (with_reducible repeat (first | refine blk_drewN ?_ _ | refine blk_drew ?_ | refine blk_alloc ?_ _)); exact BK453.out) k_ hk_.2.1)⟩)) (below_size (by repeat (first | (with_reducible first | exact HB.out | apply below_alloc | apply pw_below_drewN | apply below_drew1 | refine below_set ?_ GE453.out) | exact HB.out | exact Below.refl _ _)))); have n1_ := Aside0.mk (blk_below (g := gb453) (o := .cells #[.slice none 0 0] 34 (0, 0)) (by (with_reducible repeat (first | refine blk_drewN ?_ _ | refine blk_drew ?_ | refine blk_alloc ?_ _)); exact BK453.out) hb); have n2_ := Aside0.mk (below_step (by repeat (first | (with_reducible first | exact HB.out | apply below_alloc | apply pw_below_drewN | apply below_drew1 | refine below_set ?_ GE453.out) | exact HB.out | exact Below.refl _ _)) hb); clear BK453; clear HB; have HO457 := n0_; have BK453 := n1_; have HB := n2_; clear n0_ n1_ n2_; (try clear hb); (try clear hb2); (try clear hk); (try clear hi); (try clear ho0)) | ((with_reducible refine gate_dst (N := 4) rfl ?_); refine box_event ?hg (N := 4) ?hd (cs := #[.slice none 0 0]) (t := 34) ?hr ?_; (case hd => rfl); (case hg => rfl); (case hr => first | (go_simp; done) | (go_simp; rfl)); intro gb458 hg w8 hbox hb; have n0_ := Aside0.mk (Kd.N_below (Kd.N_elderB (by (with_reducible repeat (first | apply Kd.N_alloc | apply Kd.N_drewN | apply Kd.N_drew)); exact HO457.out) gb458 (Nat.le_of_eq hg.symm)) hb); have n1_ := Aside0.mk (blk_below (g := gb453) (o := .cells #[.slice none 0 0] 34 (0, 0)) (by (with_reducible repeat (first | refine blk_drewN ?_ _ | refine blk_drew ?_ | refine blk_alloc ?_ _)); exact BK453.out) hb); have n2_ := Aside0.mk (below_step (by repeat (first | (with_reducible first | exact HB.out | apply below_alloc | apply pw_below_drewN | apply below_drew1 | refine below_set ?_ GE453.out) | exact HB.out | exact Below.refl _ _)) hb); have n3_ := Aside0.mk (hbox); have n4_ := Aside0.mk ((by rw [hg]; exact (below_size (by repeat (first | (with_reducible first | exact HB.out | apply below_alloc | apply pw_below_drewN | apply below_drew1 | refine below_set ?_ GE453.out) | exact HB.out | exact Below.refl _ _))) : w.heap.size ≤ gb458)); have n5_ := Aside0.mk ((by rw [hg]; exact (below_size (by repeat (first | (with_reducible first | exact HB.out | apply below_alloc | apply pw_below_drewN | apply below_drew1 | refine below_set ?_ GE453.out) | exact HB.out | exact Below.refl _ _))) : w.heap.size ≤ gb458)); have n6_ := Aside0.mk ((by rw [hg]; exact Nat.ne_of_lt (blk_lt (g := gb453) (o := .cells #[.slice none 0 0] 34 (0, 0)) (by (with_reducible repeat (first | refine blk_drewN ?_ _ | refine blk_drew ?_ | refine blk_alloc ?_ _)); exact BK453.out)) : gb453 ≠ gb458)); have n7_ := Aside0.mk ((by rw [hg]; exact Nat.ne_of_gt (blk_lt (g := gb453) (o := .cells #[.slice none 0 0] 34 (0, 0)) (by (with_reducible repeat (first | refine blk_drewN ?_ _ | refine blk_drew ?_ | refine blk_alloc ?_ _)); exact BK453.out)) : gb458 ≠ gb453)); clear HO457; clear BK453; clear HB; have HO457 := n0_; have BK453 := n1_; have HB := n2_; have BK458 := n3_; have GW458 := n4_; have GE458 := n5_; have NB453_458 := n6_; have NB458_453 := n7_; clear n0_ n1_ n2_ n3_ n4_ n5_ n6_ n7_; clear hb hbox hg; obtain ⟨Ao9, co9, eo9⟩ := Kd.N_slice HO457.out; subst eo9; have hnb10 := NB458_453.out; have hnc10 := NB453_458.out; have hcz11_0 : w8.cell? ⟨gb458, 0, none⟩ = some (.slice none 0 0) := (blk_cell BK458.out 0).trans rfl; have hfz11_0 := blk_frozen BK458.out 0))
  go_loopg [14] k (fun kq v14 w' => ∃ (x14_1 : Int) (x459000_1 : List (List Int)) (u459000 : Value), v14 = .int .i64 x14_1 ∧ Aside0 (impl_CohnMatrix.l0 kq a0 (a0.size : Int) x14_1 x459000_1 = some (r1, r2)) ∧ Aside0 (kq ≤ k) ∧ Aside0 (Kd.N (Kd.slice 3 (Kd.int .i64)) 22 w' w.heap.size (fun k_ => (w.heap.size ≤ k_) ∧ k_ ≠ gb453 ∧ k_ ≠ gb458) u459000 x459000_1) ∧ Aside0 (w'.heap[gb453]? = some (.cells #[(.slice none 0 0)] 34 (0, 0))) ∧ Aside0 (w'.heap[gb458]? = some (.cells #[u459000] 34 (0, 0))) ∧ Aside0 (Below w.heap.size w w'))
  case atStart => exact ⟨(0), (t455), (.slice Ao9 t455.length co9), (by first | rfl | (simp; done) | (simp [*]; done)), H', ⟨Nat.le_refl _⟩, ⟨by (with_reducible repeat (first | apply Kd.N_alloc | apply Kd.N_drewN | apply Kd.N_drew)); exact Kd.N_mono (Kd.N_far (p := ⟨gb458, 0, none⟩) (Kd.N_mono HO457.out (fun k_ hk => (⟨hk, hk.2⟩ : _ ∧ k_ ≠ gb458))) (fun _ hk => hk.2) (.slice Ao9 t455.length co9)) (fun _ hk => ⟨hk.1.1.1, ⟨hk.1.1.2, hk.1.2⟩⟩)⟩, ⟨by (with_reducible repeat (first | refine blk_drewN ?_ _ | refine blk_drew ?_ | refine blk_alloc ?_ _)); refine blk_far ?_ NB453_458.out _; (with_reducible repeat (first | refine blk_drewN ?_ _ | refine blk_drew ?_ | refine blk_alloc ?_ _)); exact BK453.out⟩, ⟨by (with_reducible repeat (first | refine blk_drewN ?_ _ | refine blk_drew ?_ | refine blk_alloc ?_ _)); refine blk_put (cs := #[.slice none 0 0]) ?_ 0 _ rfl; (with_reducible repeat (first | refine blk_drewN ?_ _ | refine blk_drew ?_ | refine blk_alloc ?_ _)); exact BK458.out⟩, ⟨by repeat (first | (with_reducible first | exact HB.out | apply below_alloc | apply pw_below_drewN | apply below_drew1 | refine below_set ?_ GE453.out | refine below_set ?_ GE458.out) | exact HB.out | exact Below.refl _ _)⟩⟩
  case round =>
   clear H'; (try clear c1); (try clear p2); (try clear c3); (try clear c10); (try clear hcz11_0); (try clear hfz11_0)
   obtain ⟨x14_1, x459000_1, u459000, rfl, HA, HK1, HO_459000, BK453, BK458, HB⟩ := hrel
   cases gk with
   | zero => exact absurd HA.out (by simp [impl_CohnMatrix.l0])
   | succ k1 =>
    have H := HA.out
    clear HA
    simp only [impl_CohnMatrix.l0] at H
    by_cases c12 : x14_1 < (a0.size : Int)
    ·
     rw [if_pos c12] at H
     have c12b0 : decide (x14_1 < (a0.size : Int)) = true := decide_eq_true c12
     clear c12
     obtain ⟨y459, hy459⟩ : ∃ y_ : List Int, y_ = (([2, 1] : List Int)) := ⟨_, rfl⟩
     replace H : (if 0 ≤ x14_1 then (if x14_1 < (a0.size : Int) then (if (bt a0 x14_1) = 98 then (impl_CohnMatrix.j1 k1 a0 (a0.size : Int) x14_1 x459000_1 (([(([5, 2] : List Int)), (([2, 1] : List Int))] : List (List Int)))) else (impl_CohnMatrix.j1 k1 a0 (a0.size : Int) x14_1 x459000_1 (([y459, (([1, 1] : List Int))] : List (List Int))))) else (none)) else (none)) = some (r1, r2) := by first | (rw [hy459]; with_reducible exact H) | (have H2_ := (Option.bind_some _ _).symm.trans H; rw [hy459]; with_reducible exact H2_) | (have H2_ := (Option.bind_some _ _).symm.trans H; with_reducible exact H2_) | with_reducible exact H | (rw [hy459]; exact H) | exact H
     have Ny459 := Aside0.mk hy459
     clear hy459
     obtain ⟨y462, hy462⟩ : ∃ y_ : List Int, y_ = (([1, 1] : List Int)) := ⟨_, rfl⟩
     replace H : (if 0 ≤ x14_1 then (if x14_1 < (a0.size : Int) then (if (bt a0 x14_1) = 98 then (impl_CohnMatrix.j1 k1 a0 (a0.size : Int) x14_1 x459000_1 (([(([5, 2] : List Int)), (([2, 1] : List Int))] : List (List Int)))) else (impl_CohnMatrix.j1 k1 a0 (a0.size : Int) x14_1 x459000_1 (([y459, y462] : List (List Int))))) else (none)) else (none)) = some (r1, r2) := by first | (rw [hy462]; with_reducible exact H) | (have H2_ := (Option.bind_some _ _).symm.trans H; rw [hy462]; with_reducible exact H2_) | (have H2_ := (Option.bind_some _ _).symm.trans H; with_reducible exact H2_) | with_reducible exact H | (rw [hy462]; exact H) | exact H
     have Ny462 := Aside0.mk hy462
     clear hy462
     obtain ⟨y465, hy465⟩ : ∃ y_ : List (List Int), y_ = (([y459, y462] : List (List Int))) := ⟨_, rfl⟩
     replace H : (if 0 ≤ x14_1 then (if x14_1 < (a0.size : Int) then (if (bt a0 x14_1) = 98 then (impl_CohnMatrix.j1 k1 a0 (a0.size : Int) x14_1 x459000_1 (([(([5, 2] : List Int)), (([2, 1] : List Int))] : List (List Int)))) else (impl_CohnMatrix.j1 k1 a0 (a0.size : Int) x14_1 x459000_1 y465)) else (none)) else (none)) = some (r1, r2) := by first | (rw [hy465]; with_reducible exact H) | (have H2_ := (Option.bind_some _ _).symm.trans H; rw [hy465]; with_reducible exact H2_) | (have H2_ := (Option.bind_some _ _).symm.trans H; with_reducible exact H2_) | with_reducible exact H | (rw [hy465]; exact H) | exact H
     have Ny465 := Aside0.mk hy465
     clear hy465
     by_cases c13 : 0 ≤ x14_1
     ·
      rw [if_pos c13] at H
      have c13b0 : decide (0 ≤ x14_1) = true := decide_eq_true c13
      clear c13
      by_cases c14 : x14_1 < (a0.size : Int)
      ·
       rw [if_pos c14] at H
       have c14b0 : decide (x14_1 < (a0.size : Int)) = true := decide_eq_true c14
       clear c14
       have HC16 := Aside0.mk H
       clear H
       go_upto_if 24 with (first | ((with_reducible refine gate_dst (N := 17) rfl ?_); refine Kd.R_lit (Kd.int .i64) _ 3 ?hg (N := 17) ?hd (xs := ([2, 1] : List Int)) (inner := [.int .i64 2, .int .i64 1]) (ok := fun _ => True) (okp := fun _ => True) ?hr ?hp (fun _ hk => hk) trivial (Below.refl _ _) (Nat.le_refl _) (by simp) ?_; (case hd => rfl); (case hg => rfl); (case hr => first | (go_simp; done) | (go_simp; rfl)); (case hp => exact (Reps.one (show Kd.M (Kd.int .i64) _ _ _ 2 [.int .i64 2] from rfl) (Reps.one (show Kd.M (Kd.int .i64) _ _ _ 1 [.int .i64 1] from rfl) (Reps.none _ _)))); intro v460 w17 ho18 hb hg_ hnew_; clear hg_ hnew_; (first | rw [← Ny459.out] at ho18 | (simp only [Int.reduceToNat] at ho18; rw [← Ny459.out] at ho18)); have n0_ := Aside0.mk (Kd.N_elder' (by (with_reducible repeat (first | apply Kd.N_alloc | apply Kd.N_drewN | apply Kd.N_drew)); exact HO_459000.out) (Kd.R_base ho18) hb); have n1_ := Aside0.mk (Kd.R_lower (Kd.R_newM (M := fun k_ => (w.heap.size ≤ k_)) ho18 (below_size (by repeat (first | (with_reducible first | exact HB.out | apply below_alloc | apply pw_below_drewN | apply below_drew1 | refine below_set ?_ GE453.out | refine below_set ?_ GE458.out) | exact HB.out | exact Below.refl _ _))) (fun k_ h_ => h_)) (below_size (by repeat (first | (with_reducible first | exact HB.out | apply below_alloc | apply pw_below_drewN | apply below_drew1 | refine below_set ?_ GE453.out | refine below_set ?_ GE458.out) | exact HB.out | exact Below.refl _ _)))); have n2_ := Aside0.mk (blk_below (g := gb453) (o := .cells #[.slice none 0 0] 34 (0, 0)) (by (with_reducible repeat (first | refine blk_drewN ?_ _ | refine blk_drew ?_ | refine blk_alloc ?_ _)); exact BK453.out) hb); have n3_ := Aside0.mk (blk_below (g := gb458) (o := .cells #[u459000] 34 (0, 0)) (by (with_reducible repeat (first | refine blk_drewN ?_ _ | refine blk_drew ?_ | refine blk_alloc ?_ _)); exact BK458.out) hb); have n4_ := Aside0.mk (below_step (by repeat (first | (with_reducible first | exact HB.out | apply below_alloc | apply pw_below_drewN | apply below_drew1 | refine below_set ?_ GE453.out | refine below_set ?_ GE458.out) | exact HB.out | exact Below.refl _ _)) hb); clear HO_459000; clear BK453; clear BK458; clear HB; have HO_459000 := n0_; have HO461 := n1_; have BK453 := n2_; have BK458 := n3_; have HB := n4_; clear n0_ n1_ n2_ n3_ n4_; clear hb ho18) | ((with_reducible refine gate_dst (N := 18) rfl ?_); refine Kd.R_lit (Kd.int .i64) _ 3 ?hg (N := 18) ?hd (xs := ([1, 1] : List Int)) (inner := [.int .i64 1, .int .i64 1]) (ok := fun _ => True) (okp := fun _ => True) ?hr ?hp (fun _ hk => hk) trivial (Below.refl _ _) (Nat.le_refl _) (by simp) ?_; (case hd => rfl); (case hg => rfl); (case hr => first | (go_simp; done) | (go_simp; rfl)); (case hp => exact (Reps.one (show Kd.M (Kd.int .i64) _ _ _ 1 [.int .i64 1] from rfl) (Reps.one (show Kd.M (Kd.int .i64) _ _ _ 1 [.int .i64 1] from rfl) (Reps.none _ _)))); intro v463 w19 ho20 hb hg_ hnew_; clear hg_ hnew_; (first | rw [← Ny462.out] at ho20 | (simp only [Int.reduceToNat] at ho20; rw [← Ny462.out] at ho20)); have n0_ := Aside0.mk (Kd.N_elder' (by (with_reducible repeat (first | apply Kd.N_alloc | apply Kd.N_drewN | apply Kd.N_drew)); exact HO_459000.out) (Kd.R_base ho20) hb); have n1_ := Aside0.mk (Kd.R_elder' (by (with_reducible repeat (first | apply Kd.R_alloc | apply Kd.R_drewN | apply Kd.R_drew)); exact HO461.out) (Kd.R_base ho20) hb); have n2_ := Aside0.mk (Kd.R_lower (Kd.R_new' (Kd.R_newM (M := fun k_ => (w.heap.size ≤ k_)) ho20 (below_size (by repeat (first | (with_reducible first | exact HB.out | apply below_alloc | apply pw_below_drewN | apply below_drew1 | refine below_set ?_ GE453.out | refine below_set ?_ GE458.out) | exact HB.out | exact Below.refl _ _))) (fun k_ h_ => h_)) (Kd.R_lt (by (with_reducible repeat (first | apply Kd.R_alloc | apply Kd.R_drewN | apply Kd.R_drew)); exact HO461.out))) (below_size (by repeat (first | (with_reducible first | exact HB.out | apply below_alloc | apply pw_below_drewN | apply below_drew1 | refine below_set ?_ GE453.out | refine below_set ?_ GE458.out) | exact HB.out | exact Below.refl _ _)))); have n3_ := Aside0.mk (blk_below (g := gb453) (o := .cells #[.slice none 0 0] 34 (0, 0)) (by (with_reducible repeat (first | refine blk_drewN ?_ _ | refine blk_drew ?_ | refine blk_alloc ?_ _)); exact BK453.out) hb); have n4_ := Aside0.mk (blk_below (g := gb458) (o := .cells #[u459000] 34 (0, 0)) (by (with_reducible repeat (first | refine blk_drewN ?_ _ | refine blk_drew ?_ | refine blk_alloc ?_ _)); exact BK458.out) hb); have n5_ := Aside0.mk (below_step (by repeat (first | (with_reducible first | exact HB.out | apply below_alloc | apply pw_below_drewN | apply below_drew1 | refine below_set ?_ GE453.out | refine below_set ?_ GE458.out) | exact HB.out | exact Below.refl _ _)) hb); clear HO_459000; clear HO461; clear BK453; clear BK458; clear HB; have HO_459000 := n0_; have HO461 := n1_; have HO464 := n2_; have BK453 := n3_; have BK458 := n4_; have HB := n5_; clear n0_ n1_ n2_ n3_ n4_ n5_; clear hb ho20; obtain ⟨Ao21, co21, eo21⟩ := Kd.R_slice HO461.out; subst eo21; obtain ⟨Ao22, co22, eo22⟩ := Kd.R_slice HO464.out; subst eo22) | ((with_reducible refine gate_dst (N := 19) rfl ?_); refine Kd.N_lit (Kd.slice 3 (Kd.int .i64)) _ 22 ?hg (N' := 19) ?hd (xs := ([y459, y462] : List (List Int))) (inner := [.slice Ao21 y459.length co21, .slice Ao22 y462.length co22]) (ok := (fun k_ => (w.heap.size ≤ k_) ∧ some k_ ≠ (u459000 : Value).ownBlock ∧ k_ ≠ gb453 ∧ k_ ≠ gb458)) (okp := (fun k_ => (w.heap.size ≤ k_) ∧ some k_ ≠ (u459000 : Value).ownBlock ∧ k_ ≠ gb453 ∧ k_ ≠ gb458)) ?hr ?hp (fun _ hk => hk) ((show ∀ k_, w19.heap.size ≤ k_ → (fun k_ => (w.heap.size ≤ k_) ∧ some k_ ≠ (u459000 : Value).ownBlock ∧ k_ ≠ gb453 ∧ k_ ≠ gb458) k_ from fun k_ hk => ⟨(Nat.le_trans (below_size (by repeat (first | (with_reducible first | exact HB.out | apply below_alloc | apply pw_below_drewN | apply below_drew1 | refine below_set ?_ GE453.out | refine below_set ?_ GE458.out) | exact HB.out | exact Below.refl _ _))) hk), Kd.fresh' (Kd.N_lt (by (with_reducible repeat (first | apply Kd.N_alloc | apply Kd.N_drewN | apply Kd.N_drew)); exact HO_459000.out)) k_ hk, Kd.freshB (g := gb453) (o := .cells #[.slice none 0 0] 34 (0, 0)) (by (with_reducible repeat (first | refine blk_drewN ?_ _ | refine blk_drew ?_ | refine blk_alloc ?_ _)); exact BK453.out) k_ hk, Kd.freshB (g := gb458) (o := .cells #[u459000] 34 (0, 0)) (by (with_reducible repeat (first | refine blk_drewN ?_ _ | refine blk_drew ?_ | refine blk_alloc ?_ _)); exact BK458.out) k_ hk⟩) _ (Nat.le_refl _)) (Below.refl _ _) (Nat.le_refl _) (by simp) ?_; (case hd => rfl); (case hg => rfl); (case hr => first | (go_simp; done) | (go_simp; rfl)); (case hp => exact (Reps.one (show Kd.FK (Kd.slice 3 (Kd.int .i64)) _ _ y459 [.slice Ao21 y459.length co21] from (Kd.FK_slice_mk (Kd.R_reads' (Kd.R_mono (ok' := (fun k_ => (w.heap.size ≤ k_) ∧ some k_ ≠ (u459000 : Value).ownBlock ∧ k_ ≠ gb453 ∧ k_ ≠ gb458)) (Kd.R_types (Kd.R_types (Kd.R_apart' (HO461.out) (Kd.N_typed HO_459000.out) (by decide)) BK453.out (by decide)) BK458.out (by decide)) (fun k_ hk => ⟨hk.1.1.1.1.1, ⟨hk.1.1.2, ⟨hk.1.2, hk.2⟩⟩⟩))).2.1 (Kd.R_F (Kd.R_mono (ok' := (fun k_ => (w.heap.size ≤ k_) ∧ some k_ ≠ (u459000 : Value).ownBlock ∧ k_ ≠ gb453 ∧ k_ ≠ gb458)) (Kd.R_types (Kd.R_types (Kd.R_apart' (HO461.out) (Kd.N_typed HO_459000.out) (by decide)) BK453.out (by decide)) BK458.out (by decide)) (fun k_ hk => ⟨hk.1.1.1.1.1, ⟨hk.1.1.2, ⟨hk.1.2, hk.2⟩⟩⟩))))) (Reps.one (show Kd.FK (Kd.slice 3 (Kd.int .i64)) _ _ y462 [.slice Ao22 y462.length co22] from (Kd.FK_slice_mk (Kd.R_reads' (Kd.R_mono (ok' := (fun k_ => (w.heap.size ≤ k_) ∧ some k_ ≠ (u459000 : Value).ownBlock ∧ k_ ≠ gb453 ∧ k_ ≠ gb458)) (Kd.R_types (Kd.R_types (Kd.R_apart' (HO464.out) (Kd.N_typed HO_459000.out) (by decide)) BK453.out (by decide)) BK458.out (by decide)) (fun k_ hk => ⟨hk.1.1.1.1.1, ⟨hk.1.1.2, ⟨hk.1.2, hk.2⟩⟩⟩))).2.1 (Kd.R_F (Kd.R_mono (ok' := (fun k_ => (w.heap.size ≤ k_) ∧ some k_ ≠ (u459000 : Value).ownBlock ∧ k_ ≠ gb453 ∧ k_ ≠ gb458)) (Kd.R_types (Kd.R_types (Kd.R_apart' (HO464.out) (Kd.N_typed HO_459000.out) (by decide)) BK453.out (by decide)) BK458.out (by decide)) (fun k_ hk => ⟨hk.1.1.1.1.1, ⟨hk.1.1.2, ⟨hk.1.2, hk.2⟩⟩⟩))))) (Reps.none _ _)))); intro v466 w23 ho24 hb hg_ hnew_; clear hg_ hnew_; (first | rw [← Ny465.out] at ho24 | (simp only [Int.reduceToNat] at ho24; rw [← Ny465.out] at ho24)); have n0_ := Aside0.mk (Kd.N_elder' (by (with_reducible repeat (first | apply Kd.N_alloc | apply Kd.N_drewN | apply Kd.N_drew)); exact HO_459000.out) (Kd.N_base ho24) hb); have n1_ := Aside0.mk (Kd.N_lower ho24 (below_size (by repeat (first | (with_reducible first | exact HB.out | apply below_alloc | apply pw_below_drewN | apply below_drew1 | refine below_set ?_ GE453.out | refine below_set ?_ GE458.out) | exact HB.out | exact Below.refl _ _)))); have n2_ := Aside0.mk (blk_below (g := gb453) (o := .cells #[.slice none 0 0] 34 (0, 0)) (by (with_reducible repeat (first | refine blk_drewN ?_ _ | refine blk_drew ?_ | refine blk_alloc ?_ _)); exact BK453.out) hb); have n3_ := Aside0.mk (blk_below (g := gb458) (o := .cells #[u459000] 34 (0, 0)) (by (with_reducible repeat (first | refine blk_drewN ?_ _ | refine blk_drew ?_ | refine blk_alloc ?_ _)); exact BK458.out) hb); have n4_ := Aside0.mk (below_step (by repeat (first | (with_reducible first | exact HB.out | apply below_alloc | apply pw_below_drewN | apply below_drew1 | refine below_set ?_ GE453.out | refine below_set ?_ GE458.out) | exact HB.out | exact Below.refl _ _)) hb); clear HO_459000; clear BK453; clear BK458; clear HB; clear HO461; clear HO464; have HO_459000 := n0_; have HO467 := n1_; have BK453 := n2_; have BK458 := n3_; have HB := n4_; clear n0_ n1_ n2_ n3_ n4_; clear hb ho24; obtain ⟨Ao25, co25, eo25⟩ := Kd.N_slice HO467.out; subst eo25) | ((with_reducible refine gate_dst (N := 6) rfl ?_); refine box_event ?hg (N := 6) ?hd (cs := #[.slice none 0 0]) (t := 34) ?hr ?_; (case hd => rfl); (case hg => rfl); (case hr => first | (go_simp; done) | (go_simp; rfl)); intro gb468 hg w26 hbox hb; have n0_ := Aside0.mk (Kd.N_below (Kd.N_elderB (by (with_reducible repeat (first | apply Kd.N_alloc | apply Kd.N_drewN | apply Kd.N_drew)); exact HO_459000.out) gb468 (Nat.le_of_eq hg.symm)) hb); have n1_ := Aside0.mk (Kd.N_below (Kd.N_elderB (by (with_reducible repeat (first | apply Kd.N_alloc | apply Kd.N_drewN | apply Kd.N_drew)); exact HO467.out) gb468 (Nat.le_of_eq hg.symm)) hb); have n2_ := Aside0.mk (blk_below (g := gb453) (o := .cells #[.slice none 0 0] 34 (0, 0)) (by (with_reducible repeat (first | refine blk_drewN ?_ _ | refine blk_drew ?_ | refine blk_alloc ?_ _)); exact BK453.out) hb); have n3_ := Aside0.mk (blk_below (g := gb458) (o := .cells #[u459000] 34 (0, 0)) (by (with_reducible repeat (first | refine blk_drewN ?_ _ | refine blk_drew ?_ | refine blk_alloc ?_ _)); exact BK458.out) hb); have n4_ := Aside0.mk (below_step (by repeat (first | (with_reducible first | exact HB.out | apply below_alloc | apply pw_below_drewN | apply below_drew1 | refine below_set ?_ GE453.out | refine below_set ?_ GE458.out) | exact HB.out | exact Below.refl _ _)) hb); have n5_ := Aside0.mk (hbox); have n6_ := Aside0.mk ((by rw [hg]; exact (below_size (by repeat (first | (with_reducible first | exact HB.out | apply below_alloc | apply pw_below_drewN | apply below_drew1 | refine below_set ?_ GE453.out | refine below_set ?_ GE458.out) | exact HB.out | exact Below.refl _ _))) : w.heap.size ≤ gb468)); have n7_ := Aside0.mk ((by rw [hg]; exact (below_size (by repeat (first | (with_reducible first | exact HB.out | apply below_alloc | apply pw_below_drewN | apply below_drew1 | refine below_set ?_ GE453.out | refine below_set ?_ GE458.out) | exact HB.out | exact Below.refl _ _))) : w.heap.size ≤ gb468)); have n8_ := Aside0.mk ((by rw [hg]; exact Nat.ne_of_lt (blk_lt (g := gb453) (o := .cells #[.slice none 0 0] 34 (0, 0)) (by (with_reducible repeat (first | refine blk_drewN ?_ _ | refine blk_drew ?_ | refine blk_alloc ?_ _)); exact BK453.out)) : gb453 ≠ gb468)); have n9_ := Aside0.mk ((by rw [hg]; exact Nat.ne_of_gt (blk_lt (g := gb453) (o := .cells #[.slice none 0 0] 34 (0, 0)) (by (with_reducible repeat (first | refine blk_drewN ?_ _ | refine blk_drew ?_ | refine blk_alloc ?_ _)); exact BK453.out)) : gb468 ≠ gb453)); have n10_ := Aside0.mk ((by rw [hg]; exact Nat.ne_of_lt (blk_lt (g := gb458) (o := .cells #[u459000] 34 (0, 0)) (by (with_reducible repeat (first | refine blk_drewN ?_ _ | refine blk_drew ?_ | refine blk_alloc ?_ _)); exact BK458.out)) : gb458 ≠ gb468)); have n11_ := Aside0.mk ((by rw [hg]; exact Nat.ne_of_gt (blk_lt (g := gb458) (o := .cells #[u459000] 34 (0, 0)) (by (with_reducible repeat (first | refine blk_drewN ?_ _ | refine blk_drew ?_ | refine blk_alloc ?_ _)); exact BK458.out)) : gb468 ≠ gb458)); clear HO_459000; clear HO467; clear BK453; clear BK458; clear HB; have HO_459000 := n0_; have HO467 := n1_; have BK453 := n2_; have BK458 := n3_; have HB := n4_; have BK468 := n5_; have GW468 := n6_; have GE468 := n7_; have NB453_468 := n8_; have NB468_453 := n9_; have NB458_468 := n10_; have NB468_458 := n11_; clear n0_ n1_ n2_ n3_ n4_ n5_ n6_ n7_ n8_ n9_ n10_ n11_; clear hb hbox hg; have hnb27 := NB468_453.out; have hnc27 := NB453_468.out; have hnb28 := NB468_458.out; have hnc28 := NB458_468.out; have hcz29_0 : w26.cell? ⟨gb468, 0, none⟩ = some (.slice none 0 0) := (blk_cell BK468.out 0).trans rfl; have hfz29_0 := blk_frozen BK468.out 0; have p15 : 0 ≤ (x14_1 : Int) := of_decide_eq_true (by first | (with_reducible assumption) | assumption); have q15 : x14_1 < (a0.size : Int) := of_decide_eq_true (by first | (with_reducible assumption) | assumption); have hx15 := bt_at a0 x14_1; replace p15 := eq_true p15; replace q15 := eq_true q15))
       (try simp only [Act.put, List.setIfInBounds_toArray, List.set_cons_zero, List.set_cons_succ])
       go_cut [] (fun wc => ∃ (kq : Nat) (x469000_15 : List (List Int)) (u469000 : Value), Aside0 (impl_CohnMatrix.j1 kq a0 (a0.size : Int) x14_1 x459000_1 x469000_15 = some (r1, r2)) ∧ Aside0 (kq ≤ k1) ∧ Aside0 (Kd.N (Kd.slice 3 (Kd.int .i64)) 22 wc w.heap.size (fun k_ => (w.heap.size ≤ k_) ∧ some k_ ≠ (u469000 : Value).ownBlock ∧ k_ ≠ gb453 ∧ k_ ≠ gb458 ∧ k_ ≠ gb468) u459000 x459000_1) ∧ Aside0 (Kd.N (Kd.slice 3 (Kd.int .i64)) 22 wc w.heap.size (fun k_ => (w.heap.size ≤ k_) ∧ some k_ ≠ (u459000 : Value).ownBlock ∧ k_ ≠ gb453 ∧ k_ ≠ gb458 ∧ k_ ≠ gb468) u469000 x469000_15) ∧ Aside0 (wc.heap[gb453]? = some (.cells #[(.slice none 0 0)] 34 (0, 0))) ∧ Aside0 (wc.heap[gb458]? = some (.cells #[u459000] 34 (0, 0))) ∧ Aside0 (wc.heap[gb468]? = some (.cells #[u469000] 34 (0, 0))) ∧ Aside0 (Below w.heap.size w wc))
       case first =>
        have H := HC16.out
        clear HC16
        by_cases c30 : (bt a0 x14_1) = 98
        ·
         rw [if_pos c30] at H
         have c30b0 : ((bt a0 x14_1) == 98) = true := beq_iff_eq.mpr c30
         have c30b1 : ((bt a0 x14_1) != 98) = false := bne_eq_false_iff_eq.mpr c30
         clear c30
         (first | rw [c30b0] | (simp only [i64_w, i32_w]; rw [c30b0]) | skip)
         obtain ⟨y469, hy469⟩ : ∃ y_ : List Int, y_ = (([5, 2] : List Int)) := ⟨_, rfl⟩
         replace H : (impl_CohnMatrix.j1 k1 a0 (a0.size : Int) x14_1 x459000_1 (([y469, (([2, 1] : List Int))] : List (List Int)))) = some (r1, r2) := by first | (rw [hy469]; with_reducible exact H) | (have H2_ := (Option.bind_some _ _).symm.trans H; rw [hy469]; with_reducible exact H2_) | (have H2_ := (Option.bind_some _ _).symm.trans H; with_reducible exact H2_) | with_reducible exact H | (rw [hy469]; exact H) | exact H
         have Ny469 := Aside0.mk hy469
         clear hy469
         obtain ⟨y472, hy472⟩ : ∃ y_ : List Int, y_ = (([2, 1] : List Int)) := ⟨_, rfl⟩
         replace H : (impl_CohnMatrix.j1 k1 a0 (a0.size : Int) x14_1 x459000_1 (([y469, y472] : List (List Int)))) = some (r1, r2) := by first | (rw [hy472]; with_reducible exact H) | (have H2_ := (Option.bind_some _ _).symm.trans H; rw [hy472]; with_reducible exact H2_) | (have H2_ := (Option.bind_some _ _).symm.trans H; with_reducible exact H2_) | with_reducible exact H | (rw [hy472]; exact H) | exact H
         have Ny472 := Aside0.mk hy472
         clear hy472
         obtain ⟨y475, hy475⟩ : ∃ y_ : List (List Int), y_ = (([y469, y472] : List (List Int))) := ⟨_, rfl⟩
         replace H : (impl_CohnMatrix.j1 k1 a0 (a0.size : Int) x14_1 x459000_1 y475) = some (r1, r2) := by first | (rw [hy475]; with_reducible exact H) | (have H2_ := (Option.bind_some _ _).symm.trans H; rw [hy475]; with_reducible exact H2_) | (have H2_ := (Option.bind_some _ _).symm.trans H; with_reducible exact H2_) | with_reducible exact H | (rw [hy475]; exact H) | exact H
         have Ny475 := Aside0.mk hy475
         clear hy475
         have H' := Aside0.mk H
         clear H
         go_wp2_with (first | ((with_reducible refine gate_dst (N := 25) rfl ?_); refine Kd.R_lit (Kd.int .i64) _ 3 ?hg (N := 25) ?hd (xs := ([5, 2] : List Int)) (inner := [.int .i64 5, .int .i64 2]) (ok := fun _ => True) (okp := fun _ => True) ?hr ?hp (fun _ hk => hk) trivial (Below.refl _ _) (Nat.le_refl _) (by simp) ?_; (case hd => rfl); (case hg => rfl); (case hr => first | (go_simp; done) | (go_simp; rfl)); (case hp => exact (Reps.one (show Kd.M (Kd.int .i64) _ _ _ 5 [.int .i64 5] from rfl) (Reps.one (show Kd.M (Kd.int .i64) _ _ _ 2 [.int .i64 2] from rfl) (Reps.none _ _)))); intro v470 w31 ho32 hb hg_ hnew_; clear hg_ hnew_; (first | rw [← Ny469.out] at ho32 | (simp only [Int.reduceToNat] at ho32; rw [← Ny469.out] at ho32)); have n0_ := Aside0.mk (Kd.N_elder' (by (with_reducible repeat (first | apply Kd.N_alloc | apply Kd.N_drewN | apply Kd.N_drew)); exact (Kd.N_mono (Kd.N_far (p := ⟨gb468, 0, none⟩) (Kd.N_mono HO_459000.out (fun k_ hk => (⟨hk, hk.2⟩ : _ ∧ k_ ≠ gb468))) (fun _ hk => hk.2) (.slice Ao25 y465.length co25)) (fun _ h_ => h_.1))) (Kd.R_base ho32) hb); have n1_ := Aside0.mk (Kd.N_elder' (by (with_reducible repeat (first | apply Kd.N_alloc | apply Kd.N_drewN | apply Kd.N_drew)); exact (Kd.N_mono (Kd.N_far (p := ⟨gb468, 0, none⟩) (Kd.N_mono HO467.out (fun k_ hk => (⟨hk, hk.2⟩ : _ ∧ k_ ≠ gb468))) (fun _ hk => hk.2) (.slice Ao25 y465.length co25)) (fun _ h_ => h_.1))) (Kd.R_base ho32) hb); have n2_ := Aside0.mk (Kd.R_lower (Kd.R_newM (M := fun k_ => (w.heap.size ≤ k_)) ho32 (below_size (by repeat (first | (with_reducible first | exact HB.out | apply below_alloc | apply pw_below_drewN | apply below_drew1 | refine below_set ?_ GE453.out | refine below_set ?_ GE458.out | refine below_set ?_ GE468.out) | exact HB.out | exact Below.refl _ _))) (fun k_ h_ => h_)) (below_size (by repeat (first | (with_reducible first | exact HB.out | apply below_alloc | apply pw_below_drewN | apply below_drew1 | refine below_set ?_ GE453.out | refine below_set ?_ GE458.out | refine below_set ?_ GE468.out) | exact HB.out | exact Below.refl _ _)))); have n3_ := Aside0.mk (blk_below (g := gb453) (o := .cells #[.slice none 0 0] 34 (0, 0)) (by (with_reducible repeat (first | refine blk_drewN ?_ _ | refine blk_drew ?_ | refine blk_alloc ?_ _)); refine blk_far ?_ NB453_468.out _; (with_reducible repeat (first | refine blk_drewN ?_ _ | refine blk_drew ?_ | refine blk_alloc ?_ _)); exact BK453.out) hb); have n4_ := Aside0.mk (blk_below (g := gb458) (o := .cells #[u459000] 34 (0, 0)) (by (with_reducible repeat (first | refine blk_drewN ?_ _ | refine blk_drew ?_ | refine blk_alloc ?_ _)); refine blk_far ?_ NB458_468.out _; (with_reducible repeat (first | refine blk_drewN ?_ _ | refine blk_drew ?_ | refine blk_alloc ?_ _)); exact BK458.out) hb); have n5_ := Aside0.mk (blk_below (g := gb468) (o := .cells #[.slice Ao25 y465.length co25] 34 (0, 0)) (by (with_reducible repeat (first | refine blk_drewN ?_ _ | refine blk_drew ?_ | refine blk_alloc ?_ _)); refine blk_put (cs := #[.slice none 0 0]) ?_ 0 _ rfl; (with_reducible repeat (first | refine blk_drewN ?_ _ | refine blk_drew ?_ | refine blk_alloc ?_ _)); exact BK468.out) hb); have n6_ := Aside0.mk (below_step (by repeat (first | (with_reducible first | exact HB.out | apply below_alloc | apply pw_below_drewN | apply below_drew1 | refine below_set ?_ GE453.out | refine below_set ?_ GE458.out | refine below_set ?_ GE468.out) | exact HB.out | exact Below.refl _ _)) hb); clear HO_459000; clear HO467; clear BK453; clear BK458; clear BK468; clear HB; have HO_459000 := n0_; have HO467 := n1_; have HO471 := n2_; have BK453 := n3_; have BK458 := n4_; have BK468 := n5_; have HB := n6_; clear n0_ n1_ n2_ n3_ n4_ n5_ n6_; clear hb ho32) | ((with_reducible refine gate_dst (N := 26) rfl ?_); refine Kd.R_lit (Kd.int .i64) _ 3 ?hg (N := 26) ?hd (xs := ([2, 1] : List Int)) (inner := [.int .i64 2, .int .i64 1]) (ok := fun _ => True) (okp := fun _ => True) ?hr ?hp (fun _ hk => hk) trivial (Below.refl _ _) (Nat.le_refl _) (by simp) ?_; (case hd => rfl); (case hg => rfl); (case hr => first | (go_simp; done) | (go_simp; rfl)); (case hp => exact (Reps.one (show Kd.M (Kd.int .i64) _ _ _ 2 [.int .i64 2] from rfl) (Reps.one (show Kd.M (Kd.int .i64) _ _ _ 1 [.int .i64 1] from rfl) (Reps.none _ _)))); intro v473 w33 ho34 hb hg_ hnew_; clear hg_ hnew_; (first | rw [← Ny472.out] at ho34 | (simp only [Int.reduceToNat] at ho34; rw [← Ny472.out] at ho34)); have n0_ := Aside0.mk (Kd.N_elder' (by (with_reducible repeat (first | apply Kd.N_alloc | apply Kd.N_drewN | apply Kd.N_drew)); exact HO_459000.out) (Kd.R_base ho34) hb); have n1_ := Aside0.mk (Kd.N_elder' (by (with_reducible repeat (first | apply Kd.N_alloc | apply Kd.N_drewN | apply Kd.N_drew)); exact HO467.out) (Kd.R_base ho34) hb); have n2_ := Aside0.mk (Kd.R_elder' (by (with_reducible repeat (first | apply Kd.R_alloc | apply Kd.R_drewN | apply Kd.R_drew)); exact HO471.out) (Kd.R_base ho34) hb); have n3_ := Aside0.mk (Kd.R_lower (Kd.R_new' (Kd.R_newM (M := fun k_ => (w.heap.size ≤ k_)) ho34 (below_size (by repeat (first | (with_reducible first | exact HB.out | apply below_alloc | apply pw_below_drewN | apply below_drew1 | refine below_set ?_ GE453.out | refine below_set ?_ GE458.out | refine below_set ?_ GE468.out) | exact HB.out | exact Below.refl _ _))) (fun k_ h_ => h_)) (Kd.R_lt (by (with_reducible repeat (first | apply Kd.R_alloc | apply Kd.R_drewN | apply Kd.R_drew)); exact HO471.out))) (below_size (by repeat (first | (with_reducible first | exact HB.out | apply below_alloc | apply pw_below_drewN | apply below_drew1 | refine below_set ?_ GE453.out | refine below_set ?_ GE458.out | refine below_set ?_ GE468.out) | exact HB.out | exact Below.refl _ _)))); have n4_ := Aside0.mk (blk_below (g := gb453) (o := .cells #[.slice none 0 0] 34 (0, 0)) (by (with_reducible repeat (first | refine blk_drewN ?_ _ | refine blk_drew ?_ | refine blk_alloc ?_ _)); exact BK453.out) hb); have n5_ := Aside0.mk (blk_below (g := gb458) (o := .cells #[u459000] 34 (0, 0)) (by (with_reducible repeat (first | refine blk_drewN ?_ _ | refine blk_drew ?_ | refine blk_alloc ?_ _)); exact BK458.out) hb); have n6_ := Aside0.mk (blk_below (g := gb468) (o := .cells #[.slice Ao25 y465.length co25] 34 (0, 0)) (by (with_reducible repeat (first | refine blk_drewN ?_ _ | refine blk_drew ?_ | refine blk_alloc ?_ _)); exact BK468.out) hb); have n7_ := Aside0.mk (below_step (by repeat (first | (with_reducible first | exact HB.out | apply below_alloc | apply pw_below_drewN | apply below_drew1 | refine below_set ?_ GE453.out | refine below_set ?_ GE458.out | refine below_set ?_ GE468.out) | exact HB.out | exact Below.refl _ _)) hb); clear HO_459000; clear HO467; clear HO471; clear BK453; clear BK458; clear BK468; clear HB; have HO_459000 := n0_; have HO467 := n1_; have HO471 := n2_; have HO474 := n3_; have BK453 := n4_; have BK458 := n5_; have BK468 := n6_; have HB := n7_; clear n0_ n1_ n2_ n3_ n4_ n5_ n6_ n7_; clear hb ho34; obtain ⟨Ao35, co35, eo35⟩ := Kd.R_slice HO471.out; subst eo35; obtain ⟨Ao36, co36, eo36⟩ := Kd.R_slice HO474.out; subst eo36) | ((with_reducible refine gate_dst (N := 27) rfl ?_); refine Kd.N_lit (Kd.slice 3 (Kd.int .i64)) _ 22 ?hg (N' := 27) ?hd (xs := ([y469, y472] : List (List Int))) (inner := [.slice Ao35 y469.length co35, .slice Ao36 y472.length co36]) (ok := (fun k_ => (w.heap.size ≤ k_) ∧ some k_ ≠ (u459000 : Value).ownBlock ∧ some k_ ≠ (.slice Ao25 y465.length co25 : Value).ownBlock ∧ k_ ≠ gb453 ∧ k_ ≠ gb458 ∧ k_ ≠ gb468)) (okp := (fun k_ => (w.heap.size ≤ k_) ∧ some k_ ≠ (u459000 : Value).ownBlock ∧ some k_ ≠ (.slice Ao25 y465.length co25 : Value).ownBlock ∧ k_ ≠ gb453 ∧ k_ ≠ gb458 ∧ k_ ≠ gb468)) ?hr ?hp (fun _ hk => hk) ((show ∀ k_, w33.heap.size ≤ k_ → (fun k_ => (w.heap.size ≤ k_) ∧ some k_ ≠ (u459000 : Value).ownBlock ∧ some k_ ≠ (.slice Ao25 y465.length co25 : Value).ownBlock ∧ k_ ≠ gb453 ∧ k_ ≠ gb458 ∧ k_ ≠ gb468) k_ from fun k_ hk => ⟨(Nat.le_trans (below_size (by repeat (first | (with_reducible first | exact HB.out | apply below_alloc | apply pw_below_drewN | apply below_drew1 | refine below_set ?_ GE453.out | refine below_set ?_ GE458.out | refine below_set ?_ GE468.out) | exact HB.out | exact Below.refl _ _))) hk), Kd.fresh' (Kd.N_lt (by (with_reducible repeat (first | apply Kd.N_alloc | apply Kd.N_drewN | apply Kd.N_drew)); exact HO_459000.out)) k_ hk, Kd.fresh' (Kd.N_lt (by (with_reducible repeat (first | apply Kd.N_alloc | apply Kd.N_drewN | apply Kd.N_drew)); exact HO467.out)) k_ hk, Kd.freshB (g := gb453) (o := .cells #[.slice none 0 0] 34 (0, 0)) (by (with_reducible repeat (first | refine blk_drewN ?_ _ | refine blk_drew ?_ | refine blk_alloc ?_ _)); exact BK453.out) k_ hk, Kd.freshB (g := gb458) (o := .cells #[u459000] 34 (0, 0)) (by (with_reducible repeat (first | refine blk_drewN ?_ _ | refine blk_drew ?_ | refine blk_alloc ?_ _)); exact BK458.out) k_ hk, Kd.freshB (g := gb468) (o := .cells #[.slice Ao25 y465.length co25] 34 (0, 0)) (by (with_reducible repeat (first | refine blk_drewN ?_ _ | refine blk_drew ?_ | refine blk_alloc ?_ _)); exact BK468.out) k_ hk⟩) _ (Nat.le_refl _)) (Below.refl _ _) (Nat.le_refl _) (by simp) ?_; (case hd => rfl); (case hg => rfl); (case hr => first | (go_simp; done) | (go_simp; rfl)); (case hp => exact (Reps.one (show Kd.FK (Kd.slice 3 (Kd.int .i64)) _ _ y469 [.slice Ao35 y469.length co35] from (Kd.FK_slice_mk (Kd.R_reads' (Kd.R_mono (ok' := (fun k_ => (w.heap.size ≤ k_) ∧ some k_ ≠ (u459000 : Value).ownBlock ∧ some k_ ≠ (.slice Ao25 y465.length co25 : Value).ownBlock ∧ k_ ≠ gb453 ∧ k_ ≠ gb458 ∧ k_ ≠ gb468)) (Kd.R_types (Kd.R_types (Kd.R_types (Kd.R_apart' (Kd.R_apart' (HO471.out) (Kd.N_typed HO_459000.out) (by decide)) (Kd.N_typed HO467.out) (by decide)) BK453.out (by decide)) BK458.out (by decide)) BK468.out (by decide)) (fun k_ hk => ⟨hk.1.1.1.1.1.1.1, ⟨hk.1.1.1.1.2, ⟨hk.1.1.1.2, ⟨hk.1.1.2, ⟨hk.1.2, hk.2⟩⟩⟩⟩⟩))).2.1 (Kd.R_F (Kd.R_mono (ok' := (fun k_ => (w.heap.size ≤ k_) ∧ some k_ ≠ (u459000 : Value).ownBlock ∧ some k_ ≠ (.slice Ao25 y465.length co25 : Value).ownBlock ∧ k_ ≠ gb453 ∧ k_ ≠ gb458 ∧ k_ ≠ gb468)) (Kd.R_types (Kd.R_types (Kd.R_types (Kd.R_apart' (Kd.R_apart' (HO471.out) (Kd.N_typed HO_459000.out) (by decide)) (Kd.N_typed HO467.out) (by decide)) BK453.out (by decide)) BK458.out (by decide)) BK468.out (by decide)) (fun k_ hk => ⟨hk.1.1.1.1.1.1.1, ⟨hk.1.1.1.1.2, ⟨hk.1.1.1.2, ⟨hk.1.1.2, ⟨hk.1.2, hk.2⟩⟩⟩⟩⟩))))) (Reps.one (show Kd.FK (Kd.slice 3 (Kd.int .i64)) _ _ y472 [.slice Ao36 y472.length co36] from (Kd.FK_slice_mk (Kd.R_reads' (Kd.R_mono (ok' := (fun k_ => (w.heap.size ≤ k_) ∧ some k_ ≠ (u459000 : Value).ownBlock ∧ some k_ ≠ (.slice Ao25 y465.length co25 : Value).ownBlock ∧ k_ ≠ gb453 ∧ k_ ≠ gb458 ∧ k_ ≠ gb468)) (Kd.R_types (Kd.R_types (Kd.R_types (Kd.R_apart' (Kd.R_apart' (HO474.out) (Kd.N_typed HO_459000.out) (by decide)) (Kd.N_typed HO467.out) (by decide)) BK453.out (by decide)) BK458.out (by decide)) BK468.out (by decide)) (fun k_ hk => ⟨hk.1.1.1.1.1.1.1, ⟨hk.1.1.1.1.2, ⟨hk.1.1.1.2, ⟨hk.1.1.2, ⟨hk.1.2, hk.2⟩⟩⟩⟩⟩))).2.1 (Kd.R_F (Kd.R_mono (ok' := (fun k_ => (w.heap.size ≤ k_) ∧ some k_ ≠ (u459000 : Value).ownBlock ∧ some k_ ≠ (.slice Ao25 y465.length co25 : Value).ownBlock ∧ k_ ≠ gb453 ∧ k_ ≠ gb458 ∧ k_ ≠ gb468)) (Kd.R_types (Kd.R_types (Kd.R_types (Kd.R_apart' (Kd.R_apart' (HO474.out) (Kd.N_typed HO_459000.out) (by decide)) (Kd.N_typed HO467.out) (by decide)) BK453.out (by decide)) BK458.out (by decide)) BK468.out (by decide)) (fun k_ hk => ⟨hk.1.1.1.1.1.1.1, ⟨hk.1.1.1.1.2, ⟨hk.1.1.1.2, ⟨hk.1.1.2, ⟨hk.1.2, hk.2⟩⟩⟩⟩⟩))))) (Reps.none _ _)))); intro v476 w37 ho38 hb hg_ hnew_; clear hg_ hnew_; (first | rw [← Ny475.out] at ho38 | (simp only [Int.reduceToNat] at ho38; rw [← Ny475.out] at ho38)); have n0_ := Aside0.mk (Kd.N_elder' (by (with_reducible repeat (first | apply Kd.N_alloc | apply Kd.N_drewN | apply Kd.N_drew)); exact HO_459000.out) (Kd.N_base ho38) hb); have n1_ := Aside0.mk (Kd.N_elder' (by (with_reducible repeat (first | apply Kd.N_alloc | apply Kd.N_drewN | apply Kd.N_drew)); exact HO467.out) (Kd.N_base ho38) hb); have n2_ := Aside0.mk (Kd.N_lower ho38 (below_size (by repeat (first | (with_reducible first | exact HB.out | apply below_alloc | apply pw_below_drewN | apply below_drew1 | refine below_set ?_ GE453.out | refine below_set ?_ GE458.out | refine below_set ?_ GE468.out) | exact HB.out | exact Below.refl _ _)))); have n3_ := Aside0.mk (blk_below (g := gb453) (o := .cells #[.slice none 0 0] 34 (0, 0)) (by (with_reducible repeat (first | refine blk_drewN ?_ _ | refine blk_drew ?_ | refine blk_alloc ?_ _)); exact BK453.out) hb); have n4_ := Aside0.mk (blk_below (g := gb458) (o := .cells #[u459000] 34 (0, 0)) (by (with_reducible repeat (first | refine blk_drewN ?_ _ | refine blk_drew ?_ | refine blk_alloc ?_ _)); exact BK458.out) hb); have n5_ := Aside0.mk (blk_below (g := gb468) (o := .cells #[.slice Ao25 y465.length co25] 34 (0, 0)) (by (with_reducible repeat (first | refine blk_drewN ?_ _ | refine blk_drew ?_ | refine blk_alloc ?_ _)); exact BK468.out) hb); have n6_ := Aside0.mk (below_step (by repeat (first | (with_reducible first | exact HB.out | apply below_alloc | apply pw_below_drewN | apply below_drew1 | refine below_set ?_ GE453.out | refine below_set ?_ GE458.out | refine below_set ?_ GE468.out) | exact HB.out | exact Below.refl _ _)) hb); clear HO_459000; clear HO467; clear BK453; clear BK458; clear BK468; clear HB; clear HO471; clear HO474; have HO_459000 := n0_; have HO467 := n1_; have HO477 := n2_; have BK453 := n3_; have BK458 := n4_; have BK468 := n5_; have HB := n6_; clear n0_ n1_ n2_ n3_ n4_ n5_ n6_; clear hb ho38; obtain ⟨Ao39, co39, eo39⟩ := Kd.N_slice HO477.out; subst eo39; have hnb40 := NB468_453.out; have hnc40 := NB453_468.out; have hnb41 := NB468_458.out; have hnc41 := NB458_468.out; have hcz42_0 : w37.cell? ⟨gb468, 0, none⟩ = some (.slice Ao25 y465.length co25) := (blk_cell BK468.out 0).trans rfl; have hfz42_0 := blk_frozen BK468.out 0))
         go_meet
         case rel => exact ⟨_, (y475), (.slice Ao39 y475.length co39), H', ⟨by have := HK1.out; first | omega | exact Nat.le_refl _⟩, ⟨by (with_reducible repeat (first | apply Kd.N_alloc | apply Kd.N_drewN | apply Kd.N_drew)); exact Kd.N_mono (Kd.N_far (p := ⟨gb468, 0, none⟩) (Kd.N_mono HO_459000.out (fun k_ hk => (⟨hk, hk.1.1.1.2⟩ : _ ∧ k_ ≠ gb468))) (fun _ hk => hk.2) (.slice Ao39 y475.length co39)) (fun _ hk => ⟨hk.1.1.1.1.1.1.1.1.1, ⟨hk.1.2, ⟨hk.1.1.1.1.1.1.1.1.2.1, ⟨hk.1.1.1.1.1.1.1.1.2.2, hk.1.1.1.1.2⟩⟩⟩⟩)⟩, ⟨by (with_reducible repeat (first | apply Kd.N_alloc | apply Kd.N_drewN | apply Kd.N_drew)); exact Kd.N_mono (Kd.N_far (p := ⟨gb468, 0, none⟩) (Kd.N_mono HO477.out (fun k_ hk => (⟨hk, hk.2.2.2.2.2⟩ : _ ∧ k_ ≠ gb468))) (fun _ hk => hk.2) (.slice Ao39 y475.length co39)) (fun _ hk => ⟨hk.1.1, ⟨hk.1.2.1, ⟨hk.1.2.2.2.1, ⟨hk.1.2.2.2.2.1, hk.1.2.2.2.2.2⟩⟩⟩⟩)⟩, ⟨by (with_reducible repeat (first | refine blk_drewN ?_ _ | refine blk_drew ?_ | refine blk_alloc ?_ _)); refine blk_far ?_ NB453_468.out _; (with_reducible repeat (first | refine blk_drewN ?_ _ | refine blk_drew ?_ | refine blk_alloc ?_ _)); exact BK453.out⟩, ⟨by (with_reducible repeat (first | refine blk_drewN ?_ _ | refine blk_drew ?_ | refine blk_alloc ?_ _)); refine blk_far ?_ NB458_468.out _; (with_reducible repeat (first | refine blk_drewN ?_ _ | refine blk_drew ?_ | refine blk_alloc ?_ _)); exact BK458.out⟩, ⟨by (with_reducible repeat (first | refine blk_drewN ?_ _ | refine blk_drew ?_ | refine blk_alloc ?_ _)); refine blk_put (cs := #[.slice Ao25 y465.length co25]) ?_ 0 _ rfl; (with_reducible repeat (first | refine blk_drewN ?_ _ | refine blk_drew ?_ | refine blk_alloc ?_ _)); exact BK468.out⟩, ⟨by repeat (first | (with_reducible first | exact HB.out | apply below_alloc | apply pw_below_drewN | apply below_drew1 | refine below_set ?_ GE453.out | refine below_set ?_ GE458.out | refine below_set ?_ GE468.out) | exact HB.out | exact Below.refl _ _)⟩⟩
        ·
         rw [if_neg c30] at H
         have c30b0 : ((bt a0 x14_1) == 98) = false := beq_eq_false_iff_ne.mpr c30
         have c30b1 : ((bt a0 x14_1) != 98) = true := bne_iff_ne.mpr c30
         (first | rw [c30b0] | (simp only [i64_w, i32_w]; rw [c30b0]) | skip)
         have H' := Aside0.mk H
         clear H
         go_wp2
         go_meet
         case rel => exact ⟨_, (y465), (.slice Ao25 y465.length co25), H', ⟨by have := HK1.out; first | omega | exact Nat.le_refl _⟩, ⟨by (with_reducible repeat (first | apply Kd.N_alloc | apply Kd.N_drewN | apply Kd.N_drew)); exact Kd.N_mono (Kd.N_far (p := ⟨gb468, 0, none⟩) (Kd.N_mono HO_459000.out (fun k_ hk => (⟨hk, hk.2⟩ : _ ∧ k_ ≠ gb468))) (fun _ hk => hk.2) (.slice Ao25 y465.length co25)) (fun _ hk => ⟨hk.1.1.1.1.1.1, ⟨hk.1.1.2, ⟨hk.1.1.1.1.1.2.1, ⟨hk.1.1.1.1.1.2.2, hk.1.2⟩⟩⟩⟩)⟩, ⟨by (with_reducible repeat (first | apply Kd.N_alloc | apply Kd.N_drewN | apply Kd.N_drew)); exact Kd.N_mono (Kd.N_far (p := ⟨gb468, 0, none⟩) (Kd.N_mono HO467.out (fun k_ hk => (⟨hk, hk.2⟩ : _ ∧ k_ ≠ gb468))) (fun _ hk => hk.2) (.slice Ao25 y465.length co25)) (fun _ hk => ⟨hk.1.1.1, ⟨hk.1.1.2.1, ⟨hk.1.1.2.2.1, ⟨hk.1.1.2.2.2, hk.1.2⟩⟩⟩⟩)⟩, ⟨by (with_reducible repeat (first | refine blk_drewN ?_ _ | refine blk_drew ?_ | refine blk_alloc ?_ _)); refine blk_far ?_ NB453_468.out _; (with_reducible repeat (first | refine blk_drewN ?_ _ | refine blk_drew ?_ | refine blk_alloc ?_ _)); exact BK453.out⟩, ⟨by (with_reducible repeat (first | refine blk_drewN ?_ _ | refine blk_drew ?_ | refine blk_alloc ?_ _)); refine blk_far ?_ NB458_468.out _; (with_reducible repeat (first | refine blk_drewN ?_ _ | refine blk_drew ?_ | refine blk_alloc ?_ _)); exact BK458.out⟩, ⟨by (with_reducible repeat (first | refine blk_drewN ?_ _ | refine blk_drew ?_ | refine blk_alloc ?_ _)); refine blk_put (cs := #[.slice none 0 0]) ?_ 0 _ rfl; (with_reducible repeat (first | refine blk_drewN ?_ _ | refine blk_drew ?_ | refine blk_alloc ?_ _)); exact BK468.out⟩, ⟨by repeat (first | (with_reducible first | exact HB.out | apply below_alloc | apply pw_below_drewN | apply below_drew1 | refine below_set ?_ GE453.out | refine below_set ?_ GE458.out | refine below_set ?_ GE468.out) | exact HB.out | exact Below.refl _ _)⟩⟩
       case rest =>
        clear HC16; (try clear c1); (try clear p1); (try clear q1); (try clear hx1); (try clear c2); (try clear p2); (try clear c3); (try clear c4); (try clear c10); (try clear c12); (try clear c12b0); (try clear c13); (try clear c13b0); (try clear c14); (try clear c14b0); (try clear p15); (try clear q15); (try clear hx15); (try clear c17); (try clear c27); (try clear c28); (try clear c30); (try clear c30b0); (try clear c30b1); (try clear c32); (try clear c33); (try clear c40); (try clear c41); (try clear hcz11_0); (try clear hcz29_0); (try clear hcz42_0); (try clear hfz11_0); (try clear hfz29_0); (try clear hfz42_0); (try clear p15); (try clear p2); (try clear q15)
        obtain ⟨kq, x469000_15, u469000, HA, HJ15, HO_459000, HO_469000, BK453, BK458, BK468, HB⟩ := hcut
        cases kq with
        | zero => exact absurd HA.out (by simp [impl_CohnMatrix.j1])
        | succ kj15 =>
         have H := HA.out
         clear HA
         simp only [impl_CohnMatrix.j1] at H
         replace H := Option.bind_eq_some_iff.mp H
         obtain ⟨t478, A430, H⟩ := H
         replace H : ((impl_IsMatrix.f t478).bind fun t481 => (if t481 = true then (impl_CohnMatrix.l0 kj15 a0 (a0.size : Int) (wrap64 (x14_1 + 1)) t478) else (some (([] : List (List Int)), false)))) = some (r1, r2) := H
         have A43 := Aside0.mk A430
         clear A430
         replace H := Option.bind_eq_some_iff.mp H
         obtain ⟨t481, A440, H⟩ := H
         replace H : (if t481 = true then (impl_CohnMatrix.l0 kj15 a0 (a0.size : Int) (wrap64 (x14_1 + 1)) t478) else (some (([] : List (List Int)), false))) = some (r1, r2) := H
         have A44 := Aside0.mk A440
         clear A440
         by_cases c45 : t481 = true
         ·
          subst c45
          have H1 : (impl_CohnMatrix.l0 kj15 a0 (a0.size : Int) (wrap64 (x14_1 + 1)) t478) = some (r1, r2) := by rw [if_pos rfl] at H; exact H
          clear H
          have H := H1
          clear H1
          have H' := Aside0.mk H
          clear H
          have hnb46 := NB458_453.out
          have hnc46 := NB453_458.out
          have hnb47 := NB458_468.out
          have hnc47 := NB468_458.out
          have hcz48_0 : wc.cell? ⟨gb458, 0, none⟩ = some (u459000) := (blk_cell BK458.out 0).trans rfl
          have hfz48_0 := blk_frozen BK458.out 0
          have hnb49 := NB468_453.out
          have hnc49 := NB453_468.out
          have hcz50_0 : wc.cell? ⟨gb468, 0, none⟩ = some (u469000) := (blk_cell BK468.out 0).trans rfl
          have hfz50_0 := blk_frozen BK468.out 0
          obtain ⟨Ao51, co51, eo51⟩ := Kd.N_slice HO_459000.out
          subst eo51
          obtain ⟨Ao52, co52, eo52⟩ := Kd.N_slice HO_469000.out
          subst eo52
          go_wp2_with (first | ((with_reducible refine gate_callee (f := 34) rfl ?_); refine goesL_ (some 31) rfl rfl Try.func34 (by kernel_rfl) rfl #[.agg #[.slice Ao51 x459000_1.length co51], .agg #[.slice Ao52 x469000_15.length co52]] rfl (by (try simp only [List.map_toArray, List.map_cons, List.map_nil]); first | done | rfl | (simp only [List.length_drop, List.length_take]; rfl)) ?_; (with_reducible refine (impl_Matrix_times.calls _ _ x459000_1 _ _ x469000_15 t478 _ ?side1 ?side2 ?side3 ?side4 A43.out).mono ?_); (case side1 => repeat (first | exact (Kd.N_reads' HO_459000.out).2.2 | (with_reducible refine Kd.C_alloc ?_ _) | (with_reducible refine Kd.C_drewN ?_ _) | (with_reducible refine Kd.C_drew ?_))); (case side2 => exact (Kd.N_reads' HO_459000.out).2.1); (case side3 => repeat (first | exact (Kd.N_reads' HO_469000.out).2.2 | (with_reducible refine Kd.C_alloc ?_ _) | (with_reducible refine Kd.C_drewN ?_ _) | (with_reducible refine Kd.C_drew ?_))); (case side4 => exact (Kd.N_reads' HO_469000.out).2.1); rintro e w53 ⟨v479, rfl, ho0, hb⟩; refine ⟨_, rfl, ?_⟩; have n0_ := Aside0.mk (Kd.N_elder' (by (with_reducible repeat (first | apply Kd.N_alloc | apply Kd.N_drewN | apply Kd.N_drew)); exact HO_459000.out) (Kd.S_base ho0) hb); have n1_ := Aside0.mk (Kd.N_elder' (by (with_reducible repeat (first | apply Kd.N_alloc | apply Kd.N_drewN | apply Kd.N_drew)); exact HO_469000.out) (Kd.S_base ho0) hb); have n2_ := Aside0.mk (Kd.N_lower (Kd.N_mono (ok' := fun k_ => (w.heap.size ≤ k_) ∧ some k_ ≠ (.slice Ao51 x459000_1.length co51 : Value).ownBlock ∧ some k_ ≠ (.slice Ao52 x469000_15.length co52 : Value).ownBlock ∧ k_ ≠ gb453 ∧ k_ ≠ gb458 ∧ k_ ≠ gb468) (Kd.S_N (Kd.S_bound ho0)) (fun k_ hk_ => ⟨(Nat.le_trans (below_size (by repeat (first | (with_reducible first | exact HB.out | apply below_alloc | apply pw_below_drewN | apply below_drew1 | refine below_set ?_ GE453.out | refine below_set ?_ GE458.out | refine below_set ?_ GE468.out) | exact HB.out | exact Below.refl _ _))) hk_.2.1), (Kd.fresh' (Kd.N_lt (by (with_reducible repeat (first | apply Kd.N_alloc | apply Kd.N_drewN | apply Kd.N_drew)); exact HO_459000.out)) k_ hk_.2.1), (Kd.fresh' (Kd.N_lt (by (with_reducible repeat (first | apply Kd.N_alloc | apply Kd.N_drewN | apply Kd.N_drew)); exact HO_469000.out)) k_ hk_.2.1), (Kd.freshB (g := gb453) (o := .cells #[.slice none 0 0] 34 (0, 0)) (by (with_reducible repeat (first | refine blk_drewN ?_ _ | refine blk_drew ?_ | refine blk_alloc ?_ _)); exact BK453.out) k_ hk_.2.1), (Kd.freshB (g := gb458) (o := .cells #[.slice Ao51 x459000_1.length co51] 34 (0, 0)) (by (with_reducible repeat (first | refine blk_drewN ?_ _ | refine blk_drew ?_ | refine blk_alloc ?_ _)); exact BK458.out) k_ hk_.2.1), (Kd.freshB (g := gb468) (o := .cells #[.slice Ao52 x469000_15.length co52] 34 (0, 0)) (by (with_reducible repeat (first | refine blk_drewN ?_ _ | refine blk_drew ?_ | refine blk_alloc ?_ _)); exact BK468.out) k_ hk_.2.1)⟩)) (below_size (by repeat (first | (with_reducible first | exact HB.out | apply below_alloc | apply pw_below_drewN | apply below_drew1 | refine below_set ?_ GE453.out | refine below_set ?_ GE458.out | refine below_set ?_ GE468.out) | exact HB.out | exact Below.refl _ _)))); have n3_ := Aside0.mk (blk_below (g := gb453) (o := .cells #[.slice none 0 0] 34 (0, 0)) (by (with_reducible repeat (first | refine blk_drewN ?_ _ | refine blk_drew ?_ | refine blk_alloc ?_ _)); exact BK453.out) hb); have n4_ := Aside0.mk (blk_below (g := gb458) (o := .cells #[.slice Ao51 x459000_1.length co51] 34 (0, 0)) (by (with_reducible repeat (first | refine blk_drewN ?_ _ | refine blk_drew ?_ | refine blk_alloc ?_ _)); exact BK458.out) hb); have n5_ := Aside0.mk (blk_below (g := gb468) (o := .cells #[.slice Ao52 x469000_15.length co52] 34 (0, 0)) (by (with_reducible repeat (first | refine blk_drewN ?_ _ | refine blk_drew ?_ | refine blk_alloc ?_ _)); exact BK468.out) hb); have n6_ := Aside0.mk (below_step (by repeat (first | (with_reducible first | exact HB.out | apply below_alloc | apply pw_below_drewN | apply below_drew1 | refine below_set ?_ GE453.out | refine below_set ?_ GE458.out | refine below_set ?_ GE468.out) | exact HB.out | exact Below.refl _ _)) hb); clear HO_459000; clear HO_469000; clear BK453; clear BK458; clear BK468; clear HB; have HO_459000 := n0_; have HO_469000 := n1_; have HO480 := n2_; have BK453 := n3_; have BK458 := n4_; have BK468 := n5_; have HB := n6_; clear n0_ n1_ n2_ n3_ n4_ n5_ n6_; (try clear hb); (try clear hb2); (try clear hk); (try clear hi); (try clear ho0); obtain ⟨Ao54, co54, eo54⟩ := Kd.N_slice HO480.out; subst eo54; have hcz55_0 : w53.cell? ⟨gb458, 0, none⟩ = some (.slice Ao51 x459000_1.length co51) := (blk_cell BK458.out 0).trans rfl; have hfz55_0 := blk_frozen BK458.out 0) | ((with_reducible refine gate_callee (f := 35) rfl ?_); refine goesL_ (some 33) rfl rfl Try.func35 (by kernel_rfl) rfl #[.agg #[.slice Ao54 t478.length co54]] rfl (by (try simp only [List.map_toArray, List.map_cons, List.map_nil]); first | done | rfl | (simp only [List.length_drop, List.length_take]; rfl)) ?_; (with_reducible refine (impl_IsMatrix.calls _ _ t478 true _ ?side1 ?side2 A44.out).mono ?_); (case side1 => refine (Kd.N_reads' (e := 22) (base := w.heap.size) (ok := fun k_ => ((w.heap.size ≤ k_) ∧ (some k_ ≠ (.slice Ao51 x459000_1.length co51 : Value).ownBlock ∧ (some k_ ≠ (.slice Ao52 x469000_15.length co52 : Value).ownBlock ∧ (k_ ≠ gb453 ∧ (k_ ≠ gb458 ∧ k_ ≠ gb468)))))) (n := t478.length) (c := co54) ?_).2.2; exact (by (with_reducible repeat (first | apply Kd.N_alloc | apply Kd.N_drewN | apply Kd.N_drew)); exact (Kd.N_mono (Kd.N_far (p := ⟨gb458, 0, none⟩) (Kd.N_mono HO480.out (fun k_ hk => (⟨hk, hk.2.2.2.2.1⟩ : _ ∧ k_ ≠ gb458))) (fun _ hk => hk.2) (.slice Ao54 t478.length co54)) (fun _ h_ => h_.1)))); (case side2 => exact (Kd.N_reads' HO480.out).2.1); rintro e w56 ⟨rfl, hb⟩; refine ⟨_, rfl, ?_⟩; have n0_ := Aside0.mk (Kd.N_below (by (with_reducible repeat (first | apply Kd.N_alloc | apply Kd.N_drewN | apply Kd.N_drew)); exact (Kd.N_mono (Kd.N_far (p := ⟨gb458, 0, none⟩) (Kd.N_mono HO_459000.out (fun k_ hk => (⟨hk, hk.1.2.2.2.1⟩ : _ ∧ k_ ≠ gb458))) (fun _ hk => hk.2) (.slice Ao54 t478.length co54)) (fun _ h_ => h_.1))) hb); have n1_ := Aside0.mk (Kd.N_below (by (with_reducible repeat (first | apply Kd.N_alloc | apply Kd.N_drewN | apply Kd.N_drew)); exact (Kd.N_mono (Kd.N_far (p := ⟨gb458, 0, none⟩) (Kd.N_mono HO_469000.out (fun k_ hk => (⟨hk, hk.1.2.2.2.1⟩ : _ ∧ k_ ≠ gb458))) (fun _ hk => hk.2) (.slice Ao54 t478.length co54)) (fun _ h_ => h_.1))) hb); have n2_ := Aside0.mk (Kd.N_below (by (with_reducible repeat (first | apply Kd.N_alloc | apply Kd.N_drewN | apply Kd.N_drew)); exact (Kd.N_mono (Kd.N_far (p := ⟨gb458, 0, none⟩) (Kd.N_mono HO480.out (fun k_ hk => (⟨hk, hk.2.2.2.2.1⟩ : _ ∧ k_ ≠ gb458))) (fun _ hk => hk.2) (.slice Ao54 t478.length co54)) (fun _ h_ => h_.1))) hb); have n3_ := Aside0.mk (blk_below (g := gb453) (o := .cells #[.slice none 0 0] 34 (0, 0)) (by (with_reducible repeat (first | refine blk_drewN ?_ _ | refine blk_drew ?_ | refine blk_alloc ?_ _)); refine blk_far ?_ NB453_458.out _; (with_reducible repeat (first | refine blk_drewN ?_ _ | refine blk_drew ?_ | refine blk_alloc ?_ _)); exact BK453.out) hb); have n4_ := Aside0.mk (blk_below (g := gb458) (o := .cells #[.slice Ao54 t478.length co54] 34 (0, 0)) (by (with_reducible repeat (first | refine blk_drewN ?_ _ | refine blk_drew ?_ | refine blk_alloc ?_ _)); refine blk_put (cs := #[.slice Ao51 x459000_1.length co51]) ?_ 0 _ rfl; (with_reducible repeat (first | refine blk_drewN ?_ _ | refine blk_drew ?_ | refine blk_alloc ?_ _)); exact BK458.out) hb); have n5_ := Aside0.mk (blk_below (g := gb468) (o := .cells #[.slice Ao52 x469000_15.length co52] 34 (0, 0)) (by (with_reducible repeat (first | refine blk_drewN ?_ _ | refine blk_drew ?_ | refine blk_alloc ?_ _)); refine blk_far ?_ NB468_458.out _; (with_reducible repeat (first | refine blk_drewN ?_ _ | refine blk_drew ?_ | refine blk_alloc ?_ _)); exact BK468.out) hb); have n6_ := Aside0.mk (below_step (by repeat (first | (with_reducible first | exact HB.out | apply below_alloc | apply pw_below_drewN | apply below_drew1 | refine below_set ?_ GE453.out | refine below_set ?_ GE458.out | refine below_set ?_ GE468.out) | exact HB.out | exact Below.refl _ _)) hb); clear HO_459000; clear HO_469000; clear HO480; clear BK453; clear BK458; clear BK468; clear HB; have HO_459000 := n0_; have HO_469000 := n1_; have HO480 := n2_; have BK453 := n3_; have BK458 := n4_; have BK468 := n5_; have HB := n6_; clear n0_ n1_ n2_ n3_ n4_ n5_ n6_; (try clear hb); (try clear hb2); (try clear hk); (try clear hi)))
          go_roundg kj15
          case measure => have := HK1.out; have := HJ15.out; omega
          case rel => exact ⟨(wrap64 (x14_1 + 1)), (t478), (.slice Ao54 t478.length co54), (by first | rfl | (simp; done) | (simp [*]; done)), H', ⟨by have := HK1.out; have := HJ15.out; omega⟩, ⟨by (with_reducible repeat (first | apply Kd.N_alloc | apply Kd.N_drewN | apply Kd.N_drew)); exact Kd.N_mono HO480.out (fun _ hk => ⟨hk.1, ⟨hk.2.2.2.1, hk.2.2.2.2.1⟩⟩)⟩, ⟨by (with_reducible repeat (first | refine blk_drewN ?_ _ | refine blk_drew ?_ | refine blk_alloc ?_ _)); exact BK453.out⟩, ⟨by (with_reducible repeat (first | refine blk_drewN ?_ _ | refine blk_drew ?_ | refine blk_alloc ?_ _)); exact BK458.out⟩, ⟨by repeat (first | (with_reducible first | exact HB.out | apply below_alloc | apply pw_below_drewN | apply below_drew1 | refine below_set ?_ GE453.out | refine below_set ?_ GE458.out | refine below_set ?_ GE468.out) | exact HB.out | exact Below.refl _ _)⟩⟩
         ·
          replace c45 := Bool.eq_false_iff.mpr c45
          subst c45
          have H1 : (some (([] : List (List Int)), false)) = some (r1, r2) := by rw [if_neg (show ¬ (false = true) by decide)] at H; exact H
          clear H
          have H := H1
          clear H1
          simp only [Option.some.injEq, Prod.mk.injEq] at H
          obtain ⟨rfl, rfl⟩ := H
          have hnb57 := NB458_453.out
          have hnc57 := NB453_458.out
          have hnb58 := NB458_468.out
          have hnc58 := NB468_458.out
          have hcz59_0 : wc.cell? ⟨gb458, 0, none⟩ = some (u459000) := (blk_cell BK458.out 0).trans rfl
          have hfz59_0 := blk_frozen BK458.out 0
          have hnb60 := NB468_453.out
          have hnc60 := NB453_468.out
          have hcz61_0 : wc.cell? ⟨gb468, 0, none⟩ = some (u469000) := (blk_cell BK468.out 0).trans rfl
          have hfz61_0 := blk_frozen BK468.out 0
          obtain ⟨Ao62, co62, eo62⟩ := Kd.N_slice HO_459000.out
          subst eo62
          obtain ⟨Ao63, co63, eo63⟩ := Kd.N_slice HO_469000.out
          subst eo63
          go_wp2_with (first | ((with_reducible refine gate_callee (f := 34) rfl ?_); refine goesL_ (some 31) rfl rfl Try.func34 (by kernel_rfl) rfl #[.agg #[.slice Ao62 x459000_1.length co62], .agg #[.slice Ao63 x469000_15.length co63]] rfl (by (try simp only [List.map_toArray, List.map_cons, List.map_nil]); first | done | rfl | (simp only [List.length_drop, List.length_take]; rfl)) ?_; (with_reducible refine (impl_Matrix_times.calls _ _ x459000_1 _ _ x469000_15 t478 _ ?side1 ?side2 ?side3 ?side4 A43.out).mono ?_); (case side1 => repeat (first | exact (Kd.N_reads' HO_459000.out).2.2 | (with_reducible refine Kd.C_alloc ?_ _) | (with_reducible refine Kd.C_drewN ?_ _) | (with_reducible refine Kd.C_drew ?_))); (case side2 => exact (Kd.N_reads' HO_459000.out).2.1); (case side3 => repeat (first | exact (Kd.N_reads' HO_469000.out).2.2 | (with_reducible refine Kd.C_alloc ?_ _) | (with_reducible refine Kd.C_drewN ?_ _) | (with_reducible refine Kd.C_drew ?_))); (case side4 => exact (Kd.N_reads' HO_469000.out).2.1); rintro e w64 ⟨v479, rfl, ho0, hb⟩; refine ⟨_, rfl, ?_⟩; have n0_ := Aside0.mk (Kd.N_elder' (by (with_reducible repeat (first | apply Kd.N_alloc | apply Kd.N_drewN | apply Kd.N_drew)); exact HO_459000.out) (Kd.S_base ho0) hb); have n1_ := Aside0.mk (Kd.N_elder' (by (with_reducible repeat (first | apply Kd.N_alloc | apply Kd.N_drewN | apply Kd.N_drew)); exact HO_469000.out) (Kd.S_base ho0) hb); have n2_ := Aside0.mk (Kd.N_lower (Kd.N_mono (ok' := fun k_ => (w.heap.size ≤ k_) ∧ some k_ ≠ (.slice Ao62 x459000_1.length co62 : Value).ownBlock ∧ some k_ ≠ (.slice Ao63 x469000_15.length co63 : Value).ownBlock ∧ k_ ≠ gb453 ∧ k_ ≠ gb458 ∧ k_ ≠ gb468) (Kd.S_N (Kd.S_bound ho0)) (fun k_ hk_ => ⟨(Nat.le_trans (below_size (by repeat (first | (with_reducible first | exact HB.out | apply below_alloc | apply pw_below_drewN | apply below_drew1 | refine below_set ?_ GE453.out | refine below_set ?_ GE458.out | refine below_set ?_ GE468.out) | exact HB.out | exact Below.refl _ _))) hk_.2.1), (Kd.fresh' (Kd.N_lt (by (with_reducible repeat (first | apply Kd.N_alloc | apply Kd.N_drewN | apply Kd.N_drew)); exact HO_459000.out)) k_ hk_.2.1), (Kd.fresh' (Kd.N_lt (by (with_reducible repeat (first | apply Kd.N_alloc | apply Kd.N_drewN | apply Kd.N_drew)); exact HO_469000.out)) k_ hk_.2.1), (Kd.freshB (g := gb453) (o := .cells #[.slice none 0 0] 34 (0, 0)) (by (with_reducible repeat (first | refine blk_drewN ?_ _ | refine blk_drew ?_ | refine blk_alloc ?_ _)); exact BK453.out) k_ hk_.2.1), (Kd.freshB (g := gb458) (o := .cells #[.slice Ao62 x459000_1.length co62] 34 (0, 0)) (by (with_reducible repeat (first | refine blk_drewN ?_ _ | refine blk_drew ?_ | refine blk_alloc ?_ _)); exact BK458.out) k_ hk_.2.1), (Kd.freshB (g := gb468) (o := .cells #[.slice Ao63 x469000_15.length co63] 34 (0, 0)) (by (with_reducible repeat (first | refine blk_drewN ?_ _ | refine blk_drew ?_ | refine blk_alloc ?_ _)); exact BK468.out) k_ hk_.2.1)⟩)) (below_size (by repeat (first | (with_reducible first | exact HB.out | apply below_alloc | apply pw_below_drewN | apply below_drew1 | refine below_set ?_ GE453.out | refine below_set ?_ GE458.out | refine below_set ?_ GE468.out) | exact HB.out | exact Below.refl _ _)))); have n3_ := Aside0.mk (blk_below (g := gb453) (o := .cells #[.slice none 0 0] 34 (0, 0)) (by (with_reducible repeat (first | refine blk_drewN ?_ _ | refine blk_drew ?_ | refine blk_alloc ?_ _)); exact BK453.out) hb); have n4_ := Aside0.mk (blk_below (g := gb458) (o := .cells #[.slice Ao62 x459000_1.length co62] 34 (0, 0)) (by (with_reducible repeat (first | refine blk_drewN ?_ _ | refine blk_drew ?_ | refine blk_alloc ?_ _)); exact BK458.out) hb); have n5_ := Aside0.mk (blk_below (g := gb468) (o := .cells #[.slice Ao63 x469000_15.length co63] 34 (0, 0)) (by (with_reducible repeat (first | refine blk_drewN ?_ _ | refine blk_drew ?_ | refine blk_alloc ?_ _)); exact BK468.out) hb); have n6_ := Aside0.mk (below_step (by repeat (first | (with_reducible first | exact HB.out | apply below_alloc | apply pw_below_drewN | apply below_drew1 | refine below_set ?_ GE453.out | refine below_set ?_ GE458.out | refine below_set ?_ GE468.out) | exact HB.out | exact Below.refl _ _)) hb); clear HO_459000; clear HO_469000; clear BK453; clear BK458; clear BK468; clear HB; have HO_459000 := n0_; have HO_469000 := n1_; have HO480 := n2_; have BK453 := n3_; have BK458 := n4_; have BK468 := n5_; have HB := n6_; clear n0_ n1_ n2_ n3_ n4_ n5_ n6_; (try clear hb); (try clear hb2); (try clear hk); (try clear hi); (try clear ho0); obtain ⟨Ao65, co65, eo65⟩ := Kd.N_slice HO480.out; subst eo65; have hcz66_0 : w64.cell? ⟨gb458, 0, none⟩ = some (.slice Ao62 x459000_1.length co62) := (blk_cell BK458.out 0).trans rfl; have hfz66_0 := blk_frozen BK458.out 0) | ((with_reducible refine gate_callee (f := 35) rfl ?_); refine goesL_ (some 33) rfl rfl Try.func35 (by kernel_rfl) rfl #[.agg #[.slice Ao65 t478.length co65]] rfl (by (try simp only [List.map_toArray, List.map_cons, List.map_nil]); first | done | rfl | (simp only [List.length_drop, List.length_take]; rfl)) ?_; (with_reducible refine (impl_IsMatrix.calls _ _ t478 false _ ?side1 ?side2 A44.out).mono ?_); (case side1 => refine (Kd.N_reads' (e := 22) (base := w.heap.size) (ok := fun k_ => ((w.heap.size ≤ k_) ∧ (some k_ ≠ (.slice Ao62 x459000_1.length co62 : Value).ownBlock ∧ (some k_ ≠ (.slice Ao63 x469000_15.length co63 : Value).ownBlock ∧ (k_ ≠ gb453 ∧ (k_ ≠ gb458 ∧ k_ ≠ gb468)))))) (n := t478.length) (c := co65) ?_).2.2; exact (by (with_reducible repeat (first | apply Kd.N_alloc | apply Kd.N_drewN | apply Kd.N_drew)); exact (Kd.N_mono (Kd.N_far (p := ⟨gb458, 0, none⟩) (Kd.N_mono HO480.out (fun k_ hk => (⟨hk, hk.2.2.2.2.1⟩ : _ ∧ k_ ≠ gb458))) (fun _ hk => hk.2) (.slice Ao65 t478.length co65)) (fun _ h_ => h_.1)))); (case side2 => exact (Kd.N_reads' HO480.out).2.1); rintro e w67 ⟨rfl, hb⟩; refine ⟨_, rfl, ?_⟩; have n0_ := Aside0.mk (Kd.N_below (by (with_reducible repeat (first | apply Kd.N_alloc | apply Kd.N_drewN | apply Kd.N_drew)); exact (Kd.N_mono (Kd.N_far (p := ⟨gb458, 0, none⟩) (Kd.N_mono HO_459000.out (fun k_ hk => (⟨hk, hk.1.2.2.2.1⟩ : _ ∧ k_ ≠ gb458))) (fun _ hk => hk.2) (.slice Ao65 t478.length co65)) (fun _ h_ => h_.1))) hb); have n1_ := Aside0.mk (Kd.N_below (by (with_reducible repeat (first | apply Kd.N_alloc | apply Kd.N_drewN | apply Kd.N_drew)); exact (Kd.N_mono (Kd.N_far (p := ⟨gb458, 0, none⟩) (Kd.N_mono HO_469000.out (fun k_ hk => (⟨hk, hk.1.2.2.2.1⟩ : _ ∧ k_ ≠ gb458))) (fun _ hk => hk.2) (.slice Ao65 t478.length co65)) (fun _ h_ => h_.1))) hb); have n2_ := Aside0.mk (Kd.N_below (by (with_reducible repeat (first | apply Kd.N_alloc | apply Kd.N_drewN | apply Kd.N_drew)); exact (Kd.N_mono (Kd.N_far (p := ⟨gb458, 0, none⟩) (Kd.N_mono HO480.out (fun k_ hk => (⟨hk, hk.2.2.2.2.1⟩ : _ ∧ k_ ≠ gb458))) (fun _ hk => hk.2) (.slice Ao65 t478.length co65)) (fun _ h_ => h_.1))) hb); have n3_ := Aside0.mk (blk_below (g := gb453) (o := .cells #[.slice none 0 0] 34 (0, 0)) (by (with_reducible repeat (first | refine blk_drewN ?_ _ | refine blk_drew ?_ | refine blk_alloc ?_ _)); refine blk_far ?_ NB453_458.out _; (with_reducible repeat (first | refine blk_drewN ?_ _ | refine blk_drew ?_ | refine blk_alloc ?_ _)); exact BK453.out) hb); have n4_ := Aside0.mk (blk_below (g := gb458) (o := .cells #[.slice Ao65 t478.length co65] 34 (0, 0)) (by (with_reducible repeat (first | refine blk_drewN ?_ _ | refine blk_drew ?_ | refine blk_alloc ?_ _)); refine blk_put (cs := #[.slice Ao62 x459000_1.length co62]) ?_ 0 _ rfl; (with_reducible repeat (first | refine blk_drewN ?_ _ | refine blk_drew ?_ | refine blk_alloc ?_ _)); exact BK458.out) hb); have n5_ := Aside0.mk (blk_below (g := gb468) (o := .cells #[.slice Ao63 x469000_15.length co63] 34 (0, 0)) (by (with_reducible repeat (first | refine blk_drewN ?_ _ | refine blk_drew ?_ | refine blk_alloc ?_ _)); refine blk_far ?_ NB468_458.out _; (with_reducible repeat (first | refine blk_drewN ?_ _ | refine blk_drew ?_ | refine blk_alloc ?_ _)); exact BK468.out) hb); have n6_ := Aside0.mk (below_step (by repeat (first | (with_reducible first | exact HB.out | apply below_alloc | apply pw_below_drewN | apply below_drew1 | refine below_set ?_ GE453.out | refine below_set ?_ GE458.out | refine below_set ?_ GE468.out) | exact HB.out | exact Below.refl _ _)) hb); clear HO_459000; clear HO_469000; clear HO480; clear BK453; clear BK458; clear BK468; clear HB; have HO_459000 := n0_; have HO_469000 := n1_; have HO480 := n2_; have BK453 := n3_; have BK458 := n4_; have BK468 := n5_; have HB := n6_; clear n0_ n1_ n2_ n3_ n4_ n5_ n6_; (try clear hb); (try clear hb2); (try clear hk); (try clear hi); have hcz68_0 : w67.cell? ⟨gb453, 0, none⟩ = some (.slice none 0 0) := (blk_cell BK453.out 0).trans rfl; have hfz68_0 := blk_frozen BK453.out 0))
          refine bodyPost_ret (results_ct rfl _ _ gb453 34 #[.slice none 0 0] (0, 0) _ rfl (by (with_reducible repeat (first | refine blk_drewN ?_ _ | refine blk_drew ?_ | refine blk_alloc ?_ _)); refine blk_put (cs := #[.slice none 0 0]) ?_ 0 _ rfl; (with_reducible repeat (first | refine blk_drewN ?_ _ | refine blk_drew ?_ | refine blk_alloc ?_ _)); exact BK453.out) Try.underlying34 rfl (by kernel_rfl)) rfl ?_
          exact ⟨_, by first | rfl | (simp [errW_none, errW_some] <;> rfl) | (simp [*, errW_none, errW_some] <;> rfl), by first | exact Kd.S_nil _ _ _ _ _ | exact Kd.N_nil _ _ _ _ _ | exact Kd.V_nil _ _ _ _ _ | exact Kd.Q_nil _ _ _ _ _ | exact Kd.R_nil _ _ _ _ _, by repeat (first | (with_reducible first | exact HB.out | apply below_alloc | apply pw_below_drewN | apply below_drew1 | refine below_set ?_ GE453.out | refine below_set ?_ GE458.out | refine below_set ?_ GE468.out) | exact HB.out | exact Below.refl _ _)⟩
      ·
       rw [if_neg c14] at H
       exact absurd H (by simp)
     ·
      rw [if_neg c13] at H
      exact absurd H (by simp)
    ·
     rw [if_neg c12] at H
     have c12b0 : decide (x14_1 < (a0.size : Int)) = false := decide_eq_false c12
     clear c12
     simp only [Option.some.injEq, Prod.mk.injEq] at H
     obtain ⟨rfl, rfl⟩ := H
     have hnb69 := NB458_453.out
     have hnc69 := NB453_458.out
     have hcz70_0 : wr.cell? ⟨gb458, 0, none⟩ = some (u459000) := (blk_cell BK458.out 0).trans rfl
     have hfz70_0 := blk_frozen BK458.out 0
     obtain ⟨Ao71, co71, eo71⟩ := Kd.N_slice HO_459000.out
     subst eo71
     have hcz72_0 : wr.cell? ⟨gb453, 0, none⟩ = some (.slice none 0 0) := (blk_cell BK453.out 0).trans rfl
     have hfz72_0 := blk_frozen BK453.out 0
     go_wp2
     refine bodyPost_ret (results_ct rfl _ _ gb453 34 #[.slice Ao71 x459000_1.length co71] (0, 0) _ rfl (by (with_reducible repeat (first | refine blk_drewN ?_ _ | refine blk_drew ?_ | refine blk_alloc ?_ _)); refine blk_put (cs := #[.slice none 0 0]) ?_ 0 _ rfl; (with_reducible repeat (first | refine blk_drewN ?_ _ | refine blk_drew ?_ | refine blk_alloc ?_ _)); exact BK453.out) Try.underlying34 rfl (by kernel_rfl)) rfl ?_
     exact ⟨_, by first | rfl | (simp [errW_none, errW_some] <;> rfl) | (simp [*, errW_none, errW_some] <;> rfl), by (with_reducible repeat (first | apply Kd.N_alloc | apply Kd.N_drewN | apply Kd.N_drew)); exact Kd.N_mono (Kd.N_far (p := ⟨gb453, 0, none⟩) (Kd.N_mono HO_459000.out (fun k_ hk => (⟨hk, hk.2.1⟩ : _ ∧ k_ ≠ gb453))) (fun _ hk => hk.2) (.slice Ao71 x459000_1.length co71)) (fun _ hk => hk.1.1), by repeat (first | (with_reducible first | exact HB.out | apply below_alloc | apply pw_below_drewN | apply below_drew1 | refine below_set ?_ GE453.out | refine below_set ?_ GE458.out) | exact HB.out | exact Below.refl _ _)⟩
 ·
  replace c3 := Bool.eq_false_iff.mpr c3
  subst c3
  have H1 : (some (([] : List (List Int)), false)) = some (r1, r2) := by rw [if_neg (show ¬ (false = true) by decide)] at H; exact H
  clear H
  have H := H1
  clear H1
  simp only [Option.some.injEq, Prod.mk.injEq] at H
  obtain ⟨rfl, rfl⟩ := H
  go_enter Try.func17, Try.ntmps17
  go_wp2_with (first | ((with_reducible refine gate_dst (N := 2) rfl ?_); refine box_event ?hg (N := 2) ?hd (cs := #[.slice none 0 0]) (t := 34) ?hr ?_; (case hd => rfl); (case hg => rfl); (case hr => first | (go_simp; done) | (go_simp; rfl)); intro gb453 hg w73 hbox hb; have n0_ := Aside0.mk (below_step (by repeat (first | (with_reducible first | exact HB.out | apply below_alloc | apply pw_below_drewN | apply below_drew1) | exact HB.out | exact Below.refl _ _)) hb); have n1_ := Aside0.mk (hbox); have n2_ := Aside0.mk ((by rw [hg]; exact (below_size (by repeat (first | (with_reducible first | exact HB.out | apply below_alloc | apply pw_below_drewN | apply below_drew1) | exact HB.out | exact Below.refl _ _))) : w.heap.size ≤ gb453)); have n3_ := Aside0.mk ((by rw [hg]; exact (below_size (by repeat (first | (with_reducible first | exact HB.out | apply below_alloc | apply pw_below_drewN | apply below_drew1) | exact HB.out | exact Below.refl _ _))) : w.heap.size ≤ gb453)); clear HB; have HB := n0_; have BK453 := n1_; have GW453 := n2_; have GE453 := n3_; clear n0_ n1_ n2_ n3_; clear hb hbox hg) | ((with_reducible refine gate_callee (f := 32) rfl ?_); refine goesL_ (some 8) rfl rfl Try.func32 (by kernel_rfl) rfl #[.string a0] rfl (by (try simp only [List.map_toArray, List.map_cons, List.map_nil]); first | done | rfl | (simp only [List.length_drop, List.length_take]; rfl)) ?_; (with_reducible refine (impl_IsLetters.calls a0 false _ A2.out).mono ?_); rintro e w74 ⟨rfl, hb⟩; refine ⟨_, rfl, ?_⟩; have n0_ := Aside0.mk (blk_below (g := gb453) (o := .cells #[.slice none 0 0] 34 (0, 0)) (by (with_reducible repeat (first | refine blk_drewN ?_ _ | refine blk_drew ?_ | refine blk_alloc ?_ _)); exact BK453.out) hb); have n1_ := Aside0.mk (below_step (by repeat (first | (with_reducible first | exact HB.out | apply below_alloc | apply pw_below_drewN | apply below_drew1 | refine below_set ?_ GE453.out) | exact HB.out | exact Below.refl _ _)) hb); clear BK453; clear HB; have BK453 := n0_; have HB := n1_; clear n0_ n1_; (try clear hb); (try clear hb2); (try clear hk); (try clear hi); have hcz75_0 : w74.cell? ⟨gb453, 0, none⟩ = some (.slice none 0 0) := (blk_cell BK453.out 0).trans rfl; have hfz75_0 := blk_frozen BK453.out 0))
  refine bodyPost_ret (results_ct rfl _ _ gb453 34 #[.slice none 0 0] (0, 0) _ rfl (by (with_reducible repeat (first | refine blk_drewN ?_ _ | refine blk_drew ?_ | refine blk_alloc ?_ _)); refine blk_put (cs := #[.slice none 0 0]) ?_ 0 _ rfl; (with_reducible repeat (first | refine blk_drewN ?_ _ | refine blk_drew ?_ | refine blk_alloc ?_ _)); exact BK453.out) Try.underlying34 rfl (by kernel_rfl)) rfl ?_
  exact ⟨_, by first | rfl | (simp [errW_none, errW_some] <;> rfl) | (simp [*, errW_none, errW_some] <;> rfl), by first | exact Kd.S_nil _ _ _ _ _ | exact Kd.N_nil _ _ _ _ _ | exact Kd.V_nil _ _ _ _ _ | exact Kd.Q_nil _ _ _ _ _ | exact Kd.R_nil _ _ _ _ _, by repeat (first | (with_reducible first | exact HB.out | apply below_alloc | apply pw_below_drewN | apply below_drew1 | refine below_set ?_ GE453.out) | exact HB.out | exact Below.refl _ _)⟩

/-! ### impl_NumberOfWord: function 16 -/
def impl_NumberOfWord.f (k : Nat) (a0 : ByteArray) : Option (Int × Bool) := (impl_CohnMatrix.f k a0).bind fun bt482 => (if bt482.2 = true then (if 0 < (bt482.1.length : Int) then (if 1 < ((rd_L1 bt482.1 0).length : Int) then (some (rd (rd_L1 bt482.1 0) 1, true)) else (none)) else (none)) else (some (0, false)))
theorem impl_NumberOfWord.mono : ∀ a0 k, LeO (impl_NumberOfWord.f k a0) (impl_NumberOfWord.f (k + 1) a0) := by
 intro a0 k
 unfold impl_NumberOfWord.f
 repeat' first
  | (with_reducible exact impl_CohnMatrix.mono _ _)
  | (with_reducible exact LeO.refl _)
  | (with_reducible exact LeO.none _)
  | (with_reducible refine LeO.ite ?_ ?_)
  | (with_reducible refine LeO.bind ?_ (fun _ => ?_))
  | exact impl_CohnMatrix.mono _ _
  | exact LeO.none _
  | refine LeO.ite ?_ ?_
  | refine LeO.bind ?_ (fun _ => ?_)
set_option maxHeartbeats 8000000 in
set_option maxRecDepth 100000 in
theorem impl_NumberOfWord.calls (k : Nat) (a0 : ByteArray) (r1 : Int) (r2 : Bool) (w : World) (h : impl_NumberOfWord.f k a0 = some (r1, r2)) :
 Calls Try.prog 16 #[.string a0] w fun e w' => e = .returned (.tuple #[.int .i64 r1, .bool r2]) ∧ Below w.heap.size w w' := by
 have hu34 := Try.underlying34
 have HB := Aside0.mk (Below.refl w.heap.size w)
 have H : ((impl_CohnMatrix.f k a0).bind fun bt482 => (if bt482.2 = true then (if 0 < (bt482.1.length : Int) then (if 1 < ((rd_L1 bt482.1 0).length : Int) then (some (rd (rd_L1 bt482.1 0) 1, true)) else (none)) else (none)) else (some (0, false)))) = some (r1, r2) := h
 clear h
 replace H := Option.bind_eq_some_iff.mp H
 obtain ⟨⟨t482, t485⟩, A20, H⟩ := H
 replace H : (if t485 = true then (if 0 < (t482.length : Int) then (if 1 < ((rd_L1 t482 0).length : Int) then (some (rd (rd_L1 t482 0) 1, true)) else (none)) else (none)) else (some (0, false))) = some (r1, r2) := H
 have A2 := Aside0.mk A20
 clear A20
 by_cases c3 : t485 = true
 ·
  subst c3
  have H1 : (if 0 < (t482.length : Int) then (if 1 < ((rd_L1 t482 0).length : Int) then (some (rd (rd_L1 t482 0) 1, true)) else (none)) else (none)) = some (r1, r2) := by rw [if_pos rfl] at H; exact H
  clear H
  have H := H1
  clear H1
  by_cases c4 : 0 < (t482.length : Int)
  ·
   rw [if_pos c4] at H
   have c4b0 : decide (0 < (t482.length : Int)) = true := decide_eq_true c4
   have c4b1 : decide (0 < t482.length) = true := decide_eq_true (by omega)
   clear c4
   by_cases c5 : 1 < ((rd_L1 t482 0).length : Int)
   ·
    rw [if_pos c5] at H
    have c5b0 : decide (1 < ((rd_L1 t482 0).length : Int)) = true := decide_eq_true c5
    have c5b1 : decide (1 < (rd_L1 t482 0).length) = true := decide_eq_true (by omega)
    clear c5
    simp only [Option.some.injEq, Prod.mk.injEq] at H
    obtain ⟨rfl, rfl⟩ := H
    go_enter Try.func16, Try.ntmps16
    go_wp2_with (first | ((with_reducible refine gate_callee (f := 17) rfl ?_); refine goesL_ (some 8) rfl rfl Try.func17 (by kernel_rfl) rfl #[.string a0] rfl (by (try simp only [List.map_toArray, List.map_cons, List.map_nil]); first | done | rfl | (simp only [List.length_drop, List.length_take]; rfl)) ?_; (with_reducible refine (impl_CohnMatrix.calls k a0 t482 true _ A2.out).mono ?_); rintro e w6 ⟨v483, rfl, ho0, hb⟩; refine ⟨_, rfl, ?_⟩; have n0_ := Aside0.mk (Kd.N_lower (Kd.N_mono (ok' := fun k_ => True) ho0 (fun k_ hk_ => trivial)) (below_size (by repeat (first | (with_reducible first | exact HB.out | apply below_alloc | apply pw_below_drewN | apply below_drew1) | exact HB.out | exact Below.refl _ _)))); have n1_ := Aside0.mk (below_step (by repeat (first | (with_reducible first | exact HB.out | apply below_alloc | apply pw_below_drewN | apply below_drew1) | exact HB.out | exact Below.refl _ _)) hb); clear HB; have HO484 := n0_; have HB := n1_; clear n0_ n1_; (try clear hb); (try clear hb2); (try clear hk); (try clear hi); (try clear ho0)) | ((with_reducible refine gate_dst (N := 4) rfl ?_); refine box_event ?hg (N := 4) ?hd (cs := #[.slice none 0 0]) (t := 34) ?hr ?_; (case hd => rfl); (case hg => rfl); (case hr => first | (go_simp; done) | (go_simp; rfl)); intro gb486 hg w7 hbox hb; have n0_ := Aside0.mk (Kd.N_below (Kd.N_elderB (by (with_reducible repeat (first | apply Kd.N_alloc | apply Kd.N_drewN | apply Kd.N_drew)); exact HO484.out) gb486 (Nat.le_of_eq hg.symm)) hb); have n1_ := Aside0.mk (below_step (by repeat (first | (with_reducible first | exact HB.out | apply below_alloc | apply pw_below_drewN | apply below_drew1) | exact HB.out | exact Below.refl _ _)) hb); have n2_ := Aside0.mk (hbox); have n3_ := Aside0.mk ((by rw [hg]; exact (below_size (by repeat (first | (with_reducible first | exact HB.out | apply below_alloc | apply pw_below_drewN | apply below_drew1) | exact HB.out | exact Below.refl _ _))) : w.heap.size ≤ gb486)); have n4_ := Aside0.mk ((by rw [hg]; exact (below_size (by repeat (first | (with_reducible first | exact HB.out | apply below_alloc | apply pw_below_drewN | apply below_drew1) | exact HB.out | exact Below.refl _ _))) : w.heap.size ≤ gb486)); clear HO484; clear HB; have HO484 := n0_; have HB := n1_; have BK486 := n2_; have GW486 := n3_; have GE486 := n4_; clear n0_ n1_ n2_ n3_ n4_; clear hb hbox hg; obtain ⟨Ao8, co8, eo8⟩ := Kd.N_slice HO484.out; subst eo8; have hcz9_0 : w7.cell? ⟨gb486, 0, none⟩ = some (.slice none 0 0) := (blk_cell BK486.out 0).trans rfl; have hfz9_0 := blk_frozen BK486.out 0) | ((with_reducible refine gate_store (t := 34) (p := 4) rfl ?_); refine store_event (t := 34) (p := 4) (v := ?vo_w10) (w1 := (w7.setCell ⟨gb486, 0, none⟩ (.slice Ao8 t482.length co8))) ?hg ?ho ?hn ?hr ?_; (case ho => rfl); (case hg => rfl); (case hn => rfl); (case hr => first | (go_simp; done) | (go_simp; rfl)); intro w10 hw; have n0_ : Aside0 (Kd.N (Kd.slice 3 (Kd.int .i64)) 22 w10 w.heap.size (fun k_ => k_ ≠ gb486) (.slice Ao8 t482.length co8) t482) := ⟨(by rw [hw]; exact (by (with_reducible repeat (first | apply Kd.N_alloc | apply Kd.N_drewN | apply Kd.N_drew)); exact Kd.N_mono (Kd.N_far (p := ⟨gb486, 0, none⟩) (Kd.N_mono HO484.out (fun k_ hk => (⟨hk, hk.2⟩ : _ ∧ k_ ≠ gb486))) (fun _ hk => hk.2) (.slice Ao8 t482.length co8)) (fun _ hk => hk.1.2)))⟩; have n1_ : Aside0 (w10.heap[gb486]? = some (.cells #[.slice Ao8 t482.length co8] 34 (0, 0))) := ⟨(by rw [hw]; exact (by (with_reducible repeat (first | refine blk_drewN ?_ _ | refine blk_drew ?_ | refine blk_alloc ?_ _)); refine blk_put (cs := #[.slice none 0 0]) ?_ 0 _ rfl; (with_reducible repeat (first | refine blk_drewN ?_ _ | refine blk_drew ?_ | refine blk_alloc ?_ _)); exact BK486.out))⟩; have n2_ : Aside0 (Below w.heap.size w w10) := ⟨(by rw [hw]; exact (by repeat (first | (with_reducible first | exact HB.out | apply below_alloc | apply pw_below_drewN | apply below_drew1 | refine below_set ?_ GE486.out) | exact HB.out | exact Below.refl _ _)))⟩; clear hw; clear HO484; clear BK486; clear HB; have HO484 := n0_; have BK486 := n1_; have HB := n2_; clear n0_ n1_ n2_; have hcz11_0 : w10.cell? ⟨gb486, 0, none⟩ = some (.slice Ao8 t482.length co8) := (blk_cell BK486.out 0).trans rfl; have hfz11_0 := blk_frozen BK486.out 0; have p487 : 0 ≤ (0 : Int) := (by omega); have q487 : 0 < (t482.length : Int) := of_decide_eq_true (by first | (with_reducible assumption) | assumption); obtain ⟨ad487, A487_0, c487_0, e487, hx487_0, hl487_0, hi487_0⟩ := at_L1 (Kd.N_reads' HO484.out).2.2 0 p487 q487; cases e487; obtain ⟨ce487, hce487, hMe487, hcc487⟩ := Kd.N_get HO484.out [] 0 p487 (by first | exact q487 | exact of_decide_eq_true (by first | (with_reducible assumption) | assumption) | (have e_ := (Kd.N_reads' HO484.out).1; omega)); obtain ⟨ua487_0, uc487_0, rfl, ul487_0, ge487_0⟩ := Kd.FK_slice_open hMe487; have hv487_0 := hcc487 0 _ rfl; rw [Nat.add_zero, show ((Kd.slice 3 (Kd.int .i64))).sz = 1 from rfl, Nat.mul_one] at hv487_0; replace hv487_0 := Option.some.inj (hv487_0.symm.trans hx487_0); injection hv487_0 with hva_ hvn_ hvc_; rw [hva_] at ge487_0; rw [hvc_] at ul487_0; have HL487_0 := Aside0.mk (show Kd.V (Kd.int .i64) 3 _ w.heap.size _ _ (rd_L1 t482 0) from Kd.V_mk ul487_0 ge487_0); clear hva_ hvn_ hvc_ ge487_0 ul487_0; clear hcc487 hce487; have qi487 : (0 < t482.length) = True := eq_true (by omega); (try rw [show ((0 : Int)).toNat = 0 from rfl] at hx487_0); (try rw [Addr.add_zero'] at hx487_0); have HR487_0 := Aside0.mk hi487_0; have HC487_0 := Aside0.mk hl487_0; clear hi487_0 hl487_0; replace p487 := eq_true p487; replace q487 := eq_true q487; have p488 : 0 ≤ (1 : Int) := (by omega); have q488 : 1 < ((rd_L1 t482 0).length : Int) := of_decide_eq_true (by first | (with_reducible assumption) | assumption); obtain ⟨ad488, e488, hx488_0⟩ := Kd.at_int (by repeat (first | (with_reducible exact HR487_0.out) | (with_reducible refine Kd.C_alloc ?_ _) | (with_reducible refine Kd.C_drewN ?_ _) | (with_reducible refine Kd.C_drew ?_) | exact HR487_0.out)) 1 p488 q488; cases e488; (try simp only [show (1 : Int).toNat = 1 from rfl, Nat.reduceMul, Nat.reduceEqDiff, Go.Addr.add, ↓reduceIte] at hx488_0); have qi488 : (1 < (rd_L1 t482 0).length) = True := eq_true (by omega); (try rw [show ((1 : Int)).toNat = 1 from rfl] at hx488_0); replace p488 := eq_true p488; replace q488 := eq_true q488))
    go_ret2
    exact ⟨by first | rfl | (simp [errW_none, errW_some] <;> rfl) | (simp [*, errW_none, errW_some] <;> rfl), by repeat (first | (with_reducible first | exact HB.out | apply below_alloc | apply pw_below_drewN | apply below_drew1 | refine below_set ?_ GE486.out) | exact HB.out | exact Below.refl _ _)⟩
   ·
    rw [if_neg c5] at H
    exact absurd H (by simp)
  ·
   rw [if_neg c4] at H
   exact absurd H (by simp)
 ·
  replace c3 := Bool.eq_false_iff.mpr c3
  subst c3
  have H1 : (some (0, false)) = some (r1, r2) := by rw [if_neg (show ¬ (false = true) by decide)] at H; exact H
  clear H
  have H := H1
  clear H1
  simp only [Option.some.injEq, Prod.mk.injEq] at H
  obtain ⟨rfl, rfl⟩ := H
  go_enter Try.func16, Try.ntmps16
  go_wp2_with (first | ((with_reducible refine gate_callee (f := 17) rfl ?_); refine goesL_ (some 8) rfl rfl Try.func17 (by kernel_rfl) rfl #[.string a0] rfl (by (try simp only [List.map_toArray, List.map_cons, List.map_nil]); first | done | rfl | (simp only [List.length_drop, List.length_take]; rfl)) ?_; (with_reducible refine (impl_CohnMatrix.calls k a0 t482 false _ A2.out).mono ?_); rintro e w12 ⟨v483, rfl, ho0, hb⟩; refine ⟨_, rfl, ?_⟩; have n0_ := Aside0.mk (Kd.N_lower (Kd.N_mono (ok' := fun k_ => True) ho0 (fun k_ hk_ => trivial)) (below_size (by repeat (first | (with_reducible first | exact HB.out | apply below_alloc | apply pw_below_drewN | apply below_drew1) | exact HB.out | exact Below.refl _ _)))); have n1_ := Aside0.mk (below_step (by repeat (first | (with_reducible first | exact HB.out | apply below_alloc | apply pw_below_drewN | apply below_drew1) | exact HB.out | exact Below.refl _ _)) hb); clear HB; have HO484 := n0_; have HB := n1_; clear n0_ n1_; (try clear hb); (try clear hb2); (try clear hk); (try clear hi); (try clear ho0)) | ((with_reducible refine gate_dst (N := 4) rfl ?_); refine box_event ?hg (N := 4) ?hd (cs := #[.slice none 0 0]) (t := 34) ?hr ?_; (case hd => rfl); (case hg => rfl); (case hr => first | (go_simp; done) | (go_simp; rfl)); intro gb486 hg w13 hbox hb; have n0_ := Aside0.mk (Kd.N_below (Kd.N_elderB (by (with_reducible repeat (first | apply Kd.N_alloc | apply Kd.N_drewN | apply Kd.N_drew)); exact HO484.out) gb486 (Nat.le_of_eq hg.symm)) hb); have n1_ := Aside0.mk (below_step (by repeat (first | (with_reducible first | exact HB.out | apply below_alloc | apply pw_below_drewN | apply below_drew1) | exact HB.out | exact Below.refl _ _)) hb); have n2_ := Aside0.mk (hbox); have n3_ := Aside0.mk ((by rw [hg]; exact (below_size (by repeat (first | (with_reducible first | exact HB.out | apply below_alloc | apply pw_below_drewN | apply below_drew1) | exact HB.out | exact Below.refl _ _))) : w.heap.size ≤ gb486)); have n4_ := Aside0.mk ((by rw [hg]; exact (below_size (by repeat (first | (with_reducible first | exact HB.out | apply below_alloc | apply pw_below_drewN | apply below_drew1) | exact HB.out | exact Below.refl _ _))) : w.heap.size ≤ gb486)); clear HO484; clear HB; have HO484 := n0_; have HB := n1_; have BK486 := n2_; have GW486 := n3_; have GE486 := n4_; clear n0_ n1_ n2_ n3_ n4_; clear hb hbox hg; obtain ⟨Ao14, co14, eo14⟩ := Kd.N_slice HO484.out; subst eo14; have hcz15_0 : w13.cell? ⟨gb486, 0, none⟩ = some (.slice none 0 0) := (blk_cell BK486.out 0).trans rfl; have hfz15_0 := blk_frozen BK486.out 0))
  go_ret2
  exact ⟨by first | rfl | (simp [errW_none, errW_some] <;> rfl) | (simp [*, errW_none, errW_some] <;> rfl), by repeat (first | (with_reducible first | exact HB.out | apply below_alloc | apply pw_below_drewN | apply below_drew1 | refine below_set ?_ GE486.out) | exact HB.out | exact Below.refl _ _)⟩

/-! ### impl_WordOfTriple: function 7 -/
mutual
def impl_WordOfTriple.j0 : Nat → List (List Int) → Bool → Option (ByteArray × Bool)
 | 0, _, _ => none
 | k + 1, x4, x25 => if x25 = true then (some ((⟨#[]⟩ : ByteArray), false)) else (if 0 ≤ (wrap64 ((x4.length : Int) - 3)) then (if (wrap64 ((x4.length : Int) - 3)) ≤ (x4.length : Int) then ((some (x4.take ((wrap64 ((x4.length : Int) - 3)) : Int).toNat : List (List Int))).bind fun y494 => (impl_WordOfTriple.l0 k y494 (⟨#[97]⟩ : ByteArray) (⟨#[98]⟩ : ByteArray) (wrap64 ((y494.length : Int) - 1)))) else (none)) else (none))
def impl_WordOfTriple.l0 : Nat → List (List Int) → ByteArray → ByteArray → Int → Option (ByteArray × Bool)
 | 0, _, _, _, _ => none
 | k + 1, x4, x6, x7, x8 => if x8 ≥ 0 then ((impl_NumberOfWord.f k x6).bind fun bt502 => (if bt502.2 = true then (if 0 ≤ x8 then (if x8 < (x4.length : Int) then (if 0 < ((rd_L1 x4 x8).length : Int) then (if (rd (rd_L1 x4 x8) 0) = bt502.1 then (if x6.size + x7.size ≤ 9223372036854775807 then (if (wrap64 ((x6.size : Int) + ((x6 ++ x7).size : Int))) > 40 then (some ((⟨#[]⟩ : ByteArray), false)) else (impl_WordOfTriple.l0 k x4 x6 (x6 ++ x7) (wrap64 (x8 - 1)))) else (none)) else (if x6.size + x7.size ≤ 9223372036854775807 then (if (wrap64 (((x6 ++ x7).size : Int) + (x7.size : Int))) > 40 then (some ((⟨#[]⟩ : ByteArray), false)) else (impl_WordOfTriple.l0 k x4 (x6 ++ x7) x7 (wrap64 (x8 - 1)))) else (none))) else (none)) else (none)) else (none)) else (some ((⟨#[]⟩ : ByteArray), false)))) else (if x6.size + x7.size ≤ 9223372036854775807 then ((impl_CohnMatrix.f k (x6 ++ x7)).bind fun bt497 => (if bt497.2 = true then (some (x6 ++ x7, true)) else (some ((⟨#[]⟩ : ByteArray), false)))) else (none))
end
def impl_WordOfTriple.f (k : Nat) (l0 : List Int) : Option (ByteArray × Bool) := (impl_MarkovPath.f k l0).bind fun bt489 => (if bt489.2 = true then (if 2 < (l0.length : Int) then (impl_WordOfTriple.j0 k bt489.1 (decide ((rd l0 2) ≤ 2))) else (none)) else (impl_WordOfTriple.j0 k bt489.1 true))
theorem impl_WordOfTriple.mono_l : ∀ k, (∀ y0 y1, LeO (impl_WordOfTriple.j0 k y0 y1) (impl_WordOfTriple.j0 (k + 1) y0 y1)) ∧ (∀ y0 y1 y2 y3, LeO (impl_WordOfTriple.l0 k y0 y1 y2 y3) (impl_WordOfTriple.l0 (k + 1) y0 y1 y2 y3))
 | 0 => ⟨fun _ _ r h => by simp [impl_WordOfTriple.j0] at h, fun _ _ _ _ r h => by simp [impl_WordOfTriple.l0] at h⟩
 | k + 1 => by
  obtain ⟨ih0, ih1⟩ := impl_WordOfTriple.mono_l k
  refine ⟨?_, ?_⟩
  ·
   intro y0 y1
   unfold impl_WordOfTriple.j0
   repeat' first
   | (with_reducible exact ih0 _ _)
   | (with_reducible exact ih1 _ _ _ _)
   | (with_reducible exact impl_CohnMatrix.mono _ _)
   | (with_reducible exact impl_MarkovPath.mono _ _)
   | (with_reducible exact impl_NumberOfWord.mono _ _)
   | (with_reducible exact LeO.refl _)
   | (with_reducible exact LeO.none _)
   | (with_reducible refine LeO.ite ?_ ?_)
   | (with_reducible refine LeO.bind ?_ (fun _ => ?_))
   | exact ih0 _ _
   | exact ih1 _ _ _ _
   | exact impl_CohnMatrix.mono _ _
   | exact impl_MarkovPath.mono _ _
   | exact impl_NumberOfWord.mono _ _
   | exact LeO.none _
   | refine LeO.ite ?_ ?_
   | refine LeO.bind ?_ (fun _ => ?_)
  ·
   intro y0 y1 y2 y3
   unfold impl_WordOfTriple.l0
   repeat' first
   | (with_reducible exact ih0 _ _)
   | (with_reducible exact ih1 _ _ _ _)
   | (with_reducible exact impl_CohnMatrix.mono _ _)
   | (with_reducible exact impl_MarkovPath.mono _ _)
   | (with_reducible exact impl_NumberOfWord.mono _ _)
   | (with_reducible exact LeO.refl _)
   | (with_reducible exact LeO.none _)
   | (with_reducible refine LeO.ite ?_ ?_)
   | (with_reducible refine LeO.bind ?_ (fun _ => ?_))
   | exact ih0 _ _
   | exact ih1 _ _ _ _
   | exact impl_CohnMatrix.mono _ _
   | exact impl_MarkovPath.mono _ _
   | exact impl_NumberOfWord.mono _ _
   | exact LeO.none _
   | refine LeO.ite ?_ ?_
   | refine LeO.bind ?_ (fun _ => ?_)
theorem impl_WordOfTriple.mono : ∀ a0 k, LeO (impl_WordOfTriple.f k a0) (impl_WordOfTriple.f (k + 1) a0) := by
 intro a0 k
 obtain ⟨ih0, ih1⟩ := impl_WordOfTriple.mono_l k
 unfold impl_WordOfTriple.f
 repeat' first
  | (with_reducible exact ih0 _ _)
  | (with_reducible exact ih1 _ _ _ _)
  | (with_reducible exact impl_CohnMatrix.mono _ _)
  | (with_reducible exact impl_MarkovPath.mono _ _)
  | (with_reducible exact impl_NumberOfWord.mono _ _)
  | (with_reducible exact LeO.refl _)
  | (with_reducible exact LeO.none _)
  | (with_reducible refine LeO.ite ?_ ?_)
  | (with_reducible refine LeO.bind ?_ (fun _ => ?_))
  | exact ih0 _ _
  | exact ih1 _ _ _ _
  | exact impl_CohnMatrix.mono _ _
  | exact impl_MarkovPath.mono _ _
  | exact impl_NumberOfWord.mono _ _
  | exact LeO.none _
  | refine LeO.ite ?_ ?_
  | refine LeO.bind ?_ (fun _ => ?_)
set_option maxHeartbeats 8000000 in
set_option maxRecDepth 100000 in
theorem impl_WordOfTriple.calls (k : Nat) (A0 : Option Addr) (c0 : Nat) (l0 : List Int) (r1 : ByteArray) (r2 : Bool) (w : World) (hr0 : Kd.C (Kd.int .i64) w A0 l0.length l0) (hc0 : l0.length ≤ c0) (h : impl_WordOfTriple.f k l0 = some (r1, r2)) :
 Calls Try.prog 7 #[.slice A0 l0.length c0] w fun e w' => e = .returned (.tuple #[.string r1, .bool r2]) ∧ Below w.heap.size w w' := by
 have hu34 := Try.underlying34
 have HR0 := Aside0.mk hr0
 have HC0 := Aside0.mk hc0
 clear hr0 hc0
 have HB := Aside0.mk (Below.refl w.heap.size w)
 have H : ((impl_MarkovPath.f k l0).bind fun bt489 => (if bt489.2 = true then (if 2 < (l0.length : Int) then (impl_WordOfTriple.j0 k bt489.1 (decide ((rd l0 2) ≤ 2))) else (none)) else (impl_WordOfTriple.j0 k bt489.1 true))) = some (r1, r2) := h
 clear h
 replace H := Option.bind_eq_some_iff.mp H
 obtain ⟨⟨t489, t492⟩, A20, H⟩ := H
 replace H : (if t492 = true then (if 2 < (l0.length : Int) then (impl_WordOfTriple.j0 k t489 (decide ((rd l0 2) ≤ 2))) else (none)) else (impl_WordOfTriple.j0 k t489 true)) = some (r1, r2) := H
 have A2 := Aside0.mk A20
 clear A20
 have HC3 := Aside0.mk H
 clear H
 go_enter Try.func7, Try.ntmps7
 go_upto_region 2 with (first | ((with_reducible refine gate_callee (f := 15) rfl ?_); refine goesL_ (some 15) rfl rfl Try.func15 (by kernel_rfl) rfl #[.slice A0 l0.length c0] rfl (by (try simp only [List.map_toArray, List.map_cons, List.map_nil]); first | done | rfl | (simp only [List.length_drop, List.length_take]; rfl)) ?_; (with_reducible refine (impl_MarkovPath.calls k (fun k_ => k_ < w.heap.size) _ _ l0 t489 t492 _ ?side1 A2.out).mono ?_); (case side1 => exact Kd.V_mk HC0.out (Kd.F_below (Kd.C_F (Kd.heap_int .i64) HR0.out) (by repeat (first | (with_reducible first | exact HB.out | apply below_alloc | apply pw_below_drewN | apply below_drew1) | exact HB.out | exact Below.refl _ _)))); rintro e w4 ⟨v490, rfl, ho0, hb⟩; refine ⟨_, rfl, ?_⟩; have n0_ := Aside0.mk (Kd.N_lower (Kd.N_mono (ok' := fun k_ => True) ho0 (fun k_ hk_ => trivial)) (below_size (by repeat (first | (with_reducible first | exact HB.out | apply below_alloc | apply pw_below_drewN | apply below_drew1) | exact HB.out | exact Below.refl _ _)))); have n1_ := Aside0.mk (below_step (by repeat (first | (with_reducible first | exact HB.out | apply below_alloc | apply pw_below_drewN | apply below_drew1) | exact HB.out | exact Below.refl _ _)) hb); clear HB; have HO491 := n0_; have HB := n1_; clear n0_ n1_; (try clear hb); (try clear hb2); (try clear hk); (try clear hi); (try clear ho0)))
 (try simp only [Act.put, List.setIfInBounds_toArray, List.set_cons_zero, List.set_cons_succ])
 go_cut [25] (fun v25 wc => ∃ (kq : Nat) (x25_2 : Bool), v25 = .bool x25_2 ∧ Aside0 (impl_WordOfTriple.j0 kq t489 x25_2 = some (r1, r2)) ∧ Aside0 (kq ≤ k) ∧ Aside0 (Kd.N (Kd.slice 3 (Kd.int .i64)) 22 wc w.heap.size (fun _ => True) v490 t489) ∧ Aside0 (Below w.heap.size w wc))
 case first =>
  have H := HC3.out
  clear HC3
  by_cases c5 : t492 = true
  ·
   subst c5
   have H1 : (if 2 < (l0.length : Int) then (impl_WordOfTriple.j0 k t489 (decide ((rd l0 2) ≤ 2))) else (none)) = some (r1, r2) := by rw [if_pos rfl] at H; exact H
   clear H
   have H := H1
   clear H1
   by_cases c6 : 2 < (l0.length : Int)
   ·
    rw [if_pos c6] at H
    have c6b0 : decide (2 < (l0.length : Int)) = true := decide_eq_true c6
    have c6b1 : decide (2 < l0.length) = true := decide_eq_true (by omega)
    clear c6
    (first | rw [c6b0] | (simp only [i64_w, i32_w]; rw [c6b0]) | skip)
    have H' := Aside0.mk H
    clear H
    have p493 : 0 ≤ (2 : Int) := (by omega)
    have q493 : 2 < (l0.length : Int) := of_decide_eq_true (by first | (with_reducible assumption) | assumption)
    obtain ⟨ad493, e493, hx493_0⟩ := Kd.at_int HR0.out 2 p493 q493
    cases e493
    (try simp only [show (2 : Int).toNat = 2 from rfl, Nat.reduceMul, Nat.reduceEqDiff, Go.Addr.add, ↓reduceIte] at hx493_0)
    have qi493 : (2 < l0.length) = True := eq_true (by omega)
    (try rw [show ((2 : Int)).toNat = 2 from rfl] at hx493_0)
    replace hx493_0 := (HB.out.cell (World.block_lt_of_cell? w _ hx493_0)).trans hx493_0
    replace p493 := eq_true p493
    replace q493 := eq_true q493
    go_wp2
    go_meet
    case rel => exact ⟨_, (decide ((rd l0 2) ≤ 2)), (by first | rfl | (simp; done) | (simp [*]; done)), H', ⟨by first | omega | exact Nat.le_refl _⟩, ⟨by (with_reducible repeat (first | apply Kd.N_alloc | apply Kd.N_drewN | apply Kd.N_drew)); exact HO491.out⟩, ⟨by repeat (first | (with_reducible first | exact HB.out | apply below_alloc | apply pw_below_drewN | apply below_drew1) | exact HB.out | exact Below.refl _ _)⟩⟩
   ·
    rw [if_neg c6] at H
    exact absurd H (by simp)
  ·
   replace c5 := Bool.eq_false_iff.mpr c5
   subst c5
   have H1 : (impl_WordOfTriple.j0 k t489 true) = some (r1, r2) := by rw [if_neg (show ¬ (false = true) by decide)] at H; exact H
   clear H
   have H := H1
   clear H1
   have H' := Aside0.mk H
   clear H
   go_wp2
   go_meet
   case rel => exact ⟨_, (true), (by first | rfl | (simp; done) | (simp [*]; done)), H', ⟨by first | omega | exact Nat.le_refl _⟩, ⟨by (with_reducible repeat (first | apply Kd.N_alloc | apply Kd.N_drewN | apply Kd.N_drew)); exact HO491.out⟩, ⟨by repeat (first | (with_reducible first | exact HB.out | apply below_alloc | apply pw_below_drewN | apply below_drew1) | exact HB.out | exact Below.refl _ _)⟩⟩
 case rest =>
  clear HC3; (try clear c1); (try clear p2); (try clear p4); (try clear q4); (try clear hx4); (try clear qi4); (try clear c5); (try clear c6); (try clear c6b0); (try clear c6b1); (try clear hx493_0); (try clear p493); (try clear q493)
  obtain ⟨kq, x25_2, rfl, HA, HJ2, HO_4, HB⟩ := hcut
  cases kq with
  | zero => exact absurd HA.out (by simp [impl_WordOfTriple.j0])
  | succ kj2 =>
   have H := HA.out
   clear HA
   simp only [impl_WordOfTriple.j0] at H
   by_cases c7 : x25_2 = true
   ·
    subst c7
    have H1 : (some ((⟨#[]⟩ : ByteArray), false)) = some (r1, r2) := by rw [if_pos rfl] at H; exact H
    clear H
    have H := H1
    clear H1
    simp only [Option.some.injEq, Prod.mk.injEq] at H
    obtain ⟨rfl, rfl⟩ := H
    go_wp2
    go_ret2
    exact ⟨by first | rfl | (simp [errW_none, errW_some] <;> rfl) | (simp [*, errW_none, errW_some] <;> rfl), by repeat (first | (with_reducible first | exact HB.out | apply below_alloc | apply pw_below_drewN | apply below_drew1) | exact HB.out | exact Below.refl _ _)⟩
   ·
    replace c7 := Bool.eq_false_iff.mpr c7
    subst c7
    have H1 : (if 0 ≤ (wrap64 ((t489.length : Int) - 3)) then (if (wrap64 ((t489.length : Int) - 3)) ≤ (t489.length : Int) then ((some (t489.take ((wrap64 ((t489.length : Int) - 3)) : Int).toNat : List (List Int))).bind fun y494 => (impl_WordOfTriple.l0 kj2 y494 (⟨#[97]⟩ : ByteArray) (⟨#[98]⟩ : ByteArray) (wrap64 ((y494.length : Int) - 1)))) else (none)) else (none)) = some (r1, r2) := by rw [if_neg (show ¬ (false = true) by decide)] at H; exact H
    clear H
    have H := H1
    clear H1
    obtain ⟨ji8, hji8⟩ : ∃ j_ : Int, (wrap64 ((t489.length : Int) - 3)) = j_ := ⟨_, rfl⟩
    replace H : (if 0 ≤ (ji8) then (if (ji8) ≤ (t489.length : Int) then ((some (t489.take ((ji8) : Int).toNat : List (List Int))).bind fun y494 => (impl_WordOfTriple.l0 kj2 y494 (⟨#[97]⟩ : ByteArray) (⟨#[98]⟩ : ByteArray) (wrap64 ((y494.length : Int) - 1)))) else (none)) else (none)) = some (r1, r2) := by first | (rw [hji8] at H; exact H) | (simp only [hji8] at H ⊢; exact H)
    have hji8w : (IntKind.i64.wrap ((t489.length : Int) - 3)) = ji8 := (i64_w _).trans hji8
    by_cases c9 : 0 ≤ (ji8)
    ·
     rw [if_pos c9] at H
     have c9b0 := eq_true c9
     have c9b1 : decide (0 ≤ (ji8)) = true := decide_eq_true c9
     clear c9
     by_cases c10 : (ji8) ≤ (t489.length : Int)
     ·
      rw [if_pos c10] at H
      have c10b0 := eq_true c10
      have c10b1 : decide ((ji8) ≤ (t489.length : Int)) = true := decide_eq_true c10
      clear c10
      obtain ⟨y494, hy494⟩ : ∃ y_ : List (List Int), y_ = (t489.take ((ji8) : Int).toNat) := ⟨_, rfl⟩
      replace H : (impl_WordOfTriple.l0 kj2 y494 (⟨#[97]⟩ : ByteArray) (⟨#[98]⟩ : ByteArray) (wrap64 ((y494.length : Int) - 1))) = some (r1, r2) := by first | (rw [hy494]; with_reducible exact H) | (have H2_ := (Option.bind_some _ _).symm.trans H; rw [hy494]; with_reducible exact H2_) | (have H2_ := (Option.bind_some _ _).symm.trans H; with_reducible exact H2_) | with_reducible exact H | (rw [hy494]; exact H) | exact H
      have Ny494 := Aside0.mk hy494
      clear hy494
      have H' := Aside0.mk H
      clear H
      obtain ⟨Ao11, co11, eo11⟩ := Kd.N_slice HO_4.out
      subst eo11
      have q12 : ((ji8) : Int) ≤ ((t489.length : Int) : Int) := of_decide_eq_true (by first | (with_reducible assumption) | assumption)
      obtain ⟨i012, hi012, _, hsz12, _⟩ := info_parts info22
      have hcut12 := cut_to (P := Try.prog) 32 22 .i64 Try.underlying32 hi012 Ao11 t489.length co11 (ji8) (of_decide_eq_true (by first | (with_reducible assumption) | assumption)) q12 (Kd.N_reads' HO_4.out).2.1
      have hr12 := Kd.N_take (m := ((ji8) : Int).toNat) HO_4.out (by omega)
      have hy12 : y494.length = ((ji8) : Int).toNat := (by rw [Ny494.out, List.length_take]; omega)
      rw [← Ny494.out] at hr12
      rw [← hy12] at hr12 hcut12
      clear hy12 hi012 hsz12 HO_4
      have HO496 := Aside0.mk hr12
      clear hr12
      replace q12 := eq_true q12
      go_wp2
      go_loopg [6, 7, 8] kj2 (fun kq v6 v7 v8 w' => ∃ (x6_2 : ByteArray) (x7_2 : ByteArray) (x8_2 : Int), v6 = .string x6_2 ∧ v7 = .string x7_2 ∧ v8 = .int .i64 x8_2 ∧ Aside0 (impl_WordOfTriple.l0 kq y494 x6_2 x7_2 x8_2 = some (r1, r2)) ∧ Aside0 (kq ≤ kj2) ∧ Aside0 (Kd.N (Kd.slice 3 (Kd.int .i64)) 22 w' w.heap.size (fun _ => True) (.slice Ao11 y494.length co11) y494) ∧ Aside0 (Below w.heap.size w w'))
      case atStart => exact ⟨((⟨#[97]⟩ : ByteArray)), ((⟨#[98]⟩ : ByteArray)), (wrap64 ((y494.length : Int) - 1)), (by first | rfl | (simp; done) | (simp [*]; done)), (by first | rfl | (simp; done) | (simp [*]; done)), (by first | rfl | (simp; done) | (simp [*]; done)), H', ⟨Nat.le_refl _⟩, ⟨by (with_reducible repeat (first | apply Kd.N_alloc | apply Kd.N_drewN | apply Kd.N_drew)); exact HO496.out⟩, ⟨by repeat (first | (with_reducible first | exact HB.out | apply below_alloc | apply pw_below_drewN | apply below_drew1) | exact HB.out | exact Below.refl _ _)⟩⟩
      case round =>
       clear H'; (try clear c1); (try clear q1); (try clear p2); (try clear p4); (try clear q4); (try clear hx4); (try clear qi4); (try clear c5); (try clear c6); (try clear c6b0); (try clear c6b1); (try clear p6); (try clear c7); (try clear c9); (try clear c9b0); (try clear c9b1); (try clear c10); (try clear c10b0); (try clear c10b1); (try clear q12); (try clear hx493_0); (try clear p2); (try clear p4); (try clear p493); (try clear q12); (try clear q4); (try clear q493)
       obtain ⟨x6_2, x7_2, x8_2, rfl, rfl, rfl, HA, HK2, HO_4, HB⟩ := hrel
       cases gk with
       | zero => exact absurd HA.out (by simp [impl_WordOfTriple.l0])
       | succ k2 =>
        have H := HA.out
        clear HA
        simp only [impl_WordOfTriple.l0] at H
        by_cases c13 : x8_2 ≥ 0
        ·
         rw [if_pos c13] at H
         have c13b0 : decide (0 ≤ x8_2) = true := decide_eq_true c13
         clear c13
         replace H := Option.bind_eq_some_iff.mp H
         obtain ⟨⟨t502, t503⟩, A140, H⟩ := H
         replace H : (if t503 = true then (if 0 ≤ x8_2 then (if x8_2 < (y494.length : Int) then (if 0 < ((rd_L1 y494 x8_2).length : Int) then (if (rd (rd_L1 y494 x8_2) 0) = t502 then (if x6_2.size + x7_2.size ≤ 9223372036854775807 then (if (wrap64 ((x6_2.size : Int) + ((x6_2 ++ x7_2).size : Int))) > 40 then (some ((⟨#[]⟩ : ByteArray), false)) else (impl_WordOfTriple.l0 k2 y494 x6_2 (x6_2 ++ x7_2) (wrap64 (x8_2 - 1)))) else (none)) else (if x6_2.size + x7_2.size ≤ 9223372036854775807 then (if (wrap64 (((x6_2 ++ x7_2).size : Int) + (x7_2.size : Int))) > 40 then (some ((⟨#[]⟩ : ByteArray), false)) else (impl_WordOfTriple.l0 k2 y494 (x6_2 ++ x7_2) x7_2 (wrap64 (x8_2 - 1)))) else (none))) else (none)) else (none)) else (none)) else (some ((⟨#[]⟩ : ByteArray), false))) = some (r1, r2) := H
         have A14 := Aside0.mk A140
         clear A140
         by_cases c15 : t503 = true
         ·
          subst c15
          have H1 : (if 0 ≤ x8_2 then (if x8_2 < (y494.length : Int) then (if 0 < ((rd_L1 y494 x8_2).length : Int) then (if (rd (rd_L1 y494 x8_2) 0) = t502 then (if x6_2.size + x7_2.size ≤ 9223372036854775807 then (if (wrap64 ((x6_2.size : Int) + ((x6_2 ++ x7_2).size : Int))) > 40 then (some ((⟨#[]⟩ : ByteArray), false)) else (impl_WordOfTriple.l0 k2 y494 x6_2 (x6_2 ++ x7_2) (wrap64 (x8_2 - 1)))) else (none)) else (if x6_2.size + x7_2.size ≤ 9223372036854775807 then (if (wrap64 (((x6_2 ++ x7_2).size : Int) + (x7_2.size : Int))) > 40 then (some ((⟨#[]⟩ : ByteArray), false)) else (impl_WordOfTriple.l0 k2 y494 (x6_2 ++ x7_2) x7_2 (wrap64 (x8_2 - 1)))) else (none))) else (none)) else (none)) else (none)) = some (r1, r2) := by rw [if_pos rfl] at H; exact H
          clear H
          have H := H1
          clear H1
          by_cases c16 : 0 ≤ x8_2
          ·
           rw [if_pos c16] at H
           have c16b0 : decide (0 ≤ x8_2) = true := decide_eq_true c16
           clear c16
           by_cases c17 : x8_2 < (y494.length : Int)
           ·
            rw [if_pos c17] at H
            have c17b0 : decide (x8_2 < (y494.length : Int)) = true := decide_eq_true c17
            clear c17
            by_cases c18 : 0 < ((rd_L1 y494 x8_2).length : Int)
            ·
             rw [if_pos c18] at H
             have c18b0 : decide (0 < ((rd_L1 y494 x8_2).length : Int)) = true := decide_eq_true c18
             have c18b1 : decide (0 < (rd_L1 y494 x8_2).length) = true := decide_eq_true (by omega)
             clear c18
             by_cases c19 : (rd (rd_L1 y494 x8_2) 0) = t502
             ·
              rw [if_pos c19] at H
              have c19b0 : ((rd (rd_L1 y494 x8_2) 0) == t502) = true := beq_iff_eq.mpr c19
              have c19b1 : ((rd (rd_L1 y494 x8_2) 0) != t502) = false := bne_eq_false_iff_eq.mpr c19
              clear c19
              by_cases c20 : x6_2.size + x7_2.size ≤ 9223372036854775807
              ·
               rw [if_pos c20] at H
               have c20b0 := eq_true c20
               have c20b1 : decide (x6_2.size + x7_2.size ≤ 9223372036854775807) = true := decide_eq_true c20
               try have c20b2 : (9223372036854775807 < x6_2.size + x7_2.size) = False := eq_false (Nat.not_lt.2 c20)
               by_cases c21 : (wrap64 ((x6_2.size : Int) + ((x6_2 ++ x7_2).size : Int))) > 40
               ·
                rw [if_pos c21] at H
                have c21b0 : decide (40 < (wrap64 ((x6_2.size : Int) + ((x6_2 ++ x7_2).size : Int)))) = true := decide_eq_true c21
                have c21b7 : decide (40 < (wrap64 ((x6_2.size : Int) + ((x6_2.size : Int) + (x7_2.size : Int))))) = true := by have h_ := c21b0; rw [ByteArray.size_append, Int.natCast_add] at h_; exact h_
                clear c21
                simp only [Option.some.injEq, Prod.mk.injEq] at H
                obtain ⟨rfl, rfl⟩ := H
                go_wp2_with (first | ((with_reducible refine gate_callee (f := 16) rfl ?_); refine goesL_ (some 40) rfl rfl Try.func16 (by kernel_rfl) rfl #[.string x6_2] rfl (by (try simp only [List.map_toArray, List.map_cons, List.map_nil]); first | done | rfl | (simp only [List.length_drop, List.length_take]; rfl)) ?_; (with_reducible refine (impl_NumberOfWord.calls k2 x6_2 t502 true _ A14.out).mono ?_); rintro e w22 ⟨rfl, hb⟩; refine ⟨_, rfl, ?_⟩; have n0_ := Aside0.mk (Kd.N_below (by (with_reducible repeat (first | apply Kd.N_alloc | apply Kd.N_drewN | apply Kd.N_drew)); exact HO_4.out) hb); have n1_ := Aside0.mk (below_step (by repeat (first | (with_reducible first | exact HB.out | apply below_alloc | apply pw_below_drewN | apply below_drew1) | exact HB.out | exact Below.refl _ _)) hb); clear HO_4; clear HB; have HO_4 := n0_; have HB := n1_; clear n0_ n1_; (try clear hb); (try clear hb2); (try clear hk); (try clear hi); have p504 : 0 ≤ (x8_2 : Int) := of_decide_eq_true (by first | (with_reducible assumption) | assumption); have q504 : x8_2 < (y494.length : Int) := of_decide_eq_true (by first | (with_reducible assumption) | assumption); obtain ⟨ad504, A504_0, c504_0, e504, hx504_0, hl504_0, hi504_0⟩ := at_L1 (Kd.N_reads' HO_4.out).2.2 x8_2 p504 q504; cases e504; obtain ⟨ce504, hce504, hMe504, hcc504⟩ := Kd.N_get HO_4.out [] x8_2 p504 (by first | exact q504 | exact of_decide_eq_true (by first | (with_reducible assumption) | assumption) | (have e_ := (Kd.N_reads' HO_4.out).1; omega)); obtain ⟨ua504_0, uc504_0, rfl, ul504_0, ge504_0⟩ := Kd.FK_slice_open hMe504; have hv504_0 := hcc504 0 _ rfl; rw [Nat.add_zero, show ((Kd.slice 3 (Kd.int .i64))).sz = 1 from rfl, Nat.mul_one] at hv504_0; replace hv504_0 := Option.some.inj (hv504_0.symm.trans hx504_0); injection hv504_0 with hva_ hvn_ hvc_; rw [hva_] at ge504_0; rw [hvc_] at ul504_0; have HL504_0 := Aside0.mk (show Kd.V (Kd.int .i64) 3 _ w.heap.size _ _ (rd_L1 y494 x8_2) from Kd.V_mk ul504_0 ge504_0); clear hva_ hvn_ hvc_ ge504_0 ul504_0; clear hcc504 hce504; have HR504_0 := Aside0.mk hi504_0; have HC504_0 := Aside0.mk hl504_0; clear hi504_0 hl504_0; replace p504 := eq_true p504; replace q504 := eq_true q504; have p505 : 0 ≤ (0 : Int) := (by omega); have q505 : 0 < ((rd_L1 y494 x8_2).length : Int) := of_decide_eq_true (by first | (with_reducible assumption) | assumption); obtain ⟨ad505, e505, hx505_0⟩ := Kd.at_int (by repeat (first | (with_reducible exact HR504_0.out) | (with_reducible refine Kd.C_alloc ?_ _) | (with_reducible refine Kd.C_drewN ?_ _) | (with_reducible refine Kd.C_drew ?_) | exact HR504_0.out)) 0 p505 q505; cases e505; have qi505 : (0 < (rd_L1 y494 x8_2).length) = True := eq_true (by omega); (try rw [show ((0 : Int)).toNat = 0 from rfl] at hx505_0); (try rw [Addr.add_zero'] at hx505_0); replace p505 := eq_true p505; replace q505 := eq_true q505))
                go_ret2
                exact ⟨by first | rfl | (simp [errW_none, errW_some] <;> rfl) | (simp only [← hji8]; first | rfl | (simp [errW_none, errW_some] <;> rfl)) | (simp [*, errW_none, errW_some] <;> rfl), by repeat (first | (with_reducible first | exact HB.out | apply below_alloc | apply pw_below_drewN | apply below_drew1) | exact HB.out | exact Below.refl _ _)⟩
               ·
                rw [if_neg c21] at H
                have c21b0 : decide (40 < (wrap64 ((x6_2.size : Int) + ((x6_2 ++ x7_2).size : Int)))) = false := decide_eq_false c21
                have c21b7 : decide (40 < (wrap64 ((x6_2.size : Int) + ((x6_2.size : Int) + (x7_2.size : Int))))) = false := by have h_ := c21b0; rw [ByteArray.size_append, Int.natCast_add] at h_; exact h_
                clear c21
                have H' := Aside0.mk H
                clear H
                go_wp2_with (first | ((with_reducible refine gate_callee (f := 16) rfl ?_); refine goesL_ (some 40) rfl rfl Try.func16 (by kernel_rfl) rfl #[.string x6_2] rfl (by (try simp only [List.map_toArray, List.map_cons, List.map_nil]); first | done | rfl | (simp only [List.length_drop, List.length_take]; rfl)) ?_; (with_reducible refine (impl_NumberOfWord.calls k2 x6_2 t502 true _ A14.out).mono ?_); rintro e w23 ⟨rfl, hb⟩; refine ⟨_, rfl, ?_⟩; have n0_ := Aside0.mk (Kd.N_below (by (with_reducible repeat (first | apply Kd.N_alloc | apply Kd.N_drewN | apply Kd.N_drew)); exact HO_4.out) hb); have n1_ := Aside0.mk (below_step (by repeat (first | (with_reducible first | exact HB.out | apply below_alloc | apply pw_below_drewN | apply below_drew1) | exact HB.out | exact Below.refl _ _)) hb); clear HO_4; clear HB; have HO_4 := n0_; have HB := n1_; clear n0_ n1_; (try clear hb); (try clear hb2); (try clear hk); (try clear hi); have p504 : 0 ≤ (x8_2 : Int) := of_decide_eq_true (by first | (with_reducible assumption) | assumption); have q504 : x8_2 < (y494.length : Int) := of_decide_eq_true (by first | (with_reducible assumption) | assumption); obtain ⟨ad504, A504_0, c504_0, e504, hx504_0, hl504_0, hi504_0⟩ := at_L1 (Kd.N_reads' HO_4.out).2.2 x8_2 p504 q504; cases e504; obtain ⟨ce504, hce504, hMe504, hcc504⟩ := Kd.N_get HO_4.out [] x8_2 p504 (by first | exact q504 | exact of_decide_eq_true (by first | (with_reducible assumption) | assumption) | (have e_ := (Kd.N_reads' HO_4.out).1; omega)); obtain ⟨ua504_0, uc504_0, rfl, ul504_0, ge504_0⟩ := Kd.FK_slice_open hMe504; have hv504_0 := hcc504 0 _ rfl; rw [Nat.add_zero, show ((Kd.slice 3 (Kd.int .i64))).sz = 1 from rfl, Nat.mul_one] at hv504_0; replace hv504_0 := Option.some.inj (hv504_0.symm.trans hx504_0); injection hv504_0 with hva_ hvn_ hvc_; rw [hva_] at ge504_0; rw [hvc_] at ul504_0; have HL504_0 := Aside0.mk (show Kd.V (Kd.int .i64) 3 _ w.heap.size _ _ (rd_L1 y494 x8_2) from Kd.V_mk ul504_0 ge504_0); clear hva_ hvn_ hvc_ ge504_0 ul504_0; clear hcc504 hce504; have HR504_0 := Aside0.mk hi504_0; have HC504_0 := Aside0.mk hl504_0; clear hi504_0 hl504_0; replace p504 := eq_true p504; replace q504 := eq_true q504; have p505 : 0 ≤ (0 : Int) := (by omega); have q505 : 0 < ((rd_L1 y494 x8_2).length : Int) := of_decide_eq_true (by first | (with_reducible assumption) | assumption); obtain ⟨ad505, e505, hx505_0⟩ := Kd.at_int (by repeat (first | (with_reducible exact HR504_0.out) | (with_reducible refine Kd.C_alloc ?_ _) | (with_reducible refine Kd.C_drewN ?_ _) | (with_reducible refine Kd.C_drew ?_) | exact HR504_0.out)) 0 p505 q505; cases e505; have qi505 : (0 < (rd_L1 y494 x8_2).length) = True := eq_true (by omega); (try rw [show ((0 : Int)).toNat = 0 from rfl] at hx505_0); (try rw [Addr.add_zero'] at hx505_0); replace p505 := eq_true p505; replace q505 := eq_true q505))
                go_roundg k2
                case measure => have := HJ2.out; have := HK2.out; omega
                case rel => exact ⟨(x6_2), (x6_2 ++ x7_2), (wrap64 (x8_2 - 1)), (by first | rfl | (simp; done) | (simp [*]; done)), (by first | rfl | (simp; done) | (simp [*]; done)), (by first | rfl | (simp; done) | (simp [*]; done)), H', ⟨by have := HJ2.out; have := HK2.out; omega⟩, ⟨by (with_reducible repeat (first | apply Kd.N_alloc | apply Kd.N_drewN | apply Kd.N_drew)); exact HO_4.out⟩, ⟨by repeat (first | (with_reducible first | exact HB.out | apply below_alloc | apply pw_below_drewN | apply below_drew1) | exact HB.out | exact Below.refl _ _)⟩⟩
              ·
               rw [if_neg c20] at H
               exact absurd H (by simp)
             ·
              rw [if_neg c19] at H
              have c19b0 : ((rd (rd_L1 y494 x8_2) 0) == t502) = false := beq_eq_false_iff_ne.mpr c19
              have c19b1 : ((rd (rd_L1 y494 x8_2) 0) != t502) = true := bne_iff_ne.mpr c19
              by_cases c24 : x6_2.size + x7_2.size ≤ 9223372036854775807
              ·
               rw [if_pos c24] at H
               have c24b0 := eq_true c24
               have c24b1 : decide (x6_2.size + x7_2.size ≤ 9223372036854775807) = true := decide_eq_true c24
               try have c24b2 : (9223372036854775807 < x6_2.size + x7_2.size) = False := eq_false (Nat.not_lt.2 c24)
               by_cases c25 : (wrap64 (((x6_2 ++ x7_2).size : Int) + (x7_2.size : Int))) > 40
               ·
                rw [if_pos c25] at H
                have c25b0 : decide (40 < (wrap64 (((x6_2 ++ x7_2).size : Int) + (x7_2.size : Int)))) = true := decide_eq_true c25
                have c25b7 : decide (40 < (wrap64 (((x6_2.size : Int) + (x7_2.size : Int)) + (x7_2.size : Int)))) = true := by have h_ := c25b0; rw [ByteArray.size_append, Int.natCast_add] at h_; exact h_
                clear c25
                simp only [Option.some.injEq, Prod.mk.injEq] at H
                obtain ⟨rfl, rfl⟩ := H
                go_wp2_with (first | ((with_reducible refine gate_callee (f := 16) rfl ?_); refine goesL_ (some 40) rfl rfl Try.func16 (by kernel_rfl) rfl #[.string x6_2] rfl (by (try simp only [List.map_toArray, List.map_cons, List.map_nil]); first | done | rfl | (simp only [List.length_drop, List.length_take]; rfl)) ?_; (with_reducible refine (impl_NumberOfWord.calls k2 x6_2 t502 true _ A14.out).mono ?_); rintro e w26 ⟨rfl, hb⟩; refine ⟨_, rfl, ?_⟩; have n0_ := Aside0.mk (Kd.N_below (by (with_reducible repeat (first | apply Kd.N_alloc | apply Kd.N_drewN | apply Kd.N_drew)); exact HO_4.out) hb); have n1_ := Aside0.mk (below_step (by repeat (first | (with_reducible first | exact HB.out | apply below_alloc | apply pw_below_drewN | apply below_drew1) | exact HB.out | exact Below.refl _ _)) hb); clear HO_4; clear HB; have HO_4 := n0_; have HB := n1_; clear n0_ n1_; (try clear hb); (try clear hb2); (try clear hk); (try clear hi); have p504 : 0 ≤ (x8_2 : Int) := of_decide_eq_true (by first | (with_reducible assumption) | assumption); have q504 : x8_2 < (y494.length : Int) := of_decide_eq_true (by first | (with_reducible assumption) | assumption); obtain ⟨ad504, A504_0, c504_0, e504, hx504_0, hl504_0, hi504_0⟩ := at_L1 (Kd.N_reads' HO_4.out).2.2 x8_2 p504 q504; cases e504; obtain ⟨ce504, hce504, hMe504, hcc504⟩ := Kd.N_get HO_4.out [] x8_2 p504 (by first | exact q504 | exact of_decide_eq_true (by first | (with_reducible assumption) | assumption) | (have e_ := (Kd.N_reads' HO_4.out).1; omega)); obtain ⟨ua504_0, uc504_0, rfl, ul504_0, ge504_0⟩ := Kd.FK_slice_open hMe504; have hv504_0 := hcc504 0 _ rfl; rw [Nat.add_zero, show ((Kd.slice 3 (Kd.int .i64))).sz = 1 from rfl, Nat.mul_one] at hv504_0; replace hv504_0 := Option.some.inj (hv504_0.symm.trans hx504_0); injection hv504_0 with hva_ hvn_ hvc_; rw [hva_] at ge504_0; rw [hvc_] at ul504_0; have HL504_0 := Aside0.mk (show Kd.V (Kd.int .i64) 3 _ w.heap.size _ _ (rd_L1 y494 x8_2) from Kd.V_mk ul504_0 ge504_0); clear hva_ hvn_ hvc_ ge504_0 ul504_0; clear hcc504 hce504; have HR504_0 := Aside0.mk hi504_0; have HC504_0 := Aside0.mk hl504_0; clear hi504_0 hl504_0; replace p504 := eq_true p504; replace q504 := eq_true q504; have p505 : 0 ≤ (0 : Int) := (by omega); have q505 : 0 < ((rd_L1 y494 x8_2).length : Int) := of_decide_eq_true (by first | (with_reducible assumption) | assumption); obtain ⟨ad505, e505, hx505_0⟩ := Kd.at_int (by repeat (first | (with_reducible exact HR504_0.out) | (with_reducible refine Kd.C_alloc ?_ _) | (with_reducible refine Kd.C_drewN ?_ _) | (with_reducible refine Kd.C_drew ?_) | exact HR504_0.out)) 0 p505 q505; cases e505; have qi505 : (0 < (rd_L1 y494 x8_2).length) = True := eq_true (by omega); (try rw [show ((0 : Int)).toNat = 0 from rfl] at hx505_0); (try rw [Addr.add_zero'] at hx505_0); replace p505 := eq_true p505; replace q505 := eq_true q505))
                go_ret2
                exact ⟨by first | rfl | (simp [errW_none, errW_some] <;> rfl) | (simp only [← hji8]; first | rfl | (simp [errW_none, errW_some] <;> rfl)) | (simp [*, errW_none, errW_some] <;> rfl), by repeat (first | (with_reducible first | exact HB.out | apply below_alloc | apply pw_below_drewN | apply below_drew1) | exact HB.out | exact Below.refl _ _)⟩
               ·
                rw [if_neg c25] at H
                have c25b0 : decide (40 < (wrap64 (((x6_2 ++ x7_2).size : Int) + (x7_2.size : Int)))) = false := decide_eq_false c25
                have c25b7 : decide (40 < (wrap64 (((x6_2.size : Int) + (x7_2.size : Int)) + (x7_2.size : Int)))) = false := by have h_ := c25b0; rw [ByteArray.size_append, Int.natCast_add] at h_; exact h_
                clear c25
                have H' := Aside0.mk H
                clear H
                go_wp2_with (first | ((with_reducible refine gate_callee (f := 16) rfl ?_); refine goesL_ (some 40) rfl rfl Try.func16 (by kernel_rfl) rfl #[.string x6_2] rfl (by (try simp only [List.map_toArray, List.map_cons, List.map_nil]); first | done | rfl | (simp only [List.length_drop, List.length_take]; rfl)) ?_; (with_reducible refine (impl_NumberOfWord.calls k2 x6_2 t502 true _ A14.out).mono ?_); rintro e w27 ⟨rfl, hb⟩; refine ⟨_, rfl, ?_⟩; have n0_ := Aside0.mk (Kd.N_below (by (with_reducible repeat (first | apply Kd.N_alloc | apply Kd.N_drewN | apply Kd.N_drew)); exact HO_4.out) hb); have n1_ := Aside0.mk (below_step (by repeat (first | (with_reducible first | exact HB.out | apply below_alloc | apply pw_below_drewN | apply below_drew1) | exact HB.out | exact Below.refl _ _)) hb); clear HO_4; clear HB; have HO_4 := n0_; have HB := n1_; clear n0_ n1_; (try clear hb); (try clear hb2); (try clear hk); (try clear hi); have p504 : 0 ≤ (x8_2 : Int) := of_decide_eq_true (by first | (with_reducible assumption) | assumption); have q504 : x8_2 < (y494.length : Int) := of_decide_eq_true (by first | (with_reducible assumption) | assumption); obtain ⟨ad504, A504_0, c504_0, e504, hx504_0, hl504_0, hi504_0⟩ := at_L1 (Kd.N_reads' HO_4.out).2.2 x8_2 p504 q504; cases e504; obtain ⟨ce504, hce504, hMe504, hcc504⟩ := Kd.N_get HO_4.out [] x8_2 p504 (by first | exact q504 | exact of_decide_eq_true (by first | (with_reducible assumption) | assumption) | (have e_ := (Kd.N_reads' HO_4.out).1; omega)); obtain ⟨ua504_0, uc504_0, rfl, ul504_0, ge504_0⟩ := Kd.FK_slice_open hMe504; have hv504_0 := hcc504 0 _ rfl; rw [Nat.add_zero, show ((Kd.slice 3 (Kd.int .i64))).sz = 1 from rfl, Nat.mul_one] at hv504_0; replace hv504_0 := Option.some.inj (hv504_0.symm.trans hx504_0); injection hv504_0 with hva_ hvn_ hvc_; rw [hva_] at ge504_0; rw [hvc_] at ul504_0; have HL504_0 := Aside0.mk (show Kd.V (Kd.int .i64) 3 _ w.heap.size _ _ (rd_L1 y494 x8_2) from Kd.V_mk ul504_0 ge504_0); clear hva_ hvn_ hvc_ ge504_0 ul504_0; clear hcc504 hce504; have HR504_0 := Aside0.mk hi504_0; have HC504_0 := Aside0.mk hl504_0; clear hi504_0 hl504_0; replace p504 := eq_true p504; replace q504 := eq_true q504; have p505 : 0 ≤ (0 : Int) := (by omega); have q505 : 0 < ((rd_L1 y494 x8_2).length : Int) := of_decide_eq_true (by first | (with_reducible assumption) | assumption); obtain ⟨ad505, e505, hx505_0⟩ := Kd.at_int (by repeat (first | (with_reducible exact HR504_0.out) | (with_reducible refine Kd.C_alloc ?_ _) | (with_reducible refine Kd.C_drewN ?_ _) | (with_reducible refine Kd.C_drew ?_) | exact HR504_0.out)) 0 p505 q505; cases e505; have qi505 : (0 < (rd_L1 y494 x8_2).length) = True := eq_true (by omega); (try rw [show ((0 : Int)).toNat = 0 from rfl] at hx505_0); (try rw [Addr.add_zero'] at hx505_0); replace p505 := eq_true p505; replace q505 := eq_true q505))
                go_roundg k2
                case measure => have := HJ2.out; have := HK2.out; omega
                case rel => exact ⟨(x6_2 ++ x7_2), (x7_2), (wrap64 (x8_2 - 1)), (by first | rfl | (simp; done) | (simp [*]; done)), (by first | rfl | (simp; done) | (simp [*]; done)), (by first | rfl | (simp; done) | (simp [*]; done)), H', ⟨by have := HJ2.out; have := HK2.out; omega⟩, ⟨by (with_reducible repeat (first | apply Kd.N_alloc | apply Kd.N_drewN | apply Kd.N_drew)); exact HO_4.out⟩, ⟨by repeat (first | (with_reducible first | exact HB.out | apply below_alloc | apply pw_below_drewN | apply below_drew1) | exact HB.out | exact Below.refl _ _)⟩⟩
              ·
               rw [if_neg c24] at H
               exact absurd H (by simp)
            ·
             rw [if_neg c18] at H
             exact absurd H (by simp)
           ·
            rw [if_neg c17] at H
            exact absurd H (by simp)
          ·
           rw [if_neg c16] at H
           exact absurd H (by simp)
         ·
          replace c15 := Bool.eq_false_iff.mpr c15
          subst c15
          have H1 : (some ((⟨#[]⟩ : ByteArray), false)) = some (r1, r2) := by rw [if_neg (show ¬ (false = true) by decide)] at H; exact H
          clear H
          have H := H1
          clear H1
          simp only [Option.some.injEq, Prod.mk.injEq] at H
          obtain ⟨rfl, rfl⟩ := H
          go_wp2_with (first | ((with_reducible refine gate_callee (f := 16) rfl ?_); refine goesL_ (some 40) rfl rfl Try.func16 (by kernel_rfl) rfl #[.string x6_2] rfl (by (try simp only [List.map_toArray, List.map_cons, List.map_nil]); first | done | rfl | (simp only [List.length_drop, List.length_take]; rfl)) ?_; (with_reducible refine (impl_NumberOfWord.calls k2 x6_2 t502 false _ A14.out).mono ?_); rintro e w28 ⟨rfl, hb⟩; refine ⟨_, rfl, ?_⟩; have n0_ := Aside0.mk (Kd.N_below (by (with_reducible repeat (first | apply Kd.N_alloc | apply Kd.N_drewN | apply Kd.N_drew)); exact HO_4.out) hb); have n1_ := Aside0.mk (below_step (by repeat (first | (with_reducible first | exact HB.out | apply below_alloc | apply pw_below_drewN | apply below_drew1) | exact HB.out | exact Below.refl _ _)) hb); clear HO_4; clear HB; have HO_4 := n0_; have HB := n1_; clear n0_ n1_; (try clear hb); (try clear hb2); (try clear hk); (try clear hi)))
          go_ret2
          exact ⟨by first | rfl | (simp [errW_none, errW_some] <;> rfl) | (simp only [← hji8]; first | rfl | (simp [errW_none, errW_some] <;> rfl)) | (simp [*, errW_none, errW_some] <;> rfl), by repeat (first | (with_reducible first | exact HB.out | apply below_alloc | apply pw_below_drewN | apply below_drew1) | exact HB.out | exact Below.refl _ _)⟩
        ·
         rw [if_neg c13] at H
         have c13b0 : decide (0 ≤ x8_2) = false := decide_eq_false c13
         clear c13
         by_cases c29 : x6_2.size + x7_2.size ≤ 9223372036854775807
         ·
          rw [if_pos c29] at H
          have c29b0 := eq_true c29
          have c29b1 : decide (x6_2.size + x7_2.size ≤ 9223372036854775807) = true := decide_eq_true c29
          try have c29b2 : (9223372036854775807 < x6_2.size + x7_2.size) = False := eq_false (Nat.not_lt.2 c29)
          replace H := Option.bind_eq_some_iff.mp H
          obtain ⟨⟨t497, t500⟩, A300, H⟩ := H
          replace H : (if t500 = true then (some (x6_2 ++ x7_2, true)) else (some ((⟨#[]⟩ : ByteArray), false))) = some (r1, r2) := H
          have A30 := Aside0.mk A300
          clear A300
          by_cases c31 : t500 = true
          ·
           subst c31
           have H1 : (some (x6_2 ++ x7_2, true)) = some (r1, r2) := by rw [if_pos rfl] at H; exact H
           clear H
           have H := H1
           clear H1
           simp only [Option.some.injEq, Prod.mk.injEq] at H
           obtain ⟨rfl, rfl⟩ := H
           go_wp2_with (first | ((with_reducible refine gate_callee (f := 17) rfl ?_); refine goesL_ (some 69) rfl rfl Try.func17 (by kernel_rfl) rfl #[.string (x6_2 ++ x7_2)] rfl (by (try simp only [List.map_toArray, List.map_cons, List.map_nil]); first | done | rfl | (simp only [List.length_drop, List.length_take]; rfl)) ?_; (with_reducible refine (impl_CohnMatrix.calls k2 (x6_2 ++ x7_2) t497 true _ A30.out).mono ?_); rintro e w32 ⟨v498, rfl, ho0, hb⟩; refine ⟨_, rfl, ?_⟩; have n0_ := Aside0.mk (Kd.N_elder' (by (with_reducible repeat (first | apply Kd.N_alloc | apply Kd.N_drewN | apply Kd.N_drew)); exact HO_4.out) (Kd.N_base ho0) hb); have n1_ := Aside0.mk (Kd.N_lower (Kd.N_mono (ok' := fun k_ => some k_ ≠ (.slice Ao11 y494.length co11 : Value).ownBlock) ho0 (fun k_ hk_ => (Kd.fresh' (Kd.N_lt (by (with_reducible repeat (first | apply Kd.N_alloc | apply Kd.N_drewN | apply Kd.N_drew)); exact HO_4.out)) k_ hk_))) (below_size (by repeat (first | (with_reducible first | exact HB.out | apply below_alloc | apply pw_below_drewN | apply below_drew1) | exact HB.out | exact Below.refl _ _)))); have n2_ := Aside0.mk (below_step (by repeat (first | (with_reducible first | exact HB.out | apply below_alloc | apply pw_below_drewN | apply below_drew1) | exact HB.out | exact Below.refl _ _)) hb); clear HO_4; clear HB; have HO_4 := n0_; have HO499 := n1_; have HB := n2_; clear n0_ n1_ n2_; (try clear hb); (try clear hb2); (try clear hk); (try clear hi); (try clear ho0)) | ((with_reducible refine gate_dst (N := 11) rfl ?_); refine box_event ?hg (N := 11) ?hd (cs := #[.slice none 0 0]) (t := 34) ?hr ?_; (case hd => rfl); (case hg => rfl); (case hr => first | (go_simp; done) | (go_simp; rfl)); intro gb501 hg w33 hbox hb; have n0_ := Aside0.mk (Kd.N_below (Kd.N_elderB (by (with_reducible repeat (first | apply Kd.N_alloc | apply Kd.N_drewN | apply Kd.N_drew)); exact HO_4.out) gb501 (Nat.le_of_eq hg.symm)) hb); have n1_ := Aside0.mk (Kd.N_below (Kd.N_elderB (by (with_reducible repeat (first | apply Kd.N_alloc | apply Kd.N_drewN | apply Kd.N_drew)); exact HO499.out) gb501 (Nat.le_of_eq hg.symm)) hb); have n2_ := Aside0.mk (below_step (by repeat (first | (with_reducible first | exact HB.out | apply below_alloc | apply pw_below_drewN | apply below_drew1) | exact HB.out | exact Below.refl _ _)) hb); have n3_ := Aside0.mk (hbox); have n4_ := Aside0.mk ((by rw [hg]; exact (below_size (by repeat (first | (with_reducible first | exact HB.out | apply below_alloc | apply pw_below_drewN | apply below_drew1) | exact HB.out | exact Below.refl _ _))) : w.heap.size ≤ gb501)); have n5_ := Aside0.mk ((by rw [hg]; exact (below_size (by repeat (first | (with_reducible first | exact HB.out | apply below_alloc | apply pw_below_drewN | apply below_drew1) | exact HB.out | exact Below.refl _ _))) : w.heap.size ≤ gb501)); clear HO_4; clear HO499; clear HB; have HO_4 := n0_; have HO499 := n1_; have HB := n2_; have BK501 := n3_; have GW501 := n4_; have GE501 := n5_; clear n0_ n1_ n2_ n3_ n4_ n5_; clear hb hbox hg; obtain ⟨Ao34, co34, eo34⟩ := Kd.N_slice HO499.out; subst eo34; have hcz35_0 : w33.cell? ⟨gb501, 0, none⟩ = some (.slice none 0 0) := (blk_cell BK501.out 0).trans rfl; have hfz35_0 := blk_frozen BK501.out 0))
           go_ret2
           exact ⟨by first | rfl | (simp [errW_none, errW_some] <;> rfl) | (simp only [← hji8]; first | rfl | (simp [errW_none, errW_some] <;> rfl)) | (simp [*, errW_none, errW_some] <;> rfl), by repeat (first | (with_reducible first | exact HB.out | apply below_alloc | apply pw_below_drewN | apply below_drew1 | refine below_set ?_ GE501.out) | exact HB.out | exact Below.refl _ _)⟩
          ·
           replace c31 := Bool.eq_false_iff.mpr c31
           subst c31
           have H1 : (some ((⟨#[]⟩ : ByteArray), false)) = some (r1, r2) := by rw [if_neg (show ¬ (false = true) by decide)] at H; exact H
           clear H
           have H := H1
           clear H1
           simp only [Option.some.injEq, Prod.mk.injEq] at H
           obtain ⟨rfl, rfl⟩ := H
           go_wp2_with (first | ((with_reducible refine gate_callee (f := 17) rfl ?_); refine goesL_ (some 69) rfl rfl Try.func17 (by kernel_rfl) rfl #[.string (x6_2 ++ x7_2)] rfl (by (try simp only [List.map_toArray, List.map_cons, List.map_nil]); first | done | rfl | (simp only [List.length_drop, List.length_take]; rfl)) ?_; (with_reducible refine (impl_CohnMatrix.calls k2 (x6_2 ++ x7_2) t497 false _ A30.out).mono ?_); rintro e w36 ⟨v498, rfl, ho0, hb⟩; refine ⟨_, rfl, ?_⟩; have n0_ := Aside0.mk (Kd.N_elder' (by (with_reducible repeat (first | apply Kd.N_alloc | apply Kd.N_drewN | apply Kd.N_drew)); exact HO_4.out) (Kd.N_base ho0) hb); have n1_ := Aside0.mk (Kd.N_lower (Kd.N_mono (ok' := fun k_ => some k_ ≠ (.slice Ao11 y494.length co11 : Value).ownBlock) ho0 (fun k_ hk_ => (Kd.fresh' (Kd.N_lt (by (with_reducible repeat (first | apply Kd.N_alloc | apply Kd.N_drewN | apply Kd.N_drew)); exact HO_4.out)) k_ hk_))) (below_size (by repeat (first | (with_reducible first | exact HB.out | apply below_alloc | apply pw_below_drewN | apply below_drew1) | exact HB.out | exact Below.refl _ _)))); have n2_ := Aside0.mk (below_step (by repeat (first | (with_reducible first | exact HB.out | apply below_alloc | apply pw_below_drewN | apply below_drew1) | exact HB.out | exact Below.refl _ _)) hb); clear HO_4; clear HB; have HO_4 := n0_; have HO499 := n1_; have HB := n2_; clear n0_ n1_ n2_; (try clear hb); (try clear hb2); (try clear hk); (try clear hi); (try clear ho0)) | ((with_reducible refine gate_dst (N := 11) rfl ?_); refine box_event ?hg (N := 11) ?hd (cs := #[.slice none 0 0]) (t := 34) ?hr ?_; (case hd => rfl); (case hg => rfl); (case hr => first | (go_simp; done) | (go_simp; rfl)); intro gb501 hg w37 hbox hb; have n0_ := Aside0.mk (Kd.N_below (Kd.N_elderB (by (with_reducible repeat (first | apply Kd.N_alloc | apply Kd.N_drewN | apply Kd.N_drew)); exact HO_4.out) gb501 (Nat.le_of_eq hg.symm)) hb); have n1_ := Aside0.mk (Kd.N_below (Kd.N_elderB (by (with_reducible repeat (first | apply Kd.N_alloc | apply Kd.N_drewN | apply Kd.N_drew)); exact HO499.out) gb501 (Nat.le_of_eq hg.symm)) hb); have n2_ := Aside0.mk (below_step (by repeat (first | (with_reducible first | exact HB.out | apply below_alloc | apply pw_below_drewN | apply below_drew1) | exact HB.out | exact Below.refl _ _)) hb); have n3_ := Aside0.mk (hbox); have n4_ := Aside0.mk ((by rw [hg]; exact (below_size (by repeat (first | (with_reducible first | exact HB.out | apply below_alloc | apply pw_below_drewN | apply below_drew1) | exact HB.out | exact Below.refl _ _))) : w.heap.size ≤ gb501)); have n5_ := Aside0.mk ((by rw [hg]; exact (below_size (by repeat (first | (with_reducible first | exact HB.out | apply below_alloc | apply pw_below_drewN | apply below_drew1) | exact HB.out | exact Below.refl _ _))) : w.heap.size ≤ gb501)); clear HO_4; clear HO499; clear HB; have HO_4 := n0_; have HO499 := n1_; have HB := n2_; have BK501 := n3_; have GW501 := n4_; have GE501 := n5_; clear n0_ n1_ n2_ n3_ n4_ n5_; clear hb hbox hg; obtain ⟨Ao38, co38, eo38⟩ := Kd.N_slice HO499.out; subst eo38; have hcz39_0 : w37.cell? ⟨gb501, 0, none⟩ = some (.slice none 0 0) := (blk_cell BK501.out 0).trans rfl; have hfz39_0 := blk_frozen BK501.out 0))
           go_ret2
           exact ⟨by first | rfl | (simp [errW_none, errW_some] <;> rfl) | (simp only [← hji8]; first | rfl | (simp [errW_none, errW_some] <;> rfl)) | (simp [*, errW_none, errW_some] <;> rfl), by repeat (first | (with_reducible first | exact HB.out | apply below_alloc | apply pw_below_drewN | apply below_drew1 | refine below_set ?_ GE501.out) | exact HB.out | exact Below.refl _ _)⟩
         ·
          rw [if_neg c29] at H
          exact absurd H (by simp)
     ·
      rw [if_neg c10] at H
      exact absurd H (by simp)
    ·
     rw [if_neg c9] at H
     exact absurd H (by simp)

end Go.Proofs.Ytljlplohicffpaa.P
