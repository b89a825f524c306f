-- Written by a program of this session (wip/mkprint.py over the kit's print), out of the translation. Not trusted: Lean checks it.
import Derived.Test.YtnaginnhccldhaaAx0
import Derived.Test.YtnaginnhccldhaaAx1
import Derived.Test.YtnaginnhccldhaaAx2
import Derived.Test.YtnaginnhccldhaaGA
namespace Go.Proofs.Ytnaginnhccldhaa.P
open Go.RowKit Go.Proofs.YtnaginnhccldhaaW.PrintWords Go.Proofs.YtnaginnhccldhaaW.PrintLast Go.Proofs.YtnaginnhccldhaaW.PrintMore
attribute [local go_sem] max2_int min2_int max_two min_two max_three min_three max_four min_four   -- for this text's walks alone
set_option linter.unusedVariables false
set_option linter.unusedSimpArgs false

/-! ### spec_foUnit: function 57 -/
def spec_foUnit.l0 : Nat → Int → Int → List (List Int) → Option ((List (List Int)))
 | 0, _, _, _ => none
 | k + 1, x9, x10, x171000 => if x10 < x9 then (if 0 ≤ x10 then (if x10 < (x171000.length : Int) then (if x10 < ((rd_L2 x171000 x10).length : Int) then (spec_foUnit.l0 k x9 (wrap64 (x10 + 1)) (x171000.set (x10 : Int).toNat ((rd_L2 x171000 x10).set (x10 : Int).toNat 1))) else (none)) else (none)) else (none)) else (some x171000)
def spec_foUnit.f (k : Nat) (a0 : Int) : Option ((List (List Int))) := (spec_foZero.f k a0).bind fun t167 => (spec_foUnit.l0 k (t167.length : Int) 0 t167)
theorem spec_foUnit.mono_l : ∀ k, (∀ y0 y1 y2, LeO (spec_foUnit.l0 k y0 y1 y2) (spec_foUnit.l0 (k + 1) y0 y1 y2))
 | 0 => fun _ _ _ r h => by simp [spec_foUnit.l0] at h
 | k + 1 => by
  have ih0 := spec_foUnit.mono_l k
  ·
   intro y0 y1 y2
   unfold spec_foUnit.l0
   repeat' first
   | (with_reducible exact ih0 _ _ _)
   | (with_reducible exact spec_foZero.mono _ _)
   | (with_reducible exact LeO.refl _)
   | (with_reducible exact LeO.none _)
   | (with_reducible refine LeO.ite ?_ ?_)
   | (with_reducible refine LeO.bind ?_ (fun _ => ?_))
   | exact ih0 _ _ _
   | exact spec_foZero.mono _ _
   | exact LeO.none _
   | refine LeO.ite ?_ ?_
   | refine LeO.bind ?_ (fun _ => ?_)
theorem spec_foUnit.mono : ∀ a0 k, LeO (spec_foUnit.f k a0) (spec_foUnit.f (k + 1) a0) := by
 intro a0 k
 have ih0 := spec_foUnit.mono_l k
 unfold spec_foUnit.f
 repeat' first
  | (with_reducible exact ih0 _ _ _)
  | (with_reducible exact spec_foZero.mono _ _)
  | (with_reducible exact LeO.refl _)
  | (with_reducible exact LeO.none _)
  | (with_reducible refine LeO.ite ?_ ?_)
  | (with_reducible refine LeO.bind ?_ (fun _ => ?_))
  | exact ih0 _ _ _
  | exact spec_foZero.mono _ _
  | exact LeO.none _
  | refine LeO.ite ?_ ?_
  | refine LeO.bind ?_ (fun _ => ?_)
set_option maxHeartbeats 8000000 in
set_option maxRecDepth 100000 in
theorem spec_foUnit.calls (k : Nat) (a0 : Int) (r : List (List Int)) (w : World) (h : spec_foUnit.f k a0 = some r) :
 Calls Try.prog 57 #[.int .i64 a0] w fun e w' => ∃ v0_ : Value, e = .returned (.agg #[v0_]) ∧ Kd.S (Kd.slice 3 (Kd.int .i64)) 35 w' w.heap.size (fun _ => True) v0_ r ∧ Below w.heap.size w w' := by
 have hu26 := Try.underlying26
 have HB := Aside0.mk (Below.refl w.heap.size w)
 have H : ((spec_foZero.f k a0).bind fun t167 => (spec_foUnit.l0 k (t167.length : Int) 0 t167)) = some r := h
 clear h
 replace H := Option.bind_eq_some_iff.mp H
 obtain ⟨t167, A20, H⟩ := H
 replace H : (spec_foUnit.l0 k (t167.length : Int) 0 t167) = some r := H
 have A2 := Aside0.mk A20
 clear A20
 have H' := Aside0.mk H
 clear H
 go_enter Try.func57, Try.ntmps57
 go_wp2_with (first | ((with_reducible refine gate_dst (N := 2) rfl ?_); refine box_event ?hg (N := 2) ?hd (cs := #[.slice none 0 0]) (t := 26) ?hr ?_; (case hd => rfl); (case hg => rfl); (case hr => first | (go_simp; done) | (go_simp; rfl)); intro gb166 hg w3 hbox hb; have n0_ := Aside0.mk (below_step bq hb); have n1_ := Aside0.mk (hbox); have n2_ := Aside0.mk ((by rw [hg]; exact (below_size bq) : w.heap.size ≤ gb166)); have n3_ := Aside0.mk ((by rw [hg]; exact (below_size bq) : w.heap.size ≤ gb166)); clear HB; have HB := n0_; have BK166 := n1_; have GW166 := n2_; have GE166 := n3_; clear n0_ n1_ n2_ n3_; clear hb hbox hg) | ((with_reducible refine gate_callee (f := 52) rfl ?_); refine gL (some 6) rfl rfl Try.func52 (by kernel_rfl) rfl #[.int .i64 a0] rfl ?_; (with_reducible refine (spec_foZero.calls k a0 t167 _ A2.out).mono ?_); rintro e w4 ⟨v168, rfl, ho0, hb⟩; refine ⟨_, rfl, ?_⟩; have n0_ := Aside0.mk (Kd.S_lower ho0 (below_size (kB HB))); have n1_ := Aside0.mk (kK BK166 hb); have n2_ := Aside0.mk (below_step (kB HB) hb); clear BK166; clear HB; have HO169 := n0_; have BK166 := n1_; have HB := n2_; clear n0_ n1_ n2_; (try clear hb); (try clear hb2); (try clear hk); (try clear hi); (try clear ho0)) | ((with_reducible refine gate_dst (N := 3) rfl ?_); refine box_event ?hg (N := 3) ?hd (cs := #[.slice none 0 0]) (t := 26) ?hr ?_; (case hd => rfl); (case hg => rfl); (case hr => first | (go_simp; done) | (go_simp; rfl)); intro gb170 hg w5 hbox hb; have n0_ := Aside0.mk (Kd.S_below (by (with_reducible repeat (first | apply Kd.S_alloc | apply Kd.S_drewN | apply Kd.S_drew)); exact HO169.out) hb); have n1_ := Aside0.mk (kK BK166 hb); have n2_ := Aside0.mk (below_step (kB HB) hb); have n3_ := Aside0.mk (hbox); have n4_ := Aside0.mk ((by rw [hg]; exact (below_size (kB HB)) : w.heap.size ≤ gb170)); have n5_ := Aside0.mk ((by rw [hg]; exact (below_size (kB HB)) : w.heap.size ≤ gb170)); have n6_ := Aside0.mk ((by rw [hg]; exact Nat.ne_of_lt (blk_lt (g := gb166) (o := .cells #[.slice none 0 0] 26 (0, 0)) (bA BK166)) : gb166 ≠ gb170)); have n7_ := Aside0.mk ((by rw [hg]; exact Nat.ne_of_gt (blk_lt (g := gb166) (o := .cells #[.slice none 0 0] 26 (0, 0)) (bA BK166)) : gb170 ≠ gb166)); clear HO169; clear BK166; clear HB; have HO169 := n0_; have BK166 := n1_; have HB := n2_; have BK170 := n3_; have GW170 := n4_; have GE170 := n5_; have NB166_170 := n6_; have NB170_166 := n7_; clear n0_ n1_ n2_ n3_ n4_ n5_ n6_ n7_; clear hb hbox hg; obtain ⟨Ao6, co6, eo6⟩ := Kd.S_slice HO169.out; subst eo6; have hnb7 := NB170_166.out; have hnc7 := NB166_170.out; have hcz8_0 : w5.cell? ⟨gb170, 0, none⟩ = some (.slice none 0 0) := (blk_cell BK170.out 0).trans rfl; have hfz8_0 := blk_frozen BK170.out 0))
 go_loopg [10] k (fun kq v10 w' => ∃ (x10_1 : Int) (x171000_1 : List (List Int)) (u171000 : Value), v10 = .int .i64 x10_1 ∧ Aside0 (spec_foUnit.l0 kq (t167.length : Int) x10_1 x171000_1 = some r) ∧ Aside0 (kq ≤ k) ∧ Aside0 (Kd.S (Kd.slice 3 (Kd.int .i64)) 35 w' w.heap.size (fun _ => True) u171000 x171000_1) ∧ Aside0 (w'.heap[gb166]? = some (.cells #[(.slice none 0 0)] 26 (0, 0))) ∧ Aside0 (w'.heap[gb170]? = some (.cells #[u171000] 26 (0, 0))) ∧ Aside0 (Below w.heap.size w w'))
 case atStart => exact ⟨(0), (t167), (.slice Ao6 t167.length co6), e2, H', ⟨Nat.le_refl _⟩, ⟨by (with_reducible repeat (first | apply Kd.S_alloc | apply Kd.S_drewN | apply Kd.S_drew)); exact Kd.S_mono (Kd.S_far (p := ⟨gb170, 0, none⟩) (Kd.S_types HO169.out BK170.out (by decide)) (fun _ hk => hk.2) (.slice Ao6 t167.length co6)) (fun _ hk => trivial)⟩, ⟨by (with_reducible repeat (first | refine blk_drewN ?_ _ | refine blk_drew ?_ | refine blk_alloc ?_ _)); refine blk_far ?_ NB166_170.out _; (with_reducible repeat (first | refine blk_drewN ?_ _ | refine blk_drew ?_ | refine blk_alloc ?_ _)); exact BK166.out⟩, ⟨by (with_reducible repeat (first | refine blk_drewN ?_ _ | refine blk_drew ?_ | refine blk_alloc ?_ _)); refine blk_put (cs := #[.slice none 0 0]) ?_ 0 _ rfl; (with_reducible repeat (first | refine blk_drewN ?_ _ | refine blk_drew ?_ | refine blk_alloc ?_ _)); exact BK170.out⟩, ⟨kB HB⟩⟩
 case round =>
  clear H'; (try clear p2); (try clear c5); (try clear c7); (try clear hcz8_0); (try clear hfz8_0)
  obtain ⟨x10_1, x171000_1, u171000, rfl, HA, HK1, HO_171000, BK166, BK170, HB⟩ := hrel
  cases gk with
  | zero => exact absurd HA.out (by simp [spec_foUnit.l0])
  | succ k1 =>
   have H := HA.out
   clear HA
   simp only [spec_foUnit.l0] at H
   by_cases c9 : x10_1 < (t167.length : Int)
   ·
    rw [if_pos c9] at H
    have c9b0 : decide (x10_1 < (t167.length : Int)) = true := decide_eq_true c9
    clear c9
    by_cases c10 : 0 ≤ x10_1
    ·
     rw [if_pos c10] at H
     have c10b0 : decide (0 ≤ x10_1) = true := decide_eq_true c10
     clear c10
     by_cases c11 : x10_1 < (x171000_1.length : Int)
     ·
      rw [if_pos c11] at H
      have c11b0 : decide (x10_1 < (x171000_1.length : Int)) = true := decide_eq_true c11
      clear c11
      by_cases c12 : x10_1 < ((rd_L2 x171000_1 x10_1).length : Int)
      ·
       rw [if_pos c12] at H
       have c12b0 : decide (x10_1 < ((rd_L2 x171000_1 x10_1).length : Int)) = true := decide_eq_true c12
       clear c12
       obtain ⟨y172, hy172⟩ : ∃ y_ : List Int, y_ = ((rd_L2 x171000_1 x10_1).set (x10_1 : Int).toNat 1) := ⟨_, rfl⟩
       replace H : (spec_foUnit.l0 k1 (t167.length : Int) (wrap64 (x10_1 + 1)) (x171000_1.set (x10_1 : Int).toNat y172)) = some r := by first | (rw [hy172]; with_reducible exact H) | (have H2_ := (Option.bind_some _ _).symm.trans H; rw [hy172]; with_reducible exact H2_) | (have H2_ := (Option.bind_some _ _).symm.trans H; with_reducible exact H2_) | with_reducible exact H | (rw [hy172]; exact H) | exact H
       have Ny172 := Aside0.mk hy172
       clear hy172
       obtain ⟨y174, hy174⟩ : ∃ y_ : List (List Int), y_ = (x171000_1.set (x10_1 : Int).toNat y172) := ⟨_, rfl⟩
       replace H : (spec_foUnit.l0 k1 (t167.length : Int) (wrap64 (x10_1 + 1)) y174) = some r := by first | (rw [hy174]; with_reducible exact H) | (have H2_ := (Option.bind_some _ _).symm.trans H; rw [hy174]; with_reducible exact H2_) | (have H2_ := (Option.bind_some _ _).symm.trans H; with_reducible exact H2_) | with_reducible exact H | (rw [hy174]; exact H) | exact H
       have Ny174 := Aside0.mk hy174
       clear hy174
       have H' := Aside0.mk H
       clear H
       have hnb14 := NB170_166.out
       have hnc14 := NB166_170.out
       have hcz15_0 : wr.cell? ⟨gb170, 0, none⟩ = some (u171000) := (blk_cell BK170.out 0).trans rfl
       have hfz15_0 := blk_frozen BK170.out 0
       obtain ⟨Ao16, co16, eo16⟩ := Kd.S_slice HO_171000.out
       subst eo16
       have p171 : 0 ≤ (x10_1 : Int) := od
       have q171 : x10_1 < (x171000_1.length : Int) := od
       obtain ⟨ad171, A171_0, c171_0, e171, hx171_0, hl171_0, hi171_0⟩ := at_L2 (Kd.S_reads' HO_171000.out).2.2 x10_1 p171 q171
       cases e171
       obtain ⟨ce171, hce171, hMe171, hcc171⟩ := Kd.S_get HO_171000.out [] x10_1 p171 (by first | exact q171 | exact od | (have e_ := (Kd.S_reads' HO_171000.out).1; omega))
       obtain ⟨ve171_0, rfl, ge171_0⟩ := hMe171
       have hv171_0 := hcc171 0 _ rfl
       rw [Nat.add_zero, show ((Kd.slice 3 (Kd.int .i64))).sz = 1 from rfl, Nat.mul_one] at hv171_0
       replace hv171_0 := Option.some.inj (hv171_0.symm.trans hx171_0)
       rw [hv171_0] at ge171_0
       have HL171_0 := Aside0.mk (show Kd.R (Kd.int .i64) 3 _ _ _ _ (rd_L2 x171000_1 x10_1) from ge171_0)
       clear hv171_0 ge171_0
       have HX171_0 := Aside0.mk hx171_0
       clear hcc171 hce171
       have HR171_0 := Aside0.mk hi171_0
       have HC171_0 := Aside0.mk hl171_0
       clear hi171_0 hl171_0
       replace p171 := eq_true p171
       replace q171 := eq_true q171
       have p13 : 0 ≤ (x10_1 : Int) := od
       have q13 : (x10_1 : Int) < (((rd_L2 x171000_1 x10_1).length : Int) : Int) := od
       obtain ⟨go13, co13, eo13, gb13, gl13, cl13, HG13⟩ := Kd.R_form HL171_0.out (by omega)
       (first | cases eo13 | (injection eo13 with ea_ en_ ec_; (first | subst ea_ | (injection ea_ with ea_; subst ea_)); subst ec_; clear en_))
       have GB13 := Aside0.mk gb13
       have GG13 := Aside0.mk HG13
       clear gb13 gl13 HG13
       obtain ⟨hx13_0, hf13_0⟩ := Kd.R_celln 0 HL171_0.out (x10_1 : Int) p13 q13
       replace p13 := eq_true p13
       replace q13 := eq_true q13
       have hq17 : (x10_1 : Int) < (x171000_1.length : Int) := (by have h_ : (x10_1 : Int) < ((x171000_1.length : Int) : Int) := od; first | exact h_ | (have e_ := (Kd.S_reads' HO_171000.out).1; omega) | simpa only [List.length_set, List.length_set] using h_)
       obtain ⟨oki17, ce17, hcl17, hM17, hcc17, hok17, hbk17⟩ := Kd.S_borrow HO_171000.out [] (x10_1 : Int) (od) hq17
       obtain ⟨ve17_0, rfl, ge17_0⟩ := hM17
       have hv17 := hcc17 0 _ rfl
       rw [Nat.add_zero, show ((Kd.slice 3 (Kd.int .i64))).sz = 1 from rfl, Nat.mul_one] at hv17
       replace hv17 := Option.some.inj (hv17.symm.trans HX171_0.out)
       subst hv17
       clear hcc17 hcl17
       replace ge17_0 := (show Kd.R (Kd.int .i64) 3 _ _ _ _ (rd_L2 x171000_1 x10_1) from ge17_0)
       have HP17 := Kd.R_putg ge17_0 (x10_1 : Int) 1
       go_wp2_with (first | ((with_reducible refine gate_store (t := 3) (p := 19) rfl ?_); refine store_event (t := 3) (p := 19) (v := ?vo_w18) (w1 := (wr.setCell ⟨go13, (x10_1 : Int).toNat, none⟩ (.int .i64 1))) ?hg ?ho ?hn ?hr ?_; (case ho => rfl); (case hg => rfl); (case hn => rfl); (case hr => first | (go_simp; done) | (go_simp; rfl)); intro w18 hw; have hg : wr.grownBy w18 (some go13) := (by rw [hw]; exact HP17.2); have hz_ : Kd.R (Kd.int .i64) 3 w18 w.heap.size oki17 (.slice (some ⟨go13, 0, none⟩) (rd_L2 x171000_1 x10_1).length c171_0) y172 := (by rw [hw, Ny172.out]; exact HP17.1); have hp_ : Kd.S (Kd.slice 3 (Kd.int .i64)) 35 w18 w.heap.size (fun _ => True) (.slice (some ad171) x171000_1.length co16) y174 := (by rw [Ny174.out]; exact hbk17 hg (fun k_ e_ => by injection e_ with e_; subst e_; exact ge17_0.1 _ rfl) (Kd.M_row hz_)); have hm_ := Kd.R_mono hz_ hok17; clear HP17 hbk17; have n0_ := Aside0.mk (hp_); have n1_ := Aside0.mk (blk_grown (g := gb166) (o := .cells #[.slice none 0 0] 26 (0, 0)) (bA BK166) hg (Kd.R_ne HL171_0.out BK166.out (by decide))); have n2_ := Aside0.mk (blk_grown (g := gb170) (o := .cells #[.slice (some ad171) x171000_1.length co16] 26 (0, 0)) (bA BK170) hg (Kd.R_ne HL171_0.out BK170.out (by decide))); have n3_ := Aside0.mk ((by rw [hw]; exact below_set (HB.out) GB13.out : Below w.heap.size w w18)); have n4_ := Aside0.mk (hm_); have n5_ := Aside0.mk ((Kd.R_reads' hm_).2.1); clear HO_171000; clear BK166; clear BK170; clear HB; clear HL171_0; have HO_171000 := n0_; have BK166 := n1_; have BK170 := n2_; have HB := n3_; have HL175 := n4_; have HC173 := n5_; clear n0_ n1_ n2_ n3_ n4_ n5_; clear hg hw hp_ hz_ hm_ hok17))
       go_roundg k1
       case measure => have := HK1.out; omega
       case rel => exact ⟨(wrap64 (x10_1 + 1)), (y174), (.slice (some ad171) x171000_1.length co16), e2, H', ⟨by have := HK1.out; omega⟩, ⟨by (with_reducible repeat (first | apply Kd.S_alloc | apply Kd.S_drewN | apply Kd.S_drew)); exact HO_171000.out⟩, ⟨by (with_reducible repeat (first | refine blk_drewN ?_ _ | refine blk_drew ?_ | refine blk_alloc ?_ _)); exact BK166.out⟩, ⟨by (with_reducible repeat (first | refine blk_drewN ?_ _ | refine blk_drew ?_ | refine blk_alloc ?_ _)); exact BK170.out⟩, ⟨kB HB⟩⟩
      ·
       rw [if_neg c12] at H
       exact absurd H (by simp)
     ·
      rw [if_neg c11] at H
      exact absurd H (by simp)
    ·
     rw [if_neg c10] at H
     exact absurd H (by simp)
   ·
    rw [if_neg c9] at H
    have c9b0 : decide (x10_1 < (t167.length : Int)) = false := decide_eq_false c9
    clear c9
    obtain rfl := Option.some.inj H
    have hnb19 := NB170_166.out
    have hnc19 := NB166_170.out
    have hcz20_0 : wr.cell? ⟨gb170, 0, none⟩ = some (u171000) := (blk_cell BK170.out 0).trans rfl
    have hfz20_0 := blk_frozen BK170.out 0
    obtain ⟨Ao21, co21, eo21⟩ := Kd.S_slice HO_171000.out
    subst eo21
    have hcz22_0 : wr.cell? ⟨gb166, 0, none⟩ = some (.slice none 0 0) := (blk_cell BK166.out 0).trans rfl
    have hfz22_0 := blk_frozen BK166.out 0
    go_wp2
    refine bodyPost_ret (results_cell_row rfl _ _ gb166 26 #[.slice Ao21 x171000_1.length co21] (0, 0) _ rfl (by (with_reducible repeat (first | refine blk_drewN ?_ _ | refine blk_drew ?_ | refine blk_alloc ?_ _)); refine blk_put (cs := #[.slice none 0 0]) ?_ 0 _ rfl; (with_reducible repeat (first | refine blk_drewN ?_ _ | refine blk_drew ?_ | refine blk_alloc ?_ _)); exact BK166.out) Try.underlying26 rfl (by kernel_rfl)) rfl ?_
    exact ⟨_, e1, by (with_reducible repeat (first | apply Kd.S_alloc | apply Kd.S_drewN | apply Kd.S_drew)); exact Kd.S_mono (Kd.S_far (p := ⟨gb166, 0, none⟩) (Kd.S_types HO_171000.out BK166.out (by decide)) (fun _ hk => hk.2) (.slice Ao21 x171000_1.length co21)) (fun _ hk => trivial), kB HB⟩

/-! ### spec_SwapMatrix: function 12 -/
def spec_SwapMatrix.l0 : Nat → Int → Int → Int → List (List Int) → Option ((List (List Int)) × Bool)
 | 0, _, _, _, _ => none
 | k + 1, x0, x13, x14, x182000 => if x14 < x13 then (if 0 ≤ x0 then (if x0 < (x182000.length : Int) then (if 0 ≤ x14 then (if x14 < ((rd_L2 x182000 x0).length : Int) then (spec_SwapMatrix.l0 k x0 x13 (wrap64 (x14 + 1)) (x182000.set (x0 : Int).toNat ((rd_L2 x182000 x0).set (x14 : Int).toNat 2))) else (none)) else (none)) else (none)) else (none)) else (if 0 ≤ x0 then (if x0 < (x182000.length : Int) then (if x0 < ((rd_L2 x182000 x0).length : Int) then (some ((x182000.set (x0 : Int).toNat ((rd_L2 x182000 x0).set (x0 : Int).toNat (-1))), true)) else (none)) else (none)) else (none))
def spec_SwapMatrix.f (k : Nat) (a0 : Int) : Option ((List (List Int)) × Bool) := (spec_l1In.f a0 0 3).bind fun t177 => (if t177 = true then ((spec_foUnit.f k 4).bind fun t178 => (spec_SwapMatrix.l0 k a0 (t178.length : Int) 0 t178)) else (some (([] : List (List Int)), false)))
theorem spec_SwapMatrix.mono_l : ∀ k, (∀ y0 y1 y2 y3, LeO (spec_SwapMatrix.l0 k y0 y1 y2 y3) (spec_SwapMatrix.l0 (k + 1) y0 y1 y2 y3))
 | 0 => fun _ _ _ _ r h => by simp [spec_SwapMatrix.l0] at h
 | k + 1 => by
  have ih0 := spec_SwapMatrix.mono_l k
  ·
   intro y0 y1 y2 y3
   unfold spec_SwapMatrix.l0
   repeat' first
   | (with_reducible exact ih0 _ _ _ _)
   | (with_reducible exact spec_foUnit.mono _ _)
   | (with_reducible exact LeO.refl _)
   | (with_reducible exact LeO.none _)
   | (with_reducible refine LeO.ite ?_ ?_)
   | (with_reducible refine LeO.bind ?_ (fun _ => ?_))
   | exact ih0 _ _ _ _
   | exact spec_foUnit.mono _ _
   | exact LeO.none _
   | refine LeO.ite ?_ ?_
   | refine LeO.bind ?_ (fun _ => ?_)
theorem spec_SwapMatrix.mono : ∀ a0 k, LeO (spec_SwapMatrix.f k a0) (spec_SwapMatrix.f (k + 1) a0) := by
 intro a0 k
 have ih0 := spec_SwapMatrix.mono_l k
 unfold spec_SwapMatrix.f
 repeat' first
  | (with_reducible exact ih0 _ _ _ _)
  | (with_reducible exact spec_foUnit.mono _ _)
  | (with_reducible exact LeO.refl _)
  | (with_reducible exact LeO.none _)
  | (with_reducible refine LeO.ite ?_ ?_)
  | (with_reducible refine LeO.bind ?_ (fun _ => ?_))
  | exact ih0 _ _ _ _
  | exact spec_foUnit.mono _ _
  | exact LeO.none _
  | refine LeO.ite ?_ ?_
  | refine LeO.bind ?_ (fun _ => ?_)
set_option maxHeartbeats 8000000 in
set_option maxRecDepth 100000 in
theorem spec_SwapMatrix.calls (k : Nat) (a0 : Int) (r1 : List (List Int)) (r2 : Bool) (w : World) (h : spec_SwapMatrix.f k a0 = some (r1, r2)) :
 Calls Try.prog 12 #[.int .i64 a0] w fun e w' => ∃ v0_ : Value, e = .returned (.tuple #[.agg #[v0_], .bool r2]) ∧ Kd.S (Kd.slice 3 (Kd.int .i64)) 35 w' w.heap.size (fun _ => True) v0_ r1 ∧ Below w.heap.size w w' := by
 have hu26 := Try.underlying26
 have HB := Aside0.mk (Below.refl w.heap.size w)
 have H : ((spec_l1In.f a0 0 3).bind fun t177 => (if t177 = true then ((spec_foUnit.f k 4).bind fun t178 => (spec_SwapMatrix.l0 k a0 (t178.length : Int) 0 t178)) else (some (([] : List (List Int)), false)))) = some (r1, r2) := h
 clear h
 replace H := Option.bind_eq_some_iff.mp H
 obtain ⟨t177, A20, H⟩ := H
 replace H : (if t177 = true then ((spec_foUnit.f k 4).bind fun t178 => (spec_SwapMatrix.l0 k a0 (t178.length : Int) 0 t178)) else (some (([] : List (List Int)), false))) = some (r1, r2) := H
 have A2 := Aside0.mk A20
 clear A20
 by_cases c3 : t177 = true
 ·
  subst c3
  have H1 : ((spec_foUnit.f k 4).bind fun t178 => (spec_SwapMatrix.l0 k a0 (t178.length : Int) 0 t178)) = some (r1, r2) := by rw [if_pos rfl] at H; exact H
  clear H
  have H := H1
  clear H1
  replace H := Option.bind_eq_some_iff.mp H
  obtain ⟨t178, A40, H⟩ := H
  replace H : (spec_SwapMatrix.l0 k a0 (t178.length : Int) 0 t178) = some (r1, r2) := H
  have A4 := Aside0.mk A40
  clear A40
  have H' := Aside0.mk H
  clear H
  go_enter Try.func12, Try.ntmps12
  go_wp2_with (first | ((with_reducible refine gate_dst (N := 2) rfl ?_); refine box_event ?hg (N := 2) ?hd (cs := #[.slice none 0 0]) (t := 26) ?hr ?_; (case hd => rfl); (case hg => rfl); (case hr => first | (go_simp; done) | (go_simp; rfl)); intro gb176 hg w5 hbox hb; have n0_ := Aside0.mk (below_step bq hb); have n1_ := Aside0.mk (hbox); have n2_ := Aside0.mk ((by rw [hg]; exact (below_size bq) : w.heap.size ≤ gb176)); have n3_ := Aside0.mk ((by rw [hg]; exact (below_size bq) : w.heap.size ≤ gb176)); clear HB; have HB := n0_; have BK176 := n1_; have GW176 := n2_; have GE176 := n3_; clear n0_ n1_ n2_ n3_; clear hb hbox hg) | ((with_reducible refine gate_callee (f := 56) rfl ?_); refine gL (some 7) rfl rfl Try.func56 (by kernel_rfl) rfl #[.int .i64 a0, .int .i64 0, .int .i64 3] rfl ?_; (with_reducible refine (spec_l1In.calls a0 0 3 true _ A2.out).mono ?_); rintro e w' ⟨rfl, ⟨nd, rfl⟩⟩; refine ⟨_, rfl, ?_⟩; (try (rw [drewN_self w5]; generalize hq_ : World.drewN w5 _ = w5; have n0_ : Aside0 (w5.heap[gb176]? = some (.cells #[.slice none 0 0] 26 (0, 0))) := ⟨by rw [← hq_]; exact (bA BK176)⟩; have n1_ : Aside0 (Below w.heap.size w w5) := ⟨by rw [← hq_]; exact (kB HB)⟩; clear BK176 HB hq_; have BK176 := n0_; have HB := n1_; clear n0_ n1_))) | ((with_reducible refine gate_callee (f := 57) rfl ?_); refine gL (some 10) rfl rfl Try.func57 (by kernel_rfl) rfl #[.int .i64 4] rfl ?_; (with_reducible refine (spec_foUnit.calls k 4 t178 _ A4.out).mono ?_); rintro e w6 ⟨v179, rfl, ho0, hb⟩; refine ⟨_, rfl, ?_⟩; have n0_ := Aside0.mk (Kd.S_lower ho0 (below_size (kB HB))); have n1_ := Aside0.mk (kK BK176 hb); have n2_ := Aside0.mk (below_step (kB HB) hb); clear BK176; clear HB; have HO180 := n0_; have BK176 := n1_; have HB := n2_; clear n0_ n1_ n2_; (try clear hb); (try clear hb2); (try clear hk); (try clear hi); (try clear ho0)) | ((with_reducible refine gate_dst (N := 4) rfl ?_); refine box_event ?hg (N := 4) ?hd (cs := #[.slice none 0 0]) (t := 26) ?hr ?_; (case hd => rfl); (case hg => rfl); (case hr => first | (go_simp; done) | (go_simp; rfl)); intro gb181 hg w7 hbox hb; have n0_ := Aside0.mk (Kd.S_below (by (with_reducible repeat (first | apply Kd.S_alloc | apply Kd.S_drewN | apply Kd.S_drew)); exact HO180.out) hb); have n1_ := Aside0.mk (kK BK176 hb); have n2_ := Aside0.mk (below_step (kB HB) hb); have n3_ := Aside0.mk (hbox); have n4_ := Aside0.mk ((by rw [hg]; exact (below_size (kB HB)) : w.heap.size ≤ gb181)); have n5_ := Aside0.mk ((by rw [hg]; exact (below_size (kB HB)) : w.heap.size ≤ gb181)); have n6_ := Aside0.mk ((by rw [hg]; exact Nat.ne_of_lt (blk_lt (g := gb176) (o := .cells #[.slice none 0 0] 26 (0, 0)) (bA BK176)) : gb176 ≠ gb181)); have n7_ := Aside0.mk ((by rw [hg]; exact Nat.ne_of_gt (blk_lt (g := gb176) (o := .cells #[.slice none 0 0] 26 (0, 0)) (bA BK176)) : gb181 ≠ gb176)); clear HO180; clear BK176; clear HB; have HO180 := n0_; have BK176 := n1_; have HB := n2_; have BK181 := n3_; have GW181 := n4_; have GE181 := n5_; have NB176_181 := n6_; have NB181_176 := n7_; clear n0_ n1_ n2_ n3_ n4_ n5_ n6_ n7_; clear hb hbox hg; obtain ⟨Ao8, co8, eo8⟩ := Kd.S_slice HO180.out; subst eo8; have hnb9 := NB181_176.out; have hnc9 := NB176_181.out; have hcz10_0 : w7.cell? ⟨gb181, 0, none⟩ = some (.slice none 0 0) := (blk_cell BK181.out 0).trans rfl; have hfz10_0 := blk_frozen BK181.out 0))
  go_loopg [14] k (fun kq v14 w' => ∃ (x14_1 : Int) (x182000_1 : List (List Int)) (u182000 : Value), v14 = .int .i64 x14_1 ∧ Aside0 (spec_SwapMatrix.l0 kq a0 (t178.length : Int) x14_1 x182000_1 = some (r1, r2)) ∧ Aside0 (kq ≤ k) ∧ Aside0 (Kd.S (Kd.slice 3 (Kd.int .i64)) 35 w' w.heap.size (fun _ => True) u182000 x182000_1) ∧ Aside0 (w'.heap[gb176]? = some (.cells #[(.slice none 0 0)] 26 (0, 0))) ∧ Aside0 (w'.heap[gb181]? = some (.cells #[u182000] 26 (0, 0))) ∧ Aside0 (Below w.heap.size w w'))
  case atStart => exact ⟨(0), (t178), (.slice Ao8 t178.length co8), e2, H', ⟨Nat.le_refl _⟩, ⟨by (with_reducible repeat (first | apply Kd.S_alloc | apply Kd.S_drewN | apply Kd.S_drew)); exact Kd.S_mono (Kd.S_far (p := ⟨gb181, 0, none⟩) (Kd.S_types HO180.out BK181.out (by decide)) (fun _ hk => hk.2) (.slice Ao8 t178.length co8)) (fun _ hk => trivial)⟩, ⟨by (with_reducible repeat (first | refine blk_drewN ?_ _ | refine blk_drew ?_ | refine blk_alloc ?_ _)); refine blk_far ?_ NB176_181.out _; (with_reducible repeat (first | refine blk_drewN ?_ _ | refine blk_drew ?_ | refine blk_alloc ?_ _)); exact BK176.out⟩, ⟨by (with_reducible repeat (first | refine blk_drewN ?_ _ | refine blk_drew ?_ | refine blk_alloc ?_ _)); refine blk_put (cs := #[.slice none 0 0]) ?_ 0 _ rfl; (with_reducible repeat (first | refine blk_drewN ?_ _ | refine blk_drew ?_ | refine blk_alloc ?_ _)); exact BK181.out⟩, ⟨kB HB⟩⟩
  case round =>
   clear H'; (try clear c1); (try clear p2); (try clear c3); (try clear c5); (try clear c9); (try clear hcz10_0); (try clear hfz10_0)
   obtain ⟨x14_1, x182000_1, u182000, rfl, HA, HK1, HO_182000, BK176, BK181, HB⟩ := hrel
   cases gk with
   | zero => exact absurd HA.out (by simp [spec_SwapMatrix.l0])
   | succ k1 =>
    have H := HA.out
    clear HA
    simp only [spec_SwapMatrix.l0] at H
    by_cases c11 : x14_1 < (t178.length : Int)
    ·
     rw [if_pos c11] at H
     have c11b0 : decide (x14_1 < (t178.length : Int)) = true := decide_eq_true c11
     clear c11
     by_cases c12 : 0 ≤ a0
     ·
      rw [if_pos c12] at H
      have c12b0 : decide (0 ≤ a0) = true := decide_eq_true c12
      clear c12
      by_cases c13 : a0 < (x182000_1.length : Int)
      ·
       rw [if_pos c13] at H
       have c13b0 : decide (a0 < (x182000_1.length : Int)) = true := decide_eq_true c13
       clear c13
       by_cases c14 : 0 ≤ x14_1
       ·
        rw [if_pos c14] at H
        have c14b0 : decide (0 ≤ x14_1) = true := decide_eq_true c14
        clear c14
        by_cases c15 : x14_1 < ((rd_L2 x182000_1 a0).length : Int)
        ·
         rw [if_pos c15] at H
         have c15b0 : decide (x14_1 < ((rd_L2 x182000_1 a0).length : Int)) = true := decide_eq_true c15
         clear c15
         obtain ⟨y183, hy183⟩ : ∃ y_ : List Int, y_ = ((rd_L2 x182000_1 a0).set (x14_1 : Int).toNat 2) := ⟨_, rfl⟩
         replace H : (spec_SwapMatrix.l0 k1 a0 (t178.length : Int) (wrap64 (x14_1 + 1)) (x182000_1.set (a0 : Int).toNat y183)) = some (r1, r2) := by first | (rw [hy183]; with_reducible exact H) | (have H2_ := (Option.bind_some _ _).symm.trans H; rw [hy183]; with_reducible exact H2_) | (have H2_ := (Option.bind_some _ _).symm.trans H; with_reducible exact H2_) | with_reducible exact H | (rw [hy183]; exact H) | exact H
         have Ny183 := Aside0.mk hy183
         clear hy183
         obtain ⟨y185, hy185⟩ : ∃ y_ : List (List Int), y_ = (x182000_1.set (a0 : Int).toNat y183) := ⟨_, rfl⟩
         replace H : (spec_SwapMatrix.l0 k1 a0 (t178.length : Int) (wrap64 (x14_1 + 1)) y185) = some (r1, r2) := by first | (rw [hy185]; with_reducible exact H) | (have H2_ := (Option.bind_some _ _).symm.trans H; rw [hy185]; with_reducible exact H2_) | (have H2_ := (Option.bind_some _ _).symm.trans H; with_reducible exact H2_) | with_reducible exact H | (rw [hy185]; exact H) | exact H
         have Ny185 := Aside0.mk hy185
         clear hy185
         have H' := Aside0.mk H
         clear H
         have hnb17 := NB181_176.out
         have hnc17 := NB176_181.out
         have hcz18_0 : wr.cell? ⟨gb181, 0, none⟩ = some (u182000) := (blk_cell BK181.out 0).trans rfl
         have hfz18_0 := blk_frozen BK181.out 0
         obtain ⟨Ao19, co19, eo19⟩ := Kd.S_slice HO_182000.out
         subst eo19
         have p182 : 0 ≤ (a0 : Int) := od
         have q182 : a0 < (x182000_1.length : Int) := od
         obtain ⟨ad182, A182_0, c182_0, e182, hx182_0, hl182_0, hi182_0⟩ := at_L2 (Kd.S_reads' HO_182000.out).2.2 a0 p182 q182
         cases e182
         obtain ⟨ce182, hce182, hMe182, hcc182⟩ := Kd.S_get HO_182000.out [] a0 p182 (by first | exact q182 | exact od | (have e_ := (Kd.S_reads' HO_182000.out).1; omega))
         obtain ⟨ve182_0, rfl, ge182_0⟩ := hMe182
         have hv182_0 := hcc182 0 _ rfl
         rw [Nat.add_zero, show ((Kd.slice 3 (Kd.int .i64))).sz = 1 from rfl, Nat.mul_one] at hv182_0
         replace hv182_0 := Option.some.inj (hv182_0.symm.trans hx182_0)
         rw [hv182_0] at ge182_0
         have HL182_0 := Aside0.mk (show Kd.R (Kd.int .i64) 3 _ _ _ _ (rd_L2 x182000_1 a0) from ge182_0)
         clear hv182_0 ge182_0
         have HX182_0 := Aside0.mk hx182_0
         clear hcc182 hce182
         have HR182_0 := Aside0.mk hi182_0
         have HC182_0 := Aside0.mk hl182_0
         clear hi182_0 hl182_0
         replace p182 := eq_true p182
         replace q182 := eq_true q182
         have p16 : 0 ≤ (x14_1 : Int) := od
         have q16 : (x14_1 : Int) < (((rd_L2 x182000_1 a0).length : Int) : Int) := od
         obtain ⟨go16, co16, eo16, gb16, gl16, cl16, HG16⟩ := Kd.R_form HL182_0.out (by omega)
         (first | cases eo16 | (injection eo16 with ea_ en_ ec_; (first | subst ea_ | (injection ea_ with ea_; subst ea_)); subst ec_; clear en_))
         have GB16 := Aside0.mk gb16
         have GG16 := Aside0.mk HG16
         clear gb16 gl16 HG16
         obtain ⟨hx16_0, hf16_0⟩ := Kd.R_celln 0 HL182_0.out (x14_1 : Int) p16 q16
         replace p16 := eq_true p16
         replace q16 := eq_true q16
         have hq20 : (a0 : Int) < (x182000_1.length : Int) := (by have h_ : (a0 : Int) < ((x182000_1.length : Int) : Int) := od; first | exact h_ | (have e_ := (Kd.S_reads' HO_182000.out).1; omega) | simpa only [List.length_set, List.length_set] using h_)
         obtain ⟨oki20, ce20, hcl20, hM20, hcc20, hok20, hbk20⟩ := Kd.S_borrow HO_182000.out [] (a0 : Int) (od) hq20
         obtain ⟨ve20_0, rfl, ge20_0⟩ := hM20
         have hv20 := hcc20 0 _ rfl
         rw [Nat.add_zero, show ((Kd.slice 3 (Kd.int .i64))).sz = 1 from rfl, Nat.mul_one] at hv20
         replace hv20 := Option.some.inj (hv20.symm.trans HX182_0.out)
         subst hv20
         clear hcc20 hcl20
         replace ge20_0 := (show Kd.R (Kd.int .i64) 3 _ _ _ _ (rd_L2 x182000_1 a0) from ge20_0)
         have HP20 := Kd.R_putg ge20_0 (x14_1 : Int) 2
         go_wp2_with (first | ((with_reducible refine gate_store (t := 3) (p := 23) rfl ?_); refine store_event (t := 3) (p := 23) (v := ?vo_w21) (w1 := (wr.setCell ⟨go16, (x14_1 : Int).toNat, none⟩ (.int .i64 2))) ?hg ?ho ?hn ?hr ?_; (case ho => rfl); (case hg => rfl); (case hn => rfl); (case hr => first | (go_simp; done) | (go_simp; rfl)); intro w21 hw; have hg : wr.grownBy w21 (some go16) := (by rw [hw]; exact HP20.2); have hz_ : Kd.R (Kd.int .i64) 3 w21 w.heap.size oki20 (.slice (some ⟨go16, 0, none⟩) (rd_L2 x182000_1 a0).length c182_0) y183 := (by rw [hw, Ny183.out]; exact HP20.1); have hp_ : Kd.S (Kd.slice 3 (Kd.int .i64)) 35 w21 w.heap.size (fun _ => True) (.slice (some ad182) x182000_1.length co19) y185 := (by rw [Ny185.out]; exact hbk20 hg (fun k_ e_ => by injection e_ with e_; subst e_; exact ge20_0.1 _ rfl) (Kd.M_row hz_)); have hm_ := Kd.R_mono hz_ hok20; clear HP20 hbk20; have n0_ := Aside0.mk (hp_); have n1_ := Aside0.mk (blk_grown (g := gb176) (o := .cells #[.slice none 0 0] 26 (0, 0)) (bA BK176) hg (Kd.R_ne HL182_0.out BK176.out (by decide))); have n2_ := Aside0.mk (blk_grown (g := gb181) (o := .cells #[.slice (some ad182) x182000_1.length co19] 26 (0, 0)) (bA BK181) hg (Kd.R_ne HL182_0.out BK181.out (by decide))); have n3_ := Aside0.mk ((by rw [hw]; exact below_set (HB.out) GB16.out : Below w.heap.size w w21)); have n4_ := Aside0.mk (hm_); have n5_ := Aside0.mk ((Kd.R_reads' hm_).2.1); clear HO_182000; clear BK176; clear BK181; clear HB; clear HL182_0; have HO_182000 := n0_; have BK176 := n1_; have BK181 := n2_; have HB := n3_; have HL190 := n4_; have HC184 := n5_; clear n0_ n1_ n2_ n3_ n4_ n5_; clear hg hw hp_ hz_ hm_ hok20))
         go_roundg k1
         case measure => have := HK1.out; omega
         case rel => exact ⟨(wrap64 (x14_1 + 1)), (y185), (.slice (some ad182) x182000_1.length co19), e2, H', ⟨by have := HK1.out; omega⟩, ⟨by (with_reducible repeat (first | apply Kd.S_alloc | apply Kd.S_drewN | apply Kd.S_drew)); exact HO_182000.out⟩, ⟨by (with_reducible repeat (first | refine blk_drewN ?_ _ | refine blk_drew ?_ | refine blk_alloc ?_ _)); exact BK176.out⟩, ⟨by (with_reducible repeat (first | refine blk_drewN ?_ _ | refine blk_drew ?_ | refine blk_alloc ?_ _)); exact BK181.out⟩, ⟨kB HB⟩⟩
        ·
         rw [if_neg c15] at H
         exact absurd H (by simp)
       ·
        rw [if_neg c14] at H
        exact absurd H (by simp)
      ·
       rw [if_neg c13] at H
       exact absurd H (by simp)
     ·
      rw [if_neg c12] at H
      exact absurd H (by simp)
    ·
     rw [if_neg c11] at H
     have c11b0 : decide (x14_1 < (t178.length : Int)) = false := decide_eq_false c11
     clear c11
     by_cases c22 : 0 ≤ a0
     ·
      rw [if_pos c22] at H
      have c22b0 : decide (0 ≤ a0) = true := decide_eq_true c22
      clear c22
      by_cases c23 : a0 < (x182000_1.length : Int)
      ·
       rw [if_pos c23] at H
       have c23b0 : decide (a0 < (x182000_1.length : Int)) = true := decide_eq_true c23
       clear c23
       by_cases c24 : a0 < ((rd_L2 x182000_1 a0).length : Int)
       ·
        rw [if_pos c24] at H
        have c24b0 : decide (a0 < ((rd_L2 x182000_1 a0).length : Int)) = true := decide_eq_true c24
        clear c24
        obtain ⟨y187, hy187⟩ : ∃ y_ : List Int, y_ = ((rd_L2 x182000_1 a0).set (a0 : Int).toNat (-1)) := ⟨_, rfl⟩
        replace H : (some ((x182000_1.set (a0 : Int).toNat y187), true)) = some (r1, r2) := by first | (rw [hy187]; with_reducible exact H) | (have H2_ := (Option.bind_some _ _).symm.trans H; rw [hy187]; with_reducible exact H2_) | (have H2_ := (Option.bind_some _ _).symm.trans H; with_reducible exact H2_) | with_reducible exact H | (rw [hy187]; exact H) | exact H
        have Ny187 := Aside0.mk hy187
        clear hy187
        obtain ⟨y189, hy189⟩ : ∃ y_ : List (List Int), y_ = (x182000_1.set (a0 : Int).toNat y187) := ⟨_, rfl⟩
        replace H : (some (y189, true)) = some (r1, r2) := by first | (rw [hy189]; with_reducible exact H) | (have H2_ := (Option.bind_some _ _).symm.trans H; rw [hy189]; with_reducible exact H2_) | (have H2_ := (Option.bind_some _ _).symm.trans H; with_reducible exact H2_) | with_reducible exact H | (rw [hy189]; exact H) | exact H
        have Ny189 := Aside0.mk hy189
        clear hy189
        simp only [Option.some.injEq, Prod.mk.injEq] at H
        obtain ⟨rfl, rfl⟩ := H
        have hnb26 := NB181_176.out
        have hnc26 := NB176_181.out
        have hcz27_0 : wr.cell? ⟨gb181, 0, none⟩ = some (u182000) := (blk_cell BK181.out 0).trans rfl
        have hfz27_0 := blk_frozen BK181.out 0
        obtain ⟨Ao28, co28, eo28⟩ := Kd.S_slice HO_182000.out
        subst eo28
        have p186 : 0 ≤ (a0 : Int) := od
        have q186 : a0 < (x182000_1.length : Int) := od
        obtain ⟨ad186, A186_0, c186_0, e186, hx186_0, hl186_0, hi186_0⟩ := at_L2 (Kd.S_reads' HO_182000.out).2.2 a0 p186 q186
        cases e186
        obtain ⟨ce186, hce186, hMe186, hcc186⟩ := Kd.S_get HO_182000.out [] a0 p186 (by first | exact q186 | exact od | (have e_ := (Kd.S_reads' HO_182000.out).1; omega))
        obtain ⟨ve186_0, rfl, ge186_0⟩ := hMe186
        have hv186_0 := hcc186 0 _ rfl
        rw [Nat.add_zero, show ((Kd.slice 3 (Kd.int .i64))).sz = 1 from rfl, Nat.mul_one] at hv186_0
        replace hv186_0 := Option.some.inj (hv186_0.symm.trans hx186_0)
        rw [hv186_0] at ge186_0
        have HL186_0 := Aside0.mk (show Kd.R (Kd.int .i64) 3 _ _ _ _ (rd_L2 x182000_1 a0) from ge186_0)
        clear hv186_0 ge186_0
        have HX186_0 := Aside0.mk hx186_0
        clear hcc186 hce186
        have HR186_0 := Aside0.mk hi186_0
        have HC186_0 := Aside0.mk hl186_0
        clear hi186_0 hl186_0
        replace p186 := eq_true p186
        replace q186 := eq_true q186
        have p25 : 0 ≤ (a0 : Int) := od
        have q25 : (a0 : Int) < (((rd_L2 x182000_1 a0).length : Int) : Int) := od
        obtain ⟨go25, co25, eo25, gb25, gl25, cl25, HG25⟩ := Kd.R_form HL186_0.out (by omega)
        (first | cases eo25 | (injection eo25 with ea_ en_ ec_; (first | subst ea_ | (injection ea_ with ea_; subst ea_)); subst ec_; clear en_))
        have GB25 := Aside0.mk gb25
        have GG25 := Aside0.mk HG25
        clear gb25 gl25 HG25
        obtain ⟨hx25_0, hf25_0⟩ := Kd.R_celln 0 HL186_0.out (a0 : Int) p25 q25
        replace p25 := eq_true p25
        replace q25 := eq_true q25
        have hq29 : (a0 : Int) < (x182000_1.length : Int) := (by have h_ : (a0 : Int) < ((x182000_1.length : Int) : Int) := od; first | exact h_ | (have e_ := (Kd.S_reads' HO_182000.out).1; omega) | simpa only [List.length_set, List.length_set] using h_)
        obtain ⟨oki29, ce29, hcl29, hM29, hcc29, hok29, hbk29⟩ := Kd.S_borrow HO_182000.out [] (a0 : Int) (od) hq29
        obtain ⟨ve29_0, rfl, ge29_0⟩ := hM29
        have hv29 := hcc29 0 _ rfl
        rw [Nat.add_zero, show ((Kd.slice 3 (Kd.int .i64))).sz = 1 from rfl, Nat.mul_one] at hv29
        replace hv29 := Option.some.inj (hv29.symm.trans HX186_0.out)
        subst hv29
        clear hcc29 hcl29
        replace ge29_0 := (show Kd.R (Kd.int .i64) 3 _ _ _ _ (rd_L2 x182000_1 a0) from ge29_0)
        have HP29 := Kd.R_putg ge29_0 (a0 : Int) (-1)
        go_wp2_with (first | ((with_reducible refine gate_store (t := 3) (p := 31) rfl ?_); refine store_event (t := 3) (p := 31) (v := ?vo_w30) (w1 := (wr.setCell ⟨go25, (a0 : Int).toNat, none⟩ (.int .i64 (-1)))) ?hg ?ho ?hn ?hr ?_; (case ho => rfl); (case hg => rfl); (case hn => rfl); (case hr => first | (go_simp; done) | (go_simp; rfl)); intro w30 hw; have hg : wr.grownBy w30 (some go25) := (by rw [hw]; exact HP29.2); have hz_ : Kd.R (Kd.int .i64) 3 w30 w.heap.size oki29 (.slice (some ⟨go25, 0, none⟩) (rd_L2 x182000_1 a0).length c186_0) y187 := (by rw [hw, Ny187.out]; exact HP29.1); have hp_ : Kd.S (Kd.slice 3 (Kd.int .i64)) 35 w30 w.heap.size (fun _ => True) (.slice (some ad186) x182000_1.length co28) y189 := (by rw [Ny189.out]; exact hbk29 hg (fun k_ e_ => by injection e_ with e_; subst e_; exact ge29_0.1 _ rfl) (Kd.M_row hz_)); have hm_ := Kd.R_mono hz_ hok29; clear HP29 hbk29; have n0_ := Aside0.mk (hp_); have n1_ := Aside0.mk (blk_grown (g := gb176) (o := .cells #[.slice none 0 0] 26 (0, 0)) (bA BK176) hg (Kd.R_ne HL186_0.out BK176.out (by decide))); have n2_ := Aside0.mk (blk_grown (g := gb181) (o := .cells #[.slice (some ad186) x182000_1.length co28] 26 (0, 0)) (bA BK181) hg (Kd.R_ne HL186_0.out BK181.out (by decide))); have n3_ := Aside0.mk ((by rw [hw]; exact below_set (HB.out) GB25.out : Below w.heap.size w w30)); have n4_ := Aside0.mk (hm_); have n5_ := Aside0.mk ((Kd.R_reads' hm_).2.1); clear HO_182000; clear BK176; clear BK181; clear HB; clear HL186_0; have HO_182000 := n0_; have BK176 := n1_; have BK181 := n2_; have HB := n3_; have HL191 := n4_; have HC188 := n5_; clear n0_ n1_ n2_ n3_ n4_ n5_; clear hg hw hp_ hz_ hm_ hok29; have hcz31_0 : w30.cell? ⟨gb181, 0, none⟩ = some (.slice (some ad186) x182000_1.length co28) := (blk_cell BK181.out 0).trans rfl; have hfz31_0 := blk_frozen BK181.out 0; have hcz32_0 : w30.cell? ⟨gb176, 0, none⟩ = some (.slice none 0 0) := (blk_cell BK176.out 0).trans rfl; have hfz32_0 := blk_frozen BK176.out 0))
        refine bodyPost_ret (results_ct rfl _ _ gb176 26 #[.slice (some ad186) x182000_1.length co28] (0, 0) _ rfl (by (with_reducible repeat (first | refine blk_drewN ?_ _ | refine blk_drew ?_ | refine blk_alloc ?_ _)); refine blk_put (cs := #[.slice none 0 0]) ?_ 0 _ rfl; (with_reducible repeat (first | refine blk_drewN ?_ _ | refine blk_drew ?_ | refine blk_alloc ?_ _)); exact BK176.out) Try.underlying26 rfl (by kernel_rfl)) rfl ?_
        exact ⟨_, e1, by (with_reducible repeat (first | apply Kd.S_alloc | apply Kd.S_drewN | apply Kd.S_drew)); exact Kd.S_mono (Kd.S_far (p := ⟨gb176, 0, none⟩) (Kd.S_types HO_182000.out BK176.out (by decide)) (fun _ hk => hk.2) (.slice (some ad186) x182000_1.length co28)) (fun _ hk => trivial), kB HB⟩
       ·
        rw [if_neg c24] at H
        exact absurd H (by simp)
      ·
       rw [if_neg c23] at H
       exact absurd H (by simp)
     ·
      rw [if_neg c22] at H
      exact absurd H (by simp)
 ·
  replace c3 := Bool.eq_false_iff.mpr c3
  subst c3
  have H1 : (some (([] : List (List Int)), false)) = some (r1, r2) := by rw [if_neg (show ¬ (false = true) by decide)] at H; exact H
  clear H
  have H := H1
  clear H1
  simp only [Option.some.injEq, Prod.mk.injEq] at H
  obtain ⟨rfl, rfl⟩ := H
  go_enter Try.func12, Try.ntmps12
  go_wp2_with (first | ((with_reducible refine gate_dst (N := 2) rfl ?_); refine box_event ?hg (N := 2) ?hd (cs := #[.slice none 0 0]) (t := 26) ?hr ?_; (case hd => rfl); (case hg => rfl); (case hr => first | (go_simp; done) | (go_simp; rfl)); intro gb176 hg w33 hbox hb; have n0_ := Aside0.mk (below_step bq hb); have n1_ := Aside0.mk (hbox); have n2_ := Aside0.mk ((by rw [hg]; exact (below_size bq) : w.heap.size ≤ gb176)); have n3_ := Aside0.mk ((by rw [hg]; exact (below_size bq) : w.heap.size ≤ gb176)); clear HB; have HB := n0_; have BK176 := n1_; have GW176 := n2_; have GE176 := n3_; clear n0_ n1_ n2_ n3_; clear hb hbox hg) | ((with_reducible refine gate_callee (f := 56) rfl ?_); refine gL (some 7) rfl rfl Try.func56 (by kernel_rfl) rfl #[.int .i64 a0, .int .i64 0, .int .i64 3] rfl ?_; (with_reducible refine (spec_l1In.calls a0 0 3 false _ A2.out).mono ?_); rintro e w' ⟨rfl, ⟨nd, rfl⟩⟩; refine ⟨_, rfl, ?_⟩; (try (rw [drewN_self w33]; generalize hq_ : World.drewN w33 _ = w33; have n0_ : Aside0 (w33.heap[gb176]? = some (.cells #[.slice none 0 0] 26 (0, 0))) := ⟨by rw [← hq_]; exact (bA BK176)⟩; have n1_ : Aside0 (Below w.heap.size w w33) := ⟨by rw [← hq_]; exact (kB HB)⟩; clear BK176 HB hq_; have BK176 := n0_; have HB := n1_; clear n0_ n1_)); have hcz34_0 : w33.cell? ⟨gb176, 0, none⟩ = some (.slice none 0 0) := (blk_cell BK176.out 0).trans rfl; have hfz34_0 := blk_frozen BK176.out 0))
  refine bodyPost_ret (results_ct rfl _ _ gb176 26 #[.slice none 0 0] (0, 0) _ rfl (by (with_reducible repeat (first | refine blk_drewN ?_ _ | refine blk_drew ?_ | refine blk_alloc ?_ _)); refine blk_put (cs := #[.slice none 0 0]) ?_ 0 _ rfl; (with_reducible repeat (first | refine blk_drewN ?_ _ | refine blk_drew ?_ | refine blk_alloc ?_ _)); exact BK176.out) Try.underlying26 rfl (by kernel_rfl)) rfl ?_
  exact ⟨_, e1, by first | exact Kd.S_nil _ _ _ _ _ | exact Kd.N_nil _ _ _ _ _ | exact Kd.V_nil _ _ _ _ _ | exact Kd.Q_nil _ _ _ _ _ | exact Kd.R_nil _ _ _ _ _, kB HB⟩

/-! ### impl_Matrix_size: function 83 -/
def impl_Matrix_size.f (l0_0 : List (List Int)) : Option (Int) := some (l0_0.length : Int)
set_option maxHeartbeats 8000000 in
set_option maxRecDepth 100000 in
theorem impl_Matrix_size.calls (A0_0 : Option Addr) (c0_0 : Nat) (l0_0 : List (List Int)) (r : Int) (w : World) (hr0_0 : Kd.C (Kd.slice 3 (Kd.int .i64)) w A0_0 l0_0.length l0_0) (hc0_0 : l0_0.length ≤ c0_0) (h : impl_Matrix_size.f l0_0 = some r) :
 Calls Try.prog 83 #[.agg #[.slice A0_0 l0_0.length c0_0]] w fun e w' => e = .returned (.int .i64 r) ∧ Below w.heap.size w w' := by
 have hu26 := Try.underlying26
 have HR0_0 := Aside0.mk hr0_0
 have HC0_0 := Aside0.mk hc0_0
 clear hr0_0 hc0_0
 have HB := Aside0.mk (Below.refl w.heap.size w)
 have H : (some (l0_0.length : Int)) = some r := h
 clear h
 obtain rfl := Option.some.inj H
 go_enter Try.func83, Try.ntmps83
 go_wp2_with (first | ((with_reducible refine gate_dst (N := 1) rfl ?_); refine box_event ?hg (N := 1) ?hd (cs := #[.slice A0_0 l0_0.length c0_0]) (t := 26) ?hr ?_; (case hd => rfl); (case hg => rfl); (case hr => first | (go_simp; done) | (go_simp; rfl)); intro gb192 hg w2 hbox hb; have n0_ := Aside0.mk (below_step bq hb); have n1_ := Aside0.mk (hbox); have n2_ := Aside0.mk ((by rw [hg]; exact (below_size bq) : w.heap.size ≤ gb192)); have n3_ := Aside0.mk ((by rw [hg]; exact (below_size bq) : w.heap.size ≤ gb192)); clear HB; have HB := n0_; have BK192 := n1_; have GW192 := n2_; have GE192 := n3_; clear n0_ n1_ n2_ n3_; clear hb hbox hg; have hcz3_0 : w2.cell? ⟨gb192, 0, none⟩ = some (.slice A0_0 l0_0.length c0_0) := (blk_cell BK192.out 0).trans rfl; have hfz3_0 := blk_frozen BK192.out 0))
 go_ret
 exact ⟨e1, kB HB⟩

-- NOT PRINTED: function 123 (slices_IndexFunc_int_int_123)

-- NOT PRINTED: function 103 (slices_ContainsFunc_int_int_103)

/-! ### impl_IsMatrix: function 81 -/
def impl_IsMatrix.f (l0_0 : List (List Int)) : Option (Bool) := some (Go.Proofs.Ytnaginnhccldhaa.G.isMat l0_0)
theorem impl_IsMatrix.calls (A0_0 : Option Addr) (c0_0 : Nat) (l0_0 : List (List Int)) (r : Bool) (w : World) (hr0_0 : Kd.C (Kd.slice 3 (Kd.int .i64)) w A0_0 l0_0.length l0_0) (_hc0_0 : l0_0.length ≤ c0_0) (h : impl_IsMatrix.f l0_0 = some r) :
 Calls Try.prog 81 #[.agg #[.slice A0_0 l0_0.length c0_0]] w fun e w' => e = .returned (.bool r) ∧ Below w.heap.size w w' := by
 obtain rfl := Option.some.inj h
 exact Go.Proofs.Ytnaginnhccldhaa.G.isMatrix_any A0_0 c0_0 l0_0 w hr0_0

end Go.Proofs.Ytnaginnhccldhaa.P
