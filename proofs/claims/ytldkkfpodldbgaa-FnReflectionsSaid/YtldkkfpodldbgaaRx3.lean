-- Written by a program of this session (wip/mkprint.py over the kit's print), out of the translation. Not trusted: Lean checks it.
import Derived.Test.YtldkkfpodldbgaaRx0
import Derived.Test.YtldkkfpodldbgaaRx1
import Derived.Test.YtldkkfpodldbgaaRx2
namespace Go.Proofs.Ytldkkfpodldbgaa.P
open Go.RowKit Go.Proofs.YtldkkfpodldbgaaW.PrintWords Go.Proofs.YtldkkfpodldbgaaW.PrintLast Go.Proofs.YtldkkfpodldbgaaW.PrintMore
attribute [local go_sem] max2_int min2_int max_two min_two max_three min_three max_four min_four   -- for this text's walks alone
set_option linter.unusedVariables false
set_option linter.unusedSimpArgs false

/-! ### spec_WordMatrix: function 17 -/
mutual
def spec_WordMatrix.j0 : Nat → List (S26) → List Int → Bool → Option ((List (List Int)) × Bool)
 | 0, _, _, _ => none
 | k + 1, x0, x1, x27 => if x27 = true then (some (([] : List (List Int)), false)) else (spec_WordMatrix.l0 k x0 x1 x0 (x0.length : Int) 0)
def spec_WordMatrix.l0 : Nat → List (S26) → List Int → List (S26) → Int → Int → Option ((List (List Int)) × Bool)
 | 0, _, _, _, _, _ => none
 | k + 1, x0, x1, x29, x30, x31 => if x31 < x30 then (if 0 ≤ x31 then (if x31 < (x29.length : Int) then (if 0 < (x0.length : Int) then ((spec_foPair.f k ((rd_T26 x29 x31).f0) ((rd_T26 x0 0).f0)).bind fun t151 => (if t151 = true then (spec_WordMatrix.l0 k x0 x1 x29 x30 (wrap64 (x31 + 1))) else (some (([] : List (List Int)), false)))) else (none)) else (none)) else (none)) else (if 0 < (x0.length : Int) then ((spec_foUnit.f k (((rd_T26 x0 0).f0).length : Int)).bind fun t153 => (spec_WordMatrix.l1 k x0 x1 (x1.length : Int) 0 t153)) else (none))
def spec_WordMatrix.l1 : Nat → List (S26) → List Int → Int → Int → List (List Int) → Option ((List (List Int)) × Bool)
 | 0, _, _, _, _, _ => none
 | k + 1, x0, x49, x50, x51, x157000 => if x51 < x50 then (if 0 ≤ x51 then (if x51 < (x49.length : Int) then (if 0 ≤ (rd x49 x51) then (if (rd x49 x51) < (x0.length : Int) then ((spec_foTimes.f k x157000 ((rd_T26 x0 (rd x49 x51)).f0)).bind fun t159 => ((spec_foGood.f k t159).bind fun t162 => (if t162 = true then (spec_WordMatrix.l1 k x0 x49 x50 (wrap64 (x51 + 1)) t159) else (some (([] : List (List Int)), false))))) else (none)) else (none)) else (none)) else (none)) else (some (x157000, true))
end
def spec_WordMatrix.f (k : Nat) (l0 : List (S26)) (l1 : List Int) : Option ((List (List Int)) × Bool) := (spec_l1In.f (l0.length : Int) 1 8).bind fun t146 => (if t146 = true then (if (l1.length : Int) > 40 then (spec_WordMatrix.j0 k l0 l1 true) else ((spec_l1All.f k l1 0 (wrap64 ((l0.length : Int) - 1))).bind fun t147 => (spec_WordMatrix.j0 k l0 l1 (!t147)))) else (spec_WordMatrix.j0 k l0 l1 true))
theorem spec_WordMatrix.mono_l : ∀ k, (∀ y0 y1 y2, LeO (spec_WordMatrix.j0 k y0 y1 y2) (spec_WordMatrix.j0 (k + 1) y0 y1 y2)) ∧ (∀ y0 y1 y2 y3 y4, LeO (spec_WordMatrix.l0 k y0 y1 y2 y3 y4) (spec_WordMatrix.l0 (k + 1) y0 y1 y2 y3 y4)) ∧ (∀ y0 y1 y2 y3 y4, LeO (spec_WordMatrix.l1 k y0 y1 y2 y3 y4) (spec_WordMatrix.l1 (k + 1) y0 y1 y2 y3 y4))
 | 0 => ⟨fun _ _ _ r h => by simp [spec_WordMatrix.j0] at h, fun _ _ _ _ _ r h => by simp [spec_WordMatrix.l0] at h, fun _ _ _ _ _ r h => by simp [spec_WordMatrix.l1] at h⟩
 | k + 1 => by
  obtain ⟨ih0, ih1, ih2⟩ := spec_WordMatrix.mono_l k; refine ⟨?_, ?_, ?_⟩
  all_goals
   intros
   first | unfold spec_WordMatrix.j0 | unfold spec_WordMatrix.l0 | unfold spec_WordMatrix.l1
   repeat' with_reducible first | exact ih0 _ _ _ | exact ih1 _ _ _ _ _ | exact ih2 _ _ _ _ _ | exact spec_foGood.mono _ _ | exact spec_foPair.mono _ _ _ | exact spec_foTimes.mono _ _ _ | exact spec_foUnit.mono _ _ | exact spec_l1All.mono _ _ _ _ | exact LeO.refl _ | exact LeO.none _ | refine LeO.ite ?_ ?_ | refine LeO.bind ?_ (fun _ => ?_)
theorem spec_WordMatrix.mono : ∀ a0 a1 k, LeO (spec_WordMatrix.f k a0 a1) (spec_WordMatrix.f (k + 1) a0 a1) := by
 intro a0 a1 k; obtain ⟨ih0, ih1, ih2⟩ := spec_WordMatrix.mono_l k; unfold spec_WordMatrix.f
 repeat' with_reducible first | exact ih0 _ _ _ | exact ih1 _ _ _ _ _ | exact ih2 _ _ _ _ _ | exact spec_foGood.mono _ _ | exact spec_foPair.mono _ _ _ | exact spec_foTimes.mono _ _ _ | exact spec_foUnit.mono _ _ | exact spec_l1All.mono _ _ _ _ | exact LeO.refl _ | exact LeO.none _ | refine LeO.ite ?_ ?_ | refine LeO.bind ?_ (fun _ => ?_)
set_option maxHeartbeats 8000000 in
set_option maxRecDepth 100000 in
theorem spec_WordMatrix.calls (k : Nat) (A0 : Option Addr) (c0 : Nat) (l0 : List (S26)) (A1 : Option Addr) (c1 : Nat) (l1 : List Int) (r1 : List (List Int)) (r2 : Bool) (w : World) (hr0 : Kd.C k26 w A0 l0.length l0) (hc0 : l0.length ≤ c0) (hr1 : Kd.C (Kd.int .i64) w A1 l1.length l1) (hc1 : l1.length ≤ c1) (h : spec_WordMatrix.f k l0 l1 = some (r1, r2)) :
 Calls Try.prog 17 #[.slice A0 l0.length c0, .slice A1 l1.length c1] w fun e w' => ∃ v0_ : Value, e = .returned (.tuple #[.agg #[v0_], .bool r2]) ∧ Kd.S (Kd.slice 3 (Kd.int .i64)) 34 w' w.heap.size (fun _ => True) v0_ r1 ∧ Below w.heap.size w w' := by
 have hu26 := Try.underlying26; have HR0 := Aside0.mk hr0; have HC0 := Aside0.mk hc0; clear hr0 hc0; have HR1 := Aside0.mk hr1; have HC1 := Aside0.mk hc1; clear hr1 hc1; have HB := Aside0.mk (Below.refl w.heap.size w); have H : ((spec_l1In.f (l0.length : Int) 1 8).bind fun t146 => (if t146 = true then (if (l1.length : Int) > 40 then (spec_WordMatrix.j0 k l0 l1 true) else ((spec_l1All.f k l1 0 (wrap64 ((l0.length : Int) - 1))).bind fun t147 => (spec_WordMatrix.j0 k l0 l1 (!t147)))) else (spec_WordMatrix.j0 k l0 l1 true))) = some (r1, r2) := h; clear h; have HC3 := Aside0.mk H; clear H; go_enter Try.func17, Try.ntmps17; go_upto_region 1 with (first | ((with_reducible refine gate_dst (N := 4) rfl ?_); (try (refine gate_guard (by rfl) ?_; dsimp only)); refine box_event ?hg (N := 4) ?hd (cs := #[.slice none 0 0]) (t := 26) ?hr ?_; (case hd => rfl); (case hg => rfl); (case hr => exact z98_); intro gb145 hg w4 hbox hb; have BK145 := Aside0.mk (hbox); have GW145 := gW HB hg; have GE145 := gW HB hg; replace HB := sT bq hb; clear hb hbox hg))
 (try simp only [Act.put, List.setIfInBounds_toArray, List.set_cons_zero, List.set_cons_succ]); go_cut [27] (fun v27 wc => ∃ (kq : Nat) (x27_2 : Bool), v27 = .bool x27_2 ∧ Aside0 (spec_WordMatrix.j0 kq l0 l1 x27_2 = some (r1, r2)) ∧ Aside0 (kq ≤ k) ∧ Aside0 (wc.heap[gb145]? = some (.cells #[(.slice none 0 0)] 26 (0, 0))) ∧ Aside0 (Below w.heap.size w wc))
 case first =>
  have H := HC3.out; clear HC3; replace H := oB H; obtain ⟨t146, A5, H⟩ := H; by_cases c6 : t146 = true
  ·
   subst c6; rw [if_pos rfl] at H; by_cases c7 : (l1.length : Int) > 40
   ·
    rw [if_pos c7] at H; have c7b0 := decide_eq_true c7; have c7b1 : decide (40 < l1.length) = true := decide_eq_true (by omega); clear c7; (first | rw [c7b0] | (simp only [i64_w, i32_w]; rw [c7b0]) | skip); have H' := Aside0.mk H; clear H; go_wp2_with (first | ((with_reducible refine gate_callee (f := 73) rfl ?_); refine gL (some 13) rfl rfl Try.func73 (by kernel_rfl) rfl #[.int .i64 (l0.length : Int), .int .i64 1, .int .i64 8] rfl ?_; (with_reducible refine (spec_l1In.calls (l0.length : Int) 1 8 true _ A5.out).mono ?_); rintro e w' ⟨rfl, ⟨nd, rfl⟩⟩; refine ⟨_, rfl, ?_⟩)); go_meet
    case rel => exact ⟨_, (true), e2, H', ⟨z99_⟩, ⟨by exact bA BK145⟩, ⟨kB HB⟩⟩
   ·
    rw [if_neg c7] at H; have c7b0 := decide_eq_false c7; have c7b1 : decide (40 < l1.length) = false := decide_eq_false (by omega); clear c7; (first | rw [c7b0] | (simp only [i64_w, i32_w]; rw [c7b0]) | skip); replace H := oB H; obtain ⟨t147, A8, H⟩ := H; have H' := Aside0.mk H; clear H; go_wp2_with (first | ((with_reducible refine gate_callee (f := 73) rfl ?_); refine gL (some 13) rfl rfl Try.func73 (by kernel_rfl) rfl #[.int .i64 (l0.length : Int), .int .i64 1, .int .i64 8] rfl ?_; (with_reducible refine (spec_l1In.calls (l0.length : Int) 1 8 true _ A5.out).mono ?_); rintro e w' ⟨rfl, ⟨nd, rfl⟩⟩; refine ⟨_, rfl, ?_⟩) | (go_at_call 74; (with_reducible refine (spec_l1All.calls k _ _ l1 0 (wrap64 ((l0.length : Int) - 1)) t147 _ ?side1 ?side2 A8.out).mono ?_); (case side1 => exact z57_); (case side2 => exact HC1.out); rintro e w' ⟨rfl, ⟨nd, rfl⟩⟩)); go_meet
    case rel => exact ⟨_, (!t147), e2, H', ⟨z99_⟩, ⟨by exact bA BK145⟩, ⟨kB HB⟩⟩
  ·
   replace c6 := Bool.eq_false_iff.mpr c6; subst c6; rw [if_neg (show ¬ (false = true) by decide)] at H; have H' := Aside0.mk H; clear H; go_wp2_with (first | ((with_reducible refine gate_callee (f := 73) rfl ?_); refine gL (some 13) rfl rfl Try.func73 (by kernel_rfl) rfl #[.int .i64 (l0.length : Int), .int .i64 1, .int .i64 8] rfl ?_; (with_reducible refine (spec_l1In.calls (l0.length : Int) 1 8 false _ A5.out).mono ?_); rintro e w' ⟨rfl, ⟨nd, rfl⟩⟩; refine ⟨_, rfl, ?_⟩)); go_meet
   case rel => exact ⟨_, (true), e2, H', ⟨z99_⟩, ⟨by exact bA BK145⟩, ⟨kB HB⟩⟩
 case rest =>
  clear HC3; obtain ⟨kq, x27_2, rfl, HA, HJ2, BK145, HB⟩ := hcut; cases kq with
  | zero => exact absurd HA.out (by simp [spec_WordMatrix.j0])
  | succ kj2 =>
   have H := HA.out; clear HA; simp only [spec_WordMatrix.j0] at H; by_cases c9 : x27_2 = true
   · subst c9; rw [if_pos rfl] at H; simp only [Option.some.injEq, Prod.mk.injEq] at H; obtain ⟨rfl, rfl⟩ := H; obtain ⟨hcz10_0, hfz10_0⟩ := bC BK145; go_wp2; refine bodyPost_ret (results_ct rfl _ _ gb145 26 #[.slice none 0 0] (0, 0) _ rfl (by refine bR ?_; refine blk_put (cs := #[.slice none 0 0]) ?_ 0 _ rfl; exact bA BK145) Try.underlying26 rfl (by kernel_rfl)) rfl ?_; exact ⟨_, e1, z65_, kB HB⟩
   ·
    replace c9 := Bool.eq_false_iff.mpr c9; subst c9; rw [if_neg (show ¬ (false = true) by decide)] at H; have H' := Aside0.mk H; clear H; go_wp2; go_loopg [31] kj2 (fun kq v31 w' => ∃ (x31_2 : Int), v31 = .int .i64 x31_2 ∧ Aside0 (spec_WordMatrix.l0 kq l0 l1 l0 (l0.length : Int) x31_2 = some (r1, r2)) ∧ Aside0 (kq ≤ kj2) ∧ Aside0 (w'.heap[gb145]? = some (.cells #[(.slice none 0 0)] 26 (0, 0))) ∧ Aside0 (Below w.heap.size w w'))
    case atStart => exact ⟨(0), e2, H', ⟨Nat.le_refl _⟩, ⟨by exact bA BK145⟩, ⟨kB HB⟩⟩
    case round =>
     clear H'; (try clear c9); obtain ⟨x31_2, rfl, HA, HK2, BK145, HB⟩ := hrel; cases gk with
     | zero => exact absurd HA.out (by simp [spec_WordMatrix.l0])
     | succ k2 =>
      have H := HA.out; clear HA; simp only [spec_WordMatrix.l0] at H; by_cases c11 : x31_2 < (l0.length : Int)
      ·
       rw [if_pos c11] at H; have c11b0 := decide_eq_true c11; clear c11; by_cases c12 : 0 ≤ x31_2
       ·
        rw [if_pos c12] at H; have c12b0 := decide_eq_true c12; clear c12; by_cases c13 : x31_2 < (l0.length : Int)
        ·
         rw [if_pos c13] at H; have c13b0 := decide_eq_true c13; clear c13; by_cases c14 : 0 < (l0.length : Int)
         ·
          rw [if_pos c14] at H; have c14b0 := decide_eq_true c14; have c14b1 : decide (0 < l0.length) = true := decide_eq_true (by omega); clear c14; replace H := oB H; obtain ⟨t151, A15, H⟩ := H; by_cases c16 : t151 = true
          ·
           subst c16; rw [if_pos rfl] at H; have H' := Aside0.mk H; clear H; have p148 : 0 ≤ (x31_2 : Int) := od; have q148 : x31_2 < (l0.length : Int) := od; obtain ⟨ad148, A148_0, c148_0, e148, hx148_0, hl148_0, hi148_0⟩ := at_T26 HR0.out x31_2 p148 q148; cases e148; replace hx148_0 := (HB.out.cell (World.block_lt_of_cell? w _ hx148_0)).trans hx148_0; have HR148_0 := Aside0.mk hi148_0; have HC148_0 := Aside0.mk hl148_0; clear hi148_0 hl148_0; replace p148 := eq_true p148; replace q148 := eq_true q148
           try go_wp2_with (first | ((with_reducible refine gate_dst (N := 7) rfl ?_); (try (refine gate_guard (by rfl) ?_; dsimp only)); refine box_event ?hg (N := 7) ?hd (cs := #[.slice none 0 0]) (t := 26) ?hr ?_; (case hd => rfl); (case hg => rfl); (case hr => exact z98_); intro gb149 hg w17 hbox hb; have BK149 := Aside0.mk (hbox); have GW149 := gW HB hg; have GE149 := gW HB hg; replace HB := sB HB hb; obtain ⟨NB145_149, NB149_145⟩ := nE BK145 hg; replace BK145 := kA BK145 hb; clear hb hbox hg; obtain ⟨hnb18, hnc18⟩ := nB NB149_145; obtain ⟨hcz19_0, hfz19_0⟩ := bC BK149))
           have n0_ : Aside0 ((w17.setCell ⟨gb149, 0, none⟩ (.slice A148_0 ((rd_T26 l0 x31_2).f0).length c148_0)).heap[gb145]? = some (.cells #[.slice none 0 0] 26 (0, 0))) := ⟨by refine bR ?_; refine blk_far ?_ NB145_149.out _; exact bA BK145⟩; have n1_ : Aside0 ((w17.setCell ⟨gb149, 0, none⟩ (.slice A148_0 ((rd_T26 l0 x31_2).f0).length c148_0)).heap[gb149]? = some (.cells #[.slice A148_0 ((rd_T26 l0 x31_2).f0).length c148_0] 26 (0, 0))) := ⟨by refine bR ?_; refine blk_put (cs := #[.slice none 0 0]) ?_ 0 _ rfl; exact bA BK149⟩; have n2_ : Aside0 (Below w.heap.size w (w17.setCell ⟨gb149, 0, none⟩ (.slice A148_0 ((rd_T26 l0 x31_2).f0).length c148_0))) := ⟨kB HB⟩; (try clear BK145); (try clear BK149); (try clear HB); generalize (w17.setCell ⟨gb149, 0, none⟩ (.slice A148_0 ((rd_T26 l0 x31_2).f0).length c148_0)) = w20 at n0_ n1_ n2_ ⊢; have BK145 := n0_; have BK149 := n1_; have HB := n2_; clear n0_ n1_ n2_; have n0_ := Aside0.mk (blk_drew BK145.out); have n1_ := Aside0.mk (blk_drew BK149.out); have n2_ := Aside0.mk (below_drew1 HB.out); clear BK145; clear BK149; clear HB; have BK145 := n0_; have BK149 := n1_; have HB := n2_; clear n0_ n1_ n2_; have p150 : 0 ≤ (0 : Int) := (by omega); have q150 : 0 < (l0.length : Int) := od; obtain ⟨ad150, A150_0, c150_0, e150, hx150_0, hl150_0, hi150_0⟩ := at_T26 HR0.out 0 p150 q150; have hw150_0 := hx150_0; (try rw [show ((0 : Int)).toNat = 0 from rfl] at hw150_0); (try rw [show 0 * 1 = 0 from rfl] at hw150_0); (try rw [Addr.add_zero'] at hw150_0); obtain rfl : ad148 = ad150 := (by injection e150); have qi150 : (0 < l0.length) = True := eq_true (by omega); (try rw [show ((0 : Int)).toNat = 0 from rfl] at hx150_0); (try rw [Addr.add_zero'] at hx150_0); replace hx150_0 := (HB.out.cell (World.block_lt_of_cell? w _ hx150_0)).trans hx150_0; have HR150_0 := Aside0.mk hi150_0; have HC150_0 := Aside0.mk hl150_0; clear hi150_0 hl150_0; replace p150 := eq_true p150; replace q150 := eq_true q150; refine start_ (n := 6) (S := fun w' => w'.cell? ⟨gb149, 0, none⟩ = some (.slice A148_0 ((rd_T26 l0 x31_2).f0).length c148_0) ∧ w'.cell? ad148 = some (.slice A150_0 ((rd_T26 l0 0).f0).length c150_0)) (ds := []) #[O,O,O,O,O,O] (by kernel_rfl) rfl rfl ⟨(blk_cell BK149.out 0).trans rfl, ((HB.out.cell (World.block_lt_of_cell? w _ hw150_0)).trans hw150_0)⟩ (fun hHeld => ?_); generalize w20.drew = w21 at BK145 BK149 HB HR150_0 hx150_0 hHeld ⊢; refine pure_ (i := 1) (N := some 36) (v := ?_) (a' := ?_) (BM 6 2) rfl rfl (by kernel_rfl) (fun _ _ _ h => h) (Or.inl ⟨by rfl, ?_⟩) ?_ ?_
           rotate_left
           ·
            intro w'; go_simp
            with_reducible rfl
           rotate_left
           · simp only [AP]; rfl
           refine pure_ (i := 2) (N := some 37) (v := ?_) (a' := ?_) (BM 6 6) rfl rfl (by kernel_rfl) (fun _ _ _ h => h) (Or.inl ⟨by rfl, ?_⟩) ?_ ?_
           rotate_left
           ·
            intro w'; go_simp
            with_reducible rfl
           rotate_left
           · simp only [AP]; rfl
           refine take_ (i := 0) (N := some 35) (v := ?_) (a' := ?_) (BM 6 7) rfl rfl (by kernel_rfl) (fun _ _ _ h => h) (Or.inl ⟨by rfl, ?_⟩) hHeld ?_ ?_
           rotate_left
           ·
            rintro w' ⟨s0, s1⟩; go_simp
            with_reducible rfl
           rotate_left
           · simp only [AP]; rfl
           refine take_ (i := 3) (N := some 38) (v := ?_) (a' := ?_) (BM 6 15) rfl rfl (by kernel_rfl) (fun _ _ _ h => h) (Or.inl ⟨by rfl, ?_⟩) hHeld ?_ ?_
           rotate_left
           ·
            rintro w' ⟨s0, s1⟩; go_simp
            with_reducible rfl
           rotate_left
           · simp only [AP]; rfl
           refine one_ (i := 4) (N := some 39) (BM 6 31) rfl rfl (by kernel_rfl) (by decide) (fun K hK => ?_); refine goes_ Try.func75 (by kernel_rfl) rfl #[.agg #[.slice A148_0 ((rd_T26 l0 x31_2).f0).length c148_0], .agg #[.slice A150_0 ((rd_T26 l0 0).f0).length c150_0]] (by rfl) rfl rfl (by (try simp only [List.map_toArray, List.map_cons, List.map_nil]); first | done | rfl | (simp only [List.length_drop, List.length_take]; rfl)) ?_
           with_reducible refine (spec_foPair.calls k2 _ _ ((rd_T26 l0 x31_2).f0) _ _ ((rd_T26 l0 0).f0) true _ ?side1 ?side2 ?side3 ?side4 A15.out).mono ?_
           (case side1 => exact cC (Kd.C_below HR148_0.out HB.out)); (case side2 => exact HC148_0.out); (case side3 => exact cC (Kd.C_below HR150_0.out HB.out)); (case side4 => exact HC150_0.out); rintro e w22 ⟨rfl, hb⟩; refine ⟨_, rfl, ?_⟩; have n0_ := kA BK145 hb; have n1_ := kA BK149 hb; have n2_ := sB HB hb; clear BK145; clear BK149; clear HB; have BK145 := n0_; have BK149 := n1_; have HB := n2_; clear n0_ n1_ n2_; (try clear hb); refine hK.out _ _ ⟨(blk_cell BK149.out 0).trans rfl, ((HB.out.cell (World.block_lt_of_cell? w _ hw150_0)).trans hw150_0)⟩ (fun hHeld => ?_); clear hK K; refine norm_ (a' := ?_) ?_ ?_
           rotate_left
           ·
            show Act.put _ (some 39) _ = _
            simp only [AP]; rfl
           refine pure_ (i := 5) (N := some 40) (v := ?_) (a' := ?_) (BM 6 63) rfl rfl (by kernel_rfl) (fun _ _ _ h => h) (Or.inl ⟨by rfl, ?_⟩) ?_ ?_
           rotate_left
           ·
            intro w'; go_simp
            with_reducible rfl
           rotate_left
           · simp only [AP]; rfl
           refine done_ (by kernel_rfl) ?_
           try go_wp2
           go_roundg k2
           case measure => have := HJ2.out; have := HK2.out; omega
           case rel => exact ⟨(wrap64 (x31_2 + 1)), e2, H', ⟨by have := HJ2.out; have := HK2.out; omega⟩, ⟨by exact bA BK145⟩, ⟨kB HB⟩⟩
          ·
           replace c16 := Bool.eq_false_iff.mpr c16; subst c16; rw [if_neg (show ¬ (false = true) by decide)] at H; simp only [Option.some.injEq, Prod.mk.injEq] at H; obtain ⟨rfl, rfl⟩ := H; have p148 : 0 ≤ (x31_2 : Int) := od; have q148 : x31_2 < (l0.length : Int) := od; obtain ⟨ad148, A148_0, c148_0, e148, hx148_0, hl148_0, hi148_0⟩ := at_T26 HR0.out x31_2 p148 q148; cases e148; replace hx148_0 := (HB.out.cell (World.block_lt_of_cell? w _ hx148_0)).trans hx148_0; have HR148_0 := Aside0.mk hi148_0; have HC148_0 := Aside0.mk hl148_0; clear hi148_0 hl148_0; replace p148 := eq_true p148; replace q148 := eq_true q148
           try go_wp2_with (first | ((with_reducible refine gate_dst (N := 7) rfl ?_); (try (refine gate_guard (by rfl) ?_; dsimp only)); refine box_event ?hg (N := 7) ?hd (cs := #[.slice none 0 0]) (t := 26) ?hr ?_; (case hd => rfl); (case hg => rfl); (case hr => exact z98_); intro gb149 hg w23 hbox hb; have BK149 := Aside0.mk (hbox); have GW149 := gW HB hg; have GE149 := gW HB hg; replace HB := sB HB hb; obtain ⟨NB145_149, NB149_145⟩ := nE BK145 hg; replace BK145 := kA BK145 hb; clear hb hbox hg; obtain ⟨hnb24, hnc24⟩ := nB NB149_145; obtain ⟨hcz25_0, hfz25_0⟩ := bC BK149))
           have n0_ : Aside0 ((w23.setCell ⟨gb149, 0, none⟩ (.slice A148_0 ((rd_T26 l0 x31_2).f0).length c148_0)).heap[gb145]? = some (.cells #[.slice none 0 0] 26 (0, 0))) := ⟨by refine bR ?_; refine blk_far ?_ NB145_149.out _; exact bA BK145⟩; have n1_ : Aside0 ((w23.setCell ⟨gb149, 0, none⟩ (.slice A148_0 ((rd_T26 l0 x31_2).f0).length c148_0)).heap[gb149]? = some (.cells #[.slice A148_0 ((rd_T26 l0 x31_2).f0).length c148_0] 26 (0, 0))) := ⟨by refine bR ?_; refine blk_put (cs := #[.slice none 0 0]) ?_ 0 _ rfl; exact bA BK149⟩; have n2_ : Aside0 (Below w.heap.size w (w23.setCell ⟨gb149, 0, none⟩ (.slice A148_0 ((rd_T26 l0 x31_2).f0).length c148_0))) := ⟨kB HB⟩; (try clear BK145); (try clear BK149); (try clear HB); generalize (w23.setCell ⟨gb149, 0, none⟩ (.slice A148_0 ((rd_T26 l0 x31_2).f0).length c148_0)) = w26 at n0_ n1_ n2_ ⊢; have BK145 := n0_; have BK149 := n1_; have HB := n2_; clear n0_ n1_ n2_; have n0_ := Aside0.mk (blk_drew BK145.out); have n1_ := Aside0.mk (blk_drew BK149.out); have n2_ := Aside0.mk (below_drew1 HB.out); clear BK145; clear BK149; clear HB; have BK145 := n0_; have BK149 := n1_; have HB := n2_; clear n0_ n1_ n2_; have p150 : 0 ≤ (0 : Int) := (by omega); have q150 : 0 < (l0.length : Int) := od; obtain ⟨ad150, A150_0, c150_0, e150, hx150_0, hl150_0, hi150_0⟩ := at_T26 HR0.out 0 p150 q150; have hw150_0 := hx150_0; (try rw [show ((0 : Int)).toNat = 0 from rfl] at hw150_0); (try rw [show 0 * 1 = 0 from rfl] at hw150_0); (try rw [Addr.add_zero'] at hw150_0); obtain rfl : ad148 = ad150 := (by injection e150); have qi150 : (0 < l0.length) = True := eq_true (by omega); (try rw [show ((0 : Int)).toNat = 0 from rfl] at hx150_0); (try rw [Addr.add_zero'] at hx150_0); replace hx150_0 := (HB.out.cell (World.block_lt_of_cell? w _ hx150_0)).trans hx150_0; have HR150_0 := Aside0.mk hi150_0; have HC150_0 := Aside0.mk hl150_0; clear hi150_0 hl150_0; replace p150 := eq_true p150; replace q150 := eq_true q150; refine start_ (n := 6) (S := fun w' => w'.cell? ⟨gb149, 0, none⟩ = some (.slice A148_0 ((rd_T26 l0 x31_2).f0).length c148_0) ∧ w'.cell? ad148 = some (.slice A150_0 ((rd_T26 l0 0).f0).length c150_0)) (ds := []) #[O,O,O,O,O,O] (by kernel_rfl) rfl rfl ⟨(blk_cell BK149.out 0).trans rfl, ((HB.out.cell (World.block_lt_of_cell? w _ hw150_0)).trans hw150_0)⟩ (fun hHeld => ?_); generalize w26.drew = w27 at BK145 BK149 HB HR150_0 hx150_0 hHeld ⊢; refine pure_ (i := 1) (N := some 36) (v := ?_) (a' := ?_) (BM 6 2) rfl rfl (by kernel_rfl) (fun _ _ _ h => h) (Or.inl ⟨by rfl, ?_⟩) ?_ ?_
           rotate_left
           ·
            intro w'; go_simp
            with_reducible rfl
           rotate_left
           · simp only [AP]; rfl
           refine pure_ (i := 2) (N := some 37) (v := ?_) (a' := ?_) (BM 6 6) rfl rfl (by kernel_rfl) (fun _ _ _ h => h) (Or.inl ⟨by rfl, ?_⟩) ?_ ?_
           rotate_left
           ·
            intro w'; go_simp
            with_reducible rfl
           rotate_left
           · simp only [AP]; rfl
           refine take_ (i := 0) (N := some 35) (v := ?_) (a' := ?_) (BM 6 7) rfl rfl (by kernel_rfl) (fun _ _ _ h => h) (Or.inl ⟨by rfl, ?_⟩) hHeld ?_ ?_
           rotate_left
           ·
            rintro w' ⟨s0, s1⟩; go_simp
            with_reducible rfl
           rotate_left
           · simp only [AP]; rfl
           refine take_ (i := 3) (N := some 38) (v := ?_) (a' := ?_) (BM 6 15) rfl rfl (by kernel_rfl) (fun _ _ _ h => h) (Or.inl ⟨by rfl, ?_⟩) hHeld ?_ ?_
           rotate_left
           ·
            rintro w' ⟨s0, s1⟩; go_simp
            with_reducible rfl
           rotate_left
           · simp only [AP]; rfl
           refine one_ (i := 4) (N := some 39) (BM 6 31) rfl rfl (by kernel_rfl) (by decide) (fun K hK => ?_); refine goes_ Try.func75 (by kernel_rfl) rfl #[.agg #[.slice A148_0 ((rd_T26 l0 x31_2).f0).length c148_0], .agg #[.slice A150_0 ((rd_T26 l0 0).f0).length c150_0]] (by rfl) rfl rfl (by (try simp only [List.map_toArray, List.map_cons, List.map_nil]); first | done | rfl | (simp only [List.length_drop, List.length_take]; rfl)) ?_
           with_reducible refine (spec_foPair.calls k2 _ _ ((rd_T26 l0 x31_2).f0) _ _ ((rd_T26 l0 0).f0) false _ ?side1 ?side2 ?side3 ?side4 A15.out).mono ?_
           (case side1 => exact cC (Kd.C_below HR148_0.out HB.out)); (case side2 => exact HC148_0.out); (case side3 => exact cC (Kd.C_below HR150_0.out HB.out)); (case side4 => exact HC150_0.out); rintro e w28 ⟨rfl, hb⟩; refine ⟨_, rfl, ?_⟩; have n0_ := kA BK145 hb; have n1_ := kA BK149 hb; have n2_ := sB HB hb; clear BK145; clear BK149; clear HB; have BK145 := n0_; have BK149 := n1_; have HB := n2_; clear n0_ n1_ n2_; (try clear hb); refine hK.out _ _ ⟨(blk_cell BK149.out 0).trans rfl, ((HB.out.cell (World.block_lt_of_cell? w _ hw150_0)).trans hw150_0)⟩ (fun hHeld => ?_); clear hK K; refine norm_ (a' := ?_) ?_ ?_
           rotate_left
           ·
            show Act.put _ (some 39) _ = _
            simp only [AP]; rfl
           refine pure_ (i := 5) (N := some 40) (v := ?_) (a' := ?_) (BM 6 63) rfl rfl (by kernel_rfl) (fun _ _ _ h => h) (Or.inl ⟨by rfl, ?_⟩) ?_ ?_
           rotate_left
           ·
            intro w'; go_simp
            with_reducible rfl
           rotate_left
           · simp only [AP]; rfl
           refine done_ (by kernel_rfl) ?_; obtain ⟨hcz29_0, hfz29_0⟩ := bC BK145
           try go_wp2
           refine bodyPost_ret (results_ct rfl _ _ gb145 26 #[.slice none 0 0] (0, 0) _ rfl (by refine bR ?_; refine blk_put (cs := #[.slice none 0 0]) ?_ 0 _ rfl; exact bA BK145) Try.underlying26 rfl (by kernel_rfl)) rfl ?_; exact ⟨_, e1, z65_, kB HB⟩
         · rw [if_neg c14] at H; exact absurd H (by simp)
        · rw [if_neg c13] at H; exact absurd H (by simp)
       · rw [if_neg c12] at H; exact absurd H (by simp)
      ·
       rw [if_neg c11] at H; have c11b0 := decide_eq_false c11; clear c11; by_cases c30 : 0 < (l0.length : Int)
       ·
        rw [if_pos c30] at H; have c30b0 := decide_eq_true c30; have c30b1 : decide (0 < l0.length) = true := decide_eq_true (by omega); clear c30; replace H := oB H; obtain ⟨t153, A31, H⟩ := H; have H' := Aside0.mk H; clear H; have p152 : 0 ≤ (0 : Int) := (by omega); have q152 : 0 < (l0.length : Int) := od; obtain ⟨ad152, A152_0, c152_0, e152, hx152_0, hl152_0, hi152_0⟩ := at_T26 HR0.out 0 p152 q152; cases e152; have qi152 : (0 < l0.length) = True := eq_true (by omega); (try rw [show ((0 : Int)).toNat = 0 from rfl] at hx152_0); (try rw [Addr.add_zero'] at hx152_0); replace hx152_0 := (HB.out.cell (World.block_lt_of_cell? w _ hx152_0)).trans hx152_0; have HR152_0 := Aside0.mk hi152_0; have HC152_0 := Aside0.mk hl152_0; clear hi152_0 hl152_0; replace p152 := eq_true p152; replace q152 := eq_true q152; go_wp2_with (first | ((with_reducible refine gate_callee (f := 76) rfl ?_); refine gL (some 48) rfl rfl Try.func76 (by kernel_rfl) rfl #[.int .i64 (((rd_T26 l0 0).f0).length : Int)] rfl ?_; (with_reducible refine (spec_foUnit.calls k2 (((rd_T26 l0 0).f0).length : Int) t153 _ A31.out).mono ?_); rintro e w32 ⟨v154, rfl, ho0, hb⟩; refine ⟨_, rfl, ?_⟩; have HO155 := Aside0.mk (Kd.S_lower ho0 (below_size (kB HB))); replace BK145 := kA BK145 hb; replace HB := sB HB hb; (try clear hb); (try clear ho0)) | ((with_reducible refine gate_dst (N := 8) rfl ?_); (try (refine gate_guard (by rfl) ?_; dsimp only)); refine box_event ?hg (N := 8) ?hd (cs := #[.slice none 0 0]) (t := 26) ?hr ?_; (case hd => rfl); (case hg => rfl); (case hr => exact z98_); intro gb156 hg w33 hbox hb; replace HO155 := Aside0.mk (Kd.S_below (sP HO155.out) hb); have BK156 := Aside0.mk (hbox); have GW156 := gW HB hg; have GE156 := gW HB hg; replace HB := sB HB hb; obtain ⟨NB145_156, NB156_145⟩ := nE BK145 hg; replace BK145 := kA BK145 hb; clear hb hbox hg; obtain ⟨Ao34, co34, eo34⟩ := Kd.S_slice HO155.out; subst eo34; obtain ⟨hnb35, hnc35⟩ := nB NB156_145; obtain ⟨hcz36_0, hfz36_0⟩ := bC BK156)); go_loopg [51] k2 (fun kq v51 w' => ∃ (x51_3 : Int) (x157000_3 : List (List Int)) (u157000 : Value), v51 = .int .i64 x51_3 ∧ Aside0 (spec_WordMatrix.l1 kq l0 l1 (l1.length : Int) x51_3 x157000_3 = some (r1, r2)) ∧ Aside0 (kq ≤ k2) ∧ Aside0 (Kd.S (Kd.slice 3 (Kd.int .i64)) 34 w' w.heap.size (fun _ => True) u157000 x157000_3) ∧ Aside0 (w'.heap[gb145]? = some (.cells #[(.slice none 0 0)] 26 (0, 0))) ∧ Aside0 (w'.heap[gb156]? = some (.cells #[u157000] 26 (0, 0))) ∧ Aside0 (Below w.heap.size w w'))
        case atStart => exact ⟨(0), (t153), (.slice Ao34 t153.length co34), e2, H', ⟨Nat.le_refl _⟩, ⟨sP (Kd.S_mono (Kd.S_far (p := ⟨gb156, 0, none⟩) (Kd.S_types HO155.out BK156.out (by decide)) (fun _ hk => hk.2) (.slice Ao34 t153.length co34)) (fun _ hk => trivial))⟩, ⟨by refine bR ?_; refine blk_far ?_ NB145_156.out _; exact bA BK145⟩, ⟨by refine bR ?_; refine blk_put (cs := #[.slice none 0 0]) ?_ 0 _ rfl; exact bA BK156⟩, ⟨kB HB⟩⟩
        case round =>
         clear H'; (try clear c9); (try clear c11); (try clear c11b0); (try clear c30); (try clear c30b0); (try clear c30b1); (try clear hcz36_0); (try clear hfz36_0); (try clear hx152_0); (try clear p152); (try clear q152); obtain ⟨x51_3, x157000_3, u157000, rfl, HA, HK3, HO_157000, BK145, BK156, HB⟩ := hrel; cases gk with
         | zero => exact absurd HA.out (by simp [spec_WordMatrix.l1])
         | succ k3 =>
          have H := HA.out; clear HA; simp only [spec_WordMatrix.l1] at H; by_cases c37 : x51_3 < (l1.length : Int)
          ·
           rw [if_pos c37] at H; have c37b0 := decide_eq_true c37; clear c37; by_cases c38 : 0 ≤ x51_3
           ·
            rw [if_pos c38] at H; have c38b0 := decide_eq_true c38; clear c38; by_cases c39 : x51_3 < (l1.length : Int)
            ·
             rw [if_pos c39] at H; have c39b0 := decide_eq_true c39; clear c39; by_cases c40 : 0 ≤ (rd l1 x51_3)
             ·
              rw [if_pos c40] at H; have c40b0 := decide_eq_true c40; clear c40; by_cases c41 : (rd l1 x51_3) < (l0.length : Int)
              ·
               rw [if_pos c41] at H; have c41b0 := decide_eq_true c41; clear c41; replace H := oB H; obtain ⟨t159, A42, H⟩ := H; replace H := oB H; obtain ⟨t162, A43, H⟩ := H; by_cases c44 : t162 = true
               ·
                subst c44; rw [if_pos rfl] at H; have H' := Aside0.mk H; clear H; have p157 : 0 ≤ (x51_3 : Int) := od; have q157 : x51_3 < (l1.length : Int) := od; obtain ⟨ad157, e157, hx157_0⟩ := Kd.at_int HR1.out x51_3 p157 q157; cases e157; replace hx157_0 := (HB.out.cell (World.block_lt_of_cell? w _ hx157_0)).trans hx157_0; replace p157 := eq_true p157; replace q157 := eq_true q157
                try go_wp2
                have n0_ := Aside0.mk (Kd.S_drew HO_157000.out); have n1_ := Aside0.mk (blk_drew BK145.out); have n2_ := Aside0.mk (blk_drew BK156.out); have n3_ := Aside0.mk (below_drew1 HB.out); clear HO_157000; clear BK145; clear BK156; clear HB; have HO_157000 := n0_; have BK145 := n1_; have BK156 := n2_; have HB := n3_; clear n0_ n1_ n2_ n3_; have p158 : 0 ≤ ((rd l1 x51_3) : Int) := od; have q158 : (rd l1 x51_3) < (l0.length : Int) := od; obtain ⟨ad158, A158_0, c158_0, e158, hx158_0, hl158_0, hi158_0⟩ := at_T26 HR0.out (rd l1 x51_3) p158 q158; have hw158_0 := hx158_0; obtain rfl : ad152 = ad158 := (by injection e158); replace hx158_0 := (HB.out.cell (World.block_lt_of_cell? w _ hx158_0)).trans hx158_0; have HR158_0 := Aside0.mk hi158_0; have HC158_0 := Aside0.mk hl158_0; clear hi158_0 hl158_0; replace p158 := eq_true p158; replace q158 := eq_true q158; obtain ⟨Ao46, co46, eo46⟩ := Kd.S_slice HO_157000.out; (first | subst eo46 | (injection eo46 with f1_ f2_ f3_; have f4_ := f1_.symm; have f5_ := f3_.symm; clear f1_ f2_ f3_; subst f4_; subst f5_)); refine start_ (n := 7) (S := fun w' => w'.cell? ⟨gb156, 0, none⟩ = some (.slice Ao46 x157000_3.length co46) ∧ w'.cell? (ad152.add ((rd l1 x51_3)).toNat) = some (.slice A158_0 ((rd_T26 l0 (rd l1 x51_3)).f0).length c158_0)) (ds := [6]) #[O,O,O,O,O,O,O] (by kernel_rfl) rfl rfl ⟨(blk_cell BK156.out 0).trans rfl, ((HB.out.cell (World.block_lt_of_cell? w _ hw158_0)).trans hw158_0)⟩ (fun hHeld => ?_); generalize wr.drew = w45 at HO_157000 BK145 BK156 HB HR158_0 hx158_0 hHeld ⊢; refine pure_ (i := 1) (N := some 56) (v := ?_) (a' := ?_) (BM 7 2) rfl rfl (by kernel_rfl) (fun _ _ _ h => h) (Or.inl ⟨by rfl, ?_⟩) ?_ ?_
                rotate_left
                ·
                 intro w'; go_simp
                 with_reducible rfl
                rotate_left
                · simp only [AP]; rfl
                refine pure_ (i := 2) (N := some 57) (v := ?_) (a' := ?_) (BM 7 6) rfl rfl (by kernel_rfl) (fun _ _ _ h => h) (Or.inl ⟨by rfl, ?_⟩) ?_ ?_
                rotate_left
                ·
                 intro w'; go_simp
                 with_reducible rfl
                rotate_left
                · simp only [AP]; rfl
                refine pure_ (i := 3) (N := some 58) (v := ?_) (a' := ?_) (BM 7 14) rfl rfl (by kernel_rfl) (fun _ _ _ h => h) (Or.inl ⟨by rfl, ?_⟩) ?_ ?_
                rotate_left
                ·
                 intro w'; go_simp
                 with_reducible rfl
                rotate_left
                · simp only [AP]; rfl
                refine take_ (i := 0) (N := some 55) (v := ?_) (a' := ?_) (BM 7 15) rfl rfl (by kernel_rfl) (fun _ _ _ h => h) (Or.inl ⟨by rfl, ?_⟩) hHeld ?_ ?_
                rotate_left
                ·
                 rintro w' ⟨s0, s1⟩; go_simp
                 with_reducible rfl
                rotate_left
                · simp only [AP]; rfl
                refine take_ (i := 4) (N := some 59) (v := ?_) (a' := ?_) (BM 7 31) rfl rfl (by kernel_rfl) (fun _ _ _ h => h) (Or.inl ⟨by rfl, ?_⟩) hHeld ?_ ?_
                rotate_left
                ·
                 rintro w' ⟨s0, s1⟩; go_simp
                 with_reducible rfl
                rotate_left
                · simp only [AP]; rfl
                refine one_ (i := 5) (N := some 60) (BM 7 63) rfl rfl (by kernel_rfl) (by decide) (fun K hK => ?_); refine goes_ Try.func77 (by kernel_rfl) rfl #[.agg #[.slice Ao46 x157000_3.length co46], .agg #[.slice A158_0 ((rd_T26 l0 (rd l1 x51_3)).f0).length c158_0]] (by rfl) rfl rfl (by (try simp only [List.map_toArray, List.map_cons, List.map_nil]); first | done | rfl | (simp only [List.length_drop, List.length_take]; rfl)) ?_
                with_reducible refine (spec_foTimes.calls k3 _ _ x157000_3 _ _ ((rd_T26 l0 (rd l1 x51_3)).f0) t159 _ ?side1 ?side2 ?side3 ?side4 A42.out).mono ?_
                (case side1 => exact cC (Kd.S_reads' HO_157000.out).2.2); (case side2 => exact (Kd.S_reads' HO_157000.out).2.1); (case side3 => exact cC (Kd.C_below HR158_0.out HB.out)); (case side4 => exact HC158_0.out); rintro e w47 ⟨v160, rfl, ho0, hb⟩; refine ⟨_, rfl, ?_⟩; have n0_ := Aside0.mk (Kd.S_elder' z80_ (Kd.S_base ho0) hb); have n1_ := Aside0.mk (Kd.S_lower (Kd.S_new' ho0 (Kd.S_lt z80_)) (below_size (kB HB))); have n2_ := kA BK145 hb; have n3_ := kA BK156 hb; have n4_ := sB HB hb; clear HO_157000; clear BK145; clear BK156; clear HB; have HO_157000 := n0_; have HO161 := n1_; have BK145 := n2_; have BK156 := n3_; have HB := n4_; clear n0_ n1_ n2_ n3_ n4_; (try clear hb); (try clear ho0); obtain ⟨Ao48, co48, eo48⟩ := Kd.S_slice HO161.out; (first | subst eo48 | (injection eo48 with f1_ f2_ f3_; have f4_ := f1_.symm; have f5_ := f3_.symm; clear f1_ f2_ f3_; subst f4_; subst f5_)); refine hK.out _ _ ⟨(blk_cell BK156.out 0).trans rfl, ((HB.out.cell (World.block_lt_of_cell? w _ hw158_0)).trans hw158_0)⟩ (fun hHeld => ?_); clear hK K; refine norm_ (a' := ?_) ?_ ?_
                rotate_left
                ·
                 show Act.put _ (some 60) _ = _
                 simp only [AP]; rfl
                refine last_ (i := 6) (N := none) (BM 7 127) rfl rfl (by kernel_rfl) (by decide) (fun K hK => ?_); have hs49 : w47.cell? ⟨gb156, 0, none⟩ = some (.slice Ao46 x157000_3.length co46) := (blk_cell BK156.out 0).trans rfl; have hfs49 := blk_frozen BK156.out 0; have hns49_0 := NB145_156.out; have hms49_0 := NB156_145.out; refine skip_ (w1 := ?_) (by rfl) rfl ?_ ?_
                rotate_left
                · go_simp; rfl
                refine hK.out _ _ ?_; clear hK K; refine done_ (by kernel_rfl) ?_; obtain ⟨hnb50, hnc50⟩ := nB NB156_145; obtain ⟨hcz51_0, hfz51_0⟩ := bC BK156
                try go_wp2_with (first | ((with_reducible refine gate_callee (f := 78) rfl ?_); refine gL (some 62) rfl rfl Try.func78 (by kernel_rfl) rfl #[.agg #[.slice Ao48 t159.length co48]] rfl ?_; (with_reducible refine (spec_foGood.calls k3 _ _ t159 true _ ?side1 ?side2 A43.out).mono ?_); (case side1 => refine (Kd.S_reads' (e := 34) (base := w.heap.size) (ok := fun k_ => (True ∧ some k_ ≠ (.slice Ao46 x157000_3.length co46 : Value).ownBlock)) (n := t159.length) (c := co48) ?_).2.2; exact z33_); (case side2 => exact (Kd.S_reads' HO161.out).2.1); rintro e w52 ⟨rfl, hb⟩; refine ⟨_, rfl, ?_⟩; replace HO_157000 := Aside0.mk (Kd.S_below (sP (Kd.S_mono (Kd.S_far (p := ⟨gb156, 0, none⟩) (Kd.S_types HO_157000.out BK156.out (by decide)) (fun _ hk => hk.2) (.slice Ao48 t159.length co48)) (fun _ h_ => h_.1))) hb); replace HO161 := vS z33_ hb; replace BK145 := bS BK145 (by refine bR ?_; refine blk_far ?_ NB145_156.out _; exact bA BK145) hb; replace BK156 := Aside0.mk (blk_below (g := gb156) (o := .cells #[.slice Ao48 t159.length co48] 26 (0, 0)) (by refine bR ?_; refine blk_put (cs := #[.slice Ao46 x157000_3.length co46]) ?_ 0 _ rfl; exact bA BK156) hb); replace HB := sB HB hb; (try clear hb)))
                go_roundg k3
                case measure => have := HJ2.out; have := HK2.out; have := HK3.out; omega
                case rel => exact ⟨(wrap64 (x51_3 + 1)), (t159), (.slice Ao48 t159.length co48), e2, H', ⟨by have := HJ2.out; have := HK2.out; have := HK3.out; omega⟩, ⟨sP (Kd.S_mono HO161.out (fun _ hk => trivial))⟩, ⟨by exact bA BK145⟩, ⟨by exact bA BK156⟩, ⟨kB HB⟩⟩
               ·
                replace c44 := Bool.eq_false_iff.mpr c44; subst c44; rw [if_neg (show ¬ (false = true) by decide)] at H; simp only [Option.some.injEq, Prod.mk.injEq] at H; obtain ⟨rfl, rfl⟩ := H; have p157 : 0 ≤ (x51_3 : Int) := od; have q157 : x51_3 < (l1.length : Int) := od; obtain ⟨ad157, e157, hx157_0⟩ := Kd.at_int HR1.out x51_3 p157 q157; cases e157; replace hx157_0 := (HB.out.cell (World.block_lt_of_cell? w _ hx157_0)).trans hx157_0; replace p157 := eq_true p157; replace q157 := eq_true q157
                try go_wp2
                have n0_ := Aside0.mk (Kd.S_drew HO_157000.out); have n1_ := Aside0.mk (blk_drew BK145.out); have n2_ := Aside0.mk (blk_drew BK156.out); have n3_ := Aside0.mk (below_drew1 HB.out); clear HO_157000; clear BK145; clear BK156; clear HB; have HO_157000 := n0_; have BK145 := n1_; have BK156 := n2_; have HB := n3_; clear n0_ n1_ n2_ n3_; have p158 : 0 ≤ ((rd l1 x51_3) : Int) := od; have q158 : (rd l1 x51_3) < (l0.length : Int) := od; obtain ⟨ad158, A158_0, c158_0, e158, hx158_0, hl158_0, hi158_0⟩ := at_T26 HR0.out (rd l1 x51_3) p158 q158; have hw158_0 := hx158_0; obtain rfl : ad152 = ad158 := (by injection e158); replace hx158_0 := (HB.out.cell (World.block_lt_of_cell? w _ hx158_0)).trans hx158_0; have HR158_0 := Aside0.mk hi158_0; have HC158_0 := Aside0.mk hl158_0; clear hi158_0 hl158_0; replace p158 := eq_true p158; replace q158 := eq_true q158; obtain ⟨Ao54, co54, eo54⟩ := Kd.S_slice HO_157000.out; (first | subst eo54 | (injection eo54 with f1_ f2_ f3_; have f4_ := f1_.symm; have f5_ := f3_.symm; clear f1_ f2_ f3_; subst f4_; subst f5_)); refine start_ (n := 7) (S := fun w' => w'.cell? ⟨gb156, 0, none⟩ = some (.slice Ao54 x157000_3.length co54) ∧ w'.cell? (ad152.add ((rd l1 x51_3)).toNat) = some (.slice A158_0 ((rd_T26 l0 (rd l1 x51_3)).f0).length c158_0)) (ds := [6]) #[O,O,O,O,O,O,O] (by kernel_rfl) rfl rfl ⟨(blk_cell BK156.out 0).trans rfl, ((HB.out.cell (World.block_lt_of_cell? w _ hw158_0)).trans hw158_0)⟩ (fun hHeld => ?_); generalize wr.drew = w53 at HO_157000 BK145 BK156 HB HR158_0 hx158_0 hHeld ⊢; refine pure_ (i := 1) (N := some 56) (v := ?_) (a' := ?_) (BM 7 2) rfl rfl (by kernel_rfl) (fun _ _ _ h => h) (Or.inl ⟨by rfl, ?_⟩) ?_ ?_
                rotate_left
                ·
                 intro w'; go_simp
                 with_reducible rfl
                rotate_left
                · simp only [AP]; rfl
                refine pure_ (i := 2) (N := some 57) (v := ?_) (a' := ?_) (BM 7 6) rfl rfl (by kernel_rfl) (fun _ _ _ h => h) (Or.inl ⟨by rfl, ?_⟩) ?_ ?_
                rotate_left
                ·
                 intro w'; go_simp
                 with_reducible rfl
                rotate_left
                · simp only [AP]; rfl
                refine pure_ (i := 3) (N := some 58) (v := ?_) (a' := ?_) (BM 7 14) rfl rfl (by kernel_rfl) (fun _ _ _ h => h) (Or.inl ⟨by rfl, ?_⟩) ?_ ?_
                rotate_left
                ·
                 intro w'; go_simp
                 with_reducible rfl
                rotate_left
                · simp only [AP]; rfl
                refine take_ (i := 0) (N := some 55) (v := ?_) (a' := ?_) (BM 7 15) rfl rfl (by kernel_rfl) (fun _ _ _ h => h) (Or.inl ⟨by rfl, ?_⟩) hHeld ?_ ?_
                rotate_left
                ·
                 rintro w' ⟨s0, s1⟩; go_simp
                 with_reducible rfl
                rotate_left
                · simp only [AP]; rfl
                refine take_ (i := 4) (N := some 59) (v := ?_) (a' := ?_) (BM 7 31) rfl rfl (by kernel_rfl) (fun _ _ _ h => h) (Or.inl ⟨by rfl, ?_⟩) hHeld ?_ ?_
                rotate_left
                ·
                 rintro w' ⟨s0, s1⟩; go_simp
                 with_reducible rfl
                rotate_left
                · simp only [AP]; rfl
                refine one_ (i := 5) (N := some 60) (BM 7 63) rfl rfl (by kernel_rfl) (by decide) (fun K hK => ?_); refine goes_ Try.func77 (by kernel_rfl) rfl #[.agg #[.slice Ao54 x157000_3.length co54], .agg #[.slice A158_0 ((rd_T26 l0 (rd l1 x51_3)).f0).length c158_0]] (by rfl) rfl rfl (by (try simp only [List.map_toArray, List.map_cons, List.map_nil]); first | done | rfl | (simp only [List.length_drop, List.length_take]; rfl)) ?_
                with_reducible refine (spec_foTimes.calls k3 _ _ x157000_3 _ _ ((rd_T26 l0 (rd l1 x51_3)).f0) t159 _ ?side1 ?side2 ?side3 ?side4 A42.out).mono ?_
                (case side1 => exact cC (Kd.S_reads' HO_157000.out).2.2); (case side2 => exact (Kd.S_reads' HO_157000.out).2.1); (case side3 => exact cC (Kd.C_below HR158_0.out HB.out)); (case side4 => exact HC158_0.out); rintro e w55 ⟨v160, rfl, ho0, hb⟩; refine ⟨_, rfl, ?_⟩; have n0_ := Aside0.mk (Kd.S_elder' z80_ (Kd.S_base ho0) hb); have n1_ := Aside0.mk (Kd.S_lower (Kd.S_new' ho0 (Kd.S_lt z80_)) (below_size (kB HB))); have n2_ := kA BK145 hb; have n3_ := kA BK156 hb; have n4_ := sB HB hb; clear HO_157000; clear BK145; clear BK156; clear HB; have HO_157000 := n0_; have HO161 := n1_; have BK145 := n2_; have BK156 := n3_; have HB := n4_; clear n0_ n1_ n2_ n3_ n4_; (try clear hb); (try clear ho0); obtain ⟨Ao56, co56, eo56⟩ := Kd.S_slice HO161.out; (first | subst eo56 | (injection eo56 with f1_ f2_ f3_; have f4_ := f1_.symm; have f5_ := f3_.symm; clear f1_ f2_ f3_; subst f4_; subst f5_)); refine hK.out _ _ ⟨(blk_cell BK156.out 0).trans rfl, ((HB.out.cell (World.block_lt_of_cell? w _ hw158_0)).trans hw158_0)⟩ (fun hHeld => ?_); clear hK K; refine norm_ (a' := ?_) ?_ ?_
                rotate_left
                ·
                 show Act.put _ (some 60) _ = _
                 simp only [AP]; rfl
                refine last_ (i := 6) (N := none) (BM 7 127) rfl rfl (by kernel_rfl) (by decide) (fun K hK => ?_); have hs57 : w55.cell? ⟨gb156, 0, none⟩ = some (.slice Ao54 x157000_3.length co54) := (blk_cell BK156.out 0).trans rfl; have hfs57 := blk_frozen BK156.out 0; have hns57_0 := NB145_156.out; have hms57_0 := NB156_145.out; refine skip_ (w1 := ?_) (by rfl) rfl ?_ ?_
                rotate_left
                · go_simp; rfl
                refine hK.out _ _ ?_; clear hK K; refine done_ (by kernel_rfl) ?_; obtain ⟨hnb58, hnc58⟩ := nB NB156_145; obtain ⟨hcz59_0, hfz59_0⟩ := bC BK156
                try go_wp2_with (first | ((with_reducible refine gate_callee (f := 78) rfl ?_); refine gL (some 62) rfl rfl Try.func78 (by kernel_rfl) rfl #[.agg #[.slice Ao56 t159.length co56]] rfl ?_; (with_reducible refine (spec_foGood.calls k3 _ _ t159 false _ ?side1 ?side2 A43.out).mono ?_); (case side1 => refine (Kd.S_reads' (e := 34) (base := w.heap.size) (ok := fun k_ => (True ∧ some k_ ≠ (.slice Ao54 x157000_3.length co54 : Value).ownBlock)) (n := t159.length) (c := co56) ?_).2.2; exact z35_); (case side2 => exact (Kd.S_reads' HO161.out).2.1); rintro e w60 ⟨rfl, hb⟩; refine ⟨_, rfl, ?_⟩; replace HO_157000 := Aside0.mk (Kd.S_below (sP (Kd.S_mono (Kd.S_far (p := ⟨gb156, 0, none⟩) (Kd.S_types HO_157000.out BK156.out (by decide)) (fun _ hk => hk.2) (.slice Ao56 t159.length co56)) (fun _ h_ => h_.1))) hb); replace HO161 := vS z35_ hb; replace BK145 := bS BK145 (by refine bR ?_; refine blk_far ?_ NB145_156.out _; exact bA BK145) hb; replace BK156 := Aside0.mk (blk_below (g := gb156) (o := .cells #[.slice Ao56 t159.length co56] 26 (0, 0)) (by refine bR ?_; refine blk_put (cs := #[.slice Ao54 x157000_3.length co54]) ?_ 0 _ rfl; exact bA BK156) hb); replace HB := sB HB hb; (try clear hb); obtain ⟨hcz61_0, hfz61_0⟩ := bC BK145))
                refine bodyPost_ret (results_ct rfl _ _ gb145 26 #[.slice none 0 0] (0, 0) _ rfl (by refine bR ?_; refine blk_put (cs := #[.slice none 0 0]) ?_ 0 _ rfl; exact bA BK145) Try.underlying26 rfl (by kernel_rfl)) rfl ?_; exact ⟨_, e1, z65_, kB HB⟩
              · rw [if_neg c41] at H; exact absurd H (by simp)
             · rw [if_neg c40] at H; exact absurd H (by simp)
            · rw [if_neg c39] at H; exact absurd H (by simp)
           · rw [if_neg c38] at H; exact absurd H (by simp)
          · rw [if_neg c37] at H; have c37b0 := decide_eq_false c37; clear c37; simp only [Option.some.injEq, Prod.mk.injEq] at H; obtain ⟨rfl, rfl⟩ := H; obtain ⟨hnb62, hnc62⟩ := nB NB156_145; obtain ⟨hcz63_0, hfz63_0⟩ := bC BK156; obtain ⟨Ao64, co64, eo64⟩ := Kd.S_slice HO_157000.out; subst eo64; obtain ⟨hcz65_0, hfz65_0⟩ := bC BK145; go_wp2; refine bodyPost_ret (results_ct rfl _ _ gb145 26 #[.slice Ao64 x157000_3.length co64] (0, 0) _ rfl (by refine bR ?_; refine blk_put (cs := #[.slice none 0 0]) ?_ 0 _ rfl; exact bA BK145) Try.underlying26 rfl (by kernel_rfl)) rfl ?_; exact ⟨_, e1, sP (Kd.S_mono (Kd.S_far (p := ⟨gb145, 0, none⟩) (Kd.S_types HO_157000.out BK145.out (by decide)) (fun _ hk => hk.2) (.slice Ao64 x157000_3.length co64)) (fun _ hk => trivial)), kB HB⟩
       · rw [if_neg c30] at H; exact absurd H (by simp)

end Go.Proofs.Ytldkkfpodldbgaa.P
