-- Written by a program of this session (wip/mkprint.py over the kit's print), out of the translation. Not trusted: Lean checks it.
import Derived.Test.YtldkkfpodldbgaaRx0
import Derived.Test.YtldkkfpodldbgaaRx1
import Derived.Test.YtldkkfpodldbgaaRx6
namespace Go.Proofs.Ytldkkfpodldbgaa.P
open Go.RowKit Go.Proofs.YtldkkfpodldbgaaW.PrintWords Go.Proofs.YtldkkfpodldbgaaW.PrintLast Go.Proofs.YtldkkfpodldbgaaW.PrintMore
attribute [local go_sem] max2_int min2_int max_two min_two max_three min_three max_four min_four   -- for this text's walks alone
set_option linter.unusedVariables false
set_option linter.unusedSimpArgs false
set_option maxHeartbeats 8000000
set_option maxRecDepth 100000

/-! ### spec_foForm: function 83 -/
def spec_foForm.f (k : Nat) (l0_0 : List (List Int)) : Option (Bool) := (spec_foSmall.f k l0_0 1000).bind fun t237 => (if t237 = true then ((spec_foTranspose.f k l0_0).bind fun t238 => ((spec_foSame.f k l0_0 t238).bind fun t241 => (some t241))) else (some false))
theorem spec_foForm.mono : ∀ a0 k, LeO (spec_foForm.f k a0) (spec_foForm.f (k + 1) a0) := by
 intro a0 k; unfold spec_foForm.f
 repeat' with_reducible first | exact spec_foSame.mono _ _ _ | exact spec_foSmall.mono _ _ _ | exact spec_foTranspose.mono _ _ | exact LeO.refl _ | exact LeO.none _ | refine LeO.ite ?_ ?_ | refine LeO.bind ?_ (fun _ => ?_)
def spec_foForm.T1 : Bool × List (List Nat × List Nat) := (true, [([], []), ([0], [0]), ([1, 1], [1]), ([2], [2]), ([2], [2]), ([4, 2, 2], [2, 4]), ([3, 5, 5, 2], [2, 3, 5]), ([2, 6], [2, 6]), ([7, 6, 0, 1, 2, 3, 4, 5, 6, 7], [7])])
def spec_foForm.B1 : List Nat := [0, 1, 3, 7, 7, 23, 63, 127, 255]
theorem spec_foForm.tab1 : rtab .any (opsOf Try.f83 1) = spec_foForm.T1 := by kernel_rfl
theorem spec_foForm.bits1 : waitsOk spec_foForm.T1.2 spec_foForm.B1 = true := by kernel_rfl
theorem spec_foForm.calls (k : Nat) (A0_0 : Option Addr) (c0_0 : Nat) (l0_0 : List (List Int)) (r : Bool) (w : World) (hr0_0 : Kd.C (Kd.slice 3 (Kd.int .i64)) w A0_0 l0_0.length l0_0) (hc0_0 : l0_0.length ≤ c0_0) (h : spec_foForm.f k l0_0 = some r) :
 Calls Try.prog 83 #[.agg #[.slice A0_0 l0_0.length c0_0]] w fun e w' => e = .returned (.bool r) ∧ Below w.heap.size w w' := by
 have hu26 := Try.underlying26; have HR0_0 := Aside0.mk hr0_0; have HC0_0 := Aside0.mk hc0_0; clear hr0_0 hc0_0; have HB := Aside0.mk (Below.refl w.heap.size w); have H : ((spec_foSmall.f k l0_0 1000).bind fun t237 => (if t237 = true then ((spec_foTranspose.f k l0_0).bind fun t238 => ((spec_foSame.f k l0_0 t238).bind fun t241 => (some t241))) else (some false))) = some r := h; clear h; replace H := oB H; obtain ⟨t237, A2, H⟩ := H; by_cases c3 : t237 = true
 ·
  subst c3; rw [if_pos rfl] at H; replace H := oB H; obtain ⟨t238, A4, H⟩ := H; replace H := oB H; obtain ⟨t241, A5, H⟩ := H; obtain rfl := Option.some.inj H; go_enter Try.func83, Try.ntmps83
  try go_wp2_with (first | ((with_reducible refine gate_dst (N := 1) rfl ?_); refine box_event ?hg (N := 1) ?hd (cs := #[.slice A0_0 l0_0.length c0_0]) (t := 26) ?hr ?_; (case hd => rfl); (case hg => rfl); (case hr => exact z98_); intro gb236 hg w6 hbox hb; have BK236 := Aside0.mk (hbox); have GW236 := gW HB hg; have GE236 := gW HB hg; replace HB := sT bq hb; clear hb hbox hg))
  have n0_ := Aside0.mk (blk_drew BK236.out); have n1_ := Aside0.mk (below_drew1 HB.out); clear BK236; clear HB; have BK236 := n0_; have HB := n1_; clear n0_ n1_; refine start_ (n := 9) (S := fun w' => w'.cell? ⟨gb236, 0, none⟩ = some (.slice A0_0 l0_0.length c0_0)) (ds := []) #[O,O,O,O,O,O,O,O,O] (by kernel_rfl) rfl rfl ((blk_cell BK236.out 0).trans rfl) (fun hHeld => ?_); refine with_tabW spec_foForm.tab1 spec_foForm.bits1 (fun HT_ HW_ => ?_); generalize w6.drew = w7 at BK236 HB hHeld ⊢; refine take_ (i := 0) (N := some 3) (v := ?_) (a' := ?_) (BM 9 1) rfl rfl (take_ofW HT_.out HW_.out (by kernel_rfl)) (fun _ _ _ h => h) (Or.inl ⟨by rfl, ?_⟩) hHeld ?_ ?_
  rotate_left
  ·
   intro w' s0; go_simp
   with_reducible rfl
  rotate_left
  · simp only [AP]; rfl
  refine oS 1 4 (BM 9 3) (fun K hK => ?_); refine goes_ Try.func57 (by kernel_rfl) rfl #[.agg #[.slice A0_0 l0_0.length c0_0], .int .i64 1000] (by rfl) rfl rfl (by (try simp only [List.map_toArray, List.map_cons, List.map_nil]); first | done | rfl | (simp only [List.length_drop, List.length_take]; rfl)) ?_
  with_reducible refine (spec_foSmall.calls k _ _ l0_0 1000 true _ ?side1 ?side2 A2.out).mono ?_
  (case side1 => exact cC (Kd.C_below HR0_0.out HB.out)); (case side2 => exact HC0_0.out); rintro e w8 ⟨rfl, hb⟩; refine ⟨_, rfl, ?_⟩; have n0_ := kA BK236 hb; have n1_ := sB HB hb; clear BK236; clear HB; have BK236 := n0_; have HB := n1_; clear n0_ n1_; (try clear hb); refine hK.out _ _ ((blk_cell BK236.out 0).trans rfl) (fun hHeld => ?_); clear hK K; refine norm_ (a' := ?_) ?_ ?_
  rotate_left
  ·
   show Act.put _ (some 4) _ = _
   simp only [AP]; rfl
  refine pS 2 5 (BM 9 7) ?_; refine take_ (i := 3) (N := some 6) (v := ?_) (a' := ?_) (BM 9 15) rfl rfl (take_ofW HT_.out HW_.out (by kernel_rfl)) (fun _ _ _ h => h) (Or.inl ⟨by rfl, ?_⟩) hHeld ?_ ?_
  rotate_left
  ·
   intro w' s0; go_simp
   with_reducible rfl
  rotate_left
  · simp only [AP]; rfl
  refine take_ (i := 4) (N := some 7) (v := ?_) (a' := ?_) (BM 9 31) rfl rfl (take_ofW HT_.out HW_.out (by kernel_rfl)) (fun _ _ _ h => h) (Or.inl ⟨by rfl, ?_⟩) hHeld ?_ ?_
  rotate_left
  ·
   intro w' s0; go_simp
   with_reducible rfl
  rotate_left
  · simp only [AP]; rfl
  refine oS 5 8 (BM 9 63) (fun K hK => ?_); refine goes_ Try.func106 (by kernel_rfl) rfl #[.agg #[.slice A0_0 l0_0.length c0_0]] (by rfl) rfl rfl (by (try simp only [List.map_toArray, List.map_cons, List.map_nil]); first | done | rfl | (simp only [List.length_drop, List.length_take]; rfl)) ?_
  with_reducible refine (spec_foTranspose.calls k _ _ l0_0 t238 _ ?side1 ?side2 A4.out).mono ?_
  (case side1 => exact cC (Kd.C_below HR0_0.out HB.out)); (case side2 => exact HC0_0.out); rintro e w9 ⟨v239, rfl, ho0, hb⟩; refine ⟨_, rfl, ?_⟩; have n0_ := Aside0.mk (Kd.S_lower ho0 (below_size (kB HB))); have n1_ := kA BK236 hb; have n2_ := sB HB hb; clear BK236; clear HB; have HO240 := n0_; have BK236 := n1_; have HB := n2_; clear n0_ n1_ n2_; (try clear hb); (try clear ho0); obtain ⟨Ao10, co10, eo10⟩ := Kd.S_slice HO240.out; (first | subst eo10 | (injection eo10 with f1_ f2_ f3_; have f4_ := f1_.symm; have f5_ := f3_.symm; clear f1_ f2_ f3_; subst f4_; subst f5_)); refine hK.out _ _ ((blk_cell BK236.out 0).trans rfl) (fun hHeld => ?_); clear hK K; refine norm_ (a' := ?_) ?_ ?_
  rotate_left
  ·
   show Act.put _ (some 8) _ = _
   simp only [AP]; rfl
  refine oS 6 9 (BM 9 127) (fun K hK => ?_); refine goes_ Try.func105 (by kernel_rfl) rfl #[.agg #[.slice A0_0 l0_0.length c0_0], .agg #[.slice Ao10 t238.length co10]] (by rfl) rfl rfl (by (try simp only [List.map_toArray, List.map_cons, List.map_nil]); first | done | rfl | (simp only [List.length_drop, List.length_take]; rfl)) ?_
  with_reducible refine (spec_foSame.calls k _ _ l0_0 _ _ t238 t241 _ ?side1 ?side2 ?side3 ?side4 A5.out).mono ?_
  (case side1 => exact cC (Kd.C_below HR0_0.out HB.out)); (case side2 => exact HC0_0.out); (case side3 => exact cC (Kd.S_reads' HO240.out).2.2); (case side4 => exact (Kd.S_reads' HO240.out).2.1); rintro e w11 ⟨rfl, hb⟩; refine ⟨_, rfl, ?_⟩; have n0_ := Aside0.mk (Kd.S_below (sP HO240.out) hb); have n1_ := kA BK236 hb; have n2_ := sB HB hb; clear HO240; clear BK236; clear HB; have HO240 := n0_; have BK236 := n1_; have HB := n2_; clear n0_ n1_ n2_; (try clear hb); refine hK.out _ _ ((blk_cell BK236.out 0).trans rfl) (fun hHeld => ?_); clear hK K; refine norm_ (a' := ?_) ?_ ?_
  rotate_left
  ·
   show Act.put _ (some 9) _ = _
   simp only [AP]; rfl
  refine pS 7 10 (BM 9 255) ?_; refine pS 8 2 (BM 9 511) ?_; refine done_ (done_of HT_.out (by kernel_rfl)) ?_
  try go_wp2
  go_ret; exact ⟨e1, kB HB⟩
 ·
  replace c3 := Bool.eq_false_iff.mpr c3; subst c3; rw [if_neg (show ¬ (false = true) by decide)] at H; obtain rfl := Option.some.inj H; go_enter Try.func83, Try.ntmps83
  try go_wp2_with (first | ((with_reducible refine gate_dst (N := 1) rfl ?_); refine box_event ?hg (N := 1) ?hd (cs := #[.slice A0_0 l0_0.length c0_0]) (t := 26) ?hr ?_; (case hd => rfl); (case hg => rfl); (case hr => exact z98_); intro gb236 hg w12 hbox hb; have BK236 := Aside0.mk (hbox); have GW236 := gW HB hg; have GE236 := gW HB hg; replace HB := sT bq hb; clear hb hbox hg))
  have n0_ := Aside0.mk (blk_drew BK236.out); have n1_ := Aside0.mk (below_drew1 HB.out); clear BK236; clear HB; have BK236 := n0_; have HB := n1_; clear n0_ n1_; refine start_ (n := 9) (S := fun w' => w'.cell? ⟨gb236, 0, none⟩ = some (.slice A0_0 l0_0.length c0_0)) (ds := []) #[O,O,O,O,O,O,O,O,O] (by kernel_rfl) rfl rfl ((blk_cell BK236.out 0).trans rfl) (fun hHeld => ?_); refine with_tabW spec_foForm.tab1 spec_foForm.bits1 (fun HT_ HW_ => ?_); generalize w12.drew = w13 at BK236 HB hHeld ⊢; refine take_ (i := 0) (N := some 3) (v := ?_) (a' := ?_) (BM 9 1) rfl rfl (take_ofW HT_.out HW_.out (by kernel_rfl)) (fun _ _ _ h => h) (Or.inl ⟨by rfl, ?_⟩) hHeld ?_ ?_
  rotate_left
  ·
   intro w' s0; go_simp
   with_reducible rfl
  rotate_left
  · simp only [AP]; rfl
  refine oS 1 4 (BM 9 3) (fun K hK => ?_); refine goes_ Try.func57 (by kernel_rfl) rfl #[.agg #[.slice A0_0 l0_0.length c0_0], .int .i64 1000] (by rfl) rfl rfl (by (try simp only [List.map_toArray, List.map_cons, List.map_nil]); first | done | rfl | (simp only [List.length_drop, List.length_take]; rfl)) ?_
  with_reducible refine (spec_foSmall.calls k _ _ l0_0 1000 false _ ?side1 ?side2 A2.out).mono ?_
  (case side1 => exact cC (Kd.C_below HR0_0.out HB.out)); (case side2 => exact HC0_0.out); rintro e w14 ⟨rfl, hb⟩; refine ⟨_, rfl, ?_⟩; have n0_ := kA BK236 hb; have n1_ := sB HB hb; clear BK236; clear HB; have BK236 := n0_; have HB := n1_; clear n0_ n1_; (try clear hb); refine hK.out _ _ ((blk_cell BK236.out 0).trans rfl) (fun hHeld => ?_); clear hK K; refine norm_ (a' := ?_) ?_ ?_
  rotate_left
  ·
   show Act.put _ (some 4) _ = _
   simp only [AP]; rfl
  refine pS 2 5 (BM 9 7) ?_; refine pU 3 6 (BM 9 15) ?_; refine pU 4 7 (BM 9 31) ?_; refine pU 5 8 (BM 9 63) ?_; refine pU 6 9 (BM 9 127) ?_; refine pS 7 10 (BM 9 255) ?_; refine pS 8 2 (BM 9 511) ?_; refine done_ (done_of HT_.out (by kernel_rfl)) ?_
  try go_wp2
  go_ret; exact ⟨e1, kB HB⟩

/-! ### spec_foVector: function 84 -/
def spec_foVector.f (k : Nat) (l0_0 : List (List Int)) (l1 : List Int) : Option (Bool) := (spec_foGood.f k l0_0).bind fun t243 => (if t243 = true then (if (l1.length : Int) = (l0_0.length : Int) then ((spec_l1All.f k l1 (-1000000) 1000000).bind fun t244 => (some t244)) else (some false)) else (some false))
theorem spec_foVector.mono : ∀ a0 a1 k, LeO (spec_foVector.f k a0 a1) (spec_foVector.f (k + 1) a0 a1) := by
 intro a0 a1 k; unfold spec_foVector.f
 repeat' with_reducible first | exact spec_foGood.mono _ _ | exact spec_l1All.mono _ _ _ _ | exact LeO.refl _ | exact LeO.none _ | refine LeO.ite ?_ ?_ | refine LeO.bind ?_ (fun _ => ?_)
theorem spec_foVector.calls (k : Nat) (A0_0 : Option Addr) (c0_0 : Nat) (l0_0 : List (List Int)) (A1 : Option Addr) (c1 : Nat) (l1 : List Int) (r : Bool) (w : World) (hr0_0 : Kd.C (Kd.slice 3 (Kd.int .i64)) w A0_0 l0_0.length l0_0) (hc0_0 : l0_0.length ≤ c0_0) (hr1 : Kd.C (Kd.int .i64) w A1 l1.length l1) (hc1 : l1.length ≤ c1) (h : spec_foVector.f k l0_0 l1 = some r) :
 Calls Try.prog 84 #[.agg #[.slice A0_0 l0_0.length c0_0], .slice A1 l1.length c1] w fun e w' => e = .returned (.bool r) ∧ Below w.heap.size w w' := by
 have hu26 := Try.underlying26; have HR0_0 := Aside0.mk hr0_0; have HC0_0 := Aside0.mk hc0_0; clear hr0_0 hc0_0; have HR1 := Aside0.mk hr1; have HC1 := Aside0.mk hc1; clear hr1 hc1; have HB := Aside0.mk (Below.refl w.heap.size w); have H : ((spec_foGood.f k l0_0).bind fun t243 => (if t243 = true then (if (l1.length : Int) = (l0_0.length : Int) then ((spec_l1All.f k l1 (-1000000) 1000000).bind fun t244 => (some t244)) else (some false)) else (some false))) = some r := h; clear h; replace H := oB H; obtain ⟨t243, A3, H⟩ := H; by_cases c4 : t243 = true
 ·
  subst c4; rw [if_pos rfl] at H; by_cases c5 : (l1.length : Int) = (l0_0.length : Int)
  ·
   rw [if_pos c5] at H; have c5b0 : ((l1.length : Int) == (l0_0.length : Int)) = true := beq_iff_eq.mpr c5; have c5b1 : ((l1.length : Int) != (l0_0.length : Int)) = false := bne_eq_false_iff_eq.mpr c5; have c5b2 : (l1.length == l0_0.length) = true := by first | simpa using c5 | (simp at c5 ⊢; omega)
   clear c5; replace H := oB H; obtain ⟨t244, A6, H⟩ := H; obtain rfl := Option.some.inj H; go_enter Try.func84, Try.ntmps84; go_wp2_with (first | ((with_reducible refine gate_dst (N := 2) rfl ?_); (try (refine gate_guard (by rfl) ?_; dsimp only)); refine box_event ?hg (N := 2) ?hd (cs := #[.slice A0_0 l0_0.length c0_0]) (t := 26) ?hr ?_; (case hd => rfl); (case hg => rfl); (case hr => exact z98_); intro gb242 hg w7 hbox hb; have BK242 := Aside0.mk (hbox); have GW242 := gW HB hg; have GE242 := gW HB hg; replace HB := sT bq hb; clear hb hbox hg; obtain ⟨hcz8_0, hfz8_0⟩ := bC BK242) | ((with_reducible refine gate_callee (f := 78) rfl ?_); refine gL (some 6) rfl rfl Try.func78 (by kernel_rfl) rfl #[.agg #[.slice A0_0 l0_0.length c0_0]] rfl ?_; (with_reducible refine (spec_foGood.calls k _ _ l0_0 true _ ?side1 ?side2 A3.out).mono ?_); (case side1 => exact cC (Kd.C_below HR0_0.out HB.out)); (case side2 => exact HC0_0.out); rintro e w9 ⟨rfl, hb⟩; refine ⟨_, rfl, ?_⟩; replace BK242 := kA BK242 hb; replace HB := sB HB hb; (try clear hb); obtain ⟨hcz10_0, hfz10_0⟩ := bC BK242) | (go_at_call 74; (with_reducible refine (spec_l1All.calls k _ _ l1 (-1000000) 1000000 t244 _ ?side1 ?side2 A6.out).mono ?_); (case side1 => exact cC (Kd.C_below HR1.out HB.out)); (case side2 => exact HC1.out); rintro e w' ⟨rfl, ⟨nd, rfl⟩⟩)); go_ret; exact ⟨e1, kB HB⟩
  ·
   rw [if_neg c5] at H; have c5b0 : ((l1.length : Int) == (l0_0.length : Int)) = false := beq_eq_false_iff_ne.mpr c5; have c5b1 : ((l1.length : Int) != (l0_0.length : Int)) = true := bne_iff_ne.mpr c5; have c5b2 : (l1.length == l0_0.length) = false := by first | simpa using c5 | (simp at c5 ⊢; omega)
   obtain rfl := Option.some.inj H; go_enter Try.func84, Try.ntmps84; go_wp2_with (first | ((with_reducible refine gate_dst (N := 2) rfl ?_); (try (refine gate_guard (by rfl) ?_; dsimp only)); refine box_event ?hg (N := 2) ?hd (cs := #[.slice A0_0 l0_0.length c0_0]) (t := 26) ?hr ?_; (case hd => rfl); (case hg => rfl); (case hr => exact z98_); intro gb242 hg w11 hbox hb; have BK242 := Aside0.mk (hbox); have GW242 := gW HB hg; have GE242 := gW HB hg; replace HB := sT bq hb; clear hb hbox hg; obtain ⟨hcz12_0, hfz12_0⟩ := bC BK242) | ((with_reducible refine gate_callee (f := 78) rfl ?_); refine gL (some 6) rfl rfl Try.func78 (by kernel_rfl) rfl #[.agg #[.slice A0_0 l0_0.length c0_0]] rfl ?_; (with_reducible refine (spec_foGood.calls k _ _ l0_0 true _ ?side1 ?side2 A3.out).mono ?_); (case side1 => exact cC (Kd.C_below HR0_0.out HB.out)); (case side2 => exact HC0_0.out); rintro e w13 ⟨rfl, hb⟩; refine ⟨_, rfl, ?_⟩; replace BK242 := kA BK242 hb; replace HB := sB HB hb; (try clear hb); obtain ⟨hcz14_0, hfz14_0⟩ := bC BK242)); go_ret; exact ⟨e1, kB HB⟩
 · replace c4 := Bool.eq_false_iff.mpr c4; subst c4; rw [if_neg (show ¬ (false = true) by decide)] at H; obtain rfl := Option.some.inj H; go_enter Try.func84, Try.ntmps84; go_wp2_with (first | ((with_reducible refine gate_dst (N := 2) rfl ?_); (try (refine gate_guard (by rfl) ?_; dsimp only)); refine box_event ?hg (N := 2) ?hd (cs := #[.slice A0_0 l0_0.length c0_0]) (t := 26) ?hr ?_; (case hd => rfl); (case hg => rfl); (case hr => exact z98_); intro gb242 hg w15 hbox hb; have BK242 := Aside0.mk (hbox); have GW242 := gW HB hg; have GE242 := gW HB hg; replace HB := sT bq hb; clear hb hbox hg; obtain ⟨hcz16_0, hfz16_0⟩ := bC BK242) | ((with_reducible refine gate_callee (f := 78) rfl ?_); refine gL (some 6) rfl rfl Try.func78 (by kernel_rfl) rfl #[.agg #[.slice A0_0 l0_0.length c0_0]] rfl ?_; (with_reducible refine (spec_foGood.calls k _ _ l0_0 false _ ?side1 ?side2 A3.out).mono ?_); (case side1 => exact cC (Kd.C_below HR0_0.out HB.out)); (case side2 => exact HC0_0.out); rintro e w17 ⟨rfl, hb⟩; refine ⟨_, rfl, ?_⟩; replace BK242 := kA BK242 hb; replace HB := sB HB hb; (try clear hb))); go_ret; exact ⟨e1, kB HB⟩

/-! ### spec_foApply: function 86 -/
mutual
def spec_foApply.l0 : Nat → List Int → List Int → List (List Int) → Int → Int → Option (List Int)
 | 0, _, _, _, _, _ => none
 | k + 1, x1, x5, x12, x13, x14 => if x14 < x13 then (if 0 ≤ x14 then (if x14 < (x12.length : Int) then (spec_foApply.l1 k x1 x5 0 x12 x13 x14 (rd_L1 x12 x14) ((rd_L1 x12 x14).length : Int) 0) else (none)) else (none)) else (some x5)
def spec_foApply.l1 : Nat → List Int → List Int → Int → List (List Int) → Int → Int → List Int → Int → Int → Option (List Int)
 | 0, _, _, _, _, _, _, _, _, _ => none
 | k + 1, x1, x5, x8, x12, x13, x14, x18, x19, x20 => if x20 < x19 then (if 0 ≤ x20 then (if x20 < (x18.length : Int) then (if x20 < (x1.length : Int) then (spec_foApply.l1 k x1 x5 (wrap64 (x8 + (wrap64 ((rd x18 x20) * (rd x1 x20))))) x12 x13 x14 x18 x19 (wrap64 (x20 + 1))) else (none)) else (none)) else (none)) else (if x5.length < 17592186044416 then (spec_foApply.l0 k x1 (x5 ++ [x8]) x12 x13 (wrap64 (x14 + 1))) else (none))
end
def spec_foApply.f (k : Nat) (l0_0 : List (List Int)) (l1 : List Int) : Option (List Int) := spec_foApply.l0 k l1 ([] : List Int) l0_0 (l0_0.length : Int) 0
theorem spec_foApply.mono_l : ∀ k, (∀ y0 y1 y2 y3 y4, LeO (spec_foApply.l0 k y0 y1 y2 y3 y4) (spec_foApply.l0 (k + 1) y0 y1 y2 y3 y4)) ∧ (∀ y0 y1 y2 y3 y4 y5 y6 y7 y8, LeO (spec_foApply.l1 k y0 y1 y2 y3 y4 y5 y6 y7 y8) (spec_foApply.l1 (k + 1) y0 y1 y2 y3 y4 y5 y6 y7 y8))
 | 0 => ⟨fun _ _ _ _ _ r h => by simp [spec_foApply.l0] at h, fun _ _ _ _ _ _ _ _ _ r h => by simp [spec_foApply.l1] at h⟩
 | k + 1 => by
  obtain ⟨ih0, ih1⟩ := spec_foApply.mono_l k; refine ⟨?_, ?_⟩
  all_goals
   intros
   first | unfold spec_foApply.l0 | unfold spec_foApply.l1
   repeat' with_reducible first | exact ih0 _ _ _ _ _ | exact ih1 _ _ _ _ _ _ _ _ _ | exact LeO.refl _ | exact LeO.none _ | refine LeO.ite ?_ ?_ | refine LeO.bind ?_ (fun _ => ?_)
theorem spec_foApply.mono : ∀ a0 a1 k, LeO (spec_foApply.f k a0 a1) (spec_foApply.f (k + 1) a0 a1) := by
 intro a0 a1 k; obtain ⟨ih0, ih1⟩ := spec_foApply.mono_l k; unfold spec_foApply.f
 repeat' with_reducible first | exact ih0 _ _ _ _ _ | exact ih1 _ _ _ _ _ _ _ _ _ | exact LeO.refl _ | exact LeO.none _ | refine LeO.ite ?_ ?_ | refine LeO.bind ?_ (fun _ => ?_)
theorem spec_foApply.calls (k : Nat) (A0_0 : Option Addr) (c0_0 : Nat) (l0_0 : List (List Int)) (A1 : Option Addr) (c1 : Nat) (l1 : List Int) (r : List Int) (w : World) (hr0_0 : Kd.C (Kd.slice 3 (Kd.int .i64)) w A0_0 l0_0.length l0_0) (hc0_0 : l0_0.length ≤ c0_0) (hr1 : Kd.C (Kd.int .i64) w A1 l1.length l1) (hc1 : l1.length ≤ c1) (h : spec_foApply.f k l0_0 l1 = some r) :
 Calls Try.prog 86 #[.agg #[.slice A0_0 l0_0.length c0_0], .slice A1 l1.length c1] w fun e w' => ∃ v0_ : Value, e = .returned (v0_) ∧ Kd.R (Kd.int .i64) 3 w' w.heap.size (fun _ => True) v0_ r ∧ Below w.heap.size w w' := by
 have hu26 := Try.underlying26; have HR0_0 := Aside0.mk hr0_0; have HC0_0 := Aside0.mk hc0_0; clear hr0_0 hc0_0; have HR1 := Aside0.mk hr1; have HC1 := Aside0.mk hc1; clear hr1 hc1; have HB := Aside0.mk (Below.refl w.heap.size w); have H : (spec_foApply.l0 k l1 ([] : List Int) l0_0 (l0_0.length : Int) 0) = some r := h; clear h; have H' := Aside0.mk H; clear H; go_enter Try.func86, Try.ntmps86; go_wp2_with (first | ((with_reducible refine gate_dst (N := 2) rfl ?_); refine box_event ?hg (N := 2) ?hd (cs := #[.slice A0_0 l0_0.length c0_0]) (t := 26) ?hr ?_; (case hd => rfl); (case hg => rfl); (case hr => exact z98_); intro gb245 hg w3 hbox hb; have BK245 := Aside0.mk (hbox); have GW245 := gW HB hg; have GE245 := gW HB hg; replace HB := sT bq hb; clear hb hbox hg; obtain ⟨hcz4_0, hfz4_0⟩ := bC BK245)); go_loopg [5, 14] k (fun kq v5 v14 w' => ∃ (x5_1 : List Int) (x14_1 : Int), v14 = .int .i64 x14_1 ∧ Aside0 (spec_foApply.l0 kq l1 x5_1 l0_0 (l0_0.length : Int) x14_1 = some r) ∧ Aside0 (kq ≤ k) ∧ Aside0 (Kd.R (Kd.int .i64) 3 w' w.heap.size (fun _ => True) v5 x5_1) ∧ Aside0 (w'.heap[gb245]? = some (.cells #[(.slice A0_0 l0_0.length c0_0)] 26 (0, 0))) ∧ Aside0 (Below w.heap.size w w'))
 case atStart => exact ⟨(([] : List Int)), (0), e2, H', ⟨Nat.le_refl _⟩, ⟨z66_⟩, ⟨by exact bA BK245⟩, ⟨kB HB⟩⟩
 case round =>
  clear H'; (try clear hcz4_0); (try clear hfz4_0); obtain ⟨x5_1, x14_1, rfl, HA, HK1, HO_5, BK245, HB⟩ := hrel; cases gk with
  | zero => exact absurd HA.out (by simp [spec_foApply.l0])
  | succ k1 =>
   have H := HA.out; clear HA; simp only [spec_foApply.l0] at H; by_cases c5 : x14_1 < (l0_0.length : Int)
   ·
    rw [if_pos c5] at H; have c5b0 := decide_eq_true c5; clear c5; by_cases c6 : 0 ≤ x14_1
    ·
     rw [if_pos c6] at H; have c6b0 := decide_eq_true c6; clear c6; by_cases c7 : x14_1 < (l0_0.length : Int)
     ·
      rw [if_pos c7] at H; have c7b0 := decide_eq_true c7; clear c7; have H' := Aside0.mk H; clear H; have p246 : 0 ≤ (x14_1 : Int) := od; have q246 : x14_1 < (l0_0.length : Int) := od; obtain ⟨ad246, A246_0, c246_0, e246, hx246_0, hl246_0, hi246_0⟩ := at_L1 HR0_0.out x14_1 p246 q246; cases e246; replace hx246_0 := (HB.out.cell (World.block_lt_of_cell? w _ hx246_0)).trans hx246_0; have HR246_0 := Aside0.mk hi246_0; have HC246_0 := Aside0.mk hl246_0; clear hi246_0 hl246_0; replace p246 := eq_true p246; replace q246 := eq_true q246; go_wp2; go_loopg [8, 20] k1 (fun kq v8 v20 w' => ∃ (x8_2 : Int) (x20_2 : Int), v8 = .int .i64 x8_2 ∧ v20 = .int .i64 x20_2 ∧ Aside0 (spec_foApply.l1 kq l1 x5_1 x8_2 l0_0 (l0_0.length : Int) x14_1 (rd_L1 l0_0 x14_1) ((rd_L1 l0_0 x14_1).length : Int) x20_2 = some r) ∧ Aside0 (kq ≤ k1) ∧ Aside0 (Kd.R (Kd.int .i64) 3 w' w.heap.size (fun _ => True) u5 x5_1) ∧ Aside0 (w'.heap[gb245]? = some (.cells #[(.slice (some ad246) l0_0.length c0_0)] 26 (0, 0))) ∧ Aside0 (Below w.heap.size w w'))
      case atStart => exact ⟨(0), (0), e2, e2, H', ⟨Nat.le_refl _⟩, ⟨z97_⟩, ⟨by exact bA BK245⟩, ⟨kB HB⟩⟩
      case round =>
       clear H'; (try clear c5); (try clear c5b0); (try clear c6); (try clear c6b0); (try clear c7); (try clear c7b0); (try clear hcz4_0); (try clear hfz4_0); (try clear hx246_0); (try clear p246); (try clear q246); obtain ⟨x8_2, x20_2, rfl, rfl, HA, HK2, HO_5, BK245, HB⟩ := hrel; cases gk with
       | zero => exact absurd HA.out (by simp [spec_foApply.l1])
       | succ k2 =>
        have H := HA.out; clear HA; simp only [spec_foApply.l1] at H; by_cases c8 : x20_2 < ((rd_L1 l0_0 x14_1).length : Int)
        ·
         rw [if_pos c8] at H; have c8b0 := decide_eq_true c8; clear c8; by_cases c9 : 0 ≤ x20_2
         ·
          rw [if_pos c9] at H; have c9b0 := decide_eq_true c9; clear c9; by_cases c10 : x20_2 < ((rd_L1 l0_0 x14_1).length : Int)
          ·
           rw [if_pos c10] at H; have c10b0 := decide_eq_true c10; clear c10; by_cases c11 : x20_2 < (l1.length : Int)
           ·
            rw [if_pos c11] at H; have c11b0 := decide_eq_true c11; clear c11; have H' := Aside0.mk H; clear H; have p247 : 0 ≤ (x20_2 : Int) := od; have q247 : x20_2 < ((rd_L1 l0_0 x14_1).length : Int) := od; obtain ⟨ad247, e247, hx247_0⟩ := Kd.at_int HR246_0.out x20_2 p247 q247; cases e247; replace hx247_0 := (HB.out.cell (World.block_lt_of_cell? w _ hx247_0)).trans hx247_0; replace p247 := eq_true p247; replace q247 := eq_true q247; have p248 : 0 ≤ (x20_2 : Int) := od; have q248 : x20_2 < (l1.length : Int) := od; obtain ⟨ad248, e248, hx248_0⟩ := Kd.at_int HR1.out x20_2 p248 q248; cases e248; replace hx248_0 := (HB.out.cell (World.block_lt_of_cell? w _ hx248_0)).trans hx248_0; replace p248 := eq_true p248; replace q248 := eq_true q248; go_wp2; go_roundg k2
            case measure => have := HK1.out; have := HK2.out; omega
            case rel => exact ⟨(wrap64 (x8_2 + (wrap64 ((rd (rd_L1 l0_0 x14_1) x20_2) * (rd l1 x20_2))))), (wrap64 (x20_2 + 1)), e2, e2, H', ⟨by have := HK1.out; have := HK2.out; omega⟩, ⟨z97_⟩, ⟨by exact bA BK245⟩, ⟨kB HB⟩⟩
           · rw [if_neg c11] at H; exact absurd H (by simp)
          · rw [if_neg c10] at H; exact absurd H (by simp)
         · rw [if_neg c9] at H; exact absurd H (by simp)
        ·
         rw [if_neg c8] at H; have c8b0 := decide_eq_false c8; clear c8; by_cases c12 : x5_1.length < 17592186044416
         ·
          rw [if_pos c12] at H; have LMc12 := Aside0.mk c12; clear c12; obtain ⟨y249, hy249⟩ : ∃ y_ : List Int, y_ = (x5_1 ++ [x8_2]) := ⟨_, rfl⟩; replace H : (spec_foApply.l0 k2 l1 y249 l0_0 (l0_0.length : Int) (wrap64 (x14_1 + 1))) = some r := rH hy249 H
          have Ny249 := Aside0.mk hy249; clear hy249; have H' := Aside0.mk H; clear H; go_wp2_with (first | ((with_reducible refine gate_builtin (b := .append) (xs := #[.tmp 34, .tmp 36]) rfl ?_); at_builtin; refine Kd.R_append (Kd.int .i64) (w0 := w) w.heap.size rfl (.tmp 34) (.tmp 36) 34 3 (.int .i64 0) 8 rfl Try.underlying34 info3 rfl (by decide) (by omega) u5 x5_1 x8_2 [.int .i64 x8_2] (fun _ => True) (fun _ => False) rfl rfl ?aP (fun _ hk => hk.elim) ?aF ?aO ?aB ?aS ?aL ?_; (case aP => exact rfl); (case aB => exact (kB HB)); (case aF => exact (fun _ _ => trivial)); (case aO => exact (rA HO_5)); (case aS => exact (below_size (kB HB))); (case aL => have := LMc12.out; omega); intro v250 w13 ho hb hg hat; rw [← Ny249.out] at ho; replace BK245 := Aside0.mk (blk_grown (g := gb245) (o := .cells #[.slice (some ad246) l0_0.length c0_0] 26 (0, 0)) (bA BK245) hg (Kd.R_ne HO_5.out BK245.out (by decide))); replace HB := Aside0.mk (hb); have HO251 := Aside0.mk (ho); clear HO_5; clear ho hb hg hat)); go_roundg k2
          case measure => have := HK1.out; have := HK2.out; omega
          case rel => exact ⟨(y249), (wrap64 (x14_1 + 1)), e2, H', ⟨by have := HK1.out; have := HK2.out; omega⟩, ⟨rP HO251.out⟩, ⟨by exact bA BK245⟩, ⟨kB HB⟩⟩
         · rw [if_neg c12] at H; exact absurd H (by simp)
     · rw [if_neg c7] at H; exact absurd H (by simp)
    · rw [if_neg c6] at H; exact absurd H (by simp)
   · rw [if_neg c5] at H; have c5b0 := decide_eq_false c5; clear c5; obtain rfl := Option.some.inj H; go_wp2; go_ret; exact ⟨_, e1, z97_, kB HB⟩

/-! ### spec_foProduct: function 85 -/
def spec_foProduct.l0 : Nat → List Int → Int → List Int → Int → Int → Option (Int)
 | 0, _, _, _, _, _ => none
 | k + 1, x1, x7, x12, x13, x14 => if x14 < x13 then (if 0 ≤ x14 then (if x14 < (x12.length : Int) then (if x14 < (x1.length : Int) then (spec_foProduct.l0 k x1 (wrap64 (x7 + (wrap64 ((rd x1 x14) * (rd x12 x14))))) x12 x13 (wrap64 (x14 + 1))) else (none)) else (none)) else (none)) else (some x7)
def spec_foProduct.f (k : Nat) (l0_0 : List (List Int)) (l1 : List Int) (l2 : List Int) : Option (Int) := (spec_foApply.f k l0_0 l2).bind fun t253 => (spec_foProduct.l0 k l1 0 t253 (t253.length : Int) 0)
theorem spec_foProduct.mono_l : ∀ k, (∀ y0 y1 y2 y3 y4, LeO (spec_foProduct.l0 k y0 y1 y2 y3 y4) (spec_foProduct.l0 (k + 1) y0 y1 y2 y3 y4))
 | 0 => fun _ _ _ _ _ r h => by simp [spec_foProduct.l0] at h
 | k + 1 => by
  have ih0 := spec_foProduct.mono_l k
  ·
   intro y0 y1 y2 y3 y4; unfold spec_foProduct.l0
   repeat' with_reducible first | exact ih0 _ _ _ _ _ | exact spec_foApply.mono _ _ _ | exact LeO.refl _ | exact LeO.none _ | refine LeO.ite ?_ ?_ | refine LeO.bind ?_ (fun _ => ?_)
theorem spec_foProduct.mono : ∀ a0 a1 a2 k, LeO (spec_foProduct.f k a0 a1 a2) (spec_foProduct.f (k + 1) a0 a1 a2) := by
 intro a0 a1 a2 k; have ih0 := spec_foProduct.mono_l k; unfold spec_foProduct.f
 repeat' with_reducible first | exact ih0 _ _ _ _ _ | exact spec_foApply.mono _ _ _ | exact LeO.refl _ | exact LeO.none _ | refine LeO.ite ?_ ?_ | refine LeO.bind ?_ (fun _ => ?_)
theorem spec_foProduct.calls (k : Nat) (A0_0 : Option Addr) (c0_0 : Nat) (l0_0 : List (List Int)) (A1 : Option Addr) (c1 : Nat) (l1 : List Int) (A2 : Option Addr) (c2 : Nat) (l2 : List Int) (r : Int) (w : World) (hr0_0 : Kd.C (Kd.slice 3 (Kd.int .i64)) w A0_0 l0_0.length l0_0) (hc0_0 : l0_0.length ≤ c0_0) (hr1 : Kd.C (Kd.int .i64) w A1 l1.length l1) (hc1 : l1.length ≤ c1) (hr2 : Kd.C (Kd.int .i64) w A2 l2.length l2) (hc2 : l2.length ≤ c2) (h : spec_foProduct.f k l0_0 l1 l2 = some r) :
 Calls Try.prog 85 #[.agg #[.slice A0_0 l0_0.length c0_0], .slice A1 l1.length c1, .slice A2 l2.length c2] w fun e w' => e = .returned (.int .i64 r) ∧ Below w.heap.size w w' := by
 have hu26 := Try.underlying26; have HR0_0 := Aside0.mk hr0_0; have HC0_0 := Aside0.mk hc0_0; clear hr0_0 hc0_0; have HR1 := Aside0.mk hr1; have HC1 := Aside0.mk hc1; clear hr1 hc1; have HR2 := Aside0.mk hr2; have HC2 := Aside0.mk hc2; clear hr2 hc2; have HB := Aside0.mk (Below.refl w.heap.size w); have H : ((spec_foApply.f k l0_0 l2).bind fun t253 => (spec_foProduct.l0 k l1 0 t253 (t253.length : Int) 0)) = some r := h; clear h; replace H := oB H; obtain ⟨t253, A4, H⟩ := H; have H' := Aside0.mk H; clear H; go_enter Try.func85, Try.ntmps85; go_wp2_with (first | ((with_reducible refine gate_dst (N := 3) rfl ?_); refine box_event ?hg (N := 3) ?hd (cs := #[.slice A0_0 l0_0.length c0_0]) (t := 26) ?hr ?_; (case hd => rfl); (case hg => rfl); (case hr => exact z98_); intro gb252 hg w5 hbox hb; have BK252 := Aside0.mk (hbox); have GW252 := gW HB hg; have GE252 := gW HB hg; replace HB := sT bq hb; clear hb hbox hg; obtain ⟨hcz6_0, hfz6_0⟩ := bC BK252) | ((with_reducible refine gate_callee (f := 86) rfl ?_); refine gL (some 12) rfl rfl Try.func86 (by kernel_rfl) rfl #[.agg #[.slice A0_0 l0_0.length c0_0], .slice A2 l2.length c2] rfl ?_; (with_reducible refine (spec_foApply.calls k _ _ l0_0 _ _ l2 t253 _ ?side1 ?side2 ?side3 ?side4 A4.out).mono ?_); (case side1 => exact cC (Kd.C_below HR0_0.out HB.out)); (case side2 => exact HC0_0.out); (case side3 => exact cC (Kd.C_below HR2.out HB.out)); (case side4 => exact HC2.out); rintro e w7 ⟨v254, rfl, ho0, hb⟩; refine ⟨_, rfl, ?_⟩; have HO255 := Aside0.mk (Kd.R_lower ho0 (below_size (kB HB))); replace BK252 := kA BK252 hb; replace HB := sB HB hb; (try clear hb); (try clear ho0); obtain ⟨Ao8, co8, eo8⟩ := Kd.R_slice HO255.out; subst eo8)); go_loopg [7, 14] k (fun kq v7 v14 w' => ∃ (x7_1 : Int) (x14_1 : Int), v7 = .int .i64 x7_1 ∧ v14 = .int .i64 x14_1 ∧ Aside0 (spec_foProduct.l0 kq l1 x7_1 t253 (t253.length : Int) x14_1 = some r) ∧ Aside0 (kq ≤ k) ∧ Aside0 (Kd.R (Kd.int .i64) 3 w' w.heap.size (fun _ => True) (.slice Ao8 t253.length co8) t253) ∧ Aside0 (w'.heap[gb252]? = some (.cells #[(.slice A0_0 l0_0.length c0_0)] 26 (0, 0))) ∧ Aside0 (Below w.heap.size w w'))
 case atStart => exact ⟨(0), (0), e2, e2, H', ⟨Nat.le_refl _⟩, ⟨rP HO255.out⟩, ⟨by exact bA BK252⟩, ⟨kB HB⟩⟩
 case round =>
  clear H'; (try clear hcz6_0); (try clear hfz6_0); obtain ⟨x7_1, x14_1, rfl, rfl, HA, HK1, HO_12, BK252, HB⟩ := hrel; cases gk with
  | zero => exact absurd HA.out (by simp [spec_foProduct.l0])
  | succ k1 =>
   have H := HA.out; clear HA; simp only [spec_foProduct.l0] at H; by_cases c9 : x14_1 < (t253.length : Int)
   ·
    rw [if_pos c9] at H; have c9b0 := decide_eq_true c9; clear c9; by_cases c10 : 0 ≤ x14_1
    ·
     rw [if_pos c10] at H; have c10b0 := decide_eq_true c10; clear c10; by_cases c11 : x14_1 < (t253.length : Int)
     ·
      rw [if_pos c11] at H; have c11b0 := decide_eq_true c11; clear c11; by_cases c12 : x14_1 < (l1.length : Int)
      ·
       rw [if_pos c12] at H; have c12b0 := decide_eq_true c12; clear c12; have H' := Aside0.mk H; clear H; have p256 : 0 ≤ (x14_1 : Int) := od; have q256 : x14_1 < (t253.length : Int) := od; obtain ⟨ad256, e256, hx256_0⟩ := Kd.at_int (Kd.R_reads' HO_12.out).2.2 x14_1 p256 q256; cases e256; replace p256 := eq_true p256; replace q256 := eq_true q256; have p257 : 0 ≤ (x14_1 : Int) := od; have q257 : x14_1 < (l1.length : Int) := od; obtain ⟨ad257, e257, hx257_0⟩ := Kd.at_int HR1.out x14_1 p257 q257; cases e257; replace hx257_0 := (HB.out.cell (World.block_lt_of_cell? w _ hx257_0)).trans hx257_0; replace p257 := eq_true p257; replace q257 := eq_true q257; go_wp2; go_roundg k1
       case measure => have := HK1.out; omega
       case rel => exact ⟨(wrap64 (x7_1 + (wrap64 ((rd l1 x14_1) * (rd t253 x14_1))))), (wrap64 (x14_1 + 1)), e2, e2, H', ⟨by have := HK1.out; omega⟩, ⟨rP HO_12.out⟩, ⟨by exact bA BK252⟩, ⟨kB HB⟩⟩
      · rw [if_neg c12] at H; exact absurd H (by simp)
     · rw [if_neg c11] at H; exact absurd H (by simp)
    · rw [if_neg c10] at H; exact absurd H (by simp)
   · rw [if_neg c9] at H; have c9b0 := decide_eq_false c9; clear c9; obtain rfl := Option.some.inj H; go_wp2; go_ret; exact ⟨e1, kB HB⟩

end Go.Proofs.Ytldkkfpodldbgaa.P
