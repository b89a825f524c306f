-- Written by a program of this session (wip/mkprint.py over the kit's print), out of the translation. Not trusted: Lean checks it.
import Derived.Test.YtldkkfpodldbgaaRx0
import Derived.Test.YtldkkfpodldbgaaRx4
import Derived.Test.YtldkkfpodldbgaaRx9
namespace Go.Proofs.Ytldkkfpodldbgaa.P
open Go.RowKit Go.Proofs.YtldkkfpodldbgaaW.PrintWords Go.Proofs.YtldkkfpodldbgaaW.PrintLast Go.Proofs.YtldkkfpodldbgaaW.PrintMore
attribute [local go_sem] max2_int min2_int max_two min_two max_three min_three max_four min_four   -- for this text's walks alone
set_option linter.unusedVariables false
set_option linter.unusedSimpArgs false
set_option maxHeartbeats 8000000
set_option maxRecDepth 100000

/-! ### impl_isForm: function 102 -/
def impl_isForm.f (l0_0 : List (List Int)) : Option (Bool) := (impl_IsMatrix.f l0_0).bind fun t295 => (if t295 = true then ((impl_Matrix_isSmall.f l0_0 1000).bind fun t296 => (if t296 = true then ((impl_Matrix_transposed.f l0_0).bind fun t297 => ((impl_sameMatrix.f l0_0 t297).bind fun t300 => (some t300))) else (some false))) else (some false))
def impl_isForm.T1 : Bool × List (List Nat × List Nat) := (true, [([], []), ([0], [0]), ([1, 1], [1]), ([2], [2]), ([3, 2, 2], [2, 3]), ([2, 4], [2, 4]), ([5, 4], [5]), ([6], [6]), ([6], [6]), ([8, 6, 6], [6, 8]), ([7, 9, 9, 6], [6, 7, 9]), ([6, 10], [6, 10]), ([11, 10, 0, 1, 2, 3, 4, 5, 6, 7, 8, 9, 10, 11], [11])])
def impl_isForm.B1 : List Nat := [0, 1, 3, 7, 15, 31, 63, 127, 127, 383, 1023, 2047, 4095]
theorem impl_isForm.tab1 : rtab .any (opsOf Try.f102 1) = impl_isForm.T1 := by kernel_rfl
theorem impl_isForm.bits1 : waitsOk impl_isForm.T1.2 impl_isForm.B1 = true := by kernel_rfl
theorem impl_isForm.calls (A0_0 : Option Addr) (c0_0 : Nat) (l0_0 : List (List Int)) (r : Bool) (w : World) (hr0_0 : Kd.C (Kd.slice 3 (Kd.int .i64)) w A0_0 l0_0.length l0_0) (hc0_0 : l0_0.length ≤ c0_0) (h : impl_isForm.f l0_0 = some r) :
 Calls Try.prog 102 #[.agg #[.slice A0_0 l0_0.length c0_0]] w fun e w' => e = .returned (.bool r) ∧ Below w.heap.size w w' := by
 have hu26 := Try.underlying26; have HR0_0 := Aside0.mk hr0_0; have HC0_0 := Aside0.mk hc0_0; clear hr0_0 hc0_0; have HB := Aside0.mk (Below.refl w.heap.size w); have H : ((impl_IsMatrix.f l0_0).bind fun t295 => (if t295 = true then ((impl_Matrix_isSmall.f l0_0 1000).bind fun t296 => (if t296 = true then ((impl_Matrix_transposed.f l0_0).bind fun t297 => ((impl_sameMatrix.f l0_0 t297).bind fun t300 => (some t300))) else (some false))) else (some false))) = some r := h; clear h; replace H := oB H; obtain ⟨t295, A2, H⟩ := H; by_cases c3 : t295 = true
 ·
  subst c3; rw [if_pos rfl] at H; replace H := oB H; obtain ⟨t296, A4, H⟩ := H; by_cases c5 : t296 = true
  ·
   subst c5; rw [if_pos rfl] at H; replace H := oB H; obtain ⟨t297, A6, H⟩ := H; replace H := oB H; obtain ⟨t300, A7, H⟩ := H; obtain rfl := Option.some.inj H; go_enter Try.func102, Try.ntmps102
   try go_wp2_with (first | ((with_reducible refine gate_dst (N := 1) rfl ?_); refine box_event ?hg (N := 1) ?hd (cs := #[.slice A0_0 l0_0.length c0_0]) (t := 26) ?hr ?_; (case hd => rfl); (case hg => rfl); (case hr => exact z98_); intro gb294 hg w8 hbox hb; have BK294 := Aside0.mk (hbox); have GW294 := gW HB hg; have GE294 := gW HB hg; replace HB := sT bq hb; clear hb hbox hg))
   have n0_ := Aside0.mk (blk_drew BK294.out); have n1_ := Aside0.mk (below_drew1 HB.out); clear BK294; clear HB; have BK294 := n0_; have HB := n1_; clear n0_ n1_; refine start_ (n := 13) (S := fun w' => w'.cell? ⟨gb294, 0, none⟩ = some (.slice A0_0 l0_0.length c0_0)) (ds := []) #[O,O,O,O,O,O,O,O,O,O,O,O,O] (by kernel_rfl) rfl rfl ((blk_cell BK294.out 0).trans rfl) (fun hHeld => ?_); refine with_tabW impl_isForm.tab1 impl_isForm.bits1 (fun HT_ HW_ => ?_); generalize w8.drew = w9 at BK294 HB hHeld ⊢; refine take_ (i := 0) (N := some 3) (v := ?_) (a' := ?_) (BM 13 1) rfl rfl (take_ofW HT_.out HW_.out (by kernel_rfl)) (fun _ _ _ h => h) (Or.inl ⟨by rfl, ?_⟩) hHeld ?_ ?_
   rotate_left
   ·
    intro w' s0; go_simp
    with_reducible rfl
   rotate_left
   · simp only [AP]; rfl
   refine oS 1 4 (BM 13 3) (fun K hK => ?_); refine goes_ Try.func33 (by kernel_rfl) rfl #[.agg #[.slice A0_0 l0_0.length c0_0]] (by rfl) rfl rfl (by (try simp only [List.map_toArray, List.map_cons, List.map_nil]); first | done | rfl | (simp only [List.length_drop, List.length_take]; rfl)) ?_
   with_reducible refine (impl_IsMatrix.calls _ _ l0_0 true _ ?side1 ?side2 A2.out).mono ?_
   (case side1 => exact cC (Kd.C_below HR0_0.out HB.out)); (case side2 => exact HC0_0.out); rintro e w10 ⟨rfl, hb⟩; refine ⟨_, rfl, ?_⟩; have n0_ := kA BK294 hb; have n1_ := sB HB hb; clear BK294; clear HB; have BK294 := n0_; have HB := n1_; clear n0_ n1_; (try clear hb); refine hK.out _ _ ((blk_cell BK294.out 0).trans rfl) (fun hHeld => ?_); clear hK K; refine norm_ (a' := ?_) ?_ ?_
   rotate_left
   ·
    show Act.put _ (some 4) _ = _
    simp only [AP]; rfl
   refine pS 2 5 (BM 13 7) ?_; refine take_ (i := 3) (N := some 6) (v := ?_) (a' := ?_) (BM 13 15) rfl rfl (take_ofW HT_.out HW_.out (by kernel_rfl)) (fun _ _ _ h => h) (Or.inl ⟨by rfl, ?_⟩) hHeld ?_ ?_
   rotate_left
   ·
    intro w' s0; go_simp
    with_reducible rfl
   rotate_left
   · simp only [AP]; rfl
   refine oS 4 7 (BM 13 31) (fun K hK => ?_); refine goes_ Try.func63 (by kernel_rfl) rfl #[.agg #[.slice A0_0 l0_0.length c0_0], .int .i64 1000] (by rfl) rfl rfl (by (try simp only [List.map_toArray, List.map_cons, List.map_nil]); first | done | rfl | (simp only [List.length_drop, List.length_take]; rfl)) ?_
   with_reducible refine (impl_Matrix_isSmall.calls _ _ l0_0 1000 true _ ?side1 ?side2 A4.out).mono ?_
   (case side1 => exact cC (Kd.C_below HR0_0.out HB.out)); (case side2 => exact HC0_0.out); rintro e w11 ⟨rfl, hb⟩; refine ⟨_, rfl, ?_⟩; have n0_ := kA BK294 hb; have n1_ := sB HB hb; clear BK294; clear HB; have BK294 := n0_; have HB := n1_; clear n0_ n1_; (try clear hb); refine hK.out _ _ ((blk_cell BK294.out 0).trans rfl) (fun hHeld => ?_); clear hK K; refine norm_ (a' := ?_) ?_ ?_
   rotate_left
   ·
    show Act.put _ (some 7) _ = _
    simp only [AP]; rfl
   refine pS 5 8 (BM 13 63) ?_; refine pS 6 9 (BM 13 127) ?_; refine take_ (i := 7) (N := some 10) (v := ?_) (a' := ?_) (BM 13 255) rfl rfl (take_ofW HT_.out HW_.out (by kernel_rfl)) (fun _ _ _ h => h) (Or.inl ⟨by rfl, ?_⟩) hHeld ?_ ?_
   rotate_left
   ·
    intro w' s0; go_simp
    with_reducible rfl
   rotate_left
   · simp only [AP]; rfl
   refine take_ (i := 8) (N := some 11) (v := ?_) (a' := ?_) (BM 13 511) rfl rfl (take_ofW HT_.out HW_.out (by kernel_rfl)) (fun _ _ _ h => h) (Or.inl ⟨by rfl, ?_⟩) hHeld ?_ ?_
   rotate_left
   ·
    intro w' s0; go_simp
    with_reducible rfl
   rotate_left
   · simp only [AP]; rfl
   refine oS 9 12 (BM 13 1023) (fun K hK => ?_); refine goes_ Try.func94 (by kernel_rfl) rfl #[.agg #[.slice A0_0 l0_0.length c0_0]] (by rfl) rfl rfl (by (try simp only [List.map_toArray, List.map_cons, List.map_nil]); first | done | rfl | (simp only [List.length_drop, List.length_take]; rfl)) ?_
   with_reducible refine (impl_Matrix_transposed.calls _ _ l0_0 t297 _ ?side1 ?side2 A6.out).mono ?_
   (case side1 => exact cC (Kd.C_below HR0_0.out HB.out)); (case side2 => exact HC0_0.out); rintro e w12 ⟨v298, rfl, ho0, hb⟩; refine ⟨_, rfl, ?_⟩; have n0_ := Aside0.mk (Kd.S_lower ho0 (below_size (kB HB))); have n1_ := kA BK294 hb; have n2_ := sB HB hb; clear BK294; clear HB; have HO299 := n0_; have BK294 := n1_; have HB := n2_; clear n0_ n1_ n2_; (try clear hb); (try clear ho0); obtain ⟨Ao13, co13, eo13⟩ := Kd.S_slice HO299.out; (first | subst eo13 | (injection eo13 with f1_ f2_ f3_; have f4_ := f1_.symm; have f5_ := f3_.symm; clear f1_ f2_ f3_; subst f4_; subst f5_)); refine hK.out _ _ ((blk_cell BK294.out 0).trans rfl) (fun hHeld => ?_); clear hK K; refine norm_ (a' := ?_) ?_ ?_
   rotate_left
   ·
    show Act.put _ (some 12) _ = _
    simp only [AP]; rfl
   refine oS 10 13 (BM 13 2047) (fun K hK => ?_); refine goes_ Try.func104 (by kernel_rfl) rfl #[.agg #[.slice A0_0 l0_0.length c0_0], .agg #[.slice Ao13 t297.length co13]] (by rfl) rfl rfl (by (try simp only [List.map_toArray, List.map_cons, List.map_nil]); first | done | rfl | (simp only [List.length_drop, List.length_take]; rfl)) ?_
   with_reducible refine (impl_sameMatrix.calls _ _ l0_0 _ _ t297 t300 _ ?side1 ?side2 ?side3 ?side4 A7.out).mono ?_
   (case side1 => exact cC (Kd.C_below HR0_0.out HB.out)); (case side2 => exact HC0_0.out); (case side3 => exact cC (Kd.S_reads' HO299.out).2.2); (case side4 => exact (Kd.S_reads' HO299.out).2.1); rintro e w14 ⟨rfl, hb⟩; refine ⟨_, rfl, ?_⟩; have n0_ := Aside0.mk (Kd.S_below (sP HO299.out) hb); have n1_ := kA BK294 hb; have n2_ := sB HB hb; clear HO299; clear BK294; clear HB; have HO299 := n0_; have BK294 := n1_; have HB := n2_; clear n0_ n1_ n2_; (try clear hb); refine hK.out _ _ ((blk_cell BK294.out 0).trans rfl) (fun hHeld => ?_); clear hK K; refine norm_ (a' := ?_) ?_ ?_
   rotate_left
   ·
    show Act.put _ (some 13) _ = _
    simp only [AP]; rfl
   refine pS 11 14 (BM 13 4095) ?_; refine pS 12 2 (BM 13 8191) ?_; refine done_ (done_of HT_.out (by kernel_rfl)) ?_
   try go_wp2
   go_ret; exact ⟨e1, kB HB⟩
  ·
   replace c5 := Bool.eq_false_iff.mpr c5; subst c5; rw [if_neg (show ¬ (false = true) by decide)] at H; obtain rfl := Option.some.inj H; go_enter Try.func102, Try.ntmps102
   try go_wp2_with (first | ((with_reducible refine gate_dst (N := 1) rfl ?_); refine box_event ?hg (N := 1) ?hd (cs := #[.slice A0_0 l0_0.length c0_0]) (t := 26) ?hr ?_; (case hd => rfl); (case hg => rfl); (case hr => exact z98_); intro gb294 hg w15 hbox hb; have BK294 := Aside0.mk (hbox); have GW294 := gW HB hg; have GE294 := gW HB hg; replace HB := sT bq hb; clear hb hbox hg))
   have n0_ := Aside0.mk (blk_drew BK294.out); have n1_ := Aside0.mk (below_drew1 HB.out); clear BK294; clear HB; have BK294 := n0_; have HB := n1_; clear n0_ n1_; refine start_ (n := 13) (S := fun w' => w'.cell? ⟨gb294, 0, none⟩ = some (.slice A0_0 l0_0.length c0_0)) (ds := []) #[O,O,O,O,O,O,O,O,O,O,O,O,O] (by kernel_rfl) rfl rfl ((blk_cell BK294.out 0).trans rfl) (fun hHeld => ?_); refine with_tabW impl_isForm.tab1 impl_isForm.bits1 (fun HT_ HW_ => ?_); generalize w15.drew = w16 at BK294 HB hHeld ⊢; refine take_ (i := 0) (N := some 3) (v := ?_) (a' := ?_) (BM 13 1) rfl rfl (take_ofW HT_.out HW_.out (by kernel_rfl)) (fun _ _ _ h => h) (Or.inl ⟨by rfl, ?_⟩) hHeld ?_ ?_
   rotate_left
   ·
    intro w' s0; go_simp
    with_reducible rfl
   rotate_left
   · simp only [AP]; rfl
   refine oS 1 4 (BM 13 3) (fun K hK => ?_); refine goes_ Try.func33 (by kernel_rfl) rfl #[.agg #[.slice A0_0 l0_0.length c0_0]] (by rfl) rfl rfl (by (try simp only [List.map_toArray, List.map_cons, List.map_nil]); first | done | rfl | (simp only [List.length_drop, List.length_take]; rfl)) ?_
   with_reducible refine (impl_IsMatrix.calls _ _ l0_0 true _ ?side1 ?side2 A2.out).mono ?_
   (case side1 => exact cC (Kd.C_below HR0_0.out HB.out)); (case side2 => exact HC0_0.out); rintro e w17 ⟨rfl, hb⟩; refine ⟨_, rfl, ?_⟩; have n0_ := kA BK294 hb; have n1_ := sB HB hb; clear BK294; clear HB; have BK294 := n0_; have HB := n1_; clear n0_ n1_; (try clear hb); refine hK.out _ _ ((blk_cell BK294.out 0).trans rfl) (fun hHeld => ?_); clear hK K; refine norm_ (a' := ?_) ?_ ?_
   rotate_left
   ·
    show Act.put _ (some 4) _ = _
    simp only [AP]; rfl
   refine pS 2 5 (BM 13 7) ?_; refine take_ (i := 3) (N := some 6) (v := ?_) (a' := ?_) (BM 13 15) rfl rfl (take_ofW HT_.out HW_.out (by kernel_rfl)) (fun _ _ _ h => h) (Or.inl ⟨by rfl, ?_⟩) hHeld ?_ ?_
   rotate_left
   ·
    intro w' s0; go_simp
    with_reducible rfl
   rotate_left
   · simp only [AP]; rfl
   refine oS 4 7 (BM 13 31) (fun K hK => ?_); refine goes_ Try.func63 (by kernel_rfl) rfl #[.agg #[.slice A0_0 l0_0.length c0_0], .int .i64 1000] (by rfl) rfl rfl (by (try simp only [List.map_toArray, List.map_cons, List.map_nil]); first | done | rfl | (simp only [List.length_drop, List.length_take]; rfl)) ?_
   with_reducible refine (impl_Matrix_isSmall.calls _ _ l0_0 1000 false _ ?side1 ?side2 A4.out).mono ?_
   (case side1 => exact cC (Kd.C_below HR0_0.out HB.out)); (case side2 => exact HC0_0.out); rintro e w18 ⟨rfl, hb⟩; refine ⟨_, rfl, ?_⟩; have n0_ := kA BK294 hb; have n1_ := sB HB hb; clear BK294; clear HB; have BK294 := n0_; have HB := n1_; clear n0_ n1_; (try clear hb); refine hK.out _ _ ((blk_cell BK294.out 0).trans rfl) (fun hHeld => ?_); clear hK K; refine norm_ (a' := ?_) ?_ ?_
   rotate_left
   ·
    show Act.put _ (some 7) _ = _
    simp only [AP]; rfl
   refine pS 5 8 (BM 13 63) ?_; refine pS 6 9 (BM 13 127) ?_; refine pU 7 10 (BM 13 255) ?_; refine pU 8 11 (BM 13 511) ?_; refine pU 9 12 (BM 13 1023) ?_; refine pU 10 13 (BM 13 2047) ?_; refine pS 11 14 (BM 13 4095) ?_; refine pS 12 2 (BM 13 8191) ?_; refine done_ (done_of HT_.out (by kernel_rfl)) ?_
   try go_wp2
   go_ret; exact ⟨e1, kB HB⟩
 ·
  replace c3 := Bool.eq_false_iff.mpr c3; subst c3; rw [if_neg (show ¬ (false = true) by decide)] at H; obtain rfl := Option.some.inj H; go_enter Try.func102, Try.ntmps102
  try go_wp2_with (first | ((with_reducible refine gate_dst (N := 1) rfl ?_); refine box_event ?hg (N := 1) ?hd (cs := #[.slice A0_0 l0_0.length c0_0]) (t := 26) ?hr ?_; (case hd => rfl); (case hg => rfl); (case hr => exact z98_); intro gb294 hg w19 hbox hb; have BK294 := Aside0.mk (hbox); have GW294 := gW HB hg; have GE294 := gW HB hg; replace HB := sT bq hb; clear hb hbox hg))
  have n0_ := Aside0.mk (blk_drew BK294.out); have n1_ := Aside0.mk (below_drew1 HB.out); clear BK294; clear HB; have BK294 := n0_; have HB := n1_; clear n0_ n1_; refine start_ (n := 13) (S := fun w' => w'.cell? ⟨gb294, 0, none⟩ = some (.slice A0_0 l0_0.length c0_0)) (ds := []) #[O,O,O,O,O,O,O,O,O,O,O,O,O] (by kernel_rfl) rfl rfl ((blk_cell BK294.out 0).trans rfl) (fun hHeld => ?_); refine with_tabW impl_isForm.tab1 impl_isForm.bits1 (fun HT_ HW_ => ?_); generalize w19.drew = w20 at BK294 HB hHeld ⊢; refine take_ (i := 0) (N := some 3) (v := ?_) (a' := ?_) (BM 13 1) rfl rfl (take_ofW HT_.out HW_.out (by kernel_rfl)) (fun _ _ _ h => h) (Or.inl ⟨by rfl, ?_⟩) hHeld ?_ ?_
  rotate_left
  ·
   intro w' s0; go_simp
   with_reducible rfl
  rotate_left
  · simp only [AP]; rfl
  refine oS 1 4 (BM 13 3) (fun K hK => ?_); refine goes_ Try.func33 (by kernel_rfl) rfl #[.agg #[.slice A0_0 l0_0.length c0_0]] (by rfl) rfl rfl (by (try simp only [List.map_toArray, List.map_cons, List.map_nil]); first | done | rfl | (simp only [List.length_drop, List.length_take]; rfl)) ?_
  with_reducible refine (impl_IsMatrix.calls _ _ l0_0 false _ ?side1 ?side2 A2.out).mono ?_
  (case side1 => exact cC (Kd.C_below HR0_0.out HB.out)); (case side2 => exact HC0_0.out); rintro e w21 ⟨rfl, hb⟩; refine ⟨_, rfl, ?_⟩; have n0_ := kA BK294 hb; have n1_ := sB HB hb; clear BK294; clear HB; have BK294 := n0_; have HB := n1_; clear n0_ n1_; (try clear hb); refine hK.out _ _ ((blk_cell BK294.out 0).trans rfl) (fun hHeld => ?_); clear hK K; refine norm_ (a' := ?_) ?_ ?_
  rotate_left
  ·
   show Act.put _ (some 4) _ = _
   simp only [AP]; rfl
  refine pS 2 5 (BM 13 7) ?_; refine pU 3 6 (BM 13 15) ?_; refine pU 4 7 (BM 13 31) ?_; refine pS 5 8 (BM 13 63) ?_; refine pS 6 9 (BM 13 127) ?_; refine pU 7 10 (BM 13 255) ?_; refine pU 8 11 (BM 13 511) ?_; refine pU 9 12 (BM 13 1023) ?_; refine pU 10 13 (BM 13 2047) ?_; refine pS 11 14 (BM 13 4095) ?_; refine pS 12 2 (BM 13 8191) ?_; refine done_ (done_of HT_.out (by kernel_rfl)) ?_
  try go_wp2
  go_ret; exact ⟨e1, kB HB⟩

/-! ### impl_dot: function 103 -/
def impl_dot.l0 : Nat → List Int → Int → List Int → Int → Int → Option (Int)
 | 0, _, _, _, _, _ => none
 | k + 1, x1, x5, x8, x9, x10 => if x10 < x9 then (if 0 ≤ x10 then (if x10 < (x8.length : Int) then (if x10 < (x1.length : Int) then (impl_dot.l0 k x1 (wrap64 (x5 + (wrap64 ((rd x8 x10) * (rd x1 x10))))) x8 x9 (wrap64 (x10 + 1))) else (none)) else (none)) else (none)) else (some x5)
def impl_dot.f (k : Nat) (l0 : List Int) (l1 : List Int) : Option (Int) := impl_dot.l0 k l1 0 l0 (l0.length : Int) 0
theorem impl_dot.mono_l : ∀ k, (∀ y0 y1 y2 y3 y4, LeO (impl_dot.l0 k y0 y1 y2 y3 y4) (impl_dot.l0 (k + 1) y0 y1 y2 y3 y4))
 | 0 => fun _ _ _ _ _ r h => by simp [impl_dot.l0] at h
 | k + 1 => by
  have ih0 := impl_dot.mono_l k
  ·
   intro y0 y1 y2 y3 y4; unfold impl_dot.l0
   repeat' with_reducible first | exact ih0 _ _ _ _ _ | exact LeO.refl _ | exact LeO.none _ | refine LeO.ite ?_ ?_ | refine LeO.bind ?_ (fun _ => ?_)
theorem impl_dot.mono : ∀ a0 a1 k, LeO (impl_dot.f k a0 a1) (impl_dot.f (k + 1) a0 a1) := by
 intro a0 a1 k; have ih0 := impl_dot.mono_l k; unfold impl_dot.f
 repeat' with_reducible first | exact ih0 _ _ _ _ _ | exact LeO.refl _ | exact LeO.none _ | refine LeO.ite ?_ ?_ | refine LeO.bind ?_ (fun _ => ?_)
theorem impl_dot.calls (k : Nat) (A0 : Option Addr) (c0 : Nat) (l0 : List Int) (A1 : Option Addr) (c1 : Nat) (l1 : List Int) (r : Int) (w : World) (hr0 : Kd.C (Kd.int .i64) w A0 l0.length l0) (hc0 : l0.length ≤ c0) (hr1 : Kd.C (Kd.int .i64) w A1 l1.length l1) (hc1 : l1.length ≤ c1) (h : impl_dot.f k l0 l1 = some r) :
 Calls Try.prog 103 #[.slice A0 l0.length c0, .slice A1 l1.length c1] w fun e w' => e = .returned (.int .i64 r) ∧ Drawn0 w w' := by
 have HR0 := Aside0.mk hr0; have HC0 := Aside0.mk hc0; clear hr0 hc0; have HR1 := Aside0.mk hr1; have HC1 := Aside0.mk hc1; clear hr1 hc1; have H : (impl_dot.l0 k l1 0 l0 (l0.length : Int) 0) = some r := h; clear h; have H' := Aside0.mk H; clear H; go_enter Try.func103, Try.ntmps103; go_wp2; go_loopg [5, 10] k (fun kq v5 v10 w' => ∃ (x5_1 : Int) (x10_1 : Int), v5 = .int .i64 x5_1 ∧ v10 = .int .i64 x10_1 ∧ Aside0 (impl_dot.l0 kq l1 x5_1 l0 (l0.length : Int) x10_1 = some r) ∧ Aside0 (kq ≤ k) ∧ Drawn0 w w')
 case atStart => exact ⟨(0), (0), e2, e2, H', ⟨Nat.le_refl _⟩, dz⟩
 case round =>
  clear H'; obtain ⟨x5_1, x10_1, rfl, rfl, HA, HK1, ⟨m1, rfl⟩⟩ := hrel; cases gk with
  | zero => exact absurd HA.out (by simp [impl_dot.l0])
  | succ k1 =>
   have H := HA.out; clear HA; simp only [impl_dot.l0] at H; by_cases c3 : x10_1 < (l0.length : Int)
   ·
    rw [if_pos c3] at H; have c3b0 := decide_eq_true c3; clear c3; by_cases c4 : 0 ≤ x10_1
    ·
     rw [if_pos c4] at H; have c4b0 := decide_eq_true c4; clear c4; by_cases c5 : x10_1 < (l0.length : Int)
     ·
      rw [if_pos c5] at H; have c5b0 := decide_eq_true c5; clear c5; by_cases c6 : x10_1 < (l1.length : Int)
      ·
       rw [if_pos c6] at H; have c6b0 := decide_eq_true c6; clear c6; have H' := Aside0.mk H; clear H; have p301 : 0 ≤ (x10_1 : Int) := od; have q301 : x10_1 < (l0.length : Int) := od; obtain ⟨ad301, e301, hx301_0⟩ := Kd.at_int HR0.out x10_1 p301 q301; cases e301; replace p301 := eq_true p301; replace q301 := eq_true q301; have p302 : 0 ≤ (x10_1 : Int) := od; have q302 : x10_1 < (l1.length : Int) := od; obtain ⟨ad302, e302, hx302_0⟩ := Kd.at_int HR1.out x10_1 p302 q302; cases e302; replace p302 := eq_true p302; replace q302 := eq_true q302; go_wp2; go_roundg k1
       case measure => have := HK1.out; omega
       case rel => exact ⟨(wrap64 (x5_1 + (wrap64 ((rd l0 x10_1) * (rd l1 x10_1))))), (wrap64 (x10_1 + 1)), e2, e2, H', ⟨by have := HK1.out; omega⟩, dz⟩
      · rw [if_neg c6] at H; exact absurd H (by simp)
     · rw [if_neg c5] at H; exact absurd H (by simp)
    · rw [if_neg c4] at H; exact absurd H (by simp)
   · rw [if_neg c3] at H; have c3b0 := decide_eq_false c3; clear c3; obtain rfl := Option.some.inj H; go_wp2; go_ret; exact ⟨e2, dz⟩

/-! ### impl_ProductAt: function 43 -/
def impl_ProductAt.j0 : Nat → List Int → List Int → Bool → List (List Int) → Option (Int × Bool)
 | 0, _, _, _, _ => none
 | k + 1, x1, x2, x24, x304000 => if x24 = true then (some (0, false)) else ((impl_Matrix_apply.f k x304000 x2).bind fun t309 => ((impl_dot.f k x1 t309).bind fun t312 => (some (t312, true))))
def impl_ProductAt.f (k : Nat) (l0_0 : List (List Int)) (l1 : List Int) (l2 : List Int) : Option (Int × Bool) := (impl_isForm.f l0_0).bind fun t304 => (if t304 = true then ((impl_Matrix_size.f l0_0).bind fun t305 => ((impl_isVector.f l1 t305).bind fun t306 => (if t306 = true then ((impl_Matrix_size.f l0_0).bind fun t307 => ((impl_isVector.f l2 t307).bind fun t308 => (impl_ProductAt.j0 k l1 l2 (!t308) l0_0))) else (impl_ProductAt.j0 k l1 l2 true l0_0)))) else (impl_ProductAt.j0 k l1 l2 true l0_0))
theorem impl_ProductAt.mono_l : ∀ k, (∀ y0 y1 y2 y3, LeO (impl_ProductAt.j0 k y0 y1 y2 y3) (impl_ProductAt.j0 (k + 1) y0 y1 y2 y3))
 | 0 => fun _ _ _ _ r h => by simp [impl_ProductAt.j0] at h
 | k + 1 => by
  have ih0 := impl_ProductAt.mono_l k
  ·
   intro y0 y1 y2 y3; unfold impl_ProductAt.j0
   repeat' with_reducible first | exact ih0 _ _ _ _ | exact impl_Matrix_apply.mono _ _ _ | exact impl_dot.mono _ _ _ | exact LeO.refl _ | exact LeO.none _ | refine LeO.ite ?_ ?_ | refine LeO.bind ?_ (fun _ => ?_)
theorem impl_ProductAt.mono : ∀ a0 a1 a2 k, LeO (impl_ProductAt.f k a0 a1 a2) (impl_ProductAt.f (k + 1) a0 a1 a2) := by
 intro a0 a1 a2 k; have ih0 := impl_ProductAt.mono_l k; unfold impl_ProductAt.f
 repeat' with_reducible first | exact ih0 _ _ _ _ | exact impl_Matrix_apply.mono _ _ _ | exact impl_dot.mono _ _ _ | exact LeO.refl _ | exact LeO.none _ | refine LeO.ite ?_ ?_ | refine LeO.bind ?_ (fun _ => ?_)
theorem impl_ProductAt.calls (k : Nat) (A0_0 : Option Addr) (c0_0 : Nat) (l0_0 : List (List Int)) (A1 : Option Addr) (c1 : Nat) (l1 : List Int) (A2 : Option Addr) (c2 : Nat) (l2 : List Int) (r1 : Int) (r2 : Bool) (w : World) (hr0_0 : Kd.C (Kd.slice 3 (Kd.int .i64)) w A0_0 l0_0.length l0_0) (hc0_0 : l0_0.length ≤ c0_0) (hr1 : Kd.C (Kd.int .i64) w A1 l1.length l1) (hc1 : l1.length ≤ c1) (hr2 : Kd.C (Kd.int .i64) w A2 l2.length l2) (hc2 : l2.length ≤ c2) (h : impl_ProductAt.f k l0_0 l1 l2 = some (r1, r2)) :
 Calls Try.prog 43 #[.agg #[.slice A0_0 l0_0.length c0_0], .slice A1 l1.length c1, .slice A2 l2.length c2] w fun e w' => e = .returned (.tuple #[.int .i64 r1, .bool r2]) ∧ Below w.heap.size w w' := by
 have hu26 := Try.underlying26; have HR0_0 := Aside0.mk hr0_0; have HC0_0 := Aside0.mk hc0_0; clear hr0_0 hc0_0; have HR1 := Aside0.mk hr1; have HC1 := Aside0.mk hc1; clear hr1 hc1; have HR2 := Aside0.mk hr2; have HC2 := Aside0.mk hc2; clear hr2 hc2; have HB := Aside0.mk (Below.refl w.heap.size w); have H : ((impl_isForm.f l0_0).bind fun t304 => (if t304 = true then ((impl_Matrix_size.f l0_0).bind fun t305 => ((impl_isVector.f l1 t305).bind fun t306 => (if t306 = true then ((impl_Matrix_size.f l0_0).bind fun t307 => ((impl_isVector.f l2 t307).bind fun t308 => (impl_ProductAt.j0 k l1 l2 (!t308) l0_0))) else (impl_ProductAt.j0 k l1 l2 true l0_0)))) else (impl_ProductAt.j0 k l1 l2 true l0_0))) = some (r1, r2) := h; clear h; have HC4 := Aside0.mk H; clear H; go_enter Try.func43, Try.ntmps43; go_upto_region 1 with (first | ((with_reducible refine gate_dst (N := 3) rfl ?_); refine box_event ?hg (N := 3) ?hd (cs := #[.slice A0_0 l0_0.length c0_0]) (t := 26) ?hr ?_; (case hd => rfl); (case hg => rfl); (case hr => exact z98_); intro gb303 hg w5 hbox hb; have BK303 := Aside0.mk (hbox); have GW303 := gW HB hg; have GE303 := gW HB hg; replace HB := sT bq hb; clear hb hbox hg))
 (try simp only [Act.put, List.setIfInBounds_toArray, List.set_cons_zero, List.set_cons_succ]); go_cut [24] (fun v24 wc => ∃ (kq : Nat) (x24_3 : Bool), v24 = .bool x24_3 ∧ Aside0 (impl_ProductAt.j0 kq l1 l2 x24_3 l0_0 = some (r1, r2)) ∧ Aside0 (kq ≤ k) ∧ Aside0 (wc.heap[gb303]? = some (.cells #[(.slice A0_0 l0_0.length c0_0)] 26 (0, 0))) ∧ Aside0 (Below w.heap.size w wc))
 case first =>
  have H := HC4.out; clear HC4; replace H := oB H; obtain ⟨t304, A6, H⟩ := H; by_cases c7 : t304 = true
  ·
   subst c7; rw [if_pos rfl] at H; replace H := oB H; obtain ⟨t305, A8, H⟩ := H; replace H := oB H; obtain ⟨t306, A9, H⟩ := H; by_cases c10 : t306 = true
   ·
    subst c10; rw [if_pos rfl] at H; replace H := Option.bind_eq_some_iff.mp H; obtain ⟨t307, A110, H⟩ := H; obtain rfl : t305 = t307 := Option.some.inj (A8.out.symm.trans A110); replace H : ((impl_isVector.f l2 t305).bind fun t308 => (impl_ProductAt.j0 k l1 l2 (!t308) l0_0)) = some (r1, r2) := H; have A11 := Aside0.mk A110; clear A110; replace H := oB H; obtain ⟨t308, A12, H⟩ := H; have H' := Aside0.mk H; clear H; obtain ⟨hcz13_0, hfz13_0⟩ := bC BK303; go_wp2_with (first | ((with_reducible refine gate_callee (f := 102) rfl ?_); refine gL (some 9) rfl rfl Try.func102 (by kernel_rfl) rfl #[.agg #[.slice A0_0 l0_0.length c0_0]] rfl ?_; (with_reducible refine (impl_isForm.calls _ _ l0_0 true _ ?side1 ?side2 A6.out).mono ?_); (case side1 => exact cC (Kd.C_below HR0_0.out HB.out)); (case side2 => exact HC0_0.out); rintro e w14 ⟨rfl, hb⟩; refine ⟨_, rfl, ?_⟩; replace BK303 := kA BK303 hb; replace HB := sB HB hb; (try clear hb); obtain ⟨hcz15_0, hfz15_0⟩ := bC BK303) | (go_at_call 67; (with_reducible refine (impl_Matrix_size.calls _ _ l0_0 t305 _ ?side1 ?side2 A8.out).mono ?_); (case side1 => exact cC (Kd.C_below HR0_0.out HB.out)); (case side2 => exact HC0_0.out); rintro e w16 ⟨rfl, hb⟩; replace BK303 := kA BK303 hb; replace HB := sB HB hb; (try clear hb)) | (go_at_call 97; (with_reducible refine (impl_isVector.calls _ _ l1 t305 true _ ?side1 ?side2 A9.out).mono ?_); (case side1 => exact cC (Kd.C_below HR1.out HB.out)); (case side2 => exact HC1.out); rintro e w17 ⟨rfl, hb⟩; replace BK303 := kA BK303 hb; replace HB := sB HB hb; (try clear hb); obtain ⟨hcz18_0, hfz18_0⟩ := bC BK303) | (go_at_call 67; (with_reducible refine (impl_Matrix_size.calls _ _ l0_0 t305 _ ?side1 ?side2 A11.out).mono ?_); (case side1 => exact cC (Kd.C_below HR0_0.out HB.out)); (case side2 => exact HC0_0.out); rintro e w19 ⟨rfl, hb⟩; replace BK303 := kA BK303 hb; replace HB := sB HB hb; (try clear hb)) | (go_at_call 97; (with_reducible refine (impl_isVector.calls _ _ l2 t305 t308 _ ?side1 ?side2 A12.out).mono ?_); (case side1 => exact cC (Kd.C_below HR2.out HB.out)); (case side2 => exact HC2.out); rintro e w20 ⟨rfl, hb⟩; replace BK303 := kA BK303 hb; replace HB := sB HB hb; (try clear hb))); go_meet
    case rel => exact ⟨_, (!t308), e2, H', ⟨z99_⟩, ⟨by exact bA BK303⟩, ⟨kB HB⟩⟩
   ·
    replace c10 := Bool.eq_false_iff.mpr c10; subst c10; rw [if_neg (show ¬ (false = true) by decide)] at H; have H' := Aside0.mk H; clear H; obtain ⟨hcz21_0, hfz21_0⟩ := bC BK303; go_wp2_with (first | ((with_reducible refine gate_callee (f := 102) rfl ?_); refine gL (some 9) rfl rfl Try.func102 (by kernel_rfl) rfl #[.agg #[.slice A0_0 l0_0.length c0_0]] rfl ?_; (with_reducible refine (impl_isForm.calls _ _ l0_0 true _ ?side1 ?side2 A6.out).mono ?_); (case side1 => exact cC (Kd.C_below HR0_0.out HB.out)); (case side2 => exact HC0_0.out); rintro e w22 ⟨rfl, hb⟩; refine ⟨_, rfl, ?_⟩; replace BK303 := kA BK303 hb; replace HB := sB HB hb; (try clear hb); obtain ⟨hcz23_0, hfz23_0⟩ := bC BK303) | (go_at_call 67; (with_reducible refine (impl_Matrix_size.calls _ _ l0_0 t305 _ ?side1 ?side2 A8.out).mono ?_); (case side1 => exact cC (Kd.C_below HR0_0.out HB.out)); (case side2 => exact HC0_0.out); rintro e w24 ⟨rfl, hb⟩; replace BK303 := kA BK303 hb; replace HB := sB HB hb; (try clear hb)) | (go_at_call 97; (with_reducible refine (impl_isVector.calls _ _ l1 t305 false _ ?side1 ?side2 A9.out).mono ?_); (case side1 => exact cC (Kd.C_below HR1.out HB.out)); (case side2 => exact HC1.out); rintro e w25 ⟨rfl, hb⟩; replace BK303 := kA BK303 hb; replace HB := sB HB hb; (try clear hb))); go_meet
    case rel => exact ⟨_, (true), e2, H', ⟨z99_⟩, ⟨by exact bA BK303⟩, ⟨kB HB⟩⟩
  ·
   replace c7 := Bool.eq_false_iff.mpr c7; subst c7; rw [if_neg (show ¬ (false = true) by decide)] at H; have H' := Aside0.mk H; clear H; obtain ⟨hcz26_0, hfz26_0⟩ := bC BK303; go_wp2_with (first | ((with_reducible refine gate_callee (f := 102) rfl ?_); refine gL (some 9) rfl rfl Try.func102 (by kernel_rfl) rfl #[.agg #[.slice A0_0 l0_0.length c0_0]] rfl ?_; (with_reducible refine (impl_isForm.calls _ _ l0_0 false _ ?side1 ?side2 A6.out).mono ?_); (case side1 => exact cC (Kd.C_below HR0_0.out HB.out)); (case side2 => exact HC0_0.out); rintro e w27 ⟨rfl, hb⟩; refine ⟨_, rfl, ?_⟩; replace BK303 := kA BK303 hb; replace HB := sB HB hb; (try clear hb))); go_meet
   case rel => exact ⟨_, (true), e2, H', ⟨z99_⟩, ⟨by exact bA BK303⟩, ⟨kB HB⟩⟩
 case rest =>
  clear HC4; obtain ⟨kq, x24_3, rfl, HA, HJ3, BK303, HB⟩ := hcut; cases kq with
  | zero => exact absurd HA.out (by simp [impl_ProductAt.j0])
  | succ kj3 =>
   have H := HA.out; clear HA; simp only [impl_ProductAt.j0] at H; by_cases c28 : x24_3 = true
   · subst c28; rw [if_pos rfl] at H; simp only [Option.some.injEq, Prod.mk.injEq] at H; obtain ⟨rfl, rfl⟩ := H; go_wp2; go_ret2; exact ⟨e1, kB HB⟩
   · replace c28 := Bool.eq_false_iff.mpr c28; subst c28; rw [if_neg (show ¬ (false = true) by decide)] at H; replace H := oB H; obtain ⟨t309, A29, H⟩ := H; replace H := oB H; obtain ⟨t312, A30, H⟩ := H; simp only [Option.some.injEq, Prod.mk.injEq] at H; obtain ⟨rfl, rfl⟩ := H; obtain ⟨hcz31_0, hfz31_0⟩ := bC BK303; go_wp2_with (first | ((with_reducible refine gate_callee (f := 87) rfl ?_); refine gL (some 28) rfl rfl Try.func87 (by kernel_rfl) rfl #[.agg #[.slice A0_0 l0_0.length c0_0], .slice A2 l2.length c2] rfl ?_; (with_reducible refine (impl_Matrix_apply.calls kj3 _ _ l0_0 _ _ l2 t309 _ ?side1 ?side2 ?side3 ?side4 A29.out).mono ?_); (case side1 => exact cC (Kd.C_below HR0_0.out HB.out)); (case side2 => exact HC0_0.out); (case side3 => exact cC (Kd.C_below HR2.out HB.out)); (case side4 => exact HC2.out); rintro e w32 ⟨v310, rfl, ho0, hb⟩; refine ⟨_, rfl, ?_⟩; have HO311 := Aside0.mk (Kd.R_lower ho0 (below_size (kB HB))); replace BK303 := kA BK303 hb; replace HB := sB HB hb; (try clear hb); (try clear ho0); obtain ⟨Ao33, co33, eo33⟩ := Kd.R_slice HO311.out; subst eo33) | ((with_reducible refine gate_callee (f := 103) rfl ?_); refine gL (some 29) rfl rfl Try.func103 (by kernel_rfl) rfl #[.slice A1 l1.length c1, .slice Ao33 t309.length co33] rfl ?_; (with_reducible refine (impl_dot.calls kj3 _ _ l1 _ _ t309 t312 _ ?side1 ?side2 ?side3 ?side4 A30.out).mono ?_); (case side1 => exact cC (Kd.C_below HR1.out HB.out)); (case side2 => exact HC1.out); (case side3 => exact cC (Kd.R_reads' HO311.out).2.2); (case side4 => exact (Kd.R_reads' HO311.out).2.1); rintro e w' ⟨rfl, ⟨nd, rfl⟩⟩; refine ⟨_, rfl, ?_⟩)); go_ret2; exact ⟨e1, kB HB⟩

/-! ### impl_FormAt: function 45 -/
def impl_FormAt.f (k : Nat) (l0_0 : List (List Int)) (l1 : List Int) : Option (Int × Bool) := (impl_ProductAt.f k l0_0 l1 l1).bind fun bt314 => (some (bt314.1, bt314.2))
theorem impl_FormAt.mono : ∀ a0 a1 k, LeO (impl_FormAt.f k a0 a1) (impl_FormAt.f (k + 1) a0 a1) := by
 intro a0 a1 k; unfold impl_FormAt.f
 repeat' with_reducible first | exact impl_ProductAt.mono _ _ _ _ | exact LeO.refl _ | exact LeO.none _ | refine LeO.ite ?_ ?_ | refine LeO.bind ?_ (fun _ => ?_)
theorem impl_FormAt.calls (k : Nat) (A0_0 : Option Addr) (c0_0 : Nat) (l0_0 : List (List Int)) (A1 : Option Addr) (c1 : Nat) (l1 : List Int) (r1 : Int) (r2 : Bool) (w : World) (hr0_0 : Kd.C (Kd.slice 3 (Kd.int .i64)) w A0_0 l0_0.length l0_0) (hc0_0 : l0_0.length ≤ c0_0) (hr1 : Kd.C (Kd.int .i64) w A1 l1.length l1) (hc1 : l1.length ≤ c1) (h : impl_FormAt.f k l0_0 l1 = some (r1, r2)) :
 Calls Try.prog 45 #[.agg #[.slice A0_0 l0_0.length c0_0], .slice A1 l1.length c1] w fun e w' => e = .returned (.tuple #[.int .i64 r1, .bool r2]) ∧ Below w.heap.size w w' := by
 have hu26 := Try.underlying26; have HR0_0 := Aside0.mk hr0_0; have HC0_0 := Aside0.mk hc0_0; clear hr0_0 hc0_0; have HR1 := Aside0.mk hr1; have HC1 := Aside0.mk hc1; clear hr1 hc1; have HB := Aside0.mk (Below.refl w.heap.size w); have H : ((impl_ProductAt.f k l0_0 l1 l1).bind fun bt314 => (some (bt314.1, bt314.2))) = some (r1, r2) := h; clear h; replace H := oB H; obtain ⟨⟨t314, t315⟩, A3, H⟩ := H; (try dsimp only at H); simp only [Option.some.injEq, Prod.mk.injEq] at H; obtain ⟨rfl, rfl⟩ := H; go_enter Try.func45, Try.ntmps45; go_wp2_with (first | ((with_reducible refine gate_dst (N := 2) rfl ?_); refine box_event ?hg (N := 2) ?hd (cs := #[.slice A0_0 l0_0.length c0_0]) (t := 26) ?hr ?_; (case hd => rfl); (case hg => rfl); (case hr => exact z98_); intro gb313 hg w4 hbox hb; have BK313 := Aside0.mk (hbox); have GW313 := gW HB hg; have GE313 := gW HB hg; replace HB := sT bq hb; clear hb hbox hg; obtain ⟨hcz5_0, hfz5_0⟩ := bC BK313) | ((with_reducible refine gate_callee (f := 43) rfl ?_); refine gL (some 9) rfl rfl Try.func43 (by kernel_rfl) rfl #[.agg #[.slice A0_0 l0_0.length c0_0], .slice A1 l1.length c1, .slice A1 l1.length c1] rfl ?_; (with_reducible refine (impl_ProductAt.calls k _ _ l0_0 _ _ l1 _ _ l1 t314 t315 _ ?side1 ?side2 ?side3 ?side4 ?side5 ?side6 A3.out).mono ?_); (case side1 => exact cC (Kd.C_below HR0_0.out HB.out)); (case side2 => exact HC0_0.out); (case side3 => exact cC (Kd.C_below HR1.out HB.out)); (case side4 => exact HC1.out); (case side5 => exact cC (Kd.C_below HR1.out HB.out)); (case side6 => exact HC1.out); rintro e w6 ⟨rfl, hb⟩; refine ⟨_, rfl, ?_⟩; replace BK313 := kA BK313 hb; replace HB := sB HB hb; (try clear hb))); go_ret2; exact ⟨e1, kB HB⟩

end Go.Proofs.Ytldkkfpodldbgaa.P
