-- Written by a program of this session (wip/mkprint.py over the kit's print), out of the translation. Not trusted: Lean checks it.
import Derived.Test.YtldkkfpodldbgaaOx0
import Derived.Test.YtldkkfpodldbgaaOx1
import Derived.Test.YtldkkfpodldbgaaOx3
import Derived.Test.YtldkkfpodldbgaaOx5
import Derived.Test.YtldkkfpodldbgaaOx8
import Derived.Test.YtldkkfpodldbgaaOx10
import Derived.Test.YtldkkfpodldbgaaOx12
import Derived.Test.YtldkkfpodldbgaaOx14
import Derived.Test.YtldkkfpodldbgaaOx15
namespace Go.Proofs.Ytldkkfpodldbgaa.P
open Go.RowKit Go.Proofs.YtldkkfpodldbgaaW.PrintWords Go.Proofs.YtldkkfpodldbgaaW.PrintLast Go.Proofs.YtldkkfpodldbgaaW.PrintMore
attribute [local go_sem] max2_int min2_int max_two min_two max_three min_three max_four min_four   -- for this text's walks alone
set_option linter.unusedVariables false
set_option linter.unusedSimpArgs false

/-! ### laws_FnForms: function 7 -/
mutual
def laws_FnForms.j0 : Nat → List Int → List Int → List Int → Bool → Bool → List (List Int) → Option (Bool)
 | 0, _, _, _, _, _, _ => none
 | k + 1, x1, x6, x7, x9, x113, x549000 => if x113 = true then (some false) else ((impl_IsSymmetric.f x549000).bind fun bt559 => (if x9 = true then (if bt559.2 = true then (laws_FnForms.j1 k x1 x6 x7 x9 (!bt559.1)) else (laws_FnForms.j1 k x1 x6 x7 x9 true)) else (laws_FnForms.j1 k x1 x6 x7 x9 false)))
def laws_FnForms.j1 : Nat → List Int → List Int → List Int → Bool → Bool → Option (Bool)
 | 0, _, _, _, _, _ => none
 | k + 1, x1, x6, x7, x9, x127 => if x127 = true then (some false) else ((spec_DrawKeepsForm.f k x1).bind fun bt561 => ((impl_KeepsForm.f k bt561.1 bt561.2).bind fun bt569 => ((spec_KeepsForm.f k bt561.1 bt561.2).bind fun bt571 => (if (bt569.2 != bt571.2) = true then (laws_FnForms.j2 k x1 x6 x7 x9 bt569.1 true bt561.1 bt561.2) else (laws_FnForms.j2 k x1 x6 x7 x9 bt569.1 (bt569.1 != bt571.1) bt561.1 bt561.2)))))
def laws_FnForms.j2 : Nat → List Int → List Int → List Int → Bool → Bool → Bool → List (List Int) → List (List Int) → Option (Bool)
 | 0, _, _, _, _, _, _, _, _ => none
 | k + 1, x1, x6, x7, x9, x22, x152, x568000, x569000 => if x152 = true then (some false) else (if x22 = true then (if x9 = true then (laws_FnForms.j3 k x1 x6 x7 ((x569000.length : Int) == (x6.length : Int)) x568000 x569000) else (laws_FnForms.j3 k x1 x6 x7 false x568000 x569000)) else (laws_FnForms.j3 k x1 x6 x7 false x568000 x569000))
def laws_FnForms.j3 : Nat → List Int → List Int → List Int → Bool → List (List Int) → List (List Int) → Option (Bool)
 | 0, _, _, _, _, _, _ => none
 | k + 1, x1, x6, x7, x164, x568000, x569000 => if x164 = true then ((impl_ApplyMatrix.f k x568000 x6).bind fun bt573 => ((impl_ApplyMatrix.f k x568000 x7).bind fun bt577 => ((impl_ProductAt.f k x569000 bt573.1 bt577.1).bind fun bt581 => ((impl_ProductAt.f k x569000 x6 x7).bind fun bt583 => (if bt573.2 = true then (if bt577.2 = true then (if (bt581.2 != bt583.2) = true then (some false) else (if bt581.1 = bt583.1 then (laws_FnForms.j4 k x1) else (some false))) else (laws_FnForms.j4 k x1)) else (laws_FnForms.j4 k x1)))))) else (laws_FnForms.j4 k x1)
def laws_FnForms.j4 : Nat → List Int → Option (Bool)
 | 0, _ => none
 | k + 1, x1 => (spec_DrawApplyMatrix.f k x1).bind fun bt585 => ((impl_ApplyMatrix.f k bt585.1 bt585.2).bind fun bt592 => ((spec_ApplyMatrix.f k bt585.1 bt585.2).bind fun bt596 => (if (bt592.2 == bt596.2) = true then ((laws_dSame.f k bt592.1 bt596.1).bind fun t600 => (some t600)) else (some false))))
end
def laws_FnForms.f (k : Nat) (l0 : List Int) (l1 : List Int) : Option (Bool) := (laws_big.f l0 l1).bind fun t538 => (if t538 = true then (some true) else ((spec_DrawProductAt.f k l0).bind fun bt539 => ((impl_ProductAt.f k bt539.1 bt539.2.1 bt539.2.2).bind fun bt549 => ((spec_ProductAt.f k bt539.1 bt539.2.1 bt539.2.2).bind fun bt551 => ((impl_ProductAt.f k bt539.1 bt539.2.2 bt539.2.1).bind fun bt553 => ((impl_FormAt.f k bt539.1 bt539.2.1).bind fun bt555 => ((impl_ProductAt.f k bt539.1 bt539.2.1 bt539.2.1).bind fun bt557 => (if (bt549.2 != bt551.2) = true then (laws_FnForms.j0 k l1 bt539.2.1 bt539.2.2 bt549.2 true bt539.1) else (if bt549.1 = bt551.1 then (if (bt553.2 != bt549.2) = true then (laws_FnForms.j0 k l1 bt539.2.1 bt539.2.2 bt549.2 true bt539.1) else (if bt549.2 = true then (if bt553.1 = bt549.1 then (if (bt555.2 != bt557.2) = true then (laws_FnForms.j0 k l1 bt539.2.1 bt539.2.2 bt549.2 true bt539.1) else (laws_FnForms.j0 k l1 bt539.2.1 bt539.2.2 bt549.2 (bt555.1 != bt557.1) bt539.1)) else (laws_FnForms.j0 k l1 bt539.2.1 bt539.2.2 bt549.2 true bt539.1)) else (if (bt555.2 != bt557.2) = true then (laws_FnForms.j0 k l1 bt539.2.1 bt539.2.2 bt549.2 true bt539.1) else (laws_FnForms.j0 k l1 bt539.2.1 bt539.2.2 bt549.2 (bt555.1 != bt557.1) bt539.1)))) else (laws_FnForms.j0 k l1 bt539.2.1 bt539.2.2 bt549.2 true bt539.1))))))))))
theorem laws_FnForms.mono_l : ∀ k, (∀ y0 y1 y2 y3 y4 y5, LeO (laws_FnForms.j0 k y0 y1 y2 y3 y4 y5) (laws_FnForms.j0 (k + 1) y0 y1 y2 y3 y4 y5)) ∧ (∀ y0 y1 y2 y3 y4, LeO (laws_FnForms.j1 k y0 y1 y2 y3 y4) (laws_FnForms.j1 (k + 1) y0 y1 y2 y3 y4)) ∧ (∀ y0 y1 y2 y3 y4 y5 y6 y7, LeO (laws_FnForms.j2 k y0 y1 y2 y3 y4 y5 y6 y7) (laws_FnForms.j2 (k + 1) y0 y1 y2 y3 y4 y5 y6 y7)) ∧ (∀ y0 y1 y2 y3 y4 y5, LeO (laws_FnForms.j3 k y0 y1 y2 y3 y4 y5) (laws_FnForms.j3 (k + 1) y0 y1 y2 y3 y4 y5)) ∧ (∀ y0, LeO (laws_FnForms.j4 k y0) (laws_FnForms.j4 (k + 1) y0))
 | 0 => ⟨fun _ _ _ _ _ _ r h => by simp [laws_FnForms.j0] at h, fun _ _ _ _ _ r h => by simp [laws_FnForms.j1] at h, fun _ _ _ _ _ _ _ _ r h => by simp [laws_FnForms.j2] at h, fun _ _ _ _ _ _ r h => by simp [laws_FnForms.j3] at h, fun _ r h => by simp [laws_FnForms.j4] at h⟩
 | k + 1 => by
  obtain ⟨ih0, ih1, ih2, ih3, ih4⟩ := laws_FnForms.mono_l k
  refine ⟨?_, ?_, ?_, ?_, ?_⟩
  ·
   intro y0 y1 y2 y3 y4 y5
   unfold laws_FnForms.j0
   repeat' first
   | (with_reducible exact ih0 _ _ _ _ _ _)
   | (with_reducible exact ih1 _ _ _ _ _)
   | (with_reducible exact ih2 _ _ _ _ _ _ _ _)
   | (with_reducible exact ih3 _ _ _ _ _ _)
   | (with_reducible exact ih4 _)
   | (with_reducible exact impl_ApplyMatrix.mono _ _ _)
   | (with_reducible exact impl_FormAt.mono _ _ _)
   | (with_reducible exact impl_KeepsForm.mono _ _ _)
   | (with_reducible exact impl_ProductAt.mono _ _ _ _)
   | (with_reducible exact laws_dSame.mono _ _ _)
   | (with_reducible exact spec_ApplyMatrix.mono _ _ _)
   | (with_reducible exact spec_DrawApplyMatrix.mono _ _)
   | (with_reducible exact spec_DrawKeepsForm.mono _ _)
   | (with_reducible exact spec_DrawProductAt.mono _ _)
   | (with_reducible exact spec_KeepsForm.mono _ _ _)
   | (with_reducible exact spec_ProductAt.mono _ _ _ _)
   | (with_reducible exact LeO.refl _)
   | (with_reducible exact LeO.none _)
   | (with_reducible refine LeO.ite ?_ ?_)
   | (with_reducible refine LeO.bind ?_ (fun _ => ?_))
   | exact ih0 _ _ _ _ _ _
   | exact ih1 _ _ _ _ _
   | exact ih2 _ _ _ _ _ _ _ _
   | exact ih3 _ _ _ _ _ _
   | exact ih4 _
   | exact impl_ApplyMatrix.mono _ _ _
   | exact impl_FormAt.mono _ _ _
   | exact impl_KeepsForm.mono _ _ _
   | exact impl_ProductAt.mono _ _ _ _
   | exact laws_dSame.mono _ _ _
   | exact spec_ApplyMatrix.mono _ _ _
   | exact spec_DrawApplyMatrix.mono _ _
   | exact spec_DrawKeepsForm.mono _ _
   | exact spec_DrawProductAt.mono _ _
   | exact spec_KeepsForm.mono _ _ _
   | exact spec_ProductAt.mono _ _ _ _
   | exact LeO.none _
   | refine LeO.ite ?_ ?_
   | refine LeO.bind ?_ (fun _ => ?_)
  ·
   intro y0 y1 y2 y3 y4
   unfold laws_FnForms.j1
   repeat' first
   | (with_reducible exact ih0 _ _ _ _ _ _)
   | (with_reducible exact ih1 _ _ _ _ _)
   | (with_reducible exact ih2 _ _ _ _ _ _ _ _)
   | (with_reducible exact ih3 _ _ _ _ _ _)
   | (with_reducible exact ih4 _)
   | (with_reducible exact impl_ApplyMatrix.mono _ _ _)
   | (with_reducible exact impl_FormAt.mono _ _ _)
   | (with_reducible exact impl_KeepsForm.mono _ _ _)
   | (with_reducible exact impl_ProductAt.mono _ _ _ _)
   | (with_reducible exact laws_dSame.mono _ _ _)
   | (with_reducible exact spec_ApplyMatrix.mono _ _ _)
   | (with_reducible exact spec_DrawApplyMatrix.mono _ _)
   | (with_reducible exact spec_DrawKeepsForm.mono _ _)
   | (with_reducible exact spec_DrawProductAt.mono _ _)
   | (with_reducible exact spec_KeepsForm.mono _ _ _)
   | (with_reducible exact spec_ProductAt.mono _ _ _ _)
   | (with_reducible exact LeO.refl _)
   | (with_reducible exact LeO.none _)
   | (with_reducible refine LeO.ite ?_ ?_)
   | (with_reducible refine LeO.bind ?_ (fun _ => ?_))
   | exact ih0 _ _ _ _ _ _
   | exact ih1 _ _ _ _ _
   | exact ih2 _ _ _ _ _ _ _ _
   | exact ih3 _ _ _ _ _ _
   | exact ih4 _
   | exact impl_ApplyMatrix.mono _ _ _
   | exact impl_FormAt.mono _ _ _
   | exact impl_KeepsForm.mono _ _ _
   | exact impl_ProductAt.mono _ _ _ _
   | exact laws_dSame.mono _ _ _
   | exact spec_ApplyMatrix.mono _ _ _
   | exact spec_DrawApplyMatrix.mono _ _
   | exact spec_DrawKeepsForm.mono _ _
   | exact spec_DrawProductAt.mono _ _
   | exact spec_KeepsForm.mono _ _ _
   | exact spec_ProductAt.mono _ _ _ _
   | exact LeO.none _
   | refine LeO.ite ?_ ?_
   | refine LeO.bind ?_ (fun _ => ?_)
  ·
   intro y0 y1 y2 y3 y4 y5 y6 y7
   unfold laws_FnForms.j2
   repeat' first
   | (with_reducible exact ih0 _ _ _ _ _ _)
   | (with_reducible exact ih1 _ _ _ _ _)
   | (with_reducible exact ih2 _ _ _ _ _ _ _ _)
   | (with_reducible exact ih3 _ _ _ _ _ _)
   | (with_reducible exact ih4 _)
   | (with_reducible exact impl_ApplyMatrix.mono _ _ _)
   | (with_reducible exact impl_FormAt.mono _ _ _)
   | (with_reducible exact impl_KeepsForm.mono _ _ _)
   | (with_reducible exact impl_ProductAt.mono _ _ _ _)
   | (with_reducible exact laws_dSame.mono _ _ _)
   | (with_reducible exact spec_ApplyMatrix.mono _ _ _)
   | (with_reducible exact spec_DrawApplyMatrix.mono _ _)
   | (with_reducible exact spec_DrawKeepsForm.mono _ _)
   | (with_reducible exact spec_DrawProductAt.mono _ _)
   | (with_reducible exact spec_KeepsForm.mono _ _ _)
   | (with_reducible exact spec_ProductAt.mono _ _ _ _)
   | (with_reducible exact LeO.refl _)
   | (with_reducible exact LeO.none _)
   | (with_reducible refine LeO.ite ?_ ?_)
   | (with_reducible refine LeO.bind ?_ (fun _ => ?_))
   | exact ih0 _ _ _ _ _ _
   | exact ih1 _ _ _ _ _
   | exact ih2 _ _ _ _ _ _ _ _
   | exact ih3 _ _ _ _ _ _
   | exact ih4 _
   | exact impl_ApplyMatrix.mono _ _ _
   | exact impl_FormAt.mono _ _ _
   | exact impl_KeepsForm.mono _ _ _
   | exact impl_ProductAt.mono _ _ _ _
   | exact laws_dSame.mono _ _ _
   | exact spec_ApplyMatrix.mono _ _ _
   | exact spec_DrawApplyMatrix.mono _ _
   | exact spec_DrawKeepsForm.mono _ _
   | exact spec_DrawProductAt.mono _ _
   | exact spec_KeepsForm.mono _ _ _
   | exact spec_ProductAt.mono _ _ _ _
   | exact LeO.none _
   | refine LeO.ite ?_ ?_
   | refine LeO.bind ?_ (fun _ => ?_)
  ·
   intro y0 y1 y2 y3 y4 y5
   unfold laws_FnForms.j3
   repeat' first
   | (with_reducible exact ih0 _ _ _ _ _ _)
   | (with_reducible exact ih1 _ _ _ _ _)
   | (with_reducible exact ih2 _ _ _ _ _ _ _ _)
   | (with_reducible exact ih3 _ _ _ _ _ _)
   | (with_reducible exact ih4 _)
   | (with_reducible exact impl_ApplyMatrix.mono _ _ _)
   | (with_reducible exact impl_FormAt.mono _ _ _)
   | (with_reducible exact impl_KeepsForm.mono _ _ _)
   | (with_reducible exact impl_ProductAt.mono _ _ _ _)
   | (with_reducible exact laws_dSame.mono _ _ _)
   | (with_reducible exact spec_ApplyMatrix.mono _ _ _)
   | (with_reducible exact spec_DrawApplyMatrix.mono _ _)
   | (with_reducible exact spec_DrawKeepsForm.mono _ _)
   | (with_reducible exact spec_DrawProductAt.mono _ _)
   | (with_reducible exact spec_KeepsForm.mono _ _ _)
   | (with_reducible exact spec_ProductAt.mono _ _ _ _)
   | (with_reducible exact LeO.refl _)
   | (with_reducible exact LeO.none _)
   | (with_reducible refine LeO.ite ?_ ?_)
   | (with_reducible refine LeO.bind ?_ (fun _ => ?_))
   | exact ih0 _ _ _ _ _ _
   | exact ih1 _ _ _ _ _
   | exact ih2 _ _ _ _ _ _ _ _
   | exact ih3 _ _ _ _ _ _
   | exact ih4 _
   | exact impl_ApplyMatrix.mono _ _ _
   | exact impl_FormAt.mono _ _ _
   | exact impl_KeepsForm.mono _ _ _
   | exact impl_ProductAt.mono _ _ _ _
   | exact laws_dSame.mono _ _ _
   | exact spec_ApplyMatrix.mono _ _ _
   | exact spec_DrawApplyMatrix.mono _ _
   | exact spec_DrawKeepsForm.mono _ _
   | exact spec_DrawProductAt.mono _ _
   | exact spec_KeepsForm.mono _ _ _
   | exact spec_ProductAt.mono _ _ _ _
   | exact LeO.none _
   | refine LeO.ite ?_ ?_
   | refine LeO.bind ?_ (fun _ => ?_)
  ·
   intro y0
   unfold laws_FnForms.j4
   repeat' first
   | (with_reducible exact ih0 _ _ _ _ _ _)
   | (with_reducible exact ih1 _ _ _ _ _)
   | (with_reducible exact ih2 _ _ _ _ _ _ _ _)
   | (with_reducible exact ih3 _ _ _ _ _ _)
   | (with_reducible exact ih4 _)
   | (with_reducible exact impl_ApplyMatrix.mono _ _ _)
   | (with_reducible exact impl_FormAt.mono _ _ _)
   | (with_reducible exact impl_KeepsForm.mono _ _ _)
   | (with_reducible exact impl_ProductAt.mono _ _ _ _)
   | (with_reducible exact laws_dSame.mono _ _ _)
   | (with_reducible exact spec_ApplyMatrix.mono _ _ _)
   | (with_reducible exact spec_DrawApplyMatrix.mono _ _)
   | (with_reducible exact spec_DrawKeepsForm.mono _ _)
   | (with_reducible exact spec_DrawProductAt.mono _ _)
   | (with_reducible exact spec_KeepsForm.mono _ _ _)
   | (with_reducible exact spec_ProductAt.mono _ _ _ _)
   | (with_reducible exact LeO.refl _)
   | (with_reducible exact LeO.none _)
   | (with_reducible refine LeO.ite ?_ ?_)
   | (with_reducible refine LeO.bind ?_ (fun _ => ?_))
   | exact ih0 _ _ _ _ _ _
   | exact ih1 _ _ _ _ _
   | exact ih2 _ _ _ _ _ _ _ _
   | exact ih3 _ _ _ _ _ _
   | exact ih4 _
   | exact impl_ApplyMatrix.mono _ _ _
   | exact impl_FormAt.mono _ _ _
   | exact impl_KeepsForm.mono _ _ _
   | exact impl_ProductAt.mono _ _ _ _
   | exact laws_dSame.mono _ _ _
   | exact spec_ApplyMatrix.mono _ _ _
   | exact spec_DrawApplyMatrix.mono _ _
   | exact spec_DrawKeepsForm.mono _ _
   | exact spec_DrawProductAt.mono _ _
   | exact spec_KeepsForm.mono _ _ _
   | exact spec_ProductAt.mono _ _ _ _
   | exact LeO.none _
   | refine LeO.ite ?_ ?_
   | refine LeO.bind ?_ (fun _ => ?_)
theorem laws_FnForms.mono : ∀ a0 a1 k, LeO (laws_FnForms.f k a0 a1) (laws_FnForms.f (k + 1) a0 a1) := by
 intro a0 a1 k
 obtain ⟨ih0, ih1, ih2, ih3, ih4⟩ := laws_FnForms.mono_l k
 unfold laws_FnForms.f
 repeat' first
  | (with_reducible exact ih0 _ _ _ _ _ _)
  | (with_reducible exact ih1 _ _ _ _ _)
  | (with_reducible exact ih2 _ _ _ _ _ _ _ _)
  | (with_reducible exact ih3 _ _ _ _ _ _)
  | (with_reducible exact ih4 _)
  | (with_reducible exact impl_ApplyMatrix.mono _ _ _)
  | (with_reducible exact impl_FormAt.mono _ _ _)
  | (with_reducible exact impl_KeepsForm.mono _ _ _)
  | (with_reducible exact impl_ProductAt.mono _ _ _ _)
  | (with_reducible exact laws_dSame.mono _ _ _)
  | (with_reducible exact spec_ApplyMatrix.mono _ _ _)
  | (with_reducible exact spec_DrawApplyMatrix.mono _ _)
  | (with_reducible exact spec_DrawKeepsForm.mono _ _)
  | (with_reducible exact spec_DrawProductAt.mono _ _)
  | (with_reducible exact spec_KeepsForm.mono _ _ _)
  | (with_reducible exact spec_ProductAt.mono _ _ _ _)
  | (with_reducible exact LeO.refl _)
  | (with_reducible exact LeO.none _)
  | (with_reducible refine LeO.ite ?_ ?_)
  | (with_reducible refine LeO.bind ?_ (fun _ => ?_))
  | exact ih0 _ _ _ _ _ _
  | exact ih1 _ _ _ _ _
  | exact ih2 _ _ _ _ _ _ _ _
  | exact ih3 _ _ _ _ _ _
  | exact ih4 _
  | exact impl_ApplyMatrix.mono _ _ _
  | exact impl_FormAt.mono _ _ _
  | exact impl_KeepsForm.mono _ _ _
  | exact impl_ProductAt.mono _ _ _ _
  | exact laws_dSame.mono _ _ _
  | exact spec_ApplyMatrix.mono _ _ _
  | exact spec_DrawApplyMatrix.mono _ _
  | exact spec_DrawKeepsForm.mono _ _
  | exact spec_DrawProductAt.mono _ _
  | exact spec_KeepsForm.mono _ _ _
  | exact spec_ProductAt.mono _ _ _ _
  | exact LeO.none _
  | refine LeO.ite ?_ ?_
  | refine LeO.bind ?_ (fun _ => ?_)
theorem laws_FnForms.j0_no : ∀ {k y0 y1 y2 y3 y5}, laws_FnForms.j0 k y0 y1 y2 y3 true y5 = some true → False := by
 intro k y0 y1 y2 y3 y5 h
 cases k <;> simp [laws_FnForms.j0] at h
theorem laws_FnForms.j1_no : ∀ {k y0 y1 y2 y3}, laws_FnForms.j1 k y0 y1 y2 y3 true = some true → False := by
 intro k y0 y1 y2 y3 h
 cases k <;> simp [laws_FnForms.j1] at h
theorem laws_FnForms.j2_no : ∀ {k y0 y1 y2 y3 y4 y6 y7}, laws_FnForms.j2 k y0 y1 y2 y3 y4 true y6 y7 = some true → False := by
 intro k y0 y1 y2 y3 y4 y6 y7 h
 cases k <;> simp [laws_FnForms.j2] at h
set_option maxHeartbeats 8000000 in
set_option maxRecDepth 100000 in
theorem laws_FnForms.calls (k : Nat) (A0 : Option Addr) (c0 : Nat) (l0 : List Int) (A1 : Option Addr) (c1 : Nat) (l1 : List Int) (r : Bool) (w : World) (hr0 : Kd.C (Kd.int .u8) w A0 l0.length l0) (hc0 : l0.length ≤ c0) (hr1 : Kd.C (Kd.int .u8) w A1 l1.length l1) (hc1 : l1.length ≤ c1) (h : laws_FnForms.f k l0 l1 = some r) (hrT : r = true) :
 Calls Try.prog 7 #[.slice A0 l0.length c0, .slice A1 l1.length c1] w fun e w' => e = .returned (.bool r) ∧ Below w.heap.size w w' := by
 have hu26 := Try.underlying26
 have HR0 := Aside0.mk hr0
 have HC0 := Aside0.mk hc0
 clear hr0 hc0
 have HR1 := Aside0.mk hr1
 have HC1 := Aside0.mk hc1
 clear hr1 hc1
 have HB := Aside0.mk (Below.refl w.heap.size w)
 have H : ((laws_big.f l0 l1).bind fun t538 => (if t538 = true then (some true) else ((spec_DrawProductAt.f k l0).bind fun bt539 => ((impl_ProductAt.f k bt539.1 bt539.2.1 bt539.2.2).bind fun bt549 => ((spec_ProductAt.f k bt539.1 bt539.2.1 bt539.2.2).bind fun bt551 => ((impl_ProductAt.f k bt539.1 bt539.2.2 bt539.2.1).bind fun bt553 => ((impl_FormAt.f k bt539.1 bt539.2.1).bind fun bt555 => ((impl_ProductAt.f k bt539.1 bt539.2.1 bt539.2.1).bind fun bt557 => (if (bt549.2 != bt551.2) = true then (laws_FnForms.j0 k l1 bt539.2.1 bt539.2.2 bt549.2 true bt539.1) else (if bt549.1 = bt551.1 then (if (bt553.2 != bt549.2) = true then (laws_FnForms.j0 k l1 bt539.2.1 bt539.2.2 bt549.2 true bt539.1) else (if bt549.2 = true then (if bt553.1 = bt549.1 then (if (bt555.2 != bt557.2) = true then (laws_FnForms.j0 k l1 bt539.2.1 bt539.2.2 bt549.2 true bt539.1) else (laws_FnForms.j0 k l1 bt539.2.1 bt539.2.2 bt549.2 (bt555.1 != bt557.1) bt539.1)) else (laws_FnForms.j0 k l1 bt539.2.1 bt539.2.2 bt549.2 true bt539.1)) else (if (bt555.2 != bt557.2) = true then (laws_FnForms.j0 k l1 bt539.2.1 bt539.2.2 bt549.2 true bt539.1) else (laws_FnForms.j0 k l1 bt539.2.1 bt539.2.2 bt549.2 (bt555.1 != bt557.1) bt539.1)))) else (laws_FnForms.j0 k l1 bt539.2.1 bt539.2.2 bt549.2 true bt539.1))))))))))) = some r := h
 clear h
 replace H := Option.bind_eq_some_iff.mp H
 obtain ⟨t538, A30, H⟩ := H
 replace H : (if t538 = true then (some true) else ((spec_DrawProductAt.f k l0).bind fun bt539 => ((impl_ProductAt.f k bt539.1 bt539.2.1 bt539.2.2).bind fun bt549 => ((spec_ProductAt.f k bt539.1 bt539.2.1 bt539.2.2).bind fun bt551 => ((impl_ProductAt.f k bt539.1 bt539.2.2 bt539.2.1).bind fun bt553 => ((impl_FormAt.f k bt539.1 bt539.2.1).bind fun bt555 => ((impl_ProductAt.f k bt539.1 bt539.2.1 bt539.2.1).bind fun bt557 => (if (bt549.2 != bt551.2) = true then (laws_FnForms.j0 k l1 bt539.2.1 bt539.2.2 bt549.2 true bt539.1) else (if bt549.1 = bt551.1 then (if (bt553.2 != bt549.2) = true then (laws_FnForms.j0 k l1 bt539.2.1 bt539.2.2 bt549.2 true bt539.1) else (if bt549.2 = true then (if bt553.1 = bt549.1 then (if (bt555.2 != bt557.2) = true then (laws_FnForms.j0 k l1 bt539.2.1 bt539.2.2 bt549.2 true bt539.1) else (laws_FnForms.j0 k l1 bt539.2.1 bt539.2.2 bt549.2 (bt555.1 != bt557.1) bt539.1)) else (laws_FnForms.j0 k l1 bt539.2.1 bt539.2.2 bt549.2 true bt539.1)) else (if (bt555.2 != bt557.2) = true then (laws_FnForms.j0 k l1 bt539.2.1 bt539.2.2 bt549.2 true bt539.1) else (laws_FnForms.j0 k l1 bt539.2.1 bt539.2.2 bt549.2 (bt555.1 != bt557.1) bt539.1)))) else (laws_FnForms.j0 k l1 bt539.2.1 bt539.2.2 bt549.2 true bt539.1)))))))))) = some r := H
 have A3 := Aside0.mk A30
 clear A30
 by_cases c4 : t538 = true
 ·
  subst c4
  have H1 : (some true) = some r := by rw [if_pos rfl] at H; exact H
  clear H
  have H := H1
  clear H1
  obtain rfl := Option.some.inj H
  go_enter Try.func7, Try.ntmps7
  go_wp2_with (first | ((with_reducible refine gate_callee (f := 27) rfl ?_); refine gL (some 42) rfl rfl Try.func27 (by kernel_rfl) rfl #[.slice A0 l0.length c0, .slice A1 l1.length c1] rfl ?_; (with_reducible refine (laws_big.calls _ _ l0 _ _ l1 true _ ?side1 ?side2 ?side3 ?side4 A3.out).mono ?_); (case side1 => exact cC HR0.out); (case side2 => exact HC0.out); (case side3 => exact cC HR1.out); (case side4 => exact HC1.out); rintro e w' ⟨rfl, ⟨nd, rfl⟩⟩; refine ⟨_, rfl, ?_⟩))
  go_ret
  exact ⟨e1, bq⟩
 ·
  as_aux_lemma =>
   replace c4 := Bool.eq_false_iff.mpr c4
   subst c4
   have H1 : ((spec_DrawProductAt.f k l0).bind fun bt539 => ((impl_ProductAt.f k bt539.1 bt539.2.1 bt539.2.2).bind fun bt549 => ((spec_ProductAt.f k bt539.1 bt539.2.1 bt539.2.2).bind fun bt551 => ((impl_ProductAt.f k bt539.1 bt539.2.2 bt539.2.1).bind fun bt553 => ((impl_FormAt.f k bt539.1 bt539.2.1).bind fun bt555 => ((impl_ProductAt.f k bt539.1 bt539.2.1 bt539.2.1).bind fun bt557 => (if (bt549.2 != bt551.2) = true then (laws_FnForms.j0 k l1 bt539.2.1 bt539.2.2 bt549.2 true bt539.1) else (if bt549.1 = bt551.1 then (if (bt553.2 != bt549.2) = true then (laws_FnForms.j0 k l1 bt539.2.1 bt539.2.2 bt549.2 true bt539.1) else (if bt549.2 = true then (if bt553.1 = bt549.1 then (if (bt555.2 != bt557.2) = true then (laws_FnForms.j0 k l1 bt539.2.1 bt539.2.2 bt549.2 true bt539.1) else (laws_FnForms.j0 k l1 bt539.2.1 bt539.2.2 bt549.2 (bt555.1 != bt557.1) bt539.1)) else (laws_FnForms.j0 k l1 bt539.2.1 bt539.2.2 bt549.2 true bt539.1)) else (if (bt555.2 != bt557.2) = true then (laws_FnForms.j0 k l1 bt539.2.1 bt539.2.2 bt549.2 true bt539.1) else (laws_FnForms.j0 k l1 bt539.2.1 bt539.2.2 bt549.2 (bt555.1 != bt557.1) bt539.1)))) else (laws_FnForms.j0 k l1 bt539.2.1 bt539.2.2 bt549.2 true bt539.1))))))))) = some r := by rw [if_neg (show ¬ (false = true) by decide)] at H; exact H
   clear H
   have H := H1
   clear H1
   replace H := Option.bind_eq_some_iff.mp H
   obtain ⟨⟨t539, t542, t545⟩, A50, H⟩ := H
   replace H : ((impl_ProductAt.f k t539 t542 t545).bind fun bt549 => ((spec_ProductAt.f k t539 t542 t545).bind fun bt551 => ((impl_ProductAt.f k t539 t545 t542).bind fun bt553 => ((impl_FormAt.f k t539 t542).bind fun bt555 => ((impl_ProductAt.f k t539 t542 t542).bind fun bt557 => (if (bt549.2 != bt551.2) = true then (laws_FnForms.j0 k l1 t542 t545 bt549.2 true t539) else (if bt549.1 = bt551.1 then (if (bt553.2 != bt549.2) = true then (laws_FnForms.j0 k l1 t542 t545 bt549.2 true t539) else (if bt549.2 = true then (if bt553.1 = bt549.1 then (if (bt555.2 != bt557.2) = true then (laws_FnForms.j0 k l1 t542 t545 bt549.2 true t539) else (laws_FnForms.j0 k l1 t542 t545 bt549.2 (bt555.1 != bt557.1) t539)) else (laws_FnForms.j0 k l1 t542 t545 bt549.2 true t539)) else (if (bt555.2 != bt557.2) = true then (laws_FnForms.j0 k l1 t542 t545 bt549.2 true t539) else (laws_FnForms.j0 k l1 t542 t545 bt549.2 (bt555.1 != bt557.1) t539)))) else (laws_FnForms.j0 k l1 t542 t545 bt549.2 true t539)))))))) = some r := H
   have A5 := Aside0.mk A50
   clear A50
   replace H := Option.bind_eq_some_iff.mp H
   obtain ⟨⟨t549, t550⟩, A60, H⟩ := H
   replace H : ((spec_ProductAt.f k t539 t542 t545).bind fun bt551 => ((impl_ProductAt.f k t539 t545 t542).bind fun bt553 => ((impl_FormAt.f k t539 t542).bind fun bt555 => ((impl_ProductAt.f k t539 t542 t542).bind fun bt557 => (if (t550 != bt551.2) = true then (laws_FnForms.j0 k l1 t542 t545 t550 true t539) else (if t549 = bt551.1 then (if (bt553.2 != t550) = true then (laws_FnForms.j0 k l1 t542 t545 t550 true t539) else (if t550 = true then (if bt553.1 = t549 then (if (bt555.2 != bt557.2) = true then (laws_FnForms.j0 k l1 t542 t545 t550 true t539) else (laws_FnForms.j0 k l1 t542 t545 t550 (bt555.1 != bt557.1) t539)) else (laws_FnForms.j0 k l1 t542 t545 t550 true t539)) else (if (bt555.2 != bt557.2) = true then (laws_FnForms.j0 k l1 t542 t545 t550 true t539) else (laws_FnForms.j0 k l1 t542 t545 t550 (bt555.1 != bt557.1) t539)))) else (laws_FnForms.j0 k l1 t542 t545 t550 true t539))))))) = some r := H
   have A6 := Aside0.mk A60
   clear A60
   replace H := Option.bind_eq_some_iff.mp H
   obtain ⟨⟨t551, t552⟩, A70, H⟩ := H
   replace H : ((impl_ProductAt.f k t539 t545 t542).bind fun bt553 => ((impl_FormAt.f k t539 t542).bind fun bt555 => ((impl_ProductAt.f k t539 t542 t542).bind fun bt557 => (if (t550 != t552) = true then (laws_FnForms.j0 k l1 t542 t545 t550 true t539) else (if t549 = t551 then (if (bt553.2 != t550) = true then (laws_FnForms.j0 k l1 t542 t545 t550 true t539) else (if t550 = true then (if bt553.1 = t549 then (if (bt555.2 != bt557.2) = true then (laws_FnForms.j0 k l1 t542 t545 t550 true t539) else (laws_FnForms.j0 k l1 t542 t545 t550 (bt555.1 != bt557.1) t539)) else (laws_FnForms.j0 k l1 t542 t545 t550 true t539)) else (if (bt555.2 != bt557.2) = true then (laws_FnForms.j0 k l1 t542 t545 t550 true t539) else (laws_FnForms.j0 k l1 t542 t545 t550 (bt555.1 != bt557.1) t539)))) else (laws_FnForms.j0 k l1 t542 t545 t550 true t539)))))) = some r := H
   have A7 := Aside0.mk A70
   clear A70
   replace H := Option.bind_eq_some_iff.mp H
   obtain ⟨⟨t553, t554⟩, A80, H⟩ := H
   replace H : ((impl_FormAt.f k t539 t542).bind fun bt555 => ((impl_ProductAt.f k t539 t542 t542).bind fun bt557 => (if (t550 != t552) = true then (laws_FnForms.j0 k l1 t542 t545 t550 true t539) else (if t549 = t551 then (if (t554 != t550) = true then (laws_FnForms.j0 k l1 t542 t545 t550 true t539) else (if t550 = true then (if t553 = t549 then (if (bt555.2 != bt557.2) = true then (laws_FnForms.j0 k l1 t542 t545 t550 true t539) else (laws_FnForms.j0 k l1 t542 t545 t550 (bt555.1 != bt557.1) t539)) else (laws_FnForms.j0 k l1 t542 t545 t550 true t539)) else (if (bt555.2 != bt557.2) = true then (laws_FnForms.j0 k l1 t542 t545 t550 true t539) else (laws_FnForms.j0 k l1 t542 t545 t550 (bt555.1 != bt557.1) t539)))) else (laws_FnForms.j0 k l1 t542 t545 t550 true t539))))) = some r := H
   have A8 := Aside0.mk A80
   clear A80
   replace H := Option.bind_eq_some_iff.mp H
   obtain ⟨⟨t555, t556⟩, A90, H⟩ := H
   replace H : ((impl_ProductAt.f k t539 t542 t542).bind fun bt557 => (if (t550 != t552) = true then (laws_FnForms.j0 k l1 t542 t545 t550 true t539) else (if t549 = t551 then (if (t554 != t550) = true then (laws_FnForms.j0 k l1 t542 t545 t550 true t539) else (if t550 = true then (if t553 = t549 then (if (t556 != bt557.2) = true then (laws_FnForms.j0 k l1 t542 t545 t550 true t539) else (laws_FnForms.j0 k l1 t542 t545 t550 (t555 != bt557.1) t539)) else (laws_FnForms.j0 k l1 t542 t545 t550 true t539)) else (if (t556 != bt557.2) = true then (laws_FnForms.j0 k l1 t542 t545 t550 true t539) else (laws_FnForms.j0 k l1 t542 t545 t550 (t555 != bt557.1) t539)))) else (laws_FnForms.j0 k l1 t542 t545 t550 true t539)))) = some r := H
   have A9 := Aside0.mk A90
   clear A90
   replace H := Option.bind_eq_some_iff.mp H
   obtain ⟨⟨t557, t558⟩, A100, H⟩ := H
   replace H : (if (t550 != t552) = true then (laws_FnForms.j0 k l1 t542 t545 t550 true t539) else (if t549 = t551 then (if (t554 != t550) = true then (laws_FnForms.j0 k l1 t542 t545 t550 true t539) else (if t550 = true then (if t553 = t549 then (if (t556 != t558) = true then (laws_FnForms.j0 k l1 t542 t545 t550 true t539) else (laws_FnForms.j0 k l1 t542 t545 t550 (t555 != t557) t539)) else (laws_FnForms.j0 k l1 t542 t545 t550 true t539)) else (if (t556 != t558) = true then (laws_FnForms.j0 k l1 t542 t545 t550 true t539) else (laws_FnForms.j0 k l1 t542 t545 t550 (t555 != t557) t539)))) else (laws_FnForms.j0 k l1 t542 t545 t550 true t539))) = some r := H
   have A10 := Aside0.mk A100
   clear A100
   have HC11 := Aside0.mk H
   clear H
   go_enter Try.func7, Try.ntmps7
   go_upto_region 9 with (first | ((with_reducible refine gate_callee (f := 27) rfl ?_); refine gL (some 42) rfl rfl Try.func27 (by kernel_rfl) rfl #[.slice A0 l0.length c0, .slice A1 l1.length c1] rfl ?_; (with_reducible refine (laws_big.calls _ _ l0 _ _ l1 false _ ?side1 ?side2 ?side3 ?side4 A3.out).mono ?_); (case side1 => exact cC HR0.out); (case side2 => exact HC0.out); (case side3 => exact cC HR1.out); (case side4 => exact HC1.out); rintro e w' ⟨rfl, ⟨nd, rfl⟩⟩; refine ⟨_, rfl, ?_⟩) | ((with_reducible refine gate_callee (f := 42) rfl ?_); refine gL (some 45) rfl rfl Try.func42 (by kernel_rfl) rfl #[.slice A0 l0.length c0] rfl ?_; (with_reducible refine (spec_DrawProductAt.calls k _ _ l0 t539 t542 t545 _ ?side1 ?side2 A5.out).mono ?_); (case side1 => exact cC HR0.out); (case side2 => exact HC0.out); rintro e w12 ⟨v540, v543, v546, rfl, ho0, ho1, ho2, hb⟩; refine ⟨_, rfl, ?_⟩; have n0_ := Aside0.mk (Kd.V_lower (Kd.V_mono (ok' := fun k_ => some k_ ≠ (v543 : Value).ownBlock ∧ some k_ ≠ (v546 : Value).ownBlock) ho0 (fun k_ hk_ => ⟨hk_.2.1, hk_.2.2⟩)) (below_size bq)); have n1_ := Aside0.mk (Kd.R_lower (Kd.R_mono (ok' := fun k_ => some k_ ≠ (v546 : Value).ownBlock) ho1 (fun _ hk_ => hk_.2)) (below_size bq)); have n2_ := Aside0.mk (Kd.R_lower (Kd.R_mono (ok' := fun k_ => some k_ ≠ (v543 : Value).ownBlock) ho2 (fun _ hk_ => hk_.2)) (below_size bq)); have n3_ := Aside0.mk (below_step bq hb); clear HB; have HO541 := n0_; have HO544 := n1_; have HO547 := n2_; have HB := n3_; clear n0_ n1_ n2_ n3_; (try clear hb); (try clear hb2); (try clear hk); (try clear hi); (try clear ho0); (try clear ho1); (try clear ho2)) | ((with_reducible refine gate_dst (N := 5) rfl ?_); (try (refine gate_guard (by rfl) ?_; dsimp only)); refine box_event ?hg (N := 5) ?hd (cs := #[.slice none 0 0]) (t := 26) ?hr ?_; (case hd => rfl); (case hg => rfl); (case hr => exact z116_); intro gb548 hg w13 hbox hb; have n0_ := Aside0.mk (Kd.V_below (Kd.V_elderB z107_ gb548 (Nat.le_of_eq hg.symm)) hb); have n1_ := Aside0.mk (Kd.R_below (rA HO544) hb); have n2_ := Aside0.mk (Kd.R_below (rA HO547) hb); have n3_ := Aside0.mk (below_step bq hb); have n4_ := Aside0.mk (hbox); have n5_ := Aside0.mk ((by rw [hg]; exact (below_size bq) : w.heap.size ≤ gb548)); have n6_ := Aside0.mk ((by rw [hg]; exact (below_size bq) : w.heap.size ≤ gb548)); clear HO541; clear HO544; clear HO547; clear HB; have HO541 := n0_; have HO544 := n1_; have HO547 := n2_; have HB := n3_; have BK548 := n4_; have GW548 := n5_; have GE548 := n6_; clear n0_ n1_ n2_ n3_ n4_ n5_ n6_; clear hb hbox hg; obtain ⟨Ao14, co14, eo14⟩ := Kd.V_slice HO541.out; subst eo14; have hcz15_0 : w13.cell? ⟨gb548, 0, none⟩ = some (.slice none 0 0) := (blk_cell BK548.out 0).trans rfl; have hfz15_0 := blk_frozen BK548.out 0; obtain ⟨Ao16, co16, eo16⟩ := Kd.R_slice HO544.out; subst eo16; obtain ⟨Ao17, co17, eo17⟩ := Kd.R_slice HO547.out; subst eo17) | ((with_reducible refine gate_callee (f := 43) rfl ?_); refine gL (some 53) rfl rfl Try.func43 (by kernel_rfl) rfl #[.agg #[.slice Ao14 t539.length co14], .slice Ao16 t542.length co16, .slice Ao17 t545.length co17] rfl ?_; (with_reducible refine (impl_ProductAt.calls k _ _ t539 _ _ t542 _ _ t545 t549 t550 _ ?side1 ?side2 ?side3 ?side4 ?side5 ?side6 A6.out).mono ?_); (case side1 => refine (Kd.V_reads' (e := 34) (base := w.heap.size) (ok := fun k_ => ((some k_ ≠ (.slice Ao16 t542.length co16 : Value).ownBlock ∧ some k_ ≠ (.slice Ao17 t545.length co17 : Value).ownBlock) ∧ k_ ≠ gb548)) (n := t539.length) (c := co14) ?_).2.2; exact z13_); (case side2 => exact (Kd.V_reads' HO541.out).2.1); (case side3 => refine (Kd.R_reads' (e := 3) (base := w.heap.size) (ok := fun k_ => some k_ ≠ (.slice Ao17 t545.length co17 : Value).ownBlock) (n := t542.length) (c := co16) ?_).2.2; exact z25_); (case side4 => exact (Kd.R_reads' HO544.out).2.1); (case side5 => refine (Kd.R_reads' (e := 3) (base := w.heap.size) (ok := fun k_ => some k_ ≠ (.slice Ao16 t542.length co16 : Value).ownBlock) (n := t545.length) (c := co17) ?_).2.2; exact z24_); (case side6 => exact (Kd.R_reads' HO547.out).2.1); rintro e w18 ⟨rfl, hb⟩; refine ⟨_, rfl, ?_⟩; have n0_ := Aside0.mk (Kd.V_below z13_ hb); have n1_ := Aside0.mk (Kd.R_below z25_ hb); have n2_ := Aside0.mk (Kd.R_below z24_ hb); have n3_ := Aside0.mk (blk_below (g := gb548) (o := .cells #[.slice Ao14 t539.length co14] 26 (0, 0)) (by (with_reducible repeat (first | refine blk_drewN ?_ _ | refine blk_drew ?_ | refine blk_alloc ?_ _)); refine blk_put (cs := #[.slice none 0 0]) ?_ 0 _ rfl; (with_reducible repeat (first | refine blk_drewN ?_ _ | refine blk_drew ?_ | refine blk_alloc ?_ _)); exact BK548.out) hb); have n4_ := Aside0.mk (below_step (kB HB) hb); clear HO541; clear HO544; clear HO547; clear BK548; clear HB; have HO541 := n0_; have HO544 := n1_; have HO547 := n2_; have BK548 := n3_; have HB := n4_; clear n0_ n1_ n2_ n3_ n4_; (try clear hb); (try clear hb2); (try clear hk); (try clear hi); have hcz19_0 : w18.cell? ⟨gb548, 0, none⟩ = some (.slice Ao14 t539.length co14) := (blk_cell BK548.out 0).trans rfl; have hfz19_0 := blk_frozen BK548.out 0) | ((with_reducible refine gate_callee (f := 44) rfl ?_); refine gL (some 60) rfl rfl Try.func44 (by kernel_rfl) rfl #[.agg #[.slice Ao14 t539.length co14], .slice Ao16 t542.length co16, .slice Ao17 t545.length co17] rfl ?_; (with_reducible refine (spec_ProductAt.calls k _ _ t539 _ _ t542 _ _ t545 t551 t552 _ ?side1 ?side2 ?side3 ?side4 ?side5 ?side6 A7.out).mono ?_); (case side1 => repeat (first | exact (Kd.V_reads' HO541.out).2.2 | (with_reducible refine Kd.C_alloc ?_ _) | (with_reducible refine Kd.C_drewN ?_ _) | (with_reducible refine Kd.C_drew ?_))); (case side2 => exact (Kd.V_reads' HO541.out).2.1); (case side3 => exact cC (Kd.R_reads' HO544.out).2.2); (case side4 => exact (Kd.R_reads' HO544.out).2.1); (case side5 => exact cC (Kd.R_reads' HO547.out).2.2); (case side6 => exact (Kd.R_reads' HO547.out).2.1); rintro e w20 ⟨rfl, hb⟩; refine ⟨_, rfl, ?_⟩; have n0_ := Aside0.mk (Kd.V_below z107_ hb); have n1_ := Aside0.mk (Kd.R_below (rA HO544) hb); have n2_ := Aside0.mk (Kd.R_below (rA HO547) hb); have n3_ := Aside0.mk (kK BK548 hb); have n4_ := Aside0.mk (below_step (kB HB) hb); clear HO541; clear HO544; clear HO547; clear BK548; clear HB; have HO541 := n0_; have HO544 := n1_; have HO547 := n2_; have BK548 := n3_; have HB := n4_; clear n0_ n1_ n2_ n3_ n4_; (try clear hb); (try clear hb2); (try clear hk); (try clear hi); have hcz21_0 : w20.cell? ⟨gb548, 0, none⟩ = some (.slice Ao14 t539.length co14) := (blk_cell BK548.out 0).trans rfl; have hfz21_0 := blk_frozen BK548.out 0) | ((with_reducible refine gate_callee (f := 43) rfl ?_); refine gL (some 67) rfl rfl Try.func43 (by kernel_rfl) rfl #[.agg #[.slice Ao14 t539.length co14], .slice Ao17 t545.length co17, .slice Ao16 t542.length co16] rfl ?_; (with_reducible refine (impl_ProductAt.calls k _ _ t539 _ _ t545 _ _ t542 t553 t554 _ ?side1 ?side2 ?side3 ?side4 ?side5 ?side6 A8.out).mono ?_); (case side1 => repeat (first | exact (Kd.V_reads' HO541.out).2.2 | (with_reducible refine Kd.C_alloc ?_ _) | (with_reducible refine Kd.C_drewN ?_ _) | (with_reducible refine Kd.C_drew ?_))); (case side2 => exact (Kd.V_reads' HO541.out).2.1); (case side3 => exact cC (Kd.R_reads' HO547.out).2.2); (case side4 => exact (Kd.R_reads' HO547.out).2.1); (case side5 => exact cC (Kd.R_reads' HO544.out).2.2); (case side6 => exact (Kd.R_reads' HO544.out).2.1); rintro e w22 ⟨rfl, hb⟩; refine ⟨_, rfl, ?_⟩; have n0_ := Aside0.mk (Kd.V_below z107_ hb); have n1_ := Aside0.mk (Kd.R_below (rA HO544) hb); have n2_ := Aside0.mk (Kd.R_below (rA HO547) hb); have n3_ := Aside0.mk (kK BK548 hb); have n4_ := Aside0.mk (below_step (kB HB) hb); clear HO541; clear HO544; clear HO547; clear BK548; clear HB; have HO541 := n0_; have HO544 := n1_; have HO547 := n2_; have BK548 := n3_; have HB := n4_; clear n0_ n1_ n2_ n3_ n4_; (try clear hb); (try clear hb2); (try clear hk); (try clear hi); have hcz23_0 : w22.cell? ⟨gb548, 0, none⟩ = some (.slice Ao14 t539.length co14) := (blk_cell BK548.out 0).trans rfl; have hfz23_0 := blk_frozen BK548.out 0) | ((with_reducible refine gate_callee (f := 45) rfl ?_); refine gL (some 73) rfl rfl Try.func45 (by kernel_rfl) rfl #[.agg #[.slice Ao14 t539.length co14], .slice Ao16 t542.length co16] rfl ?_; (with_reducible refine (impl_FormAt.calls k _ _ t539 _ _ t542 t555 t556 _ ?side1 ?side2 ?side3 ?side4 A9.out).mono ?_); (case side1 => repeat (first | exact (Kd.V_reads' HO541.out).2.2 | (with_reducible refine Kd.C_alloc ?_ _) | (with_reducible refine Kd.C_drewN ?_ _) | (with_reducible refine Kd.C_drew ?_))); (case side2 => exact (Kd.V_reads' HO541.out).2.1); (case side3 => exact cC (Kd.R_reads' HO544.out).2.2); (case side4 => exact (Kd.R_reads' HO544.out).2.1); rintro e w24 ⟨rfl, hb⟩; refine ⟨_, rfl, ?_⟩; have n0_ := Aside0.mk (Kd.V_below z107_ hb); have n1_ := Aside0.mk (Kd.R_below (rA HO544) hb); have n2_ := Aside0.mk (Kd.R_below (rA HO547) hb); have n3_ := Aside0.mk (kK BK548 hb); have n4_ := Aside0.mk (below_step (kB HB) hb); clear HO541; clear HO544; clear HO547; clear BK548; clear HB; have HO541 := n0_; have HO544 := n1_; have HO547 := n2_; have BK548 := n3_; have HB := n4_; clear n0_ n1_ n2_ n3_ n4_; (try clear hb); (try clear hb2); (try clear hk); (try clear hi); have hcz25_0 : w24.cell? ⟨gb548, 0, none⟩ = some (.slice Ao14 t539.length co14) := (blk_cell BK548.out 0).trans rfl; have hfz25_0 := blk_frozen BK548.out 0) | ((with_reducible refine gate_callee (f := 43) rfl ?_); refine gL (some 80) rfl rfl Try.func43 (by kernel_rfl) rfl #[.agg #[.slice Ao14 t539.length co14], .slice Ao16 t542.length co16, .slice Ao16 t542.length co16] rfl ?_; (with_reducible refine (impl_ProductAt.calls k _ _ t539 _ _ t542 _ _ t542 t557 t558 _ ?side1 ?side2 ?side3 ?side4 ?side5 ?side6 A10.out).mono ?_); (case side1 => repeat (first | exact (Kd.V_reads' HO541.out).2.2 | (with_reducible refine Kd.C_alloc ?_ _) | (with_reducible refine Kd.C_drewN ?_ _) | (with_reducible refine Kd.C_drew ?_))); (case side2 => exact (Kd.V_reads' HO541.out).2.1); (case side3 => exact cC (Kd.R_reads' HO544.out).2.2); (case side4 => exact (Kd.R_reads' HO544.out).2.1); (case side5 => exact cC (Kd.R_reads' HO544.out).2.2); (case side6 => exact (Kd.R_reads' HO544.out).2.1); rintro e w26 ⟨rfl, hb⟩; refine ⟨_, rfl, ?_⟩; have n0_ := Aside0.mk (Kd.V_below z107_ hb); have n1_ := Aside0.mk (Kd.R_below (rA HO544) hb); have n2_ := Aside0.mk (Kd.R_below (rA HO547) hb); have n3_ := Aside0.mk (kK BK548 hb); have n4_ := Aside0.mk (below_step (kB HB) hb); clear HO541; clear HO544; clear HO547; clear BK548; clear HB; have HO541 := n0_; have HO544 := n1_; have HO547 := n2_; have BK548 := n3_; have HB := n4_; clear n0_ n1_ n2_ n3_ n4_; (try clear hb); (try clear hb2); (try clear hk); (try clear hi)))
   (try simp only [Act.put, List.setIfInBounds_toArray, List.set_cons_zero, List.set_cons_succ])
   go_cut [113] (fun v113 wc => ∃ (kq : Nat) (x113_10 : Bool), v113 = .bool x113_10 ∧ Aside0 (laws_FnForms.j0 kq l1 t542 t545 t550 x113_10 t539 = some r) ∧ Aside0 (kq ≤ k) ∧ Aside0 (Kd.R (Kd.int .i64) 3 wc w.heap.size (fun k_ => some k_ ≠ ((.slice Ao17 t545.length co17) : Value).ownBlock) (.slice Ao16 t542.length co16) t542) ∧ Aside0 (Kd.R (Kd.int .i64) 3 wc w.heap.size (fun k_ => some k_ ≠ ((.slice Ao16 t542.length co16) : Value).ownBlock) (.slice Ao17 t545.length co17) t545) ∧ Aside0 (Kd.V (Kd.slice 3 (Kd.int .i64)) 34 wc w.heap.size (fun k_ => some k_ ≠ ((.slice Ao16 t542.length co16) : Value).ownBlock ∧ some k_ ≠ ((.slice Ao17 t545.length co17) : Value).ownBlock ∧ k_ ≠ gb548) (.slice Ao14 t539.length co14) t539) ∧ Aside0 (wc.heap[gb548]? = some (.cells #[(.slice Ao14 t539.length co14)] 26 (0, 0))) ∧ Aside0 (Below w.heap.size w wc))
   case first =>
    as_aux_lemma =>
     have H := HC11.out
     clear HC11
     by_cases c27 : (t550 != t552) = true
     ·
      rw [if_pos c27] at H
      exact absurd (H.trans (congrArg some hrT)) (fun h_ => laws_FnForms.j0_no h_)
     ·
      rw [if_neg c27] at H
      have c27b0 : (t550 != t552) = false := by simpa using c27
      (try (have c27b1 : decide (t550 = t552) = true := by simpa using c27))
      (try (have c27b2 : (t550 == t552) = true := by simpa using c27))
      clear c27
      (first | rw [c27b0] | (simp only [i64_w, i32_w]; rw [c27b0]) | skip)
      by_cases c28 : t549 = t551
      ·
       rw [if_pos c28] at H
       have c28b0 : (t549 == t551) = true := beq_iff_eq.mpr c28
       have c28b1 : (t549 != t551) = false := bne_eq_false_iff_eq.mpr c28
       clear c28
       by_cases c29 : (t554 != t550) = true
       ·
        rw [if_pos c29] at H
        exact absurd (H.trans (congrArg some hrT)) (fun h_ => laws_FnForms.j0_no h_)
       ·
        rw [if_neg c29] at H
        have c29b0 : (t554 != t550) = false := by simpa using c29
        (try (have c29b1 : decide (t554 = t550) = true := by simpa using c29))
        (try (have c29b2 : (t554 == t550) = true := by simpa using c29))
        clear c29
        by_cases c30 : t550 = true
        ·
         subst c30
         have H1 : (if t553 = t549 then (if (t556 != t558) = true then (laws_FnForms.j0 k l1 t542 t545 true true t539) else (laws_FnForms.j0 k l1 t542 t545 true (t555 != t557) t539)) else (laws_FnForms.j0 k l1 t542 t545 true true t539)) = some r := by rw [if_pos rfl] at H; exact H
         clear H
         have H := H1
         clear H1
         by_cases c31 : t553 = t549
         ·
          rw [if_pos c31] at H
          have c31b0 : (t553 == t549) = true := beq_iff_eq.mpr c31
          have c31b1 : (t553 != t549) = false := bne_eq_false_iff_eq.mpr c31
          clear c31
          by_cases c32 : (t556 != t558) = true
          ·
           rw [if_pos c32] at H
           exact absurd (H.trans (congrArg some hrT)) (fun h_ => laws_FnForms.j0_no h_)
          ·
           rw [if_neg c32] at H
           have c32b0 : (t556 != t558) = false := by simpa using c32
           (try (have c32b1 : decide (t556 = t558) = true := by simpa using c32))
           (try (have c32b2 : (t556 == t558) = true := by simpa using c32))
           clear c32
           have H' := Aside0.mk H
           clear H
           go_wp2
           go_meet
           case rel => exact ⟨_, ((t555 != t557)), e2, H', ⟨z117_⟩, ⟨z106_⟩, ⟨z110_⟩, ⟨z57_⟩, ⟨z87_⟩, ⟨kB HB⟩⟩
         ·
          rw [if_neg c31] at H
          exact absurd (H.trans (congrArg some hrT)) (fun h_ => laws_FnForms.j0_no h_)
        ·
         replace c30 := Bool.eq_false_iff.mpr c30
         subst c30
         have H1 : (if (t556 != t558) = true then (laws_FnForms.j0 k l1 t542 t545 false true t539) else (laws_FnForms.j0 k l1 t542 t545 false (t555 != t557) t539)) = some r := by rw [if_neg (show ¬ (false = true) by decide)] at H; exact H
         clear H
         have H := H1
         clear H1
         by_cases c33 : (t556 != t558) = true
         ·
          rw [if_pos c33] at H
          exact absurd (H.trans (congrArg some hrT)) (fun h_ => laws_FnForms.j0_no h_)
         ·
          rw [if_neg c33] at H
          have c33b0 : (t556 != t558) = false := by simpa using c33
          (try (have c33b1 : decide (t556 = t558) = true := by simpa using c33))
          (try (have c33b2 : (t556 == t558) = true := by simpa using c33))
          clear c33
          have H' := Aside0.mk H
          clear H
          go_wp2
          go_meet
          case rel => exact ⟨_, ((t555 != t557)), e2, H', ⟨z117_⟩, ⟨z106_⟩, ⟨z110_⟩, ⟨z57_⟩, ⟨z87_⟩, ⟨kB HB⟩⟩
      ·
       rw [if_neg c28] at H
       exact absurd (H.trans (congrArg some hrT)) (fun h_ => laws_FnForms.j0_no h_)
   case rest =>
    as_aux_lemma =>
     clear HC11; (try clear c1); (try clear c2); (try clear p2); (try clear c3); (try clear c4); (try clear c7); (try clear c27); (try clear c27b0); (try clear c27b1); (try clear c27b2); (try clear c28); (try clear c28b0); (try clear c28b1); (try clear c29); (try clear c29b0); (try clear c29b1); (try clear c29b2); (try clear c30); (try clear c31); (try clear c31b0); (try clear c31b1); (try clear c32); (try clear c32b0); (try clear c32b1); (try clear c32b2); (try clear c33); (try clear c33b0); (try clear c33b1); (try clear c33b2); (try clear hcz15_0); (try clear hcz19_0); (try clear hcz21_0); (try clear hcz23_0); (try clear hcz25_0); (try clear hfz15_0); (try clear hfz19_0); (try clear hfz21_0); (try clear hfz23_0); (try clear hfz25_0)
     obtain ⟨kq, x113_10, rfl, HA, HJ10, HO_6, HO_7, HO_549000, BK548, HB⟩ := hcut
     cases kq with
     | zero => exact absurd HA.out (by simp [laws_FnForms.j0])
     | succ kj10 =>
      have H := HA.out
      clear HA
      simp only [laws_FnForms.j0] at H
      by_cases c34 : x113_10 = true
      ·
       subst c34
       have H1 : (some false) = some r := by rw [if_pos rfl] at H; exact H
       exact absurd (H1.trans (congrArg some hrT)) (by simp)
      ·
       as_aux_lemma =>
        replace c34 := Bool.eq_false_iff.mpr c34
        subst c34
        have H1 : ((impl_IsSymmetric.f t539).bind fun bt559 => (if t550 = true then (if bt559.2 = true then (laws_FnForms.j1 kj10 l1 t542 t545 t550 (!bt559.1)) else (laws_FnForms.j1 kj10 l1 t542 t545 t550 true)) else (laws_FnForms.j1 kj10 l1 t542 t545 t550 false))) = some r := by rw [if_neg (show ¬ (false = true) by decide)] at H; exact H
        clear H
        have H := H1
        clear H1
        replace H := Option.bind_eq_some_iff.mp H
        obtain ⟨⟨t559, t560⟩, A350, H⟩ := H
        replace H : (if t550 = true then (if t560 = true then (laws_FnForms.j1 kj10 l1 t542 t545 t550 (!t559)) else (laws_FnForms.j1 kj10 l1 t542 t545 t550 true)) else (laws_FnForms.j1 kj10 l1 t542 t545 t550 false)) = some r := H
        have A35 := Aside0.mk A350
        clear A350
        have HC36 := Aside0.mk H
        clear H
        have hcz37_0 : wc.cell? ⟨gb548, 0, none⟩ = some (.slice Ao14 t539.length co14) := (blk_cell BK548.out 0).trans rfl
        have hfz37_0 := blk_frozen BK548.out 0
        go_upto_region 12 with (first | ((with_reducible refine gate_callee (f := 46) rfl ?_); refine gL (some 116) rfl rfl Try.func46 (by kernel_rfl) rfl #[.agg #[.slice Ao14 t539.length co14]] rfl ?_; (with_reducible refine (impl_IsSymmetric.calls _ _ t539 t559 t560 _ ?side1 ?side2 A35.out).mono ?_); (case side1 => repeat (first | exact (Kd.V_reads' HO_549000.out).2.2 | (with_reducible refine Kd.C_alloc ?_ _) | (with_reducible refine Kd.C_drewN ?_ _) | (with_reducible refine Kd.C_drew ?_))); (case side2 => exact (Kd.V_reads' HO_549000.out).2.1); rintro e w38 ⟨rfl, hb⟩; refine ⟨_, rfl, ?_⟩; have n0_ := Aside0.mk (Kd.R_below (rA HO_6) hb); have n1_ := Aside0.mk (Kd.R_below (rA HO_7) hb); have n2_ := Aside0.mk (Kd.V_below z91_ hb); have n3_ := Aside0.mk (kK BK548 hb); have n4_ := Aside0.mk (below_step (kB HB) hb); clear HO_6; clear HO_7; clear HO_549000; clear BK548; clear HB; have HO_6 := n0_; have HO_7 := n1_; have HO_549000 := n2_; have BK548 := n3_; have HB := n4_; clear n0_ n1_ n2_ n3_ n4_; (try clear hb); (try clear hb2); (try clear hk); (try clear hi)))
        (try simp only [Act.put, List.setIfInBounds_toArray, List.set_cons_zero, List.set_cons_succ])
        go_cut [127] (fun v127 wc => ∃ (kq : Nat) (x127_35 : Bool), v127 = .bool x127_35 ∧ Aside0 (laws_FnForms.j1 kq l1 t542 t545 t550 x127_35 = some r) ∧ Aside0 (kq ≤ kj10) ∧ Aside0 (Kd.R (Kd.int .i64) 3 wc w.heap.size (fun k_ => some k_ ≠ ((.slice Ao17 t545.length co17) : Value).ownBlock) (.slice Ao16 t542.length co16) t542) ∧ Aside0 (Kd.R (Kd.int .i64) 3 wc w.heap.size (fun k_ => some k_ ≠ ((.slice Ao16 t542.length co16) : Value).ownBlock) (.slice Ao17 t545.length co17) t545) ∧ Aside0 (Kd.V (Kd.slice 3 (Kd.int .i64)) 34 wc w.heap.size (fun k_ => some k_ ≠ ((.slice Ao16 t542.length co16) : Value).ownBlock ∧ some k_ ≠ ((.slice Ao17 t545.length co17) : Value).ownBlock ∧ k_ ≠ gb548) (.slice Ao14 t539.length co14) t539) ∧ Aside0 (wc.heap[gb548]? = some (.cells #[(.slice Ao14 t539.length co14)] 26 (0, 0))) ∧ Aside0 (Below w.heap.size w wc))
        case first =>
         as_aux_lemma =>
          have H := HC36.out
          clear HC36
          by_cases c39 : t550 = true
          ·
           subst c39
           have H1 : (if t560 = true then (laws_FnForms.j1 kj10 l1 t542 t545 true (!t559)) else (laws_FnForms.j1 kj10 l1 t542 t545 true true)) = some r := by rw [if_pos rfl] at H; exact H
           clear H
           have H := H1
           clear H1
           by_cases c40 : t560 = true
           ·
            subst c40
            have H1 : (laws_FnForms.j1 kj10 l1 t542 t545 true (!t559)) = some r := by rw [if_pos rfl] at H; exact H
            clear H
            have H := H1
            clear H1
            have H' := Aside0.mk H
            clear H
            go_wp2
            go_meet
            case rel => exact ⟨_, (!t559), e2, H', ⟨by have := HJ10.out; first | omega | exact Nat.le_refl _⟩, ⟨z114_⟩, ⟨z113_⟩, ⟨z91_⟩, ⟨z87_⟩, ⟨kB HB⟩⟩
           ·
            replace c40 := Bool.eq_false_iff.mpr c40
            subst c40
            have H1 : (laws_FnForms.j1 kj10 l1 t542 t545 true true) = some r := by rw [if_neg (show ¬ (false = true) by decide)] at H; exact H
            exact absurd (H1.trans (congrArg some hrT)) (fun h_ => laws_FnForms.j1_no h_)
          ·
           replace c39 := Bool.eq_false_iff.mpr c39
           subst c39
           have H1 : (laws_FnForms.j1 kj10 l1 t542 t545 false false) = some r := by rw [if_neg (show ¬ (false = true) by decide)] at H; exact H
           clear H
           have H := H1
           clear H1
           have H' := Aside0.mk H
           clear H
           go_wp2
           go_meet
           case rel => exact ⟨_, (false), e2, H', ⟨by have := HJ10.out; first | omega | exact Nat.le_refl _⟩, ⟨z114_⟩, ⟨z113_⟩, ⟨z91_⟩, ⟨z87_⟩, ⟨kB HB⟩⟩
        case rest =>
         as_aux_lemma =>
          clear HC36; (try clear c1); (try clear c2); (try clear p2); (try clear c3); (try clear c4); (try clear c7); (try clear c27); (try clear c27b0); (try clear c27b1); (try clear c27b2); (try clear c28); (try clear c28b0); (try clear c28b1); (try clear c29); (try clear c29b0); (try clear c29b1); (try clear c29b2); (try clear c30); (try clear c31); (try clear c31b0); (try clear c31b1); (try clear c32); (try clear c32b0); (try clear c32b1); (try clear c32b2); (try clear c33); (try clear c33b0); (try clear c33b1); (try clear c33b2); (try clear c34); (try clear c39); (try clear c40); (try clear hcz15_0); (try clear hcz19_0); (try clear hcz21_0); (try clear hcz23_0); (try clear hcz25_0); (try clear hcz37_0); (try clear hfz15_0); (try clear hfz19_0); (try clear hfz21_0); (try clear hfz23_0); (try clear hfz25_0); (try clear hfz37_0); (try clear p2)
          obtain ⟨kq, x127_35, rfl, HA, HJ35, HO_6, HO_7, HO_549000, BK548, HB⟩ := hcut
          cases kq with
          | zero => exact absurd HA.out (by simp [laws_FnForms.j1])
          | succ kj35 =>
           have H := HA.out
           clear HA
           simp only [laws_FnForms.j1] at H
           by_cases c41 : x127_35 = true
           ·
            subst c41
            have H1 : (some false) = some r := by rw [if_pos rfl] at H; exact H
            exact absurd (H1.trans (congrArg some hrT)) (by simp)
           ·
            as_aux_lemma =>
             replace c41 := Bool.eq_false_iff.mpr c41
             subst c41
             have H1 : ((spec_DrawKeepsForm.f kj35 l1).bind fun bt561 => ((impl_KeepsForm.f kj35 bt561.1 bt561.2).bind fun bt569 => ((spec_KeepsForm.f kj35 bt561.1 bt561.2).bind fun bt571 => (if (bt569.2 != bt571.2) = true then (laws_FnForms.j2 kj35 l1 t542 t545 t550 bt569.1 true bt561.1 bt561.2) else (laws_FnForms.j2 kj35 l1 t542 t545 t550 bt569.1 (bt569.1 != bt571.1) bt561.1 bt561.2))))) = some r := by rw [if_neg (show ¬ (false = true) by decide)] at H; exact H
             clear H
             have H := H1
             clear H1
             replace H := Option.bind_eq_some_iff.mp H
             obtain ⟨⟨t561, t564⟩, A420, H⟩ := H
             replace H : ((impl_KeepsForm.f kj35 t561 t564).bind fun bt569 => ((spec_KeepsForm.f kj35 t561 t564).bind fun bt571 => (if (bt569.2 != bt571.2) = true then (laws_FnForms.j2 kj35 l1 t542 t545 t550 bt569.1 true t561 t564) else (laws_FnForms.j2 kj35 l1 t542 t545 t550 bt569.1 (bt569.1 != bt571.1) t561 t564)))) = some r := H
             have A42 := Aside0.mk A420
             clear A420
             replace H := Option.bind_eq_some_iff.mp H
             obtain ⟨⟨t569, t570⟩, A430, H⟩ := H
             replace H : ((spec_KeepsForm.f kj35 t561 t564).bind fun bt571 => (if (t570 != bt571.2) = true then (laws_FnForms.j2 kj35 l1 t542 t545 t550 t569 true t561 t564) else (laws_FnForms.j2 kj35 l1 t542 t545 t550 t569 (t569 != bt571.1) t561 t564))) = some r := H
             have A43 := Aside0.mk A430
             clear A430
             replace H := Option.bind_eq_some_iff.mp H
             obtain ⟨⟨t571, t572⟩, A440, H⟩ := H
             replace H : (if (t570 != t572) = true then (laws_FnForms.j2 kj35 l1 t542 t545 t550 t569 true t561 t564) else (laws_FnForms.j2 kj35 l1 t542 t545 t550 t569 (t569 != t571) t561 t564)) = some r := H
             have A44 := Aside0.mk A440
             clear A440
             have HC45 := Aside0.mk H
             clear H
             go_upto_region 17 with (first | ((with_reducible refine gate_callee (f := 47) rfl ?_); refine gL (some 130) rfl rfl Try.func47 (by kernel_rfl) rfl #[.slice A1 l1.length c1] rfl ?_; (with_reducible refine (spec_DrawKeepsForm.calls kj35 _ _ l1 t561 t564 _ ?side1 ?side2 A42.out).mono ?_); (case side1 => exact cC (Kd.C_below HR1.out HB.out)); (case side2 => exact HC1.out); rintro e w46 ⟨v562, v565, rfl, ho0, ho1, hb⟩; refine ⟨_, rfl, ?_⟩; have n0_ := Aside0.mk (Kd.R_below (rA HO_6) hb); have n1_ := Aside0.mk (Kd.R_below (rA HO_7) hb); have n2_ := Aside0.mk (Kd.V_below z91_ hb); have n3_ := Aside0.mk (Kd.V_lower (Kd.V_mono (ok' := fun k_ => some k_ ≠ (.slice Ao16 t542.length co16 : Value).ownBlock ∧ some k_ ≠ (.slice Ao17 t545.length co17 : Value).ownBlock ∧ k_ ≠ gb548) ho0 (fun k_ hk_ => ⟨(Kd.fresh' (Kd.R_lt (rA HO_6)) k_ hk_), (Kd.fresh' (Kd.R_lt (rA HO_7)) k_ hk_), (Kd.freshB (g := gb548) (o := .cells #[.slice Ao14 t539.length co14] 26 (0, 0)) (bA BK548) k_ hk_)⟩)) (below_size (kB HB))); have n4_ := Aside0.mk (Kd.V_lower (Kd.V_mono (ok' := fun k_ => some k_ ≠ (.slice Ao16 t542.length co16 : Value).ownBlock ∧ some k_ ≠ (.slice Ao17 t545.length co17 : Value).ownBlock ∧ k_ ≠ gb548) ho1 (fun k_ hk_ => ⟨(Kd.fresh' (Kd.R_lt (rA HO_6)) k_ hk_), (Kd.fresh' (Kd.R_lt (rA HO_7)) k_ hk_), (Kd.freshB (g := gb548) (o := .cells #[.slice Ao14 t539.length co14] 26 (0, 0)) (bA BK548) k_ hk_)⟩)) (below_size (kB HB))); have n5_ := Aside0.mk (kK BK548 hb); have n6_ := Aside0.mk (below_step (kB HB) hb); clear HO_6; clear HO_7; clear HO_549000; clear BK548; clear HB; have HO_6 := n0_; have HO_7 := n1_; have HO_549000 := n2_; have HO563 := n3_; have HO566 := n4_; have BK548 := n5_; have HB := n6_; clear n0_ n1_ n2_ n3_ n4_ n5_ n6_; (try clear hb); (try clear hb2); (try clear hk); (try clear hi); (try clear ho0); (try clear ho1)) | ((with_reducible refine gate_dst (N := 20) rfl ?_); (try (refine gate_guard (by rfl) ?_; dsimp only)); refine box_event ?hg (N := 20) ?hd (cs := #[.slice none 0 0]) (t := 26) ?hr ?_; (case hd => rfl); (case hg => rfl); (case hr => exact z116_); intro gb567 hg w47 hbox hb; have n0_ := Aside0.mk (Kd.R_below (rA HO_6) hb); have n1_ := Aside0.mk (Kd.R_below (rA HO_7) hb); have n2_ := Aside0.mk (Kd.V_below (Kd.V_elderB z91_ gb567 (Nat.le_of_eq hg.symm)) hb); have n3_ := Aside0.mk (Kd.V_below (Kd.V_elderB z102_ gb567 (Nat.le_of_eq hg.symm)) hb); have n4_ := Aside0.mk (Kd.V_below (Kd.V_elderB z109_ gb567 (Nat.le_of_eq hg.symm)) hb); have n5_ := Aside0.mk (kK BK548 hb); have n6_ := Aside0.mk (below_step (kB HB) hb); have n7_ := Aside0.mk (hbox); have n8_ := Aside0.mk ((by rw [hg]; exact (below_size (kB HB)) : w.heap.size ≤ gb567)); have n9_ := Aside0.mk ((by rw [hg]; exact (below_size (kB HB)) : w.heap.size ≤ gb567)); have n10_ := Aside0.mk ((by rw [hg]; exact Nat.ne_of_lt (blk_lt (g := gb548) (o := .cells #[.slice Ao14 t539.length co14] 26 (0, 0)) (bA BK548)) : gb548 ≠ gb567)); have n11_ := Aside0.mk ((by rw [hg]; exact Nat.ne_of_gt (blk_lt (g := gb548) (o := .cells #[.slice Ao14 t539.length co14] 26 (0, 0)) (bA BK548)) : gb567 ≠ gb548)); clear HO_6; clear HO_7; clear HO_549000; clear HO563; clear HO566; clear BK548; clear HB; have HO_6 := n0_; have HO_7 := n1_; have HO_549000 := n2_; have HO563 := n3_; have HO566 := n4_; have BK548 := n5_; have HB := n6_; have BK567 := n7_; have GW567 := n8_; have GE567 := n9_; have NB548_567 := n10_; have NB567_548 := n11_; clear n0_ n1_ n2_ n3_ n4_ n5_ n6_ n7_ n8_ n9_ n10_ n11_; clear hb hbox hg) | ((with_reducible refine gate_dst (N := 21) rfl ?_); (try (refine gate_guard (by rfl) ?_; dsimp only)); refine box_event ?hg (N := 21) ?hd (cs := #[.slice none 0 0]) (t := 26) ?hr ?_; (case hd => rfl); (case hg => rfl); (case hr => exact z116_); intro gb568 hg w48 hbox hb; have n0_ := Aside0.mk (Kd.R_below (rA HO_6) hb); have n1_ := Aside0.mk (Kd.R_below (rA HO_7) hb); have n2_ := Aside0.mk (Kd.V_below (Kd.V_elderB z91_ gb568 (Nat.le_of_eq hg.symm)) hb); have n3_ := Aside0.mk (Kd.V_below (Kd.V_elderB z102_ gb568 (Nat.le_of_eq hg.symm)) hb); have n4_ := Aside0.mk (Kd.V_below (Kd.V_elderB z109_ gb568 (Nat.le_of_eq hg.symm)) hb); have n5_ := Aside0.mk (kK BK548 hb); have n6_ := Aside0.mk (kK BK567 hb); have n7_ := Aside0.mk (below_step (kB HB) hb); have n8_ := Aside0.mk (hbox); have n9_ := Aside0.mk ((by rw [hg]; exact (below_size (kB HB)) : w.heap.size ≤ gb568)); have n10_ := Aside0.mk ((by rw [hg]; exact (below_size (kB HB)) : w.heap.size ≤ gb568)); have n11_ := Aside0.mk ((by rw [hg]; exact Nat.ne_of_lt (blk_lt (g := gb548) (o := .cells #[.slice Ao14 t539.length co14] 26 (0, 0)) (bA BK548)) : gb548 ≠ gb568)); have n12_ := Aside0.mk ((by rw [hg]; exact Nat.ne_of_gt (blk_lt (g := gb548) (o := .cells #[.slice Ao14 t539.length co14] 26 (0, 0)) (bA BK548)) : gb568 ≠ gb548)); have n13_ := Aside0.mk ((by rw [hg]; exact Nat.ne_of_lt (blk_lt (g := gb567) (o := .cells #[.slice none 0 0] 26 (0, 0)) (bA BK567)) : gb567 ≠ gb568)); have n14_ := Aside0.mk ((by rw [hg]; exact Nat.ne_of_gt (blk_lt (g := gb567) (o := .cells #[.slice none 0 0] 26 (0, 0)) (bA BK567)) : gb568 ≠ gb567)); clear HO_6; clear HO_7; clear HO_549000; clear HO563; clear HO566; clear BK548; clear BK567; clear HB; have HO_6 := n0_; have HO_7 := n1_; have HO_549000 := n2_; have HO563 := n3_; have HO566 := n4_; have BK548 := n5_; have BK567 := n6_; have HB := n7_; have BK568 := n8_; have GW568 := n9_; have GE568 := n10_; have NB548_568 := n11_; have NB568_548 := n12_; have NB567_568 := n13_; have NB568_567 := n14_; clear n0_ n1_ n2_ n3_ n4_ n5_ n6_ n7_ n8_ n9_ n10_ n11_ n12_ n13_ n14_; clear hb hbox hg; obtain ⟨Ao49, co49, eo49⟩ := Kd.V_slice HO563.out; subst eo49; have hnb50 := NB567_548.out; have hnc50 := NB548_567.out; have hnb51 := NB567_568.out; have hnc51 := NB568_567.out; have hcz52_0 : w48.cell? ⟨gb567, 0, none⟩ = some (.slice none 0 0) := (blk_cell BK567.out 0).trans rfl; have hfz52_0 := blk_frozen BK567.out 0; obtain ⟨Ao53, co53, eo53⟩ := Kd.V_slice HO566.out; subst eo53; have hnb54 := NB568_548.out; have hnc54 := NB548_568.out; have hcz55_0 : w48.cell? ⟨gb568, 0, none⟩ = some (.slice none 0 0) := (blk_cell BK568.out 0).trans rfl; have hfz55_0 := blk_frozen BK568.out 0) | ((with_reducible refine gate_callee (f := 48) rfl ?_); refine gL (some 136) rfl rfl Try.func48 (by kernel_rfl) rfl #[.agg #[.slice Ao49 t561.length co49], .agg #[.slice Ao53 t564.length co53]] rfl ?_; (with_reducible refine (impl_KeepsForm.calls kj35 _ _ t561 _ _ t564 t569 t570 _ ?side1 ?side2 ?side3 ?side4 A43.out).mono ?_); (case side1 => refine (Kd.V_reads' (e := 34) (base := w.heap.size) (ok := fun k_ => (((some k_ ≠ (.slice Ao16 t542.length co16 : Value).ownBlock ∧ (some k_ ≠ (.slice Ao17 t545.length co17 : Value).ownBlock ∧ k_ ≠ gb548)) ∧ k_ ≠ gb567) ∧ k_ ≠ gb568)) (n := t561.length) (c := co49) ?_).2.2; exact z1_); (case side2 => exact (Kd.V_reads' HO563.out).2.1); (case side3 => refine (Kd.V_reads' (e := 34) (base := w.heap.size) (ok := fun k_ => (((some k_ ≠ (.slice Ao16 t542.length co16 : Value).ownBlock ∧ (some k_ ≠ (.slice Ao17 t545.length co17 : Value).ownBlock ∧ k_ ≠ gb548)) ∧ k_ ≠ gb567) ∧ k_ ≠ gb568)) (n := t564.length) (c := co53) ?_).2.2; exact z2_); (case side4 => exact (Kd.V_reads' HO566.out).2.1); rintro e w56 ⟨rfl, hb⟩; refine ⟨_, rfl, ?_⟩; have n0_ := Aside0.mk (Kd.R_below (by (with_reducible repeat (first | apply Kd.R_alloc | apply Kd.R_drewN | apply Kd.R_drew)); exact (Kd.R_mono (Kd.R_mono (Kd.R_far (p := ⟨gb568, 0, none⟩) (Kd.R_far (p := ⟨gb567, 0, none⟩) (Kd.R_types (Kd.R_types HO_6.out BK567.out (by decide)) BK568.out (by decide)) (fun _ hk => hk.1.2) (.slice Ao49 t561.length co49)) (fun _ hk => hk.2) (.slice Ao53 t564.length co53)) (fun _ h_ => h_.1)) (fun _ h_ => h_.1))) hb); have n1_ := Aside0.mk (Kd.R_below (by (with_reducible repeat (first | apply Kd.R_alloc | apply Kd.R_drewN | apply Kd.R_drew)); exact (Kd.R_mono (Kd.R_mono (Kd.R_far (p := ⟨gb568, 0, none⟩) (Kd.R_far (p := ⟨gb567, 0, none⟩) (Kd.R_types (Kd.R_types HO_7.out BK567.out (by decide)) BK568.out (by decide)) (fun _ hk => hk.1.2) (.slice Ao49 t561.length co49)) (fun _ hk => hk.2) (.slice Ao53 t564.length co53)) (fun _ h_ => h_.1)) (fun _ h_ => h_.1))) hb); have n2_ := Aside0.mk (Kd.V_below (by (with_reducible repeat (first | apply Kd.V_alloc | apply Kd.V_drewN | apply Kd.V_drew)); exact (Kd.V_mono (Kd.V_mono (Kd.V_far (p := ⟨gb568, 0, none⟩) (Kd.V_far (p := ⟨gb567, 0, none⟩) (Kd.V_mono (Kd.V_mono HO_549000.out (fun k_ hk => (⟨hk, hk.1.2⟩ : _ ∧ k_ ≠ gb567))) (fun k_ hk => (⟨hk, hk.1.2⟩ : _ ∧ k_ ≠ gb568))) (fun _ hk => hk.1.2) (.slice Ao49 t561.length co49)) (fun _ hk => hk.2) (.slice Ao53 t564.length co53)) (fun _ h_ => h_.1)) (fun _ h_ => h_.1))) hb); have n3_ := Aside0.mk (Kd.V_below z1_ hb); have n4_ := Aside0.mk (Kd.V_below z2_ hb); have n5_ := Aside0.mk (blk_below (g := gb548) (o := .cells #[.slice Ao14 t539.length co14] 26 (0, 0)) (by (with_reducible repeat (first | refine blk_drewN ?_ _ | refine blk_drew ?_ | refine blk_alloc ?_ _)); refine blk_far ?_ NB548_568.out _; (with_reducible repeat (first | refine blk_drewN ?_ _ | refine blk_drew ?_ | refine blk_alloc ?_ _)); refine blk_far ?_ NB548_567.out _; (with_reducible repeat (first | refine blk_drewN ?_ _ | refine blk_drew ?_ | refine blk_alloc ?_ _)); exact BK548.out) hb); have n6_ := Aside0.mk (blk_below (g := gb567) (o := .cells #[.slice Ao49 t561.length co49] 26 (0, 0)) (by (with_reducible repeat (first | refine blk_drewN ?_ _ | refine blk_drew ?_ | refine blk_alloc ?_ _)); refine blk_far ?_ NB567_568.out _; (with_reducible repeat (first | refine blk_drewN ?_ _ | refine blk_drew ?_ | refine blk_alloc ?_ _)); refine blk_put (cs := #[.slice none 0 0]) ?_ 0 _ rfl; (with_reducible repeat (first | refine blk_drewN ?_ _ | refine blk_drew ?_ | refine blk_alloc ?_ _)); exact BK567.out) hb); have n7_ := Aside0.mk (blk_below (g := gb568) (o := .cells #[.slice Ao53 t564.length co53] 26 (0, 0)) (by (with_reducible repeat (first | refine blk_drewN ?_ _ | refine blk_drew ?_ | refine blk_alloc ?_ _)); refine blk_put (cs := #[.slice none 0 0]) ?_ 0 _ rfl; (with_reducible repeat (first | refine blk_drewN ?_ _ | refine blk_drew ?_ | refine blk_alloc ?_ _)); refine blk_far ?_ NB568_567.out _; (with_reducible repeat (first | refine blk_drewN ?_ _ | refine blk_drew ?_ | refine blk_alloc ?_ _)); exact BK568.out) hb); have n8_ := Aside0.mk (below_step (kB HB) hb); clear HO_6; clear HO_7; clear HO_549000; clear HO563; clear HO566; clear BK548; clear BK567; clear BK568; clear HB; have HO_6 := n0_; have HO_7 := n1_; have HO_549000 := n2_; have HO563 := n3_; have HO566 := n4_; have BK548 := n5_; have BK567 := n6_; have BK568 := n7_; have HB := n8_; clear n0_ n1_ n2_ n3_ n4_ n5_ n6_ n7_ n8_; (try clear hb); (try clear hb2); (try clear hk); (try clear hi); have hcz57_0 : w56.cell? ⟨gb567, 0, none⟩ = some (.slice Ao49 t561.length co49) := (blk_cell BK567.out 0).trans rfl; have hfz57_0 := blk_frozen BK567.out 0; have hcz58_0 : w56.cell? ⟨gb568, 0, none⟩ = some (.slice Ao53 t564.length co53) := (blk_cell BK568.out 0).trans rfl; have hfz58_0 := blk_frozen BK568.out 0) | ((with_reducible refine gate_callee (f := 49) rfl ?_); refine gL (some 142) rfl rfl Try.func49 (by kernel_rfl) rfl #[.agg #[.slice Ao49 t561.length co49], .agg #[.slice Ao53 t564.length co53]] rfl ?_; (with_reducible refine (spec_KeepsForm.calls kj35 _ _ t561 _ _ t564 t571 t572 _ ?side1 ?side2 ?side3 ?side4 A44.out).mono ?_); (case side1 => repeat (first | exact (Kd.V_reads' HO563.out).2.2 | (with_reducible refine Kd.C_alloc ?_ _) | (with_reducible refine Kd.C_drewN ?_ _) | (with_reducible refine Kd.C_drew ?_))); (case side2 => exact (Kd.V_reads' HO563.out).2.1); (case side3 => repeat (first | exact (Kd.V_reads' HO566.out).2.2 | (with_reducible refine Kd.C_alloc ?_ _) | (with_reducible refine Kd.C_drewN ?_ _) | (with_reducible refine Kd.C_drew ?_))); (case side4 => exact (Kd.V_reads' HO566.out).2.1); rintro e w59 ⟨rfl, hb⟩; refine ⟨_, rfl, ?_⟩; have n0_ := Aside0.mk (Kd.R_below (rA HO_6) hb); have n1_ := Aside0.mk (Kd.R_below (rA HO_7) hb); have n2_ := Aside0.mk (Kd.V_below z91_ hb); have n3_ := Aside0.mk (Kd.V_below z102_ hb); have n4_ := Aside0.mk (Kd.V_below z109_ hb); have n5_ := Aside0.mk (kK BK548 hb); have n6_ := Aside0.mk (kK BK567 hb); have n7_ := Aside0.mk (kK BK568 hb); have n8_ := Aside0.mk (below_step (kB HB) hb); clear HO_6; clear HO_7; clear HO_549000; clear HO563; clear HO566; clear BK548; clear BK567; clear BK568; clear HB; have HO_6 := n0_; have HO_7 := n1_; have HO_549000 := n2_; have HO563 := n3_; have HO566 := n4_; have BK548 := n5_; have BK567 := n6_; have BK568 := n7_; have HB := n8_; clear n0_ n1_ n2_ n3_ n4_ n5_ n6_ n7_ n8_; (try clear hb); (try clear hb2); (try clear hk); (try clear hi)))
             (try simp only [Act.put, List.setIfInBounds_toArray, List.set_cons_zero, List.set_cons_succ])
             go_cut [152] (fun v152 wc => ∃ (kq : Nat) (x152_44 : Bool), v152 = .bool x152_44 ∧ Aside0 (laws_FnForms.j2 kq l1 t542 t545 t550 t569 x152_44 t561 t564 = some r) ∧ Aside0 (kq ≤ kj35) ∧ Aside0 (Kd.R (Kd.int .i64) 3 wc w.heap.size (fun k_ => some k_ ≠ ((.slice Ao17 t545.length co17) : Value).ownBlock) (.slice Ao16 t542.length co16) t542) ∧ Aside0 (Kd.R (Kd.int .i64) 3 wc w.heap.size (fun k_ => some k_ ≠ ((.slice Ao16 t542.length co16) : Value).ownBlock) (.slice Ao17 t545.length co17) t545) ∧ Aside0 (Kd.V (Kd.slice 3 (Kd.int .i64)) 34 wc w.heap.size (fun k_ => some k_ ≠ ((.slice Ao16 t542.length co16) : Value).ownBlock ∧ some k_ ≠ ((.slice Ao17 t545.length co17) : Value).ownBlock ∧ k_ ≠ gb548 ∧ k_ ≠ gb567 ∧ k_ ≠ gb568) (.slice Ao14 t539.length co14) t539) ∧ Aside0 (Kd.V (Kd.slice 3 (Kd.int .i64)) 34 wc w.heap.size (fun k_ => some k_ ≠ ((.slice Ao16 t542.length co16) : Value).ownBlock ∧ some k_ ≠ ((.slice Ao17 t545.length co17) : Value).ownBlock ∧ k_ ≠ gb548 ∧ k_ ≠ gb567 ∧ k_ ≠ gb568) (.slice Ao49 t561.length co49) t561) ∧ Aside0 (Kd.V (Kd.slice 3 (Kd.int .i64)) 34 wc w.heap.size (fun k_ => some k_ ≠ ((.slice Ao16 t542.length co16) : Value).ownBlock ∧ some k_ ≠ ((.slice Ao17 t545.length co17) : Value).ownBlock ∧ k_ ≠ gb548 ∧ k_ ≠ gb567 ∧ k_ ≠ gb568) (.slice Ao53 t564.length co53) t564) ∧ Aside0 (wc.heap[gb548]? = some (.cells #[(.slice Ao14 t539.length co14)] 26 (0, 0))) ∧ Aside0 (wc.heap[gb567]? = some (.cells #[(.slice Ao49 t561.length co49)] 26 (0, 0))) ∧ Aside0 (wc.heap[gb568]? = some (.cells #[(.slice Ao53 t564.length co53)] 26 (0, 0))) ∧ Aside0 (Below w.heap.size w wc))
             case first =>
              as_aux_lemma =>
               have H := HC45.out
               clear HC45
               by_cases c60 : (t570 != t572) = true
               ·
                rw [if_pos c60] at H
                exact absurd (H.trans (congrArg some hrT)) (fun h_ => laws_FnForms.j2_no h_)
               ·
                rw [if_neg c60] at H
                have c60b0 : (t570 != t572) = false := by simpa using c60
                (try (have c60b1 : decide (t570 = t572) = true := by simpa using c60))
                (try (have c60b2 : (t570 == t572) = true := by simpa using c60))
                clear c60
                (first | rw [c60b0] | (simp only [i64_w, i32_w]; rw [c60b0]) | skip)
                have H' := Aside0.mk H
                clear H
                go_wp2
                go_meet
                case rel => exact ⟨_, ((t569 != t571)), e2, H', ⟨by have := HJ10.out; have := HJ35.out; first | omega | exact Nat.le_refl _⟩, ⟨z114_⟩, ⟨z113_⟩, ⟨by (with_reducible repeat (first | apply Kd.V_alloc | apply Kd.V_drewN | apply Kd.V_drew)); exact Kd.V_mono HO_549000.out (fun _ hk => ⟨hk.1.1.1, ⟨hk.1.1.2.1, ⟨hk.1.1.2.2, ⟨hk.1.2, hk.2⟩⟩⟩⟩)⟩, ⟨by (with_reducible repeat (first | apply Kd.V_alloc | apply Kd.V_drewN | apply Kd.V_drew)); exact Kd.V_mono HO563.out (fun _ hk => ⟨hk.1.1.1, ⟨hk.1.1.2.1, ⟨hk.1.1.2.2, ⟨hk.1.2, hk.2⟩⟩⟩⟩)⟩, ⟨by (with_reducible repeat (first | apply Kd.V_alloc | apply Kd.V_drewN | apply Kd.V_drew)); exact Kd.V_mono HO566.out (fun _ hk => ⟨hk.1.1.1, ⟨hk.1.1.2.1, ⟨hk.1.1.2.2, ⟨hk.1.2, hk.2⟩⟩⟩⟩)⟩, ⟨z87_⟩, ⟨z67_⟩, ⟨z83_⟩, ⟨kB HB⟩⟩
             case rest =>
              as_aux_lemma =>
               clear HC45; (try clear c1); (try clear c2); (try clear p2); (try clear c3); (try clear c4); (try clear c5); (try clear c6); (try clear c7); (try clear c27); (try clear c27b0); (try clear c27b1); (try clear c27b2); (try clear c28); (try clear c28b0); (try clear c28b1); (try clear c29); (try clear c29b0); (try clear c29b1); (try clear c29b2); (try clear c30); (try clear c31); (try clear c31b0); (try clear c31b1); (try clear c32); (try clear c32b0); (try clear c32b1); (try clear c32b2); (try clear c33); (try clear c33b0); (try clear c33b1); (try clear c33b2); (try clear c34); (try clear c39); (try clear c40); (try clear c41); (try clear c42); (try clear c43); (try clear c44); (try clear c45); (try clear c46); (try clear c47); (try clear c48); (try clear c49); (try clear c50); (try clear c51); (try clear c54); (try clear c60); (try clear c60b0); (try clear c60b1); (try clear c60b2); (try clear hcz15_0); (try clear hcz19_0); (try clear hcz21_0); (try clear hcz23_0); (try clear hcz25_0); (try clear hcz37_0); (try clear hcz52_0); (try clear hcz55_0); (try clear hcz57_0); (try clear hcz58_0); (try clear hfz15_0); (try clear hfz19_0); (try clear hfz21_0); (try clear hfz23_0); (try clear hfz25_0); (try clear hfz37_0); (try clear hfz52_0); (try clear hfz55_0); (try clear hfz57_0); (try clear hfz58_0); (try clear p2)
               obtain ⟨kq, x152_44, rfl, HA, HJ44, HO_6, HO_7, HO_549000, HO_568000, HO_569000, BK548, BK567, BK568, HB⟩ := hcut
               cases kq with
               | zero => exact absurd HA.out (by simp [laws_FnForms.j2])
               | succ kj44 =>
                have H := HA.out
                clear HA
                simp only [laws_FnForms.j2] at H
                by_cases c61 : x152_44 = true
                ·
                 subst c61
                 have H1 : (some false) = some r := by rw [if_pos rfl] at H; exact H
                 exact absurd (H1.trans (congrArg some hrT)) (by simp)
                ·
                 as_aux_lemma =>
                  replace c61 := Bool.eq_false_iff.mpr c61
                  subst c61
                  have H1 : (if t569 = true then (if t550 = true then (laws_FnForms.j3 kj44 l1 t542 t545 ((t564.length : Int) == (t542.length : Int)) t561 t564) else (laws_FnForms.j3 kj44 l1 t542 t545 false t561 t564)) else (laws_FnForms.j3 kj44 l1 t542 t545 false t561 t564)) = some r := by rw [if_neg (show ¬ (false = true) by decide)] at H; exact H
                  clear H
                  have H := H1
                  clear H1
                  have HC62 := Aside0.mk H
                  clear H
                  go_upto_region 19 with (fail)
                  go_cut [164] (fun v164 wc => ∃ (kq : Nat) (x164_61 : Bool), v164 = .bool x164_61 ∧ Aside0 (laws_FnForms.j3 kq l1 t542 t545 x164_61 t561 t564 = some r) ∧ Aside0 (kq ≤ kj44) ∧ Aside0 (Kd.R (Kd.int .i64) 3 wc w.heap.size (fun k_ => some k_ ≠ ((.slice Ao17 t545.length co17) : Value).ownBlock) (.slice Ao16 t542.length co16) t542) ∧ Aside0 (Kd.R (Kd.int .i64) 3 wc w.heap.size (fun k_ => some k_ ≠ ((.slice Ao16 t542.length co16) : Value).ownBlock) (.slice Ao17 t545.length co17) t545) ∧ Aside0 (Kd.V (Kd.slice 3 (Kd.int .i64)) 34 wc w.heap.size (fun k_ => some k_ ≠ ((.slice Ao16 t542.length co16) : Value).ownBlock ∧ some k_ ≠ ((.slice Ao17 t545.length co17) : Value).ownBlock ∧ k_ ≠ gb548 ∧ k_ ≠ gb567 ∧ k_ ≠ gb568) (.slice Ao14 t539.length co14) t539) ∧ Aside0 (Kd.V (Kd.slice 3 (Kd.int .i64)) 34 wc w.heap.size (fun k_ => some k_ ≠ ((.slice Ao16 t542.length co16) : Value).ownBlock ∧ some k_ ≠ ((.slice Ao17 t545.length co17) : Value).ownBlock ∧ k_ ≠ gb548 ∧ k_ ≠ gb567 ∧ k_ ≠ gb568) (.slice Ao49 t561.length co49) t561) ∧ Aside0 (Kd.V (Kd.slice 3 (Kd.int .i64)) 34 wc w.heap.size (fun k_ => some k_ ≠ ((.slice Ao16 t542.length co16) : Value).ownBlock ∧ some k_ ≠ ((.slice Ao17 t545.length co17) : Value).ownBlock ∧ k_ ≠ gb548 ∧ k_ ≠ gb567 ∧ k_ ≠ gb568) (.slice Ao53 t564.length co53) t564) ∧ Aside0 (wc.heap[gb548]? = some (.cells #[(.slice Ao14 t539.length co14)] 26 (0, 0))) ∧ Aside0 (wc.heap[gb567]? = some (.cells #[(.slice Ao49 t561.length co49)] 26 (0, 0))) ∧ Aside0 (wc.heap[gb568]? = some (.cells #[(.slice Ao53 t564.length co53)] 26 (0, 0))) ∧ Aside0 (Below w.heap.size w wc))
                  case first =>
                   as_aux_lemma =>
                    have H := HC62.out
                    clear HC62
                    by_cases c63 : t569 = true
                    ·
                     subst c63
                     have H1 : (if t550 = true then (laws_FnForms.j3 kj44 l1 t542 t545 ((t564.length : Int) == (t542.length : Int)) t561 t564) else (laws_FnForms.j3 kj44 l1 t542 t545 false t561 t564)) = some r := by rw [if_pos rfl] at H; exact H
                     clear H
                     have H := H1
                     clear H1
                     by_cases c64 : t550 = true
                     ·
                      subst c64
                      have H1 : (laws_FnForms.j3 kj44 l1 t542 t545 ((t564.length : Int) == (t542.length : Int)) t561 t564) = some r := by rw [if_pos rfl] at H; exact H
                      clear H
                      have H := H1
                      clear H1
                      have H' := Aside0.mk H
                      clear H
                      have hnb65 := NB568_548.out
                      have hnc65 := NB548_568.out
                      have hnb66 := NB568_567.out
                      have hnc66 := NB567_568.out
                      have hcz67_0 : wc.cell? ⟨gb568, 0, none⟩ = some (.slice Ao53 t564.length co53) := (blk_cell BK568.out 0).trans rfl
                      have hfz67_0 := blk_frozen BK568.out 0
                      go_wp2
                      go_meet
                      case rel => exact ⟨_, (((t564.length : Int) == (t542.length : Int))), e2, H', ⟨by have := HJ10.out; have := HJ35.out; have := HJ44.out; first | omega | exact Nat.le_refl _⟩, ⟨z114_⟩, ⟨z113_⟩, ⟨z91_⟩, ⟨z94_⟩, ⟨z96_⟩, ⟨z87_⟩, ⟨z67_⟩, ⟨z83_⟩, ⟨kB HB⟩⟩
                     ·
                      replace c64 := Bool.eq_false_iff.mpr c64
                      subst c64
                      have H1 : (laws_FnForms.j3 kj44 l1 t542 t545 false t561 t564) = some r := by rw [if_neg (show ¬ (false = true) by decide)] at H; exact H
                      clear H
                      have H := H1
                      clear H1
                      have H' := Aside0.mk H
                      clear H
                      go_wp2
                      go_meet
                      case rel => exact ⟨_, (false), e2, H', ⟨by have := HJ10.out; have := HJ35.out; have := HJ44.out; first | omega | exact Nat.le_refl _⟩, ⟨z114_⟩, ⟨z113_⟩, ⟨z91_⟩, ⟨z94_⟩, ⟨z96_⟩, ⟨z87_⟩, ⟨z67_⟩, ⟨z83_⟩, ⟨kB HB⟩⟩
                    ·
                     replace c63 := Bool.eq_false_iff.mpr c63
                     subst c63
                     have H1 : (laws_FnForms.j3 kj44 l1 t542 t545 false t561 t564) = some r := by rw [if_neg (show ¬ (false = true) by decide)] at H; exact H
                     clear H
                     have H := H1
                     clear H1
                     have H' := Aside0.mk H
                     clear H
                     go_wp2
                     go_meet
                     case rel => exact ⟨_, (false), e2, H', ⟨by have := HJ10.out; have := HJ35.out; have := HJ44.out; first | omega | exact Nat.le_refl _⟩, ⟨z114_⟩, ⟨z113_⟩, ⟨z91_⟩, ⟨z94_⟩, ⟨z96_⟩, ⟨z87_⟩, ⟨z67_⟩, ⟨z83_⟩, ⟨kB HB⟩⟩
                  case rest =>
                   as_aux_lemma =>
                    clear HC62; (try clear c1); (try clear c2); (try clear p2); (try clear c3); (try clear c4); (try clear c5); (try clear c6); (try clear c7); (try clear c27); (try clear c27b0); (try clear c27b1); (try clear c27b2); (try clear c28); (try clear c28b0); (try clear c28b1); (try clear c29); (try clear c29b0); (try clear c29b1); (try clear c29b2); (try clear c30); (try clear c31); (try clear c31b0); (try clear c31b1); (try clear c32); (try clear c32b0); (try clear c32b1); (try clear c32b2); (try clear c33); (try clear c33b0); (try clear c33b1); (try clear c33b2); (try clear c34); (try clear c39); (try clear c40); (try clear c41); (try clear c42); (try clear c43); (try clear c44); (try clear c45); (try clear c46); (try clear c47); (try clear c48); (try clear c49); (try clear c50); (try clear c51); (try clear c54); (try clear c60); (try clear c60b0); (try clear c60b1); (try clear c60b2); (try clear c61); (try clear c63); (try clear c64); (try clear c65); (try clear c66); (try clear hcz15_0); (try clear hcz19_0); (try clear hcz21_0); (try clear hcz23_0); (try clear hcz25_0); (try clear hcz37_0); (try clear hcz52_0); (try clear hcz55_0); (try clear hcz57_0); (try clear hcz58_0); (try clear hcz67_0); (try clear hfz15_0); (try clear hfz19_0); (try clear hfz21_0); (try clear hfz23_0); (try clear hfz25_0); (try clear hfz37_0); (try clear hfz52_0); (try clear hfz55_0); (try clear hfz57_0); (try clear hfz58_0); (try clear hfz67_0); (try clear p2)
                    obtain ⟨kq, x164_61, rfl, HA, HJ61, HO_6, HO_7, HO_549000, HO_568000, HO_569000, BK548, BK567, BK568, HB⟩ := hcut
                    cases kq with
                    | zero => exact absurd HA.out (by simp [laws_FnForms.j3])
                    | succ kj61 =>
                     have H := HA.out
                     clear HA
                     simp only [laws_FnForms.j3] at H
                     have HC68 := Aside0.mk H
                     clear H
                     go_upto_if 164 with (fail)
                     go_cut [] (fun wc => ∃ (kq : Nat), Aside0 (laws_FnForms.j4 kq l1 = some r) ∧ Aside0 (kq ≤ kj61) ∧ Aside0 (Kd.V (Kd.slice 3 (Kd.int .i64)) 34 wc w.heap.size (fun k_ => k_ ≠ gb548 ∧ k_ ≠ gb567 ∧ k_ ≠ gb568) (.slice Ao14 t539.length co14) t539) ∧ Aside0 (Kd.V (Kd.slice 3 (Kd.int .i64)) 34 wc w.heap.size (fun k_ => k_ ≠ gb548 ∧ k_ ≠ gb567 ∧ k_ ≠ gb568) (.slice Ao49 t561.length co49) t561) ∧ Aside0 (Kd.V (Kd.slice 3 (Kd.int .i64)) 34 wc w.heap.size (fun k_ => k_ ≠ gb548 ∧ k_ ≠ gb567 ∧ k_ ≠ gb568) (.slice Ao53 t564.length co53) t564) ∧ Aside0 (wc.heap[gb548]? = some (.cells #[(.slice Ao14 t539.length co14)] 26 (0, 0))) ∧ Aside0 (wc.heap[gb567]? = some (.cells #[(.slice Ao49 t561.length co49)] 26 (0, 0))) ∧ Aside0 (wc.heap[gb568]? = some (.cells #[(.slice Ao53 t564.length co53)] 26 (0, 0))) ∧ Aside0 (Below w.heap.size w wc))
                     case first =>
                      as_aux_lemma =>
                       have H := HC68.out
                       clear HC68
                       by_cases c69 : x164_61 = true
                       ·
                        as_aux_lemma =>
                         subst c69
                         have H1 : ((impl_ApplyMatrix.f kj61 t561 t542).bind fun bt573 => ((impl_ApplyMatrix.f kj61 t561 t545).bind fun bt577 => ((impl_ProductAt.f kj61 t564 bt573.1 bt577.1).bind fun bt581 => ((impl_ProductAt.f kj61 t564 t542 t545).bind fun bt583 => (if bt573.2 = true then (if bt577.2 = true then (if (bt581.2 != bt583.2) = true then (some false) else (if bt581.1 = bt583.1 then (laws_FnForms.j4 kj61 l1) else (some false))) else (laws_FnForms.j4 kj61 l1)) else (laws_FnForms.j4 kj61 l1)))))) = some r := by rw [if_pos rfl] at H; exact H
                         clear H
                         have H := H1
                         clear H1
                         replace H := Option.bind_eq_some_iff.mp H
                         obtain ⟨⟨t573, t576⟩, A700, H⟩ := H
                         replace H : ((impl_ApplyMatrix.f kj61 t561 t545).bind fun bt577 => ((impl_ProductAt.f kj61 t564 t573 bt577.1).bind fun bt581 => ((impl_ProductAt.f kj61 t564 t542 t545).bind fun bt583 => (if t576 = true then (if bt577.2 = true then (if (bt581.2 != bt583.2) = true then (some false) else (if bt581.1 = bt583.1 then (laws_FnForms.j4 kj61 l1) else (some false))) else (laws_FnForms.j4 kj61 l1)) else (laws_FnForms.j4 kj61 l1))))) = some r := H
                         have A70 := Aside0.mk A700
                         clear A700
                         replace H := Option.bind_eq_some_iff.mp H
                         obtain ⟨⟨t577, t580⟩, A710, H⟩ := H
                         replace H : ((impl_ProductAt.f kj61 t564 t573 t577).bind fun bt581 => ((impl_ProductAt.f kj61 t564 t542 t545).bind fun bt583 => (if t576 = true then (if t580 = true then (if (bt581.2 != bt583.2) = true then (some false) else (if bt581.1 = bt583.1 then (laws_FnForms.j4 kj61 l1) else (some false))) else (laws_FnForms.j4 kj61 l1)) else (laws_FnForms.j4 kj61 l1)))) = some r := H
                         have A71 := Aside0.mk A710
                         clear A710
                         replace H := Option.bind_eq_some_iff.mp H
                         obtain ⟨⟨t581, t582⟩, A720, H⟩ := H
                         replace H : ((impl_ProductAt.f kj61 t564 t542 t545).bind fun bt583 => (if t576 = true then (if t580 = true then (if (t582 != bt583.2) = true then (some false) else (if t581 = bt583.1 then (laws_FnForms.j4 kj61 l1) else (some false))) else (laws_FnForms.j4 kj61 l1)) else (laws_FnForms.j4 kj61 l1))) = some r := H
                         have A72 := Aside0.mk A720
                         clear A720
                         replace H := Option.bind_eq_some_iff.mp H
                         obtain ⟨⟨t583, t584⟩, A730, H⟩ := H
                         replace H : (if t576 = true then (if t580 = true then (if (t582 != t584) = true then (some false) else (if t581 = t583 then (laws_FnForms.j4 kj61 l1) else (some false))) else (laws_FnForms.j4 kj61 l1)) else (laws_FnForms.j4 kj61 l1)) = some r := H
                         have A73 := Aside0.mk A730
                         clear A730
                         by_cases c74 : t576 = true
                         ·
                          subst c74
                          have H1 : (if t580 = true then (if (t582 != t584) = true then (some false) else (if t581 = t583 then (laws_FnForms.j4 kj61 l1) else (some false))) else (laws_FnForms.j4 kj61 l1)) = some r := by rw [if_pos rfl] at H; exact H
                          clear H
                          have H := H1
                          clear H1
                          by_cases c75 : t580 = true
                          ·
                           subst c75
                           have H1 : (if (t582 != t584) = true then (some false) else (if t581 = t583 then (laws_FnForms.j4 kj61 l1) else (some false))) = some r := by rw [if_pos rfl] at H; exact H
                           clear H
                           have H := H1
                           clear H1
                           by_cases c76 : (t582 != t584) = true
                           ·
                            rw [if_pos c76] at H
                            exact absurd (H.trans (congrArg some hrT)) (by simp)
                           ·
                            rw [if_neg c76] at H
                            have c76b0 : (t582 != t584) = false := by simpa using c76
                            (try (have c76b1 : decide (t582 = t584) = true := by simpa using c76))
                            (try (have c76b2 : (t582 == t584) = true := by simpa using c76))
                            clear c76
                            (first | rw [c76b0] | (simp only [i64_w, i32_w]; rw [c76b0]) | skip)
                            by_cases c90 : t581 = t583
                            ·
                             rw [if_pos c90] at H
                             have c90b0 : (t581 == t583) = true := beq_iff_eq.mpr c90
                             have c90b1 : (t581 != t583) = false := bne_eq_false_iff_eq.mpr c90
                             clear c90
                             have H' := Aside0.mk H
                             clear H
                             have hnb91 := NB567_548.out
                             have hnc91 := NB548_567.out
                             have hnb92 := NB567_568.out
                             have hnc92 := NB568_567.out
                             have hcz93_0 : wc.cell? ⟨gb567, 0, none⟩ = some (.slice Ao49 t561.length co49) := (blk_cell BK567.out 0).trans rfl
                             have hfz93_0 := blk_frozen BK567.out 0
                             go_wp2_with (first | ((with_reducible refine gate_callee (f := 50) rfl ?_); refine gL (some 168) rfl rfl Try.func50 (by kernel_rfl) rfl #[.agg #[.slice Ao49 t561.length co49], .slice Ao16 t542.length co16] rfl ?_; (with_reducible refine (impl_ApplyMatrix.calls kj61 _ _ t561 _ _ t542 t573 true _ ?side1 ?side2 ?side3 ?side4 A70.out).mono ?_); (case side1 => repeat (first | exact (Kd.V_reads' HO_568000.out).2.2 | (with_reducible refine Kd.C_alloc ?_ _) | (with_reducible refine Kd.C_drewN ?_ _) | (with_reducible refine Kd.C_drew ?_))); (case side2 => exact (Kd.V_reads' HO_568000.out).2.1); (case side3 => exact cC (Kd.R_reads' HO_6.out).2.2); (case side4 => exact (Kd.R_reads' HO_6.out).2.1); rintro e w94 ⟨v574, rfl, ho0, hb⟩; refine ⟨_, rfl, ?_⟩; have n0_ := Aside0.mk (Kd.R_elder' (rA HO_6) (Kd.R_base ho0) hb); have n1_ := Aside0.mk (Kd.R_elder' (rA HO_7) (Kd.R_base ho0) hb); have n2_ := Aside0.mk (Kd.V_elder' z91_ (Kd.R_base ho0) hb); have n3_ := Aside0.mk (Kd.V_elder' z94_ (Kd.R_base ho0) hb); have n4_ := Aside0.mk (Kd.V_elder' z96_ (Kd.R_base ho0) hb); have n5_ := Aside0.mk (Kd.R_lower (Kd.R_new' (Kd.R_new' ho0 (Kd.R_lt (rA HO_6))) (Kd.R_lt (rA HO_7))) (below_size (kB HB))); have n6_ := Aside0.mk (kK BK548 hb); have n7_ := Aside0.mk (kK BK567 hb); have n8_ := Aside0.mk (kK BK568 hb); have n9_ := Aside0.mk (below_step (kB HB) hb); clear HO_6; clear HO_7; clear HO_549000; clear HO_568000; clear HO_569000; clear BK548; clear BK567; clear BK568; clear HB; have HO_6 := n0_; have HO_7 := n1_; have HO_549000 := n2_; have HO_568000 := n3_; have HO_569000 := n4_; have HO575 := n5_; have BK548 := n6_; have BK567 := n7_; have BK568 := n8_; have HB := n9_; clear n0_ n1_ n2_ n3_ n4_ n5_ n6_ n7_ n8_ n9_; (try clear hb); (try clear hb2); (try clear hk); (try clear hi); (try clear ho0); have hcz95_0 : w94.cell? ⟨gb567, 0, none⟩ = some (.slice Ao49 t561.length co49) := (blk_cell BK567.out 0).trans rfl; have hfz95_0 := blk_frozen BK567.out 0) | ((with_reducible refine gate_callee (f := 50) rfl ?_); refine gL (some 174) rfl rfl Try.func50 (by kernel_rfl) rfl #[.agg #[.slice Ao49 t561.length co49], .slice Ao17 t545.length co17] rfl ?_; (with_reducible refine (impl_ApplyMatrix.calls kj61 _ _ t561 _ _ t545 t577 true _ ?side1 ?side2 ?side3 ?side4 A71.out).mono ?_); (case side1 => repeat (first | exact (Kd.V_reads' HO_568000.out).2.2 | (with_reducible refine Kd.C_alloc ?_ _) | (with_reducible refine Kd.C_drewN ?_ _) | (with_reducible refine Kd.C_drew ?_))); (case side2 => exact (Kd.V_reads' HO_568000.out).2.1); (case side3 => exact cC (Kd.R_reads' HO_7.out).2.2); (case side4 => exact (Kd.R_reads' HO_7.out).2.1); rintro e w96 ⟨v578, rfl, ho0, hb⟩; refine ⟨_, rfl, ?_⟩; have n0_ := Aside0.mk (Kd.R_elder' (rA HO_6) (Kd.R_base ho0) hb); have n1_ := Aside0.mk (Kd.R_elder' (rA HO_7) (Kd.R_base ho0) hb); have n2_ := Aside0.mk (Kd.V_elder' z91_ (Kd.R_base ho0) hb); have n3_ := Aside0.mk (Kd.V_elder' z94_ (Kd.R_base ho0) hb); have n4_ := Aside0.mk (Kd.V_elder' z96_ (Kd.R_base ho0) hb); have n5_ := Aside0.mk (Kd.R_elder' (rA HO575) (Kd.R_base ho0) hb); have n6_ := Aside0.mk (Kd.R_lower (Kd.R_new' (Kd.R_new' (Kd.R_new' ho0 (Kd.R_lt (rA HO_6))) (Kd.R_lt (rA HO_7))) (Kd.R_lt (rA HO575))) (below_size (kB HB))); have n7_ := Aside0.mk (kK BK548 hb); have n8_ := Aside0.mk (kK BK567 hb); have n9_ := Aside0.mk (kK BK568 hb); have n10_ := Aside0.mk (below_step (kB HB) hb); clear HO_6; clear HO_7; clear HO_549000; clear HO_568000; clear HO_569000; clear HO575; clear BK548; clear BK567; clear BK568; clear HB; have HO_6 := n0_; have HO_7 := n1_; have HO_549000 := n2_; have HO_568000 := n3_; have HO_569000 := n4_; have HO575 := n5_; have HO579 := n6_; have BK548 := n7_; have BK567 := n8_; have BK568 := n9_; have HB := n10_; clear n0_ n1_ n2_ n3_ n4_ n5_ n6_ n7_ n8_ n9_ n10_; (try clear hb); (try clear hb2); (try clear hk); (try clear hi); (try clear ho0); have hnb97 := NB568_548.out; have hnc97 := NB548_568.out; have hcz98_0 : w96.cell? ⟨gb568, 0, none⟩ = some (.slice Ao53 t564.length co53) := (blk_cell BK568.out 0).trans rfl; have hfz98_0 := blk_frozen BK568.out 0; obtain ⟨Ao99, co99, eo99⟩ := Kd.R_slice HO575.out; subst eo99; obtain ⟨Ao100, co100, eo100⟩ := Kd.R_slice HO579.out; subst eo100) | ((with_reducible refine gate_callee (f := 43) rfl ?_); refine gL (some 181) rfl rfl Try.func43 (by kernel_rfl) rfl #[.agg #[.slice Ao53 t564.length co53], .slice Ao99 t573.length co99, .slice Ao100 t577.length co100] rfl ?_; (with_reducible refine (impl_ProductAt.calls kj61 _ _ t564 _ _ t573 _ _ t577 t581 t582 _ ?side1 ?side2 ?side3 ?side4 ?side5 ?side6 A72.out).mono ?_); (case side1 => repeat (first | exact (Kd.V_reads' HO_569000.out).2.2 | (with_reducible refine Kd.C_alloc ?_ _) | (with_reducible refine Kd.C_drewN ?_ _) | (with_reducible refine Kd.C_drew ?_))); (case side2 => exact (Kd.V_reads' HO_569000.out).2.1); (case side3 => exact cC (Kd.R_reads' HO575.out).2.2); (case side4 => exact (Kd.R_reads' HO575.out).2.1); (case side5 => exact cC (Kd.R_reads' HO579.out).2.2); (case side6 => exact (Kd.R_reads' HO579.out).2.1); rintro e w101 ⟨rfl, hb⟩; refine ⟨_, rfl, ?_⟩; have n0_ := Aside0.mk (Kd.R_below (rA HO_6) hb); have n1_ := Aside0.mk (Kd.R_below (rA HO_7) hb); have n2_ := Aside0.mk (Kd.V_below z91_ hb); have n3_ := Aside0.mk (Kd.V_below z94_ hb); have n4_ := Aside0.mk (Kd.V_below z96_ hb); have n5_ := Aside0.mk (Kd.R_below (rA HO575) hb); have n6_ := Aside0.mk (Kd.R_below (rA HO579) hb); have n7_ := Aside0.mk (kK BK548 hb); have n8_ := Aside0.mk (kK BK567 hb); have n9_ := Aside0.mk (kK BK568 hb); have n10_ := Aside0.mk (below_step (kB HB) hb); clear HO_6; clear HO_7; clear HO_549000; clear HO_568000; clear HO_569000; clear HO575; clear HO579; clear BK548; clear BK567; clear BK568; clear HB; have HO_6 := n0_; have HO_7 := n1_; have HO_549000 := n2_; have HO_568000 := n3_; have HO_569000 := n4_; have HO575 := n5_; have HO579 := n6_; have BK548 := n7_; have BK567 := n8_; have BK568 := n9_; have HB := n10_; clear n0_ n1_ n2_ n3_ n4_ n5_ n6_ n7_ n8_ n9_ n10_; (try clear hb); (try clear hb2); (try clear hk); (try clear hi); have hcz102_0 : w101.cell? ⟨gb568, 0, none⟩ = some (.slice Ao53 t564.length co53) := (blk_cell BK568.out 0).trans rfl; have hfz102_0 := blk_frozen BK568.out 0) | ((with_reducible refine gate_callee (f := 43) rfl ?_); refine gL (some 188) rfl rfl Try.func43 (by kernel_rfl) rfl #[.agg #[.slice Ao53 t564.length co53], .slice Ao16 t542.length co16, .slice Ao17 t545.length co17] rfl ?_; (with_reducible refine (impl_ProductAt.calls kj61 _ _ t564 _ _ t542 _ _ t545 t583 t584 _ ?side1 ?side2 ?side3 ?side4 ?side5 ?side6 A73.out).mono ?_); (case side1 => repeat (first | exact (Kd.V_reads' HO_569000.out).2.2 | (with_reducible refine Kd.C_alloc ?_ _) | (with_reducible refine Kd.C_drewN ?_ _) | (with_reducible refine Kd.C_drew ?_))); (case side2 => exact (Kd.V_reads' HO_569000.out).2.1); (case side3 => exact cC (Kd.R_reads' HO_6.out).2.2); (case side4 => exact (Kd.R_reads' HO_6.out).2.1); (case side5 => exact cC (Kd.R_reads' HO_7.out).2.2); (case side6 => exact (Kd.R_reads' HO_7.out).2.1); rintro e w103 ⟨rfl, hb⟩; refine ⟨_, rfl, ?_⟩; have n0_ := Aside0.mk (Kd.R_below (rA HO_6) hb); have n1_ := Aside0.mk (Kd.R_below (rA HO_7) hb); have n2_ := Aside0.mk (Kd.V_below z91_ hb); have n3_ := Aside0.mk (Kd.V_below z94_ hb); have n4_ := Aside0.mk (Kd.V_below z96_ hb); have n5_ := Aside0.mk (Kd.R_below (rA HO575) hb); have n6_ := Aside0.mk (Kd.R_below (rA HO579) hb); have n7_ := Aside0.mk (kK BK548 hb); have n8_ := Aside0.mk (kK BK567 hb); have n9_ := Aside0.mk (kK BK568 hb); have n10_ := Aside0.mk (below_step (kB HB) hb); clear HO_6; clear HO_7; clear HO_549000; clear HO_568000; clear HO_569000; clear HO575; clear HO579; clear BK548; clear BK567; clear BK568; clear HB; have HO_6 := n0_; have HO_7 := n1_; have HO_549000 := n2_; have HO_568000 := n3_; have HO_569000 := n4_; have HO575 := n5_; have HO579 := n6_; have BK548 := n7_; have BK567 := n8_; have BK568 := n9_; have HB := n10_; clear n0_ n1_ n2_ n3_ n4_ n5_ n6_ n7_ n8_ n9_ n10_; (try clear hb); (try clear hb2); (try clear hk); (try clear hi)))
                             go_meet
                             case rel => exact ⟨_, H', ⟨by have := HJ10.out; have := HJ35.out; have := HJ44.out; have := HJ61.out; first | omega | exact Nat.le_refl _⟩, ⟨z52_⟩, ⟨z50_⟩, ⟨z51_⟩, ⟨z87_⟩, ⟨z67_⟩, ⟨z83_⟩, ⟨kB HB⟩⟩
                            ·
                             rw [if_neg c90] at H
                             exact absurd (H.trans (congrArg some hrT)) (by simp)
                          ·
                           replace c75 := Bool.eq_false_iff.mpr c75
                           subst c75
                           have H1 : (laws_FnForms.j4 kj61 l1) = some r := by rw [if_neg (show ¬ (false = true) by decide)] at H; exact H
                           clear H
                           have H := H1
                           clear H1
                           have H' := Aside0.mk H
                           clear H
                           have hnb117 := NB567_548.out
                           have hnc117 := NB548_567.out
                           have hnb118 := NB567_568.out
                           have hnc118 := NB568_567.out
                           have hcz119_0 : wc.cell? ⟨gb567, 0, none⟩ = some (.slice Ao49 t561.length co49) := (blk_cell BK567.out 0).trans rfl
                           have hfz119_0 := blk_frozen BK567.out 0
                           go_wp2_with (first | ((with_reducible refine gate_callee (f := 50) rfl ?_); refine gL (some 168) rfl rfl Try.func50 (by kernel_rfl) rfl #[.agg #[.slice Ao49 t561.length co49], .slice Ao16 t542.length co16] rfl ?_; (with_reducible refine (impl_ApplyMatrix.calls kj61 _ _ t561 _ _ t542 t573 true _ ?side1 ?side2 ?side3 ?side4 A70.out).mono ?_); (case side1 => repeat (first | exact (Kd.V_reads' HO_568000.out).2.2 | (with_reducible refine Kd.C_alloc ?_ _) | (with_reducible refine Kd.C_drewN ?_ _) | (with_reducible refine Kd.C_drew ?_))); (case side2 => exact (Kd.V_reads' HO_568000.out).2.1); (case side3 => exact cC (Kd.R_reads' HO_6.out).2.2); (case side4 => exact (Kd.R_reads' HO_6.out).2.1); rintro e w120 ⟨v574, rfl, ho0, hb⟩; refine ⟨_, rfl, ?_⟩; have n0_ := Aside0.mk (Kd.R_elder' (rA HO_6) (Kd.R_base ho0) hb); have n1_ := Aside0.mk (Kd.R_elder' (rA HO_7) (Kd.R_base ho0) hb); have n2_ := Aside0.mk (Kd.V_elder' z91_ (Kd.R_base ho0) hb); have n3_ := Aside0.mk (Kd.V_elder' z94_ (Kd.R_base ho0) hb); have n4_ := Aside0.mk (Kd.V_elder' z96_ (Kd.R_base ho0) hb); have n5_ := Aside0.mk (Kd.R_lower (Kd.R_new' (Kd.R_new' ho0 (Kd.R_lt (rA HO_6))) (Kd.R_lt (rA HO_7))) (below_size (kB HB))); have n6_ := Aside0.mk (kK BK548 hb); have n7_ := Aside0.mk (kK BK567 hb); have n8_ := Aside0.mk (kK BK568 hb); have n9_ := Aside0.mk (below_step (kB HB) hb); clear HO_6; clear HO_7; clear HO_549000; clear HO_568000; clear HO_569000; clear BK548; clear BK567; clear BK568; clear HB; have HO_6 := n0_; have HO_7 := n1_; have HO_549000 := n2_; have HO_568000 := n3_; have HO_569000 := n4_; have HO575 := n5_; have BK548 := n6_; have BK567 := n7_; have BK568 := n8_; have HB := n9_; clear n0_ n1_ n2_ n3_ n4_ n5_ n6_ n7_ n8_ n9_; (try clear hb); (try clear hb2); (try clear hk); (try clear hi); (try clear ho0); have hcz121_0 : w120.cell? ⟨gb567, 0, none⟩ = some (.slice Ao49 t561.length co49) := (blk_cell BK567.out 0).trans rfl; have hfz121_0 := blk_frozen BK567.out 0) | ((with_reducible refine gate_callee (f := 50) rfl ?_); refine gL (some 174) rfl rfl Try.func50 (by kernel_rfl) rfl #[.agg #[.slice Ao49 t561.length co49], .slice Ao17 t545.length co17] rfl ?_; (with_reducible refine (impl_ApplyMatrix.calls kj61 _ _ t561 _ _ t545 t577 false _ ?side1 ?side2 ?side3 ?side4 A71.out).mono ?_); (case side1 => repeat (first | exact (Kd.V_reads' HO_568000.out).2.2 | (with_reducible refine Kd.C_alloc ?_ _) | (with_reducible refine Kd.C_drewN ?_ _) | (with_reducible refine Kd.C_drew ?_))); (case side2 => exact (Kd.V_reads' HO_568000.out).2.1); (case side3 => exact cC (Kd.R_reads' HO_7.out).2.2); (case side4 => exact (Kd.R_reads' HO_7.out).2.1); rintro e w122 ⟨v578, rfl, ho0, hb⟩; refine ⟨_, rfl, ?_⟩; have n0_ := Aside0.mk (Kd.R_elder' (rA HO_6) (Kd.R_base ho0) hb); have n1_ := Aside0.mk (Kd.R_elder' (rA HO_7) (Kd.R_base ho0) hb); have n2_ := Aside0.mk (Kd.V_elder' z91_ (Kd.R_base ho0) hb); have n3_ := Aside0.mk (Kd.V_elder' z94_ (Kd.R_base ho0) hb); have n4_ := Aside0.mk (Kd.V_elder' z96_ (Kd.R_base ho0) hb); have n5_ := Aside0.mk (Kd.R_elder' (rA HO575) (Kd.R_base ho0) hb); have n6_ := Aside0.mk (Kd.R_lower (Kd.R_new' (Kd.R_new' (Kd.R_new' ho0 (Kd.R_lt (rA HO_6))) (Kd.R_lt (rA HO_7))) (Kd.R_lt (rA HO575))) (below_size (kB HB))); have n7_ := Aside0.mk (kK BK548 hb); have n8_ := Aside0.mk (kK BK567 hb); have n9_ := Aside0.mk (kK BK568 hb); have n10_ := Aside0.mk (below_step (kB HB) hb); clear HO_6; clear HO_7; clear HO_549000; clear HO_568000; clear HO_569000; clear HO575; clear BK548; clear BK567; clear BK568; clear HB; have HO_6 := n0_; have HO_7 := n1_; have HO_549000 := n2_; have HO_568000 := n3_; have HO_569000 := n4_; have HO575 := n5_; have HO579 := n6_; have BK548 := n7_; have BK567 := n8_; have BK568 := n9_; have HB := n10_; clear n0_ n1_ n2_ n3_ n4_ n5_ n6_ n7_ n8_ n9_ n10_; (try clear hb); (try clear hb2); (try clear hk); (try clear hi); (try clear ho0); have hnb123 := NB568_548.out; have hnc123 := NB548_568.out; have hcz124_0 : w122.cell? ⟨gb568, 0, none⟩ = some (.slice Ao53 t564.length co53) := (blk_cell BK568.out 0).trans rfl; have hfz124_0 := blk_frozen BK568.out 0; obtain ⟨Ao125, co125, eo125⟩ := Kd.R_slice HO575.out; subst eo125; obtain ⟨Ao126, co126, eo126⟩ := Kd.R_slice HO579.out; subst eo126) | ((with_reducible refine gate_callee (f := 43) rfl ?_); refine gL (some 181) rfl rfl Try.func43 (by kernel_rfl) rfl #[.agg #[.slice Ao53 t564.length co53], .slice Ao125 t573.length co125, .slice Ao126 t577.length co126] rfl ?_; (with_reducible refine (impl_ProductAt.calls kj61 _ _ t564 _ _ t573 _ _ t577 t581 t582 _ ?side1 ?side2 ?side3 ?side4 ?side5 ?side6 A72.out).mono ?_); (case side1 => repeat (first | exact (Kd.V_reads' HO_569000.out).2.2 | (with_reducible refine Kd.C_alloc ?_ _) | (with_reducible refine Kd.C_drewN ?_ _) | (with_reducible refine Kd.C_drew ?_))); (case side2 => exact (Kd.V_reads' HO_569000.out).2.1); (case side3 => exact cC (Kd.R_reads' HO575.out).2.2); (case side4 => exact (Kd.R_reads' HO575.out).2.1); (case side5 => exact cC (Kd.R_reads' HO579.out).2.2); (case side6 => exact (Kd.R_reads' HO579.out).2.1); rintro e w127 ⟨rfl, hb⟩; refine ⟨_, rfl, ?_⟩; have n0_ := Aside0.mk (Kd.R_below (rA HO_6) hb); have n1_ := Aside0.mk (Kd.R_below (rA HO_7) hb); have n2_ := Aside0.mk (Kd.V_below z91_ hb); have n3_ := Aside0.mk (Kd.V_below z94_ hb); have n4_ := Aside0.mk (Kd.V_below z96_ hb); have n5_ := Aside0.mk (Kd.R_below (rA HO575) hb); have n6_ := Aside0.mk (Kd.R_below (rA HO579) hb); have n7_ := Aside0.mk (kK BK548 hb); have n8_ := Aside0.mk (kK BK567 hb); have n9_ := Aside0.mk (kK BK568 hb); have n10_ := Aside0.mk (below_step (kB HB) hb); clear HO_6; clear HO_7; clear HO_549000; clear HO_568000; clear HO_569000; clear HO575; clear HO579; clear BK548; clear BK567; clear BK568; clear HB; have HO_6 := n0_; have HO_7 := n1_; have HO_549000 := n2_; have HO_568000 := n3_; have HO_569000 := n4_; have HO575 := n5_; have HO579 := n6_; have BK548 := n7_; have BK567 := n8_; have BK568 := n9_; have HB := n10_; clear n0_ n1_ n2_ n3_ n4_ n5_ n6_ n7_ n8_ n9_ n10_; (try clear hb); (try clear hb2); (try clear hk); (try clear hi); have hcz128_0 : w127.cell? ⟨gb568, 0, none⟩ = some (.slice Ao53 t564.length co53) := (blk_cell BK568.out 0).trans rfl; have hfz128_0 := blk_frozen BK568.out 0) | ((with_reducible refine gate_callee (f := 43) rfl ?_); refine gL (some 188) rfl rfl Try.func43 (by kernel_rfl) rfl #[.agg #[.slice Ao53 t564.length co53], .slice Ao16 t542.length co16, .slice Ao17 t545.length co17] rfl ?_; (with_reducible refine (impl_ProductAt.calls kj61 _ _ t564 _ _ t542 _ _ t545 t583 t584 _ ?side1 ?side2 ?side3 ?side4 ?side5 ?side6 A73.out).mono ?_); (case side1 => repeat (first | exact (Kd.V_reads' HO_569000.out).2.2 | (with_reducible refine Kd.C_alloc ?_ _) | (with_reducible refine Kd.C_drewN ?_ _) | (with_reducible refine Kd.C_drew ?_))); (case side2 => exact (Kd.V_reads' HO_569000.out).2.1); (case side3 => exact cC (Kd.R_reads' HO_6.out).2.2); (case side4 => exact (Kd.R_reads' HO_6.out).2.1); (case side5 => exact cC (Kd.R_reads' HO_7.out).2.2); (case side6 => exact (Kd.R_reads' HO_7.out).2.1); rintro e w129 ⟨rfl, hb⟩; refine ⟨_, rfl, ?_⟩; have n0_ := Aside0.mk (Kd.R_below (rA HO_6) hb); have n1_ := Aside0.mk (Kd.R_below (rA HO_7) hb); have n2_ := Aside0.mk (Kd.V_below z91_ hb); have n3_ := Aside0.mk (Kd.V_below z94_ hb); have n4_ := Aside0.mk (Kd.V_below z96_ hb); have n5_ := Aside0.mk (Kd.R_below (rA HO575) hb); have n6_ := Aside0.mk (Kd.R_below (rA HO579) hb); have n7_ := Aside0.mk (kK BK548 hb); have n8_ := Aside0.mk (kK BK567 hb); have n9_ := Aside0.mk (kK BK568 hb); have n10_ := Aside0.mk (below_step (kB HB) hb); clear HO_6; clear HO_7; clear HO_549000; clear HO_568000; clear HO_569000; clear HO575; clear HO579; clear BK548; clear BK567; clear BK568; clear HB; have HO_6 := n0_; have HO_7 := n1_; have HO_549000 := n2_; have HO_568000 := n3_; have HO_569000 := n4_; have HO575 := n5_; have HO579 := n6_; have BK548 := n7_; have BK567 := n8_; have BK568 := n9_; have HB := n10_; clear n0_ n1_ n2_ n3_ n4_ n5_ n6_ n7_ n8_ n9_ n10_; (try clear hb); (try clear hb2); (try clear hk); (try clear hi)))
                           go_meet
                           case rel => exact ⟨_, H', ⟨by have := HJ10.out; have := HJ35.out; have := HJ44.out; have := HJ61.out; first | omega | exact Nat.le_refl _⟩, ⟨z52_⟩, ⟨z50_⟩, ⟨z51_⟩, ⟨z87_⟩, ⟨z67_⟩, ⟨z83_⟩, ⟨kB HB⟩⟩
                         ·
                          replace c74 := Bool.eq_false_iff.mpr c74
                          subst c74
                          have H1 : (laws_FnForms.j4 kj61 l1) = some r := by rw [if_neg (show ¬ (false = true) by decide)] at H; exact H
                          clear H
                          have H := H1
                          clear H1
                          have H' := Aside0.mk H
                          clear H
                          have hnb130 := NB567_548.out
                          have hnc130 := NB548_567.out
                          have hnb131 := NB567_568.out
                          have hnc131 := NB568_567.out
                          have hcz132_0 : wc.cell? ⟨gb567, 0, none⟩ = some (.slice Ao49 t561.length co49) := (blk_cell BK567.out 0).trans rfl
                          have hfz132_0 := blk_frozen BK567.out 0
                          go_wp2_with (first | ((with_reducible refine gate_callee (f := 50) rfl ?_); refine gL (some 168) rfl rfl Try.func50 (by kernel_rfl) rfl #[.agg #[.slice Ao49 t561.length co49], .slice Ao16 t542.length co16] rfl ?_; (with_reducible refine (impl_ApplyMatrix.calls kj61 _ _ t561 _ _ t542 t573 false _ ?side1 ?side2 ?side3 ?side4 A70.out).mono ?_); (case side1 => repeat (first | exact (Kd.V_reads' HO_568000.out).2.2 | (with_reducible refine Kd.C_alloc ?_ _) | (with_reducible refine Kd.C_drewN ?_ _) | (with_reducible refine Kd.C_drew ?_))); (case side2 => exact (Kd.V_reads' HO_568000.out).2.1); (case side3 => exact cC (Kd.R_reads' HO_6.out).2.2); (case side4 => exact (Kd.R_reads' HO_6.out).2.1); rintro e w133 ⟨v574, rfl, ho0, hb⟩; refine ⟨_, rfl, ?_⟩; have n0_ := Aside0.mk (Kd.R_elder' (rA HO_6) (Kd.R_base ho0) hb); have n1_ := Aside0.mk (Kd.R_elder' (rA HO_7) (Kd.R_base ho0) hb); have n2_ := Aside0.mk (Kd.V_elder' z91_ (Kd.R_base ho0) hb); have n3_ := Aside0.mk (Kd.V_elder' z94_ (Kd.R_base ho0) hb); have n4_ := Aside0.mk (Kd.V_elder' z96_ (Kd.R_base ho0) hb); have n5_ := Aside0.mk (Kd.R_lower (Kd.R_new' (Kd.R_new' ho0 (Kd.R_lt (rA HO_6))) (Kd.R_lt (rA HO_7))) (below_size (kB HB))); have n6_ := Aside0.mk (kK BK548 hb); have n7_ := Aside0.mk (kK BK567 hb); have n8_ := Aside0.mk (kK BK568 hb); have n9_ := Aside0.mk (below_step (kB HB) hb); clear HO_6; clear HO_7; clear HO_549000; clear HO_568000; clear HO_569000; clear BK548; clear BK567; clear BK568; clear HB; have HO_6 := n0_; have HO_7 := n1_; have HO_549000 := n2_; have HO_568000 := n3_; have HO_569000 := n4_; have HO575 := n5_; have BK548 := n6_; have BK567 := n7_; have BK568 := n8_; have HB := n9_; clear n0_ n1_ n2_ n3_ n4_ n5_ n6_ n7_ n8_ n9_; (try clear hb); (try clear hb2); (try clear hk); (try clear hi); (try clear ho0); have hcz134_0 : w133.cell? ⟨gb567, 0, none⟩ = some (.slice Ao49 t561.length co49) := (blk_cell BK567.out 0).trans rfl; have hfz134_0 := blk_frozen BK567.out 0) | ((with_reducible refine gate_callee (f := 50) rfl ?_); refine gL (some 174) rfl rfl Try.func50 (by kernel_rfl) rfl #[.agg #[.slice Ao49 t561.length co49], .slice Ao17 t545.length co17] rfl ?_; (with_reducible refine (impl_ApplyMatrix.calls kj61 _ _ t561 _ _ t545 t577 t580 _ ?side1 ?side2 ?side3 ?side4 A71.out).mono ?_); (case side1 => repeat (first | exact (Kd.V_reads' HO_568000.out).2.2 | (with_reducible refine Kd.C_alloc ?_ _) | (with_reducible refine Kd.C_drewN ?_ _) | (with_reducible refine Kd.C_drew ?_))); (case side2 => exact (Kd.V_reads' HO_568000.out).2.1); (case side3 => exact cC (Kd.R_reads' HO_7.out).2.2); (case side4 => exact (Kd.R_reads' HO_7.out).2.1); rintro e w135 ⟨v578, rfl, ho0, hb⟩; refine ⟨_, rfl, ?_⟩; have n0_ := Aside0.mk (Kd.R_elder' (rA HO_6) (Kd.R_base ho0) hb); have n1_ := Aside0.mk (Kd.R_elder' (rA HO_7) (Kd.R_base ho0) hb); have n2_ := Aside0.mk (Kd.V_elder' z91_ (Kd.R_base ho0) hb); have n3_ := Aside0.mk (Kd.V_elder' z94_ (Kd.R_base ho0) hb); have n4_ := Aside0.mk (Kd.V_elder' z96_ (Kd.R_base ho0) hb); have n5_ := Aside0.mk (Kd.R_elder' (rA HO575) (Kd.R_base ho0) hb); have n6_ := Aside0.mk (Kd.R_lower (Kd.R_new' (Kd.R_new' (Kd.R_new' ho0 (Kd.R_lt (rA HO_6))) (Kd.R_lt (rA HO_7))) (Kd.R_lt (rA HO575))) (below_size (kB HB))); have n7_ := Aside0.mk (kK BK548 hb); have n8_ := Aside0.mk (kK BK567 hb); have n9_ := Aside0.mk (kK BK568 hb); have n10_ := Aside0.mk (below_step (kB HB) hb); clear HO_6; clear HO_7; clear HO_549000; clear HO_568000; clear HO_569000; clear HO575; clear BK548; clear BK567; clear BK568; clear HB; have HO_6 := n0_; have HO_7 := n1_; have HO_549000 := n2_; have HO_568000 := n3_; have HO_569000 := n4_; have HO575 := n5_; have HO579 := n6_; have BK548 := n7_; have BK567 := n8_; have BK568 := n9_; have HB := n10_; clear n0_ n1_ n2_ n3_ n4_ n5_ n6_ n7_ n8_ n9_ n10_; (try clear hb); (try clear hb2); (try clear hk); (try clear hi); (try clear ho0); have hnb136 := NB568_548.out; have hnc136 := NB548_568.out; have hcz137_0 : w135.cell? ⟨gb568, 0, none⟩ = some (.slice Ao53 t564.length co53) := (blk_cell BK568.out 0).trans rfl; have hfz137_0 := blk_frozen BK568.out 0; obtain ⟨Ao138, co138, eo138⟩ := Kd.R_slice HO575.out; subst eo138; obtain ⟨Ao139, co139, eo139⟩ := Kd.R_slice HO579.out; subst eo139) | ((with_reducible refine gate_callee (f := 43) rfl ?_); refine gL (some 181) rfl rfl Try.func43 (by kernel_rfl) rfl #[.agg #[.slice Ao53 t564.length co53], .slice Ao138 t573.length co138, .slice Ao139 t577.length co139] rfl ?_; (with_reducible refine (impl_ProductAt.calls kj61 _ _ t564 _ _ t573 _ _ t577 t581 t582 _ ?side1 ?side2 ?side3 ?side4 ?side5 ?side6 A72.out).mono ?_); (case side1 => repeat (first | exact (Kd.V_reads' HO_569000.out).2.2 | (with_reducible refine Kd.C_alloc ?_ _) | (with_reducible refine Kd.C_drewN ?_ _) | (with_reducible refine Kd.C_drew ?_))); (case side2 => exact (Kd.V_reads' HO_569000.out).2.1); (case side3 => exact cC (Kd.R_reads' HO575.out).2.2); (case side4 => exact (Kd.R_reads' HO575.out).2.1); (case side5 => exact cC (Kd.R_reads' HO579.out).2.2); (case side6 => exact (Kd.R_reads' HO579.out).2.1); rintro e w140 ⟨rfl, hb⟩; refine ⟨_, rfl, ?_⟩; have n0_ := Aside0.mk (Kd.R_below (rA HO_6) hb); have n1_ := Aside0.mk (Kd.R_below (rA HO_7) hb); have n2_ := Aside0.mk (Kd.V_below z91_ hb); have n3_ := Aside0.mk (Kd.V_below z94_ hb); have n4_ := Aside0.mk (Kd.V_below z96_ hb); have n5_ := Aside0.mk (Kd.R_below (rA HO575) hb); have n6_ := Aside0.mk (Kd.R_below (rA HO579) hb); have n7_ := Aside0.mk (kK BK548 hb); have n8_ := Aside0.mk (kK BK567 hb); have n9_ := Aside0.mk (kK BK568 hb); have n10_ := Aside0.mk (below_step (kB HB) hb); clear HO_6; clear HO_7; clear HO_549000; clear HO_568000; clear HO_569000; clear HO575; clear HO579; clear BK548; clear BK567; clear BK568; clear HB; have HO_6 := n0_; have HO_7 := n1_; have HO_549000 := n2_; have HO_568000 := n3_; have HO_569000 := n4_; have HO575 := n5_; have HO579 := n6_; have BK548 := n7_; have BK567 := n8_; have BK568 := n9_; have HB := n10_; clear n0_ n1_ n2_ n3_ n4_ n5_ n6_ n7_ n8_ n9_ n10_; (try clear hb); (try clear hb2); (try clear hk); (try clear hi); have hcz141_0 : w140.cell? ⟨gb568, 0, none⟩ = some (.slice Ao53 t564.length co53) := (blk_cell BK568.out 0).trans rfl; have hfz141_0 := blk_frozen BK568.out 0) | ((with_reducible refine gate_callee (f := 43) rfl ?_); refine gL (some 188) rfl rfl Try.func43 (by kernel_rfl) rfl #[.agg #[.slice Ao53 t564.length co53], .slice Ao16 t542.length co16, .slice Ao17 t545.length co17] rfl ?_; (with_reducible refine (impl_ProductAt.calls kj61 _ _ t564 _ _ t542 _ _ t545 t583 t584 _ ?side1 ?side2 ?side3 ?side4 ?side5 ?side6 A73.out).mono ?_); (case side1 => repeat (first | exact (Kd.V_reads' HO_569000.out).2.2 | (with_reducible refine Kd.C_alloc ?_ _) | (with_reducible refine Kd.C_drewN ?_ _) | (with_reducible refine Kd.C_drew ?_))); (case side2 => exact (Kd.V_reads' HO_569000.out).2.1); (case side3 => exact cC (Kd.R_reads' HO_6.out).2.2); (case side4 => exact (Kd.R_reads' HO_6.out).2.1); (case side5 => exact cC (Kd.R_reads' HO_7.out).2.2); (case side6 => exact (Kd.R_reads' HO_7.out).2.1); rintro e w142 ⟨rfl, hb⟩; refine ⟨_, rfl, ?_⟩; have n0_ := Aside0.mk (Kd.R_below (rA HO_6) hb); have n1_ := Aside0.mk (Kd.R_below (rA HO_7) hb); have n2_ := Aside0.mk (Kd.V_below z91_ hb); have n3_ := Aside0.mk (Kd.V_below z94_ hb); have n4_ := Aside0.mk (Kd.V_below z96_ hb); have n5_ := Aside0.mk (Kd.R_below (rA HO575) hb); have n6_ := Aside0.mk (Kd.R_below (rA HO579) hb); have n7_ := Aside0.mk (kK BK548 hb); have n8_ := Aside0.mk (kK BK567 hb); have n9_ := Aside0.mk (kK BK568 hb); have n10_ := Aside0.mk (below_step (kB HB) hb); clear HO_6; clear HO_7; clear HO_549000; clear HO_568000; clear HO_569000; clear HO575; clear HO579; clear BK548; clear BK567; clear BK568; clear HB; have HO_6 := n0_; have HO_7 := n1_; have HO_549000 := n2_; have HO_568000 := n3_; have HO_569000 := n4_; have HO575 := n5_; have HO579 := n6_; have BK548 := n7_; have BK567 := n8_; have BK568 := n9_; have HB := n10_; clear n0_ n1_ n2_ n3_ n4_ n5_ n6_ n7_ n8_ n9_ n10_; (try clear hb); (try clear hb2); (try clear hk); (try clear hi)))
                          go_meet
                          case rel => exact ⟨_, H', ⟨by have := HJ10.out; have := HJ35.out; have := HJ44.out; have := HJ61.out; first | omega | exact Nat.le_refl _⟩, ⟨z52_⟩, ⟨z50_⟩, ⟨z51_⟩, ⟨z87_⟩, ⟨z67_⟩, ⟨z83_⟩, ⟨kB HB⟩⟩
                       ·
                        replace c69 := Bool.eq_false_iff.mpr c69
                        subst c69
                        have H1 : (laws_FnForms.j4 kj61 l1) = some r := by rw [if_neg (show ¬ (false = true) by decide)] at H; exact H
                        clear H
                        have H := H1
                        clear H1
                        have H' := Aside0.mk H
                        clear H
                        go_wp2
                        go_meet
                        case rel => exact ⟨_, H', ⟨by have := HJ10.out; have := HJ35.out; have := HJ44.out; have := HJ61.out; first | omega | exact Nat.le_refl _⟩, ⟨by (with_reducible repeat (first | apply Kd.V_alloc | apply Kd.V_drewN | apply Kd.V_drew)); exact Kd.V_mono HO_549000.out (fun _ hk => ⟨hk.2.2.1, ⟨hk.2.2.2.1, hk.2.2.2.2⟩⟩)⟩, ⟨by (with_reducible repeat (first | apply Kd.V_alloc | apply Kd.V_drewN | apply Kd.V_drew)); exact Kd.V_mono HO_568000.out (fun _ hk => ⟨hk.2.2.1, ⟨hk.2.2.2.1, hk.2.2.2.2⟩⟩)⟩, ⟨by (with_reducible repeat (first | apply Kd.V_alloc | apply Kd.V_drewN | apply Kd.V_drew)); exact Kd.V_mono HO_569000.out (fun _ hk => ⟨hk.2.2.1, ⟨hk.2.2.2.1, hk.2.2.2.2⟩⟩)⟩, ⟨z87_⟩, ⟨z67_⟩, ⟨z83_⟩, ⟨kB HB⟩⟩
                     case rest =>
                      as_aux_lemma =>
                       clear HC68; (try clear c1); (try clear c2); (try clear p2); (try clear c3); (try clear c4); (try clear c5); (try clear c6); (try clear c7); (try clear c8); (try clear c9); (try clear c10); (try clear c11); (try clear c12); (try clear c13); (try clear c27); (try clear c27b0); (try clear c27b1); (try clear c27b2); (try clear c28); (try clear c28b0); (try clear c28b1); (try clear c29); (try clear c29b0); (try clear c29b1); (try clear c29b2); (try clear c30); (try clear c31); (try clear c31b0); (try clear c31b1); (try clear c32); (try clear c32b0); (try clear c32b1); (try clear c32b2); (try clear c33); (try clear c33b0); (try clear c33b1); (try clear c33b2); (try clear c34); (try clear c39); (try clear c40); (try clear c41); (try clear c42); (try clear c43); (try clear c44); (try clear c45); (try clear c46); (try clear c47); (try clear c48); (try clear c49); (try clear c50); (try clear c51); (try clear c54); (try clear c60); (try clear c60b0); (try clear c60b1); (try clear c60b2); (try clear c61); (try clear c63); (try clear c64); (try clear c65); (try clear c66); (try clear c69); (try clear c74); (try clear c75); (try clear c76); (try clear c76b0); (try clear c76b1); (try clear c76b2); (try clear c77); (try clear c78); (try clear c83); (try clear c90); (try clear c90b0); (try clear c90b1); (try clear c91); (try clear c92); (try clear c97); (try clear c104); (try clear c105); (try clear c110); (try clear c117); (try clear c118); (try clear c123); (try clear c130); (try clear c131); (try clear c136); (try clear hcz102_0); (try clear hcz106_0); (try clear hcz108_0); (try clear hcz111_0); (try clear hcz115_0); (try clear hcz119_0); (try clear hcz121_0); (try clear hcz124_0); (try clear hcz128_0); (try clear hcz132_0); (try clear hcz134_0); (try clear hcz137_0); (try clear hcz141_0); (try clear hcz15_0); (try clear hcz19_0); (try clear hcz21_0); (try clear hcz23_0); (try clear hcz25_0); (try clear hcz37_0); (try clear hcz52_0); (try clear hcz55_0); (try clear hcz57_0); (try clear hcz58_0); (try clear hcz67_0); (try clear hcz79_0); (try clear hcz81_0); (try clear hcz84_0); (try clear hcz88_0); (try clear hcz93_0); (try clear hcz95_0); (try clear hcz98_0); (try clear hfz102_0); (try clear hfz106_0); (try clear hfz108_0); (try clear hfz111_0); (try clear hfz115_0); (try clear hfz119_0); (try clear hfz121_0); (try clear hfz124_0); (try clear hfz128_0); (try clear hfz132_0); (try clear hfz134_0); (try clear hfz137_0); (try clear hfz141_0); (try clear hfz15_0); (try clear hfz19_0); (try clear hfz21_0); (try clear hfz23_0); (try clear hfz25_0); (try clear hfz37_0); (try clear hfz52_0); (try clear hfz55_0); (try clear hfz57_0); (try clear hfz58_0); (try clear hfz67_0); (try clear hfz79_0); (try clear hfz81_0); (try clear hfz84_0); (try clear hfz88_0); (try clear hfz93_0); (try clear hfz95_0); (try clear hfz98_0); (try clear p2)
                       obtain ⟨kq, HA, HJ67, HO_549000, HO_568000, HO_569000, BK548, BK567, BK568, HB⟩ := hcut
                       cases kq with
                       | zero => exact absurd HA.out (by simp [laws_FnForms.j4])
                       | succ kj67 =>
                        have H := HA.out
                        clear HA
                        simp only [laws_FnForms.j4] at H
                        replace H := Option.bind_eq_some_iff.mp H
                        obtain ⟨⟨t585, t588⟩, A1430, H⟩ := H
                        replace H : ((impl_ApplyMatrix.f kj67 t585 t588).bind fun bt592 => ((spec_ApplyMatrix.f kj67 t585 t588).bind fun bt596 => (if (bt592.2 == bt596.2) = true then ((laws_dSame.f kj67 bt592.1 bt596.1).bind fun t600 => (some t600)) else (some false)))) = some r := H
                        have A143 := Aside0.mk A1430
                        clear A1430
                        replace H := Option.bind_eq_some_iff.mp H
                        obtain ⟨⟨t592, t595⟩, A1440, H⟩ := H
                        replace H : ((spec_ApplyMatrix.f kj67 t585 t588).bind fun bt596 => (if (t595 == bt596.2) = true then ((laws_dSame.f kj67 t592 bt596.1).bind fun t600 => (some t600)) else (some false))) = some r := H
                        have A144 := Aside0.mk A1440
                        clear A1440
                        replace H := Option.bind_eq_some_iff.mp H
                        obtain ⟨⟨t596, t599⟩, A1450, H⟩ := H
                        replace H : (if (t595 == t599) = true then ((laws_dSame.f kj67 t592 t596).bind fun t600 => (some t600)) else (some false)) = some r := H
                        have A145 := Aside0.mk A1450
                        clear A1450
                        by_cases c146 : (t595 == t599) = true
                        ·
                         rw [if_pos c146] at H
                         have c146b0 : (t595 == t599) = true := c146
                         (try (have c146b1 : decide (t595 = t599) = true := by simpa using c146))
                         (try (have c146b2 : (t595 == t599) = true := by simpa using c146))
                         clear c146
                         replace H := Option.bind_eq_some_iff.mp H
                         obtain ⟨t600, A1470, H⟩ := H
                         replace H : (some t600) = some r := H
                         have A147 := Aside0.mk A1470
                         clear A1470
                         obtain rfl := Option.some.inj H
                         go_wp2_with (first | ((with_reducible refine gate_callee (f := 51) rfl ?_); refine gL (some 207) rfl rfl Try.func51 (by kernel_rfl) rfl #[.slice A1 l1.length c1] rfl ?_; (with_reducible refine (spec_DrawApplyMatrix.calls kj67 _ _ l1 t585 t588 _ ?side1 ?side2 A143.out).mono ?_); (case side1 => exact cC (Kd.C_below HR1.out HB.out)); (case side2 => exact HC1.out); rintro e w148 ⟨v586, v589, rfl, ho0, ho1, hb⟩; refine ⟨_, rfl, ?_⟩; have n0_ := Aside0.mk (Kd.V_elder' z91_ (Kd.R_base ho1) hb); have n1_ := Aside0.mk (Kd.V_elder' z94_ (Kd.R_base ho1) hb); have n2_ := Aside0.mk (Kd.V_elder' z96_ (Kd.R_base ho1) hb); have n3_ := Aside0.mk (Kd.V_lower (Kd.V_mono (ok' := fun k_ => some k_ ≠ (v589 : Value).ownBlock ∧ k_ ≠ gb548 ∧ k_ ≠ gb567 ∧ k_ ≠ gb568) ho0 (fun k_ hk_ => ⟨hk_.2, (Kd.freshB (g := gb548) (o := .cells #[.slice Ao14 t539.length co14] 26 (0, 0)) (bA BK548) k_ hk_.1), (Kd.freshB (g := gb567) (o := .cells #[.slice Ao49 t561.length co49] 26 (0, 0)) (bA BK567) k_ hk_.1), (Kd.freshB (g := gb568) (o := .cells #[.slice Ao53 t564.length co53] 26 (0, 0)) (bA BK568) k_ hk_.1)⟩)) (below_size (kB HB))); have n4_ := Aside0.mk (Kd.R_lower (Kd.R_mono (ok' := fun k_ => True) ho1 (fun _ hk_ => trivial)) (below_size (kB HB))); have n5_ := Aside0.mk (kK BK548 hb); have n6_ := Aside0.mk (kK BK567 hb); have n7_ := Aside0.mk (kK BK568 hb); have n8_ := Aside0.mk (below_step (kB HB) hb); clear HO_549000; clear HO_568000; clear HO_569000; clear BK548; clear BK567; clear BK568; clear HB; have HO_549000 := n0_; have HO_568000 := n1_; have HO_569000 := n2_; have HO587 := n3_; have HO590 := n4_; have BK548 := n5_; have BK567 := n6_; have BK568 := n7_; have HB := n8_; clear n0_ n1_ n2_ n3_ n4_ n5_ n6_ n7_ n8_; (try clear hb); (try clear hb2); (try clear hk); (try clear hi); (try clear ho0); (try clear ho1)) | ((with_reducible refine gate_dst (N := 34) rfl ?_); (try (refine gate_guard (by rfl) ?_; dsimp only)); refine box_event ?hg (N := 34) ?hd (cs := #[.slice none 0 0]) (t := 26) ?hr ?_; (case hd => rfl); (case hg => rfl); (case hr => exact z116_); intro gb591 hg w149 hbox hb; have n0_ := Aside0.mk (Kd.V_below (Kd.V_elderB z91_ gb591 (Nat.le_of_eq hg.symm)) hb); have n1_ := Aside0.mk (Kd.V_below (Kd.V_elderB z94_ gb591 (Nat.le_of_eq hg.symm)) hb); have n2_ := Aside0.mk (Kd.V_below (Kd.V_elderB z96_ gb591 (Nat.le_of_eq hg.symm)) hb); have n3_ := Aside0.mk (Kd.V_below (Kd.V_elderB z112_ gb591 (Nat.le_of_eq hg.symm)) hb); have n4_ := Aside0.mk (Kd.R_below (rA HO590) hb); have n5_ := Aside0.mk (kK BK548 hb); have n6_ := Aside0.mk (kK BK567 hb); have n7_ := Aside0.mk (kK BK568 hb); have n8_ := Aside0.mk (below_step (kB HB) hb); have n9_ := Aside0.mk (hbox); have n10_ := Aside0.mk ((by rw [hg]; exact (below_size (kB HB)) : w.heap.size ≤ gb591)); have n11_ := Aside0.mk ((by rw [hg]; exact (below_size (kB HB)) : w.heap.size ≤ gb591)); have n12_ := Aside0.mk ((by rw [hg]; exact Nat.ne_of_lt (blk_lt (g := gb548) (o := .cells #[.slice Ao14 t539.length co14] 26 (0, 0)) (bA BK548)) : gb548 ≠ gb591)); have n13_ := Aside0.mk ((by rw [hg]; exact Nat.ne_of_gt (blk_lt (g := gb548) (o := .cells #[.slice Ao14 t539.length co14] 26 (0, 0)) (bA BK548)) : gb591 ≠ gb548)); have n14_ := Aside0.mk ((by rw [hg]; exact Nat.ne_of_lt (blk_lt (g := gb567) (o := .cells #[.slice Ao49 t561.length co49] 26 (0, 0)) (bA BK567)) : gb567 ≠ gb591)); have n15_ := Aside0.mk ((by rw [hg]; exact Nat.ne_of_gt (blk_lt (g := gb567) (o := .cells #[.slice Ao49 t561.length co49] 26 (0, 0)) (bA BK567)) : gb591 ≠ gb567)); have n16_ := Aside0.mk ((by rw [hg]; exact Nat.ne_of_lt (blk_lt (g := gb568) (o := .cells #[.slice Ao53 t564.length co53] 26 (0, 0)) (bA BK568)) : gb568 ≠ gb591)); have n17_ := Aside0.mk ((by rw [hg]; exact Nat.ne_of_gt (blk_lt (g := gb568) (o := .cells #[.slice Ao53 t564.length co53] 26 (0, 0)) (bA BK568)) : gb591 ≠ gb568)); clear HO_549000; clear HO_568000; clear HO_569000; clear HO587; clear HO590; clear BK548; clear BK567; clear BK568; clear HB; have HO_549000 := n0_; have HO_568000 := n1_; have HO_569000 := n2_; have HO587 := n3_; have HO590 := n4_; have BK548 := n5_; have BK567 := n6_; have BK568 := n7_; have HB := n8_; have BK591 := n9_; have GW591 := n10_; have GE591 := n11_; have NB548_591 := n12_; have NB591_548 := n13_; have NB567_591 := n14_; have NB591_567 := n15_; have NB568_591 := n16_; have NB591_568 := n17_; clear n0_ n1_ n2_ n3_ n4_ n5_ n6_ n7_ n8_ n9_ n10_ n11_ n12_ n13_ n14_ n15_ n16_ n17_; clear hb hbox hg; obtain ⟨Ao150, co150, eo150⟩ := Kd.V_slice HO587.out; subst eo150; have hnb151 := NB591_548.out; have hnc151 := NB548_591.out; have hnb152 := NB591_567.out; have hnc152 := NB567_591.out; have hnb153 := NB591_568.out; have hnc153 := NB568_591.out; have hcz154_0 : w149.cell? ⟨gb591, 0, none⟩ = some (.slice none 0 0) := (blk_cell BK591.out 0).trans rfl; have hfz154_0 := blk_frozen BK591.out 0; obtain ⟨Ao155, co155, eo155⟩ := Kd.R_slice HO590.out; subst eo155) | ((with_reducible refine gate_callee (f := 50) rfl ?_); refine gL (some 213) rfl rfl Try.func50 (by kernel_rfl) rfl #[.agg #[.slice Ao150 t585.length co150], .slice Ao155 t588.length co155] rfl ?_; (with_reducible refine (impl_ApplyMatrix.calls kj67 _ _ t585 _ _ t588 t592 t595 _ ?side1 ?side2 ?side3 ?side4 A144.out).mono ?_); (case side1 => refine (Kd.V_reads' (e := 34) (base := w.heap.size) (ok := fun k_ => ((some k_ ≠ (.slice Ao155 t588.length co155 : Value).ownBlock ∧ (k_ ≠ gb548 ∧ (k_ ≠ gb567 ∧ k_ ≠ gb568))) ∧ k_ ≠ gb591)) (n := t585.length) (c := co150) ?_).2.2; exact z12_); (case side2 => exact (Kd.V_reads' HO587.out).2.1); (case side3 => refine (Kd.R_reads' (e := 3) (base := w.heap.size) (ok := fun k_ => True) (n := t588.length) (c := co155) ?_).2.2; exact z23_); (case side4 => exact (Kd.R_reads' HO590.out).2.1); rintro e w156 ⟨v593, rfl, ho0, hb⟩; refine ⟨_, rfl, ?_⟩; have n0_ := Aside0.mk (Kd.V_elder' (by (with_reducible repeat (first | apply Kd.V_alloc | apply Kd.V_drewN | apply Kd.V_drew)); exact (Kd.V_mono (Kd.V_far (p := ⟨gb591, 0, none⟩) (Kd.V_mono HO_549000.out (fun k_ hk => (⟨hk, hk.2⟩ : _ ∧ k_ ≠ gb591))) (fun _ hk => hk.2) (.slice Ao150 t585.length co150)) (fun _ h_ => h_.1))) (Kd.R_base ho0) hb); have n1_ := Aside0.mk (Kd.V_elder' (by (with_reducible repeat (first | apply Kd.V_alloc | apply Kd.V_drewN | apply Kd.V_drew)); exact (Kd.V_mono (Kd.V_far (p := ⟨gb591, 0, none⟩) (Kd.V_mono HO_568000.out (fun k_ hk => (⟨hk, hk.2⟩ : _ ∧ k_ ≠ gb591))) (fun _ hk => hk.2) (.slice Ao150 t585.length co150)) (fun _ h_ => h_.1))) (Kd.R_base ho0) hb); have n2_ := Aside0.mk (Kd.V_elder' (by (with_reducible repeat (first | apply Kd.V_alloc | apply Kd.V_drewN | apply Kd.V_drew)); exact (Kd.V_mono (Kd.V_far (p := ⟨gb591, 0, none⟩) (Kd.V_mono HO_569000.out (fun k_ hk => (⟨hk, hk.2⟩ : _ ∧ k_ ≠ gb591))) (fun _ hk => hk.2) (.slice Ao150 t585.length co150)) (fun _ h_ => h_.1))) (Kd.R_base ho0) hb); have n3_ := Aside0.mk (Kd.V_elder' z12_ (Kd.R_base ho0) hb); have n4_ := Aside0.mk (Kd.R_elder' z23_ (Kd.R_base ho0) hb); have n5_ := Aside0.mk (Kd.R_lower (Kd.R_new' ho0 (Kd.R_lt z23_)) (below_size (kB HB))); have n6_ := Aside0.mk (blk_below (g := gb548) (o := .cells #[.slice Ao14 t539.length co14] 26 (0, 0)) (by (with_reducible repeat (first | refine blk_drewN ?_ _ | refine blk_drew ?_ | refine blk_alloc ?_ _)); refine blk_far ?_ NB548_591.out _; (with_reducible repeat (first | refine blk_drewN ?_ _ | refine blk_drew ?_ | refine blk_alloc ?_ _)); exact BK548.out) hb); have n7_ := Aside0.mk (blk_below (g := gb567) (o := .cells #[.slice Ao49 t561.length co49] 26 (0, 0)) (by (with_reducible repeat (first | refine blk_drewN ?_ _ | refine blk_drew ?_ | refine blk_alloc ?_ _)); refine blk_far ?_ NB567_591.out _; (with_reducible repeat (first | refine blk_drewN ?_ _ | refine blk_drew ?_ | refine blk_alloc ?_ _)); exact BK567.out) hb); have n8_ := Aside0.mk (blk_below (g := gb568) (o := .cells #[.slice Ao53 t564.length co53] 26 (0, 0)) (by (with_reducible repeat (first | refine blk_drewN ?_ _ | refine blk_drew ?_ | refine blk_alloc ?_ _)); refine blk_far ?_ NB568_591.out _; (with_reducible repeat (first | refine blk_drewN ?_ _ | refine blk_drew ?_ | refine blk_alloc ?_ _)); exact BK568.out) hb); have n9_ := Aside0.mk (blk_below (g := gb591) (o := .cells #[.slice Ao150 t585.length co150] 26 (0, 0)) (by (with_reducible repeat (first | refine blk_drewN ?_ _ | refine blk_drew ?_ | refine blk_alloc ?_ _)); refine blk_put (cs := #[.slice none 0 0]) ?_ 0 _ rfl; (with_reducible repeat (first | refine blk_drewN ?_ _ | refine blk_drew ?_ | refine blk_alloc ?_ _)); exact BK591.out) hb); have n10_ := Aside0.mk (below_step (kB HB) hb); clear HO_549000; clear HO_568000; clear HO_569000; clear HO587; clear HO590; clear BK548; clear BK567; clear BK568; clear BK591; clear HB; have HO_549000 := n0_; have HO_568000 := n1_; have HO_569000 := n2_; have HO587 := n3_; have HO590 := n4_; have HO594 := n5_; have BK548 := n6_; have BK567 := n7_; have BK568 := n8_; have BK591 := n9_; have HB := n10_; clear n0_ n1_ n2_ n3_ n4_ n5_ n6_ n7_ n8_ n9_ n10_; (try clear hb); (try clear hb2); (try clear hk); (try clear hi); (try clear ho0); have hcz157_0 : w156.cell? ⟨gb591, 0, none⟩ = some (.slice Ao150 t585.length co150) := (blk_cell BK591.out 0).trans rfl; have hfz157_0 := blk_frozen BK591.out 0) | ((with_reducible refine gate_callee (f := 52) rfl ?_); refine gL (some 219) rfl rfl Try.func52 (by kernel_rfl) rfl #[.agg #[.slice Ao150 t585.length co150], .slice Ao155 t588.length co155] rfl ?_; (with_reducible refine (spec_ApplyMatrix.calls kj67 _ _ t585 _ _ t588 t596 t599 _ ?side1 ?side2 ?side3 ?side4 A145.out).mono ?_); (case side1 => repeat (first | exact (Kd.V_reads' HO587.out).2.2 | (with_reducible refine Kd.C_alloc ?_ _) | (with_reducible refine Kd.C_drewN ?_ _) | (with_reducible refine Kd.C_drew ?_))); (case side2 => exact (Kd.V_reads' HO587.out).2.1); (case side3 => exact cC (Kd.R_reads' HO590.out).2.2); (case side4 => exact (Kd.R_reads' HO590.out).2.1); rintro e w158 ⟨v597, rfl, ho0, hb⟩; refine ⟨_, rfl, ?_⟩; have n0_ := Aside0.mk (Kd.V_elder' z91_ (Kd.R_base ho0) hb); have n1_ := Aside0.mk (Kd.V_elder' z94_ (Kd.R_base ho0) hb); have n2_ := Aside0.mk (Kd.V_elder' z96_ (Kd.R_base ho0) hb); have n3_ := Aside0.mk (Kd.V_elder' z112_ (Kd.R_base ho0) hb); have n4_ := Aside0.mk (Kd.R_elder' (rA HO590) (Kd.R_base ho0) hb); have n5_ := Aside0.mk (Kd.R_elder' (rA HO594) (Kd.R_base ho0) hb); have n6_ := Aside0.mk (Kd.R_lower (Kd.R_new' (Kd.R_new' ho0 (Kd.R_lt (rA HO590))) (Kd.R_lt (rA HO594))) (below_size (kB HB))); have n7_ := Aside0.mk (kK BK548 hb); have n8_ := Aside0.mk (kK BK567 hb); have n9_ := Aside0.mk (kK BK568 hb); have n10_ := Aside0.mk (kK BK591 hb); have n11_ := Aside0.mk (below_step (kB HB) hb); clear HO_549000; clear HO_568000; clear HO_569000; clear HO587; clear HO590; clear HO594; clear BK548; clear BK567; clear BK568; clear BK591; clear HB; have HO_549000 := n0_; have HO_568000 := n1_; have HO_569000 := n2_; have HO587 := n3_; have HO590 := n4_; have HO594 := n5_; have HO598 := n6_; have BK548 := n7_; have BK567 := n8_; have BK568 := n9_; have BK591 := n10_; have HB := n11_; clear n0_ n1_ n2_ n3_ n4_ n5_ n6_ n7_ n8_ n9_ n10_ n11_; (try clear hb); (try clear hb2); (try clear hk); (try clear hi); (try clear ho0); obtain ⟨Ao159, co159, eo159⟩ := Kd.R_slice HO594.out; subst eo159; obtain ⟨Ao160, co160, eo160⟩ := Kd.R_slice HO598.out; subst eo160) | (go_at_call 53; (with_reducible refine (laws_dSame.calls kj67 _ _ t592 _ _ t596 t600 _ ?side1 ?side2 ?side3 ?side4 A147.out).mono ?_); (case side1 => exact cC (Kd.R_reads' HO594.out).2.2); (case side2 => exact (Kd.R_reads' HO594.out).2.1); (case side3 => exact cC (Kd.R_reads' HO598.out).2.2); (case side4 => exact (Kd.R_reads' HO598.out).2.1); rintro e w' ⟨rfl, ⟨nd, rfl⟩⟩))
                         go_ret
                         exact ⟨e1, kB HB⟩
                        ·
                         rw [if_neg c146] at H
                         exact absurd (H.trans (congrArg some hrT)) (by simp)
/-- THE ONE PURE STATEMENT of laws_FnForms: yours. -/
def laws_FnForms.Pure : Prop := ∀ (l0 : List Int) (l1 : List Int), l0.length ≤ maxLen → l0.length * 1 ≤ 140737488351232 → (∀ x ∈ l0, (Lit.int .u8 x).wf = true) → l1.length ≤ maxLen → l1.length * 1 ≤ 140737488351232 → (∀ x ∈ l1, (Lit.int .u8 x).wf = true) → ∃ k, laws_FnForms.f k l0 l1 = some true
theorem laws_FnForms.walk (P : laws_FnForms.Pure) (a0 : Option Addr) (len0 cap0 : Nat) (z0 : List Int) (a1 : Option Addr) (len1 cap1 : Nat) (z1 : List Int) (w : World) (w0 : (a0 = none ∧ len0 = 0 ∧ cap0 = 0 ∧ z0 = []) ∨ ∃ x, a0 = some x ∧ len0 ≤ cap0 ∧ cap0 ≤ maxLen ∧ z0.length = cap0 ∧ (∀ i, i < z0.length → w.cell? (x.add i) = some (.int .u8 (z0.getD i 0))) ∧ ∀ n ∈ z0, (Lit.int .u8 n).wf = true) (y0 : len0 * 1 ≤ 140737488351232) (w1 : (a1 = none ∧ len1 = 0 ∧ cap1 = 0 ∧ z1 = []) ∨ ∃ x, a1 = some x ∧ len1 ≤ cap1 ∧ cap1 ≤ maxLen ∧ z1.length = cap1 ∧ (∀ i, i < z1.length → w.cell? (x.add i) = some (.int .u8 (z1.getD i 0))) ∧ ∀ n ∈ z1, (Lit.int .u8 n).wf = true) (y1 : len1 * 1 ≤ 140737488351232) :
 Calls Try.prog 7 #[.slice a0 len0 cap0, .slice a1 len1 cap1] w fun e w' => e = .returned (.bool true) ∧ Below w.heap.size w w' := by
 obtain ⟨l0, rfl, hr0, hm0, hw0, hc0⟩ := ReadsInt.ofRowC w0
 obtain ⟨l1, rfl, hr1, hm1, hw1, hc1⟩ := ReadsInt.ofRowC w1
 obtain ⟨k, h⟩ := P l0 l1 hm0 y0 hw0 hm1 y1 hw1
 refine (laws_FnForms.calls k _ _ l0 _ _ l1 true w (Kd.C_of_reads (d := (0 : Int)) (h1 := fun _ => rfl) hr0) hc0 (Kd.C_of_reads (d := (0 : Int)) (h1 := fun _ => rfl) hr1) hc1 h rfl).mono ?_
 rintro e w' ⟨rfl, hd⟩
 exact ⟨rfl, hd⟩

end Go.Proofs.Ytldkkfpodldbgaa.P
