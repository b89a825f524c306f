-- Written by a program of this session (wip/mkprint.py over the kit's print), out of the translation. Not trusted: Lean checks it.
import Derived.Test.YtnaginnhccldhaaAx0
import Derived.Test.YtnaginnhccldhaaAx1
import Derived.Test.YtnaginnhccldhaaAx2
import Derived.Test.YtnaginnhccldhaaAx3
import Derived.Test.YtnaginnhccldhaaAx6
import Derived.Test.YtnaginnhccldhaaAx9
import Derived.Test.YtnaginnhccldhaaAx10
import Derived.Test.YtnaginnhccldhaaAx11
import Derived.Test.YtnaginnhccldhaaAx12
namespace Go.Proofs.Ytnaginnhccldhaa.P
open Go.RowKit Go.Proofs.YtnaginnhccldhaaW.PrintWords Go.Proofs.YtnaginnhccldhaaW.PrintLast Go.Proofs.YtnaginnhccldhaaW.PrintMore
attribute [local go_sem] max2_int min2_int max_two min_two max_three min_three max_four min_four   -- for this text's walks alone
set_option linter.unusedVariables false
set_option linter.unusedSimpArgs false

/-! ### laws_FnSwapsKeepTheForm: function 3 -/
mutual
def laws_FnSwapsKeepTheForm.j0 : Nat → List Int → Int → Bool → Bool → List (List Int) → List (List Int) → Option (Bool)
 | 0, _, _, _, _, _, _ => none
 | k + 1, x1, x6, x8, x65, x477000, x487000 => if x65 = true then (some false) else (if x8 = true then ((impl_KeepsForm.f k x487000 x477000).bind fun bt493 => ((impl_MultiplyMatrices.f x487000 x487000).bind fun bt495 => ((impl_UnitMatrix.f 4).bind fun bt500 => (if bt493.2 = true then (if bt493.1 = true then (if bt495.2 = true then (if bt500.2 = true then ((laws_dMatrix.f k bt495.1 bt500.1).bind fun t505 => (if t505 = true then (laws_FnSwapsKeepTheForm.j1 k x1 x6 x8 x477000 x487000) else (some false))) else (some false)) else (some false)) else (some false)) else (some false))))) else (laws_FnSwapsKeepTheForm.j1 k x1 x6 x8 x477000 x487000))
def laws_FnSwapsKeepTheForm.j1 : Nat → List Int → Int → Bool → List (List Int) → List (List Int) → Option (Bool)
 | 0, _, _, _, _, _ => none
 | k + 1, x1, x6, x8, x477000, x487000 => (spec_DrawFollowSwaps.f k x1).bind fun bt506 => ((impl_FollowSwaps.f k bt506.1 bt506.2).bind fun bt512 => ((spec_FollowSwaps.f k bt506.1 bt506.2).bind fun bt516 => (if (bt512.2 != bt516.2) = true then (laws_FnSwapsKeepTheForm.j2 k x6 x8 bt506.1 bt512.1 bt512.2 true x477000 x487000) else ((laws_dSame.f k bt512.1 bt516.1).bind fun t520 => (laws_FnSwapsKeepTheForm.j2 k x6 x8 bt506.1 bt512.1 bt512.2 (!t520) x477000 x487000)))))
def laws_FnSwapsKeepTheForm.j2 : Nat → Int → Bool → List Int → List Int → Bool → Bool → List (List Int) → List (List Int) → Option (Bool)
 | 0, _, _, _, _, _, _, _, _ => none
 | k + 1, x6, x8, x17, x19, x20, x128, x477000, x487000 => if x128 = true then (some false) else ((impl_IsQuad.f k x17).bind fun t521 => (if t521 = true then ((impl_FormAt.f k x477000 x17).bind fun bt522 => ((impl_ScaleOf.f k x17).bind fun bt524 => ((impl_DivisorOf.f k x17).bind fun bt526 => (if bt522.2 = true then (if bt522.1 = 0 then (if bt524.2 = true then (if bt526.2 = true then (laws_FnSwapsKeepTheForm.j3 k x6 x8 x17 x19 x20 (bt524.1 != bt526.1) x487000) else (laws_FnSwapsKeepTheForm.j3 k x6 x8 x17 x19 x20 true x487000)) else (laws_FnSwapsKeepTheForm.j3 k x6 x8 x17 x19 x20 true x487000)) else (laws_FnSwapsKeepTheForm.j3 k x6 x8 x17 x19 x20 true x487000)) else (laws_FnSwapsKeepTheForm.j3 k x6 x8 x17 x19 x20 true x487000))))) else (laws_FnSwapsKeepTheForm.j4 k x17 x19 x20)))
def laws_FnSwapsKeepTheForm.j4 : Nat → List Int → List Int → Bool → Option (Bool)
 | 0, _, _, _ => none
 | k + 1, x17, x19, x20 => if x20 = true then ((impl_ScaleOf.f k x17).bind fun bt537 => ((impl_ScaleOf.f k x19).bind fun bt539 => (if bt537.2 = true then (if bt539.2 = true then (some (bt537.1 == bt539.1)) else (some false)) else (some false)))) else (some true)
def laws_FnSwapsKeepTheForm.j3 : Nat → Int → Bool → List Int → List Int → Bool → Bool → List (List Int) → Option (Bool)
 | 0, _, _, _, _, _, _, _ => none
 | k + 1, x6, x8, x17, x19, x20, x165, x487000 => if x165 = true then (some false) else (if x8 = true then ((impl_ApplyMatrix.f k x487000 x17).bind fun bt528 => ((impl_SwapAt.f k x17 x6).bind fun bt532 => (if bt532.2 = true then (if bt528.2 = true then ((laws_dSame.f k bt528.1 bt532.1).bind fun t536 => (if t536 = true then (laws_FnSwapsKeepTheForm.j4 k x17 x19 x20) else (some false))) else (some false)) else (laws_FnSwapsKeepTheForm.j4 k x17 x19 x20)))) else (laws_FnSwapsKeepTheForm.j4 k x17 x19 x20))
end
def laws_FnSwapsKeepTheForm.f (k : Nat) (l0 : List Int) (l1 : List Int) : Option (Bool) := (laws_big.f l0 l1).bind fun t472 => (if t472 = true then (some true) else ((impl_DescartesForm.f).bind fun t473 => ((spec_DescartesForm.f k).bind fun t477 => ((laws_dMatrix.f k t473 t477).bind fun t480 => (if t480 = true then ((spec_DrawSwapMatrix.f l0).bind fun t481 => ((impl_SwapMatrix.f t481).bind fun bt482 => ((spec_SwapMatrix.f k t481).bind fun bt487 => (if (bt482.2 != bt487.2) = true then (laws_FnSwapsKeepTheForm.j0 k l1 t481 bt482.2 true t473 bt482.1) else ((laws_dMatrix.f k bt482.1 bt487.1).bind fun t492 => (laws_FnSwapsKeepTheForm.j0 k l1 t481 bt482.2 (!t492) t473 bt482.1)))))) else (some false))))))
theorem laws_FnSwapsKeepTheForm.mono_l : ∀ k, (∀ y0 y1 y2 y3 y4 y5, LeO (laws_FnSwapsKeepTheForm.j0 k y0 y1 y2 y3 y4 y5) (laws_FnSwapsKeepTheForm.j0 (k + 1) y0 y1 y2 y3 y4 y5)) ∧ (∀ y0 y1 y2 y3 y4, LeO (laws_FnSwapsKeepTheForm.j1 k y0 y1 y2 y3 y4) (laws_FnSwapsKeepTheForm.j1 (k + 1) y0 y1 y2 y3 y4)) ∧ (∀ y0 y1 y2 y3 y4 y5 y6 y7, LeO (laws_FnSwapsKeepTheForm.j2 k y0 y1 y2 y3 y4 y5 y6 y7) (laws_FnSwapsKeepTheForm.j2 (k + 1) y0 y1 y2 y3 y4 y5 y6 y7)) ∧ (∀ y0 y1 y2, LeO (laws_FnSwapsKeepTheForm.j4 k y0 y1 y2) (laws_FnSwapsKeepTheForm.j4 (k + 1) y0 y1 y2)) ∧ (∀ y0 y1 y2 y3 y4 y5 y6, LeO (laws_FnSwapsKeepTheForm.j3 k y0 y1 y2 y3 y4 y5 y6) (laws_FnSwapsKeepTheForm.j3 (k + 1) y0 y1 y2 y3 y4 y5 y6))
 | 0 => ⟨fun _ _ _ _ _ _ r h => by simp [laws_FnSwapsKeepTheForm.j0] at h, fun _ _ _ _ _ r h => by simp [laws_FnSwapsKeepTheForm.j1] at h, fun _ _ _ _ _ _ _ _ r h => by simp [laws_FnSwapsKeepTheForm.j2] at h, fun _ _ _ r h => by simp [laws_FnSwapsKeepTheForm.j4] at h, fun _ _ _ _ _ _ _ r h => by simp [laws_FnSwapsKeepTheForm.j3] at h⟩
 | k + 1 => by
  obtain ⟨ih0, ih1, ih2, ih3, ih4⟩ := laws_FnSwapsKeepTheForm.mono_l k
  refine ⟨?_, ?_, ?_, ?_, ?_⟩
  ·
   intro y0 y1 y2 y3 y4 y5
   unfold laws_FnSwapsKeepTheForm.j0
   repeat' first
   | (with_reducible exact ih0 _ _ _ _ _ _)
   | (with_reducible exact ih1 _ _ _ _ _)
   | (with_reducible exact ih2 _ _ _ _ _ _ _ _)
   | (with_reducible exact ih3 _ _ _)
   | (with_reducible exact ih4 _ _ _ _ _ _ _)
   | (with_reducible exact impl_ApplyMatrix.mono _ _ _)
   | (with_reducible exact impl_DivisorOf.mono _ _)
   | (with_reducible exact impl_FollowSwaps.mono _ _ _)
   | (with_reducible exact impl_FormAt.mono _ _ _)
   | (with_reducible exact impl_IsQuad.mono _ _)
   | (with_reducible exact impl_KeepsForm.mono _ _ _)
   | (with_reducible exact impl_ScaleOf.mono _ _)
   | (with_reducible exact impl_SwapAt.mono _ _ _)
   | (with_reducible exact laws_dMatrix.mono _ _ _)
   | (with_reducible exact laws_dSame.mono _ _ _)
   | (with_reducible exact spec_DescartesForm.mono _)
   | (with_reducible exact spec_DrawFollowSwaps.mono _ _)
   | (with_reducible exact spec_FollowSwaps.mono _ _ _)
   | (with_reducible exact spec_SwapMatrix.mono _ _)
   | (with_reducible exact LeO.refl _)
   | (with_reducible exact LeO.none _)
   | (with_reducible refine LeO.ite ?_ ?_)
   | (with_reducible refine LeO.bind ?_ (fun _ => ?_))
   | exact ih0 _ _ _ _ _ _
   | exact ih1 _ _ _ _ _
   | exact ih2 _ _ _ _ _ _ _ _
   | exact ih3 _ _ _
   | exact ih4 _ _ _ _ _ _ _
   | exact impl_ApplyMatrix.mono _ _ _
   | exact impl_DivisorOf.mono _ _
   | exact impl_FollowSwaps.mono _ _ _
   | exact impl_FormAt.mono _ _ _
   | exact impl_IsQuad.mono _ _
   | exact impl_KeepsForm.mono _ _ _
   | exact impl_ScaleOf.mono _ _
   | exact impl_SwapAt.mono _ _ _
   | exact laws_dMatrix.mono _ _ _
   | exact laws_dSame.mono _ _ _
   | exact spec_DescartesForm.mono _
   | exact spec_DrawFollowSwaps.mono _ _
   | exact spec_FollowSwaps.mono _ _ _
   | exact spec_SwapMatrix.mono _ _
   | exact LeO.none _
   | refine LeO.ite ?_ ?_
   | refine LeO.bind ?_ (fun _ => ?_)
  ·
   intro y0 y1 y2 y3 y4
   unfold laws_FnSwapsKeepTheForm.j1
   repeat' first
   | (with_reducible exact ih0 _ _ _ _ _ _)
   | (with_reducible exact ih1 _ _ _ _ _)
   | (with_reducible exact ih2 _ _ _ _ _ _ _ _)
   | (with_reducible exact ih3 _ _ _)
   | (with_reducible exact ih4 _ _ _ _ _ _ _)
   | (with_reducible exact impl_ApplyMatrix.mono _ _ _)
   | (with_reducible exact impl_DivisorOf.mono _ _)
   | (with_reducible exact impl_FollowSwaps.mono _ _ _)
   | (with_reducible exact impl_FormAt.mono _ _ _)
   | (with_reducible exact impl_IsQuad.mono _ _)
   | (with_reducible exact impl_KeepsForm.mono _ _ _)
   | (with_reducible exact impl_ScaleOf.mono _ _)
   | (with_reducible exact impl_SwapAt.mono _ _ _)
   | (with_reducible exact laws_dMatrix.mono _ _ _)
   | (with_reducible exact laws_dSame.mono _ _ _)
   | (with_reducible exact spec_DescartesForm.mono _)
   | (with_reducible exact spec_DrawFollowSwaps.mono _ _)
   | (with_reducible exact spec_FollowSwaps.mono _ _ _)
   | (with_reducible exact spec_SwapMatrix.mono _ _)
   | (with_reducible exact LeO.refl _)
   | (with_reducible exact LeO.none _)
   | (with_reducible refine LeO.ite ?_ ?_)
   | (with_reducible refine LeO.bind ?_ (fun _ => ?_))
   | exact ih0 _ _ _ _ _ _
   | exact ih1 _ _ _ _ _
   | exact ih2 _ _ _ _ _ _ _ _
   | exact ih3 _ _ _
   | exact ih4 _ _ _ _ _ _ _
   | exact impl_ApplyMatrix.mono _ _ _
   | exact impl_DivisorOf.mono _ _
   | exact impl_FollowSwaps.mono _ _ _
   | exact impl_FormAt.mono _ _ _
   | exact impl_IsQuad.mono _ _
   | exact impl_KeepsForm.mono _ _ _
   | exact impl_ScaleOf.mono _ _
   | exact impl_SwapAt.mono _ _ _
   | exact laws_dMatrix.mono _ _ _
   | exact laws_dSame.mono _ _ _
   | exact spec_DescartesForm.mono _
   | exact spec_DrawFollowSwaps.mono _ _
   | exact spec_FollowSwaps.mono _ _ _
   | exact spec_SwapMatrix.mono _ _
   | exact LeO.none _
   | refine LeO.ite ?_ ?_
   | refine LeO.bind ?_ (fun _ => ?_)
  ·
   intro y0 y1 y2 y3 y4 y5 y6 y7
   unfold laws_FnSwapsKeepTheForm.j2
   repeat' first
   | (with_reducible exact ih0 _ _ _ _ _ _)
   | (with_reducible exact ih1 _ _ _ _ _)
   | (with_reducible exact ih2 _ _ _ _ _ _ _ _)
   | (with_reducible exact ih3 _ _ _)
   | (with_reducible exact ih4 _ _ _ _ _ _ _)
   | (with_reducible exact impl_ApplyMatrix.mono _ _ _)
   | (with_reducible exact impl_DivisorOf.mono _ _)
   | (with_reducible exact impl_FollowSwaps.mono _ _ _)
   | (with_reducible exact impl_FormAt.mono _ _ _)
   | (with_reducible exact impl_IsQuad.mono _ _)
   | (with_reducible exact impl_KeepsForm.mono _ _ _)
   | (with_reducible exact impl_ScaleOf.mono _ _)
   | (with_reducible exact impl_SwapAt.mono _ _ _)
   | (with_reducible exact laws_dMatrix.mono _ _ _)
   | (with_reducible exact laws_dSame.mono _ _ _)
   | (with_reducible exact spec_DescartesForm.mono _)
   | (with_reducible exact spec_DrawFollowSwaps.mono _ _)
   | (with_reducible exact spec_FollowSwaps.mono _ _ _)
   | (with_reducible exact spec_SwapMatrix.mono _ _)
   | (with_reducible exact LeO.refl _)
   | (with_reducible exact LeO.none _)
   | (with_reducible refine LeO.ite ?_ ?_)
   | (with_reducible refine LeO.bind ?_ (fun _ => ?_))
   | exact ih0 _ _ _ _ _ _
   | exact ih1 _ _ _ _ _
   | exact ih2 _ _ _ _ _ _ _ _
   | exact ih3 _ _ _
   | exact ih4 _ _ _ _ _ _ _
   | exact impl_ApplyMatrix.mono _ _ _
   | exact impl_DivisorOf.mono _ _
   | exact impl_FollowSwaps.mono _ _ _
   | exact impl_FormAt.mono _ _ _
   | exact impl_IsQuad.mono _ _
   | exact impl_KeepsForm.mono _ _ _
   | exact impl_ScaleOf.mono _ _
   | exact impl_SwapAt.mono _ _ _
   | exact laws_dMatrix.mono _ _ _
   | exact laws_dSame.mono _ _ _
   | exact spec_DescartesForm.mono _
   | exact spec_DrawFollowSwaps.mono _ _
   | exact spec_FollowSwaps.mono _ _ _
   | exact spec_SwapMatrix.mono _ _
   | exact LeO.none _
   | refine LeO.ite ?_ ?_
   | refine LeO.bind ?_ (fun _ => ?_)
  ·
   intro y0 y1 y2
   unfold laws_FnSwapsKeepTheForm.j4
   repeat' first
   | (with_reducible exact ih0 _ _ _ _ _ _)
   | (with_reducible exact ih1 _ _ _ _ _)
   | (with_reducible exact ih2 _ _ _ _ _ _ _ _)
   | (with_reducible exact ih3 _ _ _)
   | (with_reducible exact ih4 _ _ _ _ _ _ _)
   | (with_reducible exact impl_ApplyMatrix.mono _ _ _)
   | (with_reducible exact impl_DivisorOf.mono _ _)
   | (with_reducible exact impl_FollowSwaps.mono _ _ _)
   | (with_reducible exact impl_FormAt.mono _ _ _)
   | (with_reducible exact impl_IsQuad.mono _ _)
   | (with_reducible exact impl_KeepsForm.mono _ _ _)
   | (with_reducible exact impl_ScaleOf.mono _ _)
   | (with_reducible exact impl_SwapAt.mono _ _ _)
   | (with_reducible exact laws_dMatrix.mono _ _ _)
   | (with_reducible exact laws_dSame.mono _ _ _)
   | (with_reducible exact spec_DescartesForm.mono _)
   | (with_reducible exact spec_DrawFollowSwaps.mono _ _)
   | (with_reducible exact spec_FollowSwaps.mono _ _ _)
   | (with_reducible exact spec_SwapMatrix.mono _ _)
   | (with_reducible exact LeO.refl _)
   | (with_reducible exact LeO.none _)
   | (with_reducible refine LeO.ite ?_ ?_)
   | (with_reducible refine LeO.bind ?_ (fun _ => ?_))
   | exact ih0 _ _ _ _ _ _
   | exact ih1 _ _ _ _ _
   | exact ih2 _ _ _ _ _ _ _ _
   | exact ih3 _ _ _
   | exact ih4 _ _ _ _ _ _ _
   | exact impl_ApplyMatrix.mono _ _ _
   | exact impl_DivisorOf.mono _ _
   | exact impl_FollowSwaps.mono _ _ _
   | exact impl_FormAt.mono _ _ _
   | exact impl_IsQuad.mono _ _
   | exact impl_KeepsForm.mono _ _ _
   | exact impl_ScaleOf.mono _ _
   | exact impl_SwapAt.mono _ _ _
   | exact laws_dMatrix.mono _ _ _
   | exact laws_dSame.mono _ _ _
   | exact spec_DescartesForm.mono _
   | exact spec_DrawFollowSwaps.mono _ _
   | exact spec_FollowSwaps.mono _ _ _
   | exact spec_SwapMatrix.mono _ _
   | exact LeO.none _
   | refine LeO.ite ?_ ?_
   | refine LeO.bind ?_ (fun _ => ?_)
  ·
   intro y0 y1 y2 y3 y4 y5 y6
   unfold laws_FnSwapsKeepTheForm.j3
   repeat' first
   | (with_reducible exact ih0 _ _ _ _ _ _)
   | (with_reducible exact ih1 _ _ _ _ _)
   | (with_reducible exact ih2 _ _ _ _ _ _ _ _)
   | (with_reducible exact ih3 _ _ _)
   | (with_reducible exact ih4 _ _ _ _ _ _ _)
   | (with_reducible exact impl_ApplyMatrix.mono _ _ _)
   | (with_reducible exact impl_DivisorOf.mono _ _)
   | (with_reducible exact impl_FollowSwaps.mono _ _ _)
   | (with_reducible exact impl_FormAt.mono _ _ _)
   | (with_reducible exact impl_IsQuad.mono _ _)
   | (with_reducible exact impl_KeepsForm.mono _ _ _)
   | (with_reducible exact impl_ScaleOf.mono _ _)
   | (with_reducible exact impl_SwapAt.mono _ _ _)
   | (with_reducible exact laws_dMatrix.mono _ _ _)
   | (with_reducible exact laws_dSame.mono _ _ _)
   | (with_reducible exact spec_DescartesForm.mono _)
   | (with_reducible exact spec_DrawFollowSwaps.mono _ _)
   | (with_reducible exact spec_FollowSwaps.mono _ _ _)
   | (with_reducible exact spec_SwapMatrix.mono _ _)
   | (with_reducible exact LeO.refl _)
   | (with_reducible exact LeO.none _)
   | (with_reducible refine LeO.ite ?_ ?_)
   | (with_reducible refine LeO.bind ?_ (fun _ => ?_))
   | exact ih0 _ _ _ _ _ _
   | exact ih1 _ _ _ _ _
   | exact ih2 _ _ _ _ _ _ _ _
   | exact ih3 _ _ _
   | exact ih4 _ _ _ _ _ _ _
   | exact impl_ApplyMatrix.mono _ _ _
   | exact impl_DivisorOf.mono _ _
   | exact impl_FollowSwaps.mono _ _ _
   | exact impl_FormAt.mono _ _ _
   | exact impl_IsQuad.mono _ _
   | exact impl_KeepsForm.mono _ _ _
   | exact impl_ScaleOf.mono _ _
   | exact impl_SwapAt.mono _ _ _
   | exact laws_dMatrix.mono _ _ _
   | exact laws_dSame.mono _ _ _
   | exact spec_DescartesForm.mono _
   | exact spec_DrawFollowSwaps.mono _ _
   | exact spec_FollowSwaps.mono _ _ _
   | exact spec_SwapMatrix.mono _ _
   | exact LeO.none _
   | refine LeO.ite ?_ ?_
   | refine LeO.bind ?_ (fun _ => ?_)
theorem laws_FnSwapsKeepTheForm.mono : ∀ a0 a1 k, LeO (laws_FnSwapsKeepTheForm.f k a0 a1) (laws_FnSwapsKeepTheForm.f (k + 1) a0 a1) := by
 intro a0 a1 k
 obtain ⟨ih0, ih1, ih2, ih3, ih4⟩ := laws_FnSwapsKeepTheForm.mono_l k
 unfold laws_FnSwapsKeepTheForm.f
 repeat' first
  | (with_reducible exact ih0 _ _ _ _ _ _)
  | (with_reducible exact ih1 _ _ _ _ _)
  | (with_reducible exact ih2 _ _ _ _ _ _ _ _)
  | (with_reducible exact ih3 _ _ _)
  | (with_reducible exact ih4 _ _ _ _ _ _ _)
  | (with_reducible exact impl_ApplyMatrix.mono _ _ _)
  | (with_reducible exact impl_DivisorOf.mono _ _)
  | (with_reducible exact impl_FollowSwaps.mono _ _ _)
  | (with_reducible exact impl_FormAt.mono _ _ _)
  | (with_reducible exact impl_IsQuad.mono _ _)
  | (with_reducible exact impl_KeepsForm.mono _ _ _)
  | (with_reducible exact impl_ScaleOf.mono _ _)
  | (with_reducible exact impl_SwapAt.mono _ _ _)
  | (with_reducible exact laws_dMatrix.mono _ _ _)
  | (with_reducible exact laws_dSame.mono _ _ _)
  | (with_reducible exact spec_DescartesForm.mono _)
  | (with_reducible exact spec_DrawFollowSwaps.mono _ _)
  | (with_reducible exact spec_FollowSwaps.mono _ _ _)
  | (with_reducible exact spec_SwapMatrix.mono _ _)
  | (with_reducible exact LeO.refl _)
  | (with_reducible exact LeO.none _)
  | (with_reducible refine LeO.ite ?_ ?_)
  | (with_reducible refine LeO.bind ?_ (fun _ => ?_))
  | exact ih0 _ _ _ _ _ _
  | exact ih1 _ _ _ _ _
  | exact ih2 _ _ _ _ _ _ _ _
  | exact ih3 _ _ _
  | exact ih4 _ _ _ _ _ _ _
  | exact impl_ApplyMatrix.mono _ _ _
  | exact impl_DivisorOf.mono _ _
  | exact impl_FollowSwaps.mono _ _ _
  | exact impl_FormAt.mono _ _ _
  | exact impl_IsQuad.mono _ _
  | exact impl_KeepsForm.mono _ _ _
  | exact impl_ScaleOf.mono _ _
  | exact impl_SwapAt.mono _ _ _
  | exact laws_dMatrix.mono _ _ _
  | exact laws_dSame.mono _ _ _
  | exact spec_DescartesForm.mono _
  | exact spec_DrawFollowSwaps.mono _ _
  | exact spec_FollowSwaps.mono _ _ _
  | exact spec_SwapMatrix.mono _ _
  | exact LeO.none _
  | refine LeO.ite ?_ ?_
  | refine LeO.bind ?_ (fun _ => ?_)
theorem laws_FnSwapsKeepTheForm.j0_no : ∀ {k y0 y1 y2 y4 y5}, laws_FnSwapsKeepTheForm.j0 k y0 y1 y2 true y4 y5 = some true → False := by
 intro k y0 y1 y2 y4 y5 h
 cases k <;> simp [laws_FnSwapsKeepTheForm.j0] at h
theorem laws_FnSwapsKeepTheForm.j2_no : ∀ {k y0 y1 y2 y3 y4 y6 y7}, laws_FnSwapsKeepTheForm.j2 k y0 y1 y2 y3 y4 true y6 y7 = some true → False := by
 intro k y0 y1 y2 y3 y4 y6 y7 h
 cases k <;> simp [laws_FnSwapsKeepTheForm.j2] at h
theorem laws_FnSwapsKeepTheForm.j3_no : ∀ {k y0 y1 y2 y3 y4 y6}, laws_FnSwapsKeepTheForm.j3 k y0 y1 y2 y3 y4 true y6 = some true → False := by
 intro k y0 y1 y2 y3 y4 y6 h
 cases k <;> simp [laws_FnSwapsKeepTheForm.j3] at h
set_option maxHeartbeats 8000000 in
set_option maxRecDepth 100000 in
theorem laws_FnSwapsKeepTheForm.calls (k : Nat) (A0 : Option Addr) (c0 : Nat) (l0 : List Int) (A1 : Option Addr) (c1 : Nat) (l1 : List Int) (r : Bool) (w : World) (hr0 : Kd.C (Kd.int .u8) w A0 l0.length l0) (hc0 : l0.length ≤ c0) (hr1 : Kd.C (Kd.int .u8) w A1 l1.length l1) (hc1 : l1.length ≤ c1) (h : laws_FnSwapsKeepTheForm.f k l0 l1 = some r) (hrT : r = true) :
 Calls Try.prog 3 #[.slice A0 l0.length c0, .slice A1 l1.length c1] w fun e w' => e = .returned (.bool r) ∧ Below w.heap.size w w' := by
 have hu26 := Try.underlying26
 have HR0 := Aside0.mk hr0
 have HC0 := Aside0.mk hc0
 clear hr0 hc0
 have HR1 := Aside0.mk hr1
 have HC1 := Aside0.mk hc1
 clear hr1 hc1
 have HB := Aside0.mk (Below.refl w.heap.size w)
 have H : ((laws_big.f l0 l1).bind fun t472 => (if t472 = true then (some true) else ((impl_DescartesForm.f).bind fun t473 => ((spec_DescartesForm.f k).bind fun t477 => ((laws_dMatrix.f k t473 t477).bind fun t480 => (if t480 = true then ((spec_DrawSwapMatrix.f l0).bind fun t481 => ((impl_SwapMatrix.f t481).bind fun bt482 => ((spec_SwapMatrix.f k t481).bind fun bt487 => (if (bt482.2 != bt487.2) = true then (laws_FnSwapsKeepTheForm.j0 k l1 t481 bt482.2 true t473 bt482.1) else ((laws_dMatrix.f k bt482.1 bt487.1).bind fun t492 => (laws_FnSwapsKeepTheForm.j0 k l1 t481 bt482.2 (!t492) t473 bt482.1)))))) else (some false))))))) = some r := h
 clear h
 replace H := Option.bind_eq_some_iff.mp H
 obtain ⟨t472, A30, H⟩ := H
 replace H : (if t472 = true then (some true) else ((impl_DescartesForm.f).bind fun t473 => ((spec_DescartesForm.f k).bind fun t477 => ((laws_dMatrix.f k t473 t477).bind fun t480 => (if t480 = true then ((spec_DrawSwapMatrix.f l0).bind fun t481 => ((impl_SwapMatrix.f t481).bind fun bt482 => ((spec_SwapMatrix.f k t481).bind fun bt487 => (if (bt482.2 != bt487.2) = true then (laws_FnSwapsKeepTheForm.j0 k l1 t481 bt482.2 true t473 bt482.1) else ((laws_dMatrix.f k bt482.1 bt487.1).bind fun t492 => (laws_FnSwapsKeepTheForm.j0 k l1 t481 bt482.2 (!t492) t473 bt482.1)))))) else (some false)))))) = some r := H
 have A3 := Aside0.mk A30
 clear A30
 by_cases c4 : t472 = true
 ·
  subst c4
  have H1 : (some true) = some r := by rw [if_pos rfl] at H; exact H
  clear H
  have H := H1
  clear H1
  obtain rfl := Option.some.inj H
  go_enter Try.func3, Try.ntmps3
  go_wp2_with (first | ((with_reducible refine gate_callee (f := 6) rfl ?_); refine gL (some 39) rfl rfl Try.func6 (by kernel_rfl) rfl #[.slice A0 l0.length c0, .slice A1 l1.length c1] rfl ?_; (with_reducible refine (laws_big.calls _ _ l0 _ _ l1 true _ ?side1 ?side2 ?side3 ?side4 A3.out).mono ?_); (case side1 => exact cC HR0.out); (case side2 => exact HC0.out); (case side3 => exact cC HR1.out); (case side4 => exact HC1.out); rintro e w' ⟨rfl, ⟨nd, rfl⟩⟩; refine ⟨_, rfl, ?_⟩))
  go_ret
  exact ⟨e1, bq⟩
 ·
  as_aux_lemma =>
   replace c4 := Bool.eq_false_iff.mpr c4
   subst c4
   have H1 : ((impl_DescartesForm.f).bind fun t473 => ((spec_DescartesForm.f k).bind fun t477 => ((laws_dMatrix.f k t473 t477).bind fun t480 => (if t480 = true then ((spec_DrawSwapMatrix.f l0).bind fun t481 => ((impl_SwapMatrix.f t481).bind fun bt482 => ((spec_SwapMatrix.f k t481).bind fun bt487 => (if (bt482.2 != bt487.2) = true then (laws_FnSwapsKeepTheForm.j0 k l1 t481 bt482.2 true t473 bt482.1) else ((laws_dMatrix.f k bt482.1 bt487.1).bind fun t492 => (laws_FnSwapsKeepTheForm.j0 k l1 t481 bt482.2 (!t492) t473 bt482.1)))))) else (some false))))) = some r := by rw [if_neg (show ¬ (false = true) by decide)] at H; exact H
   clear H
   have H := H1
   clear H1
   replace H := Option.bind_eq_some_iff.mp H
   obtain ⟨t473, A50, H⟩ := H
   replace H : ((spec_DescartesForm.f k).bind fun t477 => ((laws_dMatrix.f k t473 t477).bind fun t480 => (if t480 = true then ((spec_DrawSwapMatrix.f l0).bind fun t481 => ((impl_SwapMatrix.f t481).bind fun bt482 => ((spec_SwapMatrix.f k t481).bind fun bt487 => (if (bt482.2 != bt487.2) = true then (laws_FnSwapsKeepTheForm.j0 k l1 t481 bt482.2 true t473 bt482.1) else ((laws_dMatrix.f k bt482.1 bt487.1).bind fun t492 => (laws_FnSwapsKeepTheForm.j0 k l1 t481 bt482.2 (!t492) t473 bt482.1)))))) else (some false)))) = some r := H
   have A5 := Aside0.mk A50
   clear A50
   replace H := Option.bind_eq_some_iff.mp H
   obtain ⟨t477, A60, H⟩ := H
   replace H : ((laws_dMatrix.f k t473 t477).bind fun t480 => (if t480 = true then ((spec_DrawSwapMatrix.f l0).bind fun t481 => ((impl_SwapMatrix.f t481).bind fun bt482 => ((spec_SwapMatrix.f k t481).bind fun bt487 => (if (bt482.2 != bt487.2) = true then (laws_FnSwapsKeepTheForm.j0 k l1 t481 bt482.2 true t473 bt482.1) else ((laws_dMatrix.f k bt482.1 bt487.1).bind fun t492 => (laws_FnSwapsKeepTheForm.j0 k l1 t481 bt482.2 (!t492) t473 bt482.1)))))) else (some false))) = some r := H
   have A6 := Aside0.mk A60
   clear A60
   replace H := Option.bind_eq_some_iff.mp H
   obtain ⟨t480, A70, H⟩ := H
   replace H : (if t480 = true then ((spec_DrawSwapMatrix.f l0).bind fun t481 => ((impl_SwapMatrix.f t481).bind fun bt482 => ((spec_SwapMatrix.f k t481).bind fun bt487 => (if (bt482.2 != bt487.2) = true then (laws_FnSwapsKeepTheForm.j0 k l1 t481 bt482.2 true t473 bt482.1) else ((laws_dMatrix.f k bt482.1 bt487.1).bind fun t492 => (laws_FnSwapsKeepTheForm.j0 k l1 t481 bt482.2 (!t492) t473 bt482.1)))))) else (some false)) = some r := H
   have A7 := Aside0.mk A70
   clear A70
   by_cases c8 : t480 = true
   ·
    as_aux_lemma =>
     subst c8
     have H1 : ((spec_DrawSwapMatrix.f l0).bind fun t481 => ((impl_SwapMatrix.f t481).bind fun bt482 => ((spec_SwapMatrix.f k t481).bind fun bt487 => (if (bt482.2 != bt487.2) = true then (laws_FnSwapsKeepTheForm.j0 k l1 t481 bt482.2 true t473 bt482.1) else ((laws_dMatrix.f k bt482.1 bt487.1).bind fun t492 => (laws_FnSwapsKeepTheForm.j0 k l1 t481 bt482.2 (!t492) t473 bt482.1)))))) = some r := by rw [if_pos rfl] at H; exact H
     clear H
     have H := H1
     clear H1
     replace H := Option.bind_eq_some_iff.mp H
     obtain ⟨t481, A90, H⟩ := H
     replace H : ((impl_SwapMatrix.f t481).bind fun bt482 => ((spec_SwapMatrix.f k t481).bind fun bt487 => (if (bt482.2 != bt487.2) = true then (laws_FnSwapsKeepTheForm.j0 k l1 t481 bt482.2 true t473 bt482.1) else ((laws_dMatrix.f k bt482.1 bt487.1).bind fun t492 => (laws_FnSwapsKeepTheForm.j0 k l1 t481 bt482.2 (!t492) t473 bt482.1))))) = some r := H
     have A9 := Aside0.mk A90
     clear A90
     replace H := Option.bind_eq_some_iff.mp H
     obtain ⟨⟨t482, t485⟩, A100, H⟩ := H
     replace H : ((spec_SwapMatrix.f k t481).bind fun bt487 => (if (t485 != bt487.2) = true then (laws_FnSwapsKeepTheForm.j0 k l1 t481 t485 true t473 t482) else ((laws_dMatrix.f k t482 bt487.1).bind fun t492 => (laws_FnSwapsKeepTheForm.j0 k l1 t481 t485 (!t492) t473 t482)))) = some r := H
     have A10 := Aside0.mk A100
     clear A100
     replace H := Option.bind_eq_some_iff.mp H
     obtain ⟨⟨t487, t490⟩, A110, H⟩ := H
     replace H : (if (t485 != t490) = true then (laws_FnSwapsKeepTheForm.j0 k l1 t481 t485 true t473 t482) else ((laws_dMatrix.f k t482 t487).bind fun t492 => (laws_FnSwapsKeepTheForm.j0 k l1 t481 t485 (!t492) t473 t482))) = some r := H
     have A11 := Aside0.mk A110
     clear A110
     have HC12 := Aside0.mk H
     clear H
     go_enter Try.func3, Try.ntmps3
     try go_wp2_with (first | ((with_reducible refine gate_callee (f := 6) rfl ?_); refine gL (some 39) rfl rfl Try.func6 (by kernel_rfl) rfl #[.slice A0 l0.length c0, .slice A1 l1.length c1] rfl ?_; (with_reducible refine (laws_big.calls _ _ l0 _ _ l1 false _ ?side1 ?side2 ?side3 ?side4 A3.out).mono ?_); (case side1 => exact cC HR0.out); (case side2 => exact HC0.out); (case side3 => exact cC HR1.out); (case side4 => exact HC1.out); rintro e w' ⟨rfl, ⟨nd, rfl⟩⟩; refine ⟨_, rfl, ?_⟩) | ((with_reducible refine gate_callee (f := 7) rfl ?_); refine gL (some 40) rfl rfl Try.func7 (by kernel_rfl) rfl #[] rfl ?_; (with_reducible refine (impl_DescartesForm.calls  t473 _ A5.out).mono ?_); rintro e w13 ⟨v474, rfl, ho0, hb⟩; refine ⟨_, rfl, ?_⟩; have n0_ := Aside0.mk (Kd.S_lower ho0 (below_size bq)); have n1_ := Aside0.mk (below_step bq hb); clear HB; have HO475 := n0_; have HB := n1_; clear n0_ n1_; (try clear hb); (try clear hb2); (try clear hk); (try clear hi); (try clear ho0)) | ((with_reducible refine gate_dst (N := 5) rfl ?_); refine box_event ?hg (N := 5) ?hd (cs := #[.slice none 0 0]) (t := 26) ?hr ?_; (case hd => rfl); (case hg => rfl); (case hr => first | (go_simp; done) | (go_simp; rfl)); intro gb476 hg w14 hbox hb; have n0_ := Aside0.mk (Kd.S_below (by (with_reducible repeat (first | apply Kd.S_alloc | apply Kd.S_drewN | apply Kd.S_drew)); exact HO475.out) hb); have n1_ := Aside0.mk (below_step bq hb); have n2_ := Aside0.mk (hbox); have n3_ := Aside0.mk ((by rw [hg]; exact (below_size bq) : w.heap.size ≤ gb476)); have n4_ := Aside0.mk ((by rw [hg]; exact (below_size bq) : w.heap.size ≤ gb476)); clear HO475; clear HB; have HO475 := n0_; have HB := n1_; have BK476 := n2_; have GW476 := n3_; have GE476 := n4_; clear n0_ n1_ n2_ n3_ n4_; clear hb hbox hg; obtain ⟨Ao15, co15, eo15⟩ := Kd.S_slice HO475.out; subst eo15; have hcz16_0 : w14.cell? ⟨gb476, 0, none⟩ = some (.slice none 0 0) := (blk_cell BK476.out 0).trans rfl; have hfz16_0 := blk_frozen BK476.out 0))
     have n0_ : Aside0 (Kd.S (Kd.slice 3 (Kd.int .i64)) 35 (w14.setCell ⟨gb476, 0, none⟩ (.slice Ao15 t473.length co15)) w.heap.size (fun _ => True) (.slice Ao15 t473.length co15) t473) := ⟨by (with_reducible repeat (first | apply Kd.S_alloc | apply Kd.S_drewN | apply Kd.S_drew)); exact Kd.S_mono (Kd.S_far (p := ⟨gb476, 0, none⟩) (Kd.S_types HO475.out BK476.out (by decide)) (fun _ hk => hk.2) (.slice Ao15 t473.length co15)) (fun _ hk => trivial)⟩
     have n1_ : Aside0 ((w14.setCell ⟨gb476, 0, none⟩ (.slice Ao15 t473.length co15)).heap[gb476]? = some (.cells #[.slice Ao15 t473.length co15] 26 (0, 0))) := ⟨by (with_reducible repeat (first | refine blk_drewN ?_ _ | refine blk_drew ?_ | refine blk_alloc ?_ _)); refine blk_put (cs := #[.slice none 0 0]) ?_ 0 _ rfl; (with_reducible repeat (first | refine blk_drewN ?_ _ | refine blk_drew ?_ | refine blk_alloc ?_ _)); exact BK476.out⟩
     have n2_ : Aside0 (Below w.heap.size w (w14.setCell ⟨gb476, 0, none⟩ (.slice Ao15 t473.length co15))) := ⟨kB HB⟩
     (try clear HO475)
     (try clear BK476)
     (try clear HB)
     generalize (w14.setCell ⟨gb476, 0, none⟩ (.slice Ao15 t473.length co15)) = w17 at n0_ n1_ n2_ ⊢
     have HO475 := n0_
     have BK476 := n1_
     have HB := n2_
     clear n0_ n1_ n2_
     have n0_ := Aside0.mk (Kd.S_drew HO475.out)
     have n1_ := Aside0.mk (blk_drew BK476.out)
     have n2_ := Aside0.mk (below_drew1 HB.out)
     clear HO475; clear BK476; clear HB
     have HO475 := n0_
     have BK476 := n1_
     have HB := n2_
     clear n0_ n1_ n2_
     refine start_ (n := 4) (S := fun w' => w'.cell? ⟨gb476, 0, none⟩ = some (.slice Ao15 t473.length co15)) (ds := []) #[false, false, false, false] (by kernel_rfl) rfl rfl ((blk_cell BK476.out 0).trans rfl) (fun hHeld => ?_)
     generalize w17.drew = w18 at HO475 BK476 HB hHeld ⊢
     refine take_ (i := 0) (N := some 41) (v := ?_) (a' := ?_) #[true, false, false, false] rfl rfl (by kernel_rfl) (fun _ _ _ h => h) (Or.inl ⟨by rfl, ?_⟩) hHeld ?_ ?_
     rotate_left
     ·
      intro w' s0
      go_simp
      with_reducible rfl
     rotate_left
     ·
      simp only [AP]
      rfl
     refine one_ (i := 1) (N := some 42) #[true, true, false, false] rfl rfl (by kernel_rfl) (by decide) (fun K hK => ?_)
     refine goes_ Try.func9 (by kernel_rfl) rfl #[] (by rfl) rfl rfl (by (try simp only [List.map_toArray, List.map_cons, List.map_nil]); first | done | rfl | (simp only [List.length_drop, List.length_take]; rfl)) ?_
     with_reducible refine (spec_DescartesForm.calls k  t477 _ A6.out).mono ?_
     rintro e w19 ⟨v478, rfl, ho0, hb⟩
     refine ⟨_, rfl, ?_⟩
     have n0_ := Aside0.mk (Kd.S_elder' (by (with_reducible repeat (first | apply Kd.S_alloc | apply Kd.S_drewN | apply Kd.S_drew)); exact HO475.out) (Kd.S_base ho0) hb)
     have n1_ := Aside0.mk (Kd.S_lower (Kd.S_new' ho0 (Kd.S_lt (by (with_reducible repeat (first | apply Kd.S_alloc | apply Kd.S_drewN | apply Kd.S_drew)); exact HO475.out))) (below_size (kB HB)))
     have n2_ := Aside0.mk (kK BK476 hb)
     have n3_ := Aside0.mk (below_step (kB HB) hb)
     clear HO475; clear BK476; clear HB
     have HO475 := n0_
     have HO479 := n1_
     have BK476 := n2_
     have HB := n3_
     clear n0_ n1_ n2_ n3_
     (try clear hb)
     (try clear hb2)
     (try clear hk)
     (try clear hi)
     (try clear ho0)
     obtain ⟨Ao20, co20, eo20⟩ := Kd.S_slice HO479.out
     (first | subst eo20 | (injection eo20 with f1_ f2_ f3_; have f4_ := f1_.symm; have f5_ := f3_.symm; clear f1_ f2_ f3_; subst f4_; subst f5_))
     refine hK.out _ _ ((blk_cell BK476.out 0).trans rfl) (fun hHeld => ?_)
     clear hK K
     refine norm_ (a' := ?_) ?_ ?_
     rotate_left
     ·
      show Act.put _ (some 42) _ = _
      simp only [AP]
      rfl
     refine one_ (i := 2) (N := some 43) #[true, true, true, false] rfl rfl (by kernel_rfl) (by decide) (fun K hK => ?_)
     refine goes_ Try.func8 (by kernel_rfl) rfl #[.agg #[.slice Ao15 t473.length co15], .agg #[.slice Ao20 t477.length co20]] (by rfl) rfl rfl (by (try simp only [List.map_toArray, List.map_cons, List.map_nil]); first | done | rfl | (simp only [List.length_drop, List.length_take]; rfl)) ?_
     with_reducible refine (laws_dMatrix.calls k _ _ t473 _ _ t477 true _ ?side1 ?side2 ?side3 ?side4 A7.out).mono ?_
     (case side1 => exact cC (Kd.S_reads' HO475.out).2.2)
     (case side2 => exact (Kd.S_reads' HO475.out).2.1)
     (case side3 => exact cC (Kd.S_reads' HO479.out).2.2)
     (case side4 => exact (Kd.S_reads' HO479.out).2.1)
     rintro e w21 ⟨rfl, hb⟩
     refine ⟨_, rfl, ?_⟩
     have n0_ := Aside0.mk (Kd.S_below (by (with_reducible repeat (first | apply Kd.S_alloc | apply Kd.S_drewN | apply Kd.S_drew)); exact HO475.out) hb)
     have n1_ := Aside0.mk (Kd.S_below (by (with_reducible repeat (first | apply Kd.S_alloc | apply Kd.S_drewN | apply Kd.S_drew)); exact HO479.out) hb)
     have n2_ := Aside0.mk (kK BK476 hb)
     have n3_ := Aside0.mk (below_step (kB HB) hb)
     clear HO475; clear HO479; clear BK476; clear HB
     have HO475 := n0_
     have HO479 := n1_
     have BK476 := n2_
     have HB := n3_
     clear n0_ n1_ n2_ n3_
     (try clear hb)
     (try clear hb2)
     (try clear hk)
     (try clear hi)
     refine hK.out _ _ ((blk_cell BK476.out 0).trans rfl) (fun hHeld => ?_)
     clear hK K
     refine norm_ (a' := ?_) ?_ ?_
     rotate_left
     ·
      show Act.put _ (some 43) _ = _
      simp only [AP]
      rfl
     refine pure_ (i := 3) (N := some 44) (v := ?_) (a' := ?_) #[true, true, true, true] rfl rfl (by kernel_rfl) (fun _ _ _ h => h) (Or.inl ⟨by rfl, ?_⟩) ?_ ?_
     rotate_left
     ·
      intro w'
      go_simp
      with_reducible rfl
     rotate_left
     ·
      simp only [AP]
      rfl
     refine done_ (by kernel_rfl) ?_
     go_upto_region 9 with (first | ((with_reducible refine gate_callee (f := 10) rfl ?_); refine gL (some 46) rfl rfl Try.func10 (by kernel_rfl) rfl #[.slice A0 l0.length c0] rfl ?_; (with_reducible refine (spec_DrawSwapMatrix.calls _ _ l0 t481 _ ?side1 ?side2 A9.out).mono ?_); (case side1 => exact cC (Kd.C_below HR0.out HB.out)); (case side2 => exact HC0.out); rintro e w22 ⟨rfl, hb⟩; refine ⟨_, rfl, ?_⟩; have n0_ := Aside0.mk (Kd.S_below (by (with_reducible repeat (first | apply Kd.S_alloc | apply Kd.S_drewN | apply Kd.S_drew)); exact HO475.out) hb); have n1_ := Aside0.mk (Kd.S_below (by (with_reducible repeat (first | apply Kd.S_alloc | apply Kd.S_drewN | apply Kd.S_drew)); exact HO479.out) hb); have n2_ := Aside0.mk (kK BK476 hb); have n3_ := Aside0.mk (below_step (kB HB) hb); clear HO475; clear HO479; clear BK476; clear HB; have HO475 := n0_; have HO479 := n1_; have BK476 := n2_; have HB := n3_; clear n0_ n1_ n2_ n3_; (try clear hb); (try clear hb2); (try clear hk); (try clear hi)) | ((with_reducible refine gate_callee (f := 11) rfl ?_); refine gL (some 49) rfl rfl Try.func11 (by kernel_rfl) rfl #[.int .i64 t481] rfl ?_; (with_reducible refine (impl_SwapMatrix.calls t481 t482 t485 _ A10.out).mono ?_); rintro e w23 ⟨v483, rfl, ho0, hb⟩; refine ⟨_, rfl, ?_⟩; have n0_ := Aside0.mk (Kd.S_elder' (by (with_reducible repeat (first | apply Kd.S_alloc | apply Kd.S_drewN | apply Kd.S_drew)); exact HO475.out) (Kd.S_base ho0) hb); have n1_ := Aside0.mk (Kd.S_elder' (by (with_reducible repeat (first | apply Kd.S_alloc | apply Kd.S_drewN | apply Kd.S_drew)); exact HO479.out) (Kd.S_base ho0) hb); have n2_ := Aside0.mk (Kd.S_lower (Kd.S_new' (Kd.S_new' ho0 (Kd.S_lt (by (with_reducible repeat (first | apply Kd.S_alloc | apply Kd.S_drewN | apply Kd.S_drew)); exact HO475.out))) (Kd.S_lt (by (with_reducible repeat (first | apply Kd.S_alloc | apply Kd.S_drewN | apply Kd.S_drew)); exact HO479.out))) (below_size (kB HB))); have n3_ := Aside0.mk (kK BK476 hb); have n4_ := Aside0.mk (below_step (kB HB) hb); clear HO475; clear HO479; clear BK476; clear HB; have HO475 := n0_; have HO479 := n1_; have HO484 := n2_; have BK476 := n3_; have HB := n4_; clear n0_ n1_ n2_ n3_ n4_; (try clear hb); (try clear hb2); (try clear hk); (try clear hi); (try clear ho0)) | ((with_reducible refine gate_dst (N := 7) rfl ?_); refine box_event ?hg (N := 7) ?hd (cs := #[.slice none 0 0]) (t := 26) ?hr ?_; (case hd => rfl); (case hg => rfl); (case hr => first | (go_simp; done) | (go_simp; rfl)); intro gb486 hg w24 hbox hb; have n0_ := Aside0.mk (Kd.S_below (by (with_reducible repeat (first | apply Kd.S_alloc | apply Kd.S_drewN | apply Kd.S_drew)); exact HO475.out) hb); have n1_ := Aside0.mk (Kd.S_below (by (with_reducible repeat (first | apply Kd.S_alloc | apply Kd.S_drewN | apply Kd.S_drew)); exact HO479.out) hb); have n2_ := Aside0.mk (Kd.S_below (by (with_reducible repeat (first | apply Kd.S_alloc | apply Kd.S_drewN | apply Kd.S_drew)); exact HO484.out) hb); have n3_ := Aside0.mk (kK BK476 hb); have n4_ := Aside0.mk (below_step (kB HB) hb); have n5_ := Aside0.mk (hbox); have n6_ := Aside0.mk ((by rw [hg]; exact (below_size (kB HB)) : w.heap.size ≤ gb486)); have n7_ := Aside0.mk ((by rw [hg]; exact (below_size (kB HB)) : w.heap.size ≤ gb486)); have n8_ := Aside0.mk ((by rw [hg]; exact Nat.ne_of_lt (blk_lt (g := gb476) (o := .cells #[.slice Ao15 t473.length co15] 26 (0, 0)) (bA BK476)) : gb476 ≠ gb486)); have n9_ := Aside0.mk ((by rw [hg]; exact Nat.ne_of_gt (blk_lt (g := gb476) (o := .cells #[.slice Ao15 t473.length co15] 26 (0, 0)) (bA BK476)) : gb486 ≠ gb476)); clear HO475; clear HO479; clear HO484; clear BK476; clear HB; have HO475 := n0_; have HO479 := n1_; have HO484 := n2_; have BK476 := n3_; have HB := n4_; have BK486 := n5_; have GW486 := n6_; have GE486 := n7_; have NB476_486 := n8_; have NB486_476 := n9_; clear n0_ n1_ n2_ n3_ n4_ n5_ n6_ n7_ n8_ n9_; clear hb hbox hg; obtain ⟨Ao25, co25, eo25⟩ := Kd.S_slice HO484.out; subst eo25; have hnb26 := NB486_476.out; have hnc26 := NB476_486.out; have hcz27_0 : w24.cell? ⟨gb486, 0, none⟩ = some (.slice none 0 0) := (blk_cell BK486.out 0).trans rfl; have hfz27_0 := blk_frozen BK486.out 0) | ((with_reducible refine gate_callee (f := 12) rfl ?_); refine gL (some 54) rfl rfl Try.func12 (by kernel_rfl) rfl #[.int .i64 t481] rfl ?_; (with_reducible refine (spec_SwapMatrix.calls k t481 t487 t490 _ A11.out).mono ?_); rintro e w28 ⟨v488, rfl, ho0, hb⟩; refine ⟨_, rfl, ?_⟩; have n0_ := Aside0.mk (Kd.S_elder' (by (with_reducible repeat (first | apply Kd.S_alloc | apply Kd.S_drewN | apply Kd.S_drew)); exact (Kd.S_mono (Kd.S_far (p := ⟨gb486, 0, none⟩) (Kd.S_types HO475.out BK486.out (by decide)) (fun _ hk => hk.2) (.slice Ao25 t482.length co25)) (fun _ h_ => h_.1))) (Kd.S_base ho0) hb); have n1_ := Aside0.mk (Kd.S_elder' (by (with_reducible repeat (first | apply Kd.S_alloc | apply Kd.S_drewN | apply Kd.S_drew)); exact (Kd.S_mono (Kd.S_far (p := ⟨gb486, 0, none⟩) (Kd.S_types HO479.out BK486.out (by decide)) (fun _ hk => hk.2) (.slice Ao25 t482.length co25)) (fun _ h_ => h_.1))) (Kd.S_base ho0) hb); have n2_ := Aside0.mk (Kd.S_elder' (by (with_reducible repeat (first | apply Kd.S_alloc | apply Kd.S_drewN | apply Kd.S_drew)); exact (Kd.S_mono (Kd.S_far (p := ⟨gb486, 0, none⟩) (Kd.S_types HO484.out BK486.out (by decide)) (fun _ hk => hk.2) (.slice Ao25 t482.length co25)) (fun _ h_ => h_.1))) (Kd.S_base ho0) hb); have n3_ := Aside0.mk (Kd.S_lower (Kd.S_new' (Kd.S_new' (Kd.S_new' ho0 (Kd.S_lt (by (with_reducible repeat (first | apply Kd.S_alloc | apply Kd.S_drewN | apply Kd.S_drew)); exact (Kd.S_mono (Kd.S_far (p := ⟨gb486, 0, none⟩) (Kd.S_types HO475.out BK486.out (by decide)) (fun _ hk => hk.2) (.slice Ao25 t482.length co25)) (fun _ h_ => h_.1))))) (Kd.S_lt (by (with_reducible repeat (first | apply Kd.S_alloc | apply Kd.S_drewN | apply Kd.S_drew)); exact (Kd.S_mono (Kd.S_far (p := ⟨gb486, 0, none⟩) (Kd.S_types HO479.out BK486.out (by decide)) (fun _ hk => hk.2) (.slice Ao25 t482.length co25)) (fun _ h_ => h_.1))))) (Kd.S_lt (by (with_reducible repeat (first | apply Kd.S_alloc | apply Kd.S_drewN | apply Kd.S_drew)); exact (Kd.S_mono (Kd.S_far (p := ⟨gb486, 0, none⟩) (Kd.S_types HO484.out BK486.out (by decide)) (fun _ hk => hk.2) (.slice Ao25 t482.length co25)) (fun _ h_ => h_.1))))) (below_size (kB HB))); have n4_ := Aside0.mk (blk_below (g := gb476) (o := .cells #[.slice Ao15 t473.length co15] 26 (0, 0)) (by (with_reducible repeat (first | refine blk_drewN ?_ _ | refine blk_drew ?_ | refine blk_alloc ?_ _)); refine blk_far ?_ NB476_486.out _; (with_reducible repeat (first | refine blk_drewN ?_ _ | refine blk_drew ?_ | refine blk_alloc ?_ _)); exact BK476.out) hb); have n5_ := Aside0.mk (blk_below (g := gb486) (o := .cells #[.slice Ao25 t482.length co25] 26 (0, 0)) (by (with_reducible repeat (first | refine blk_drewN ?_ _ | refine blk_drew ?_ | refine blk_alloc ?_ _)); refine blk_put (cs := #[.slice none 0 0]) ?_ 0 _ rfl; (with_reducible repeat (first | refine blk_drewN ?_ _ | refine blk_drew ?_ | refine blk_alloc ?_ _)); exact BK486.out) hb); have n6_ := Aside0.mk (below_step (kB HB) hb); clear HO475; clear HO479; clear HO484; clear BK476; clear BK486; clear HB; have HO475 := n0_; have HO479 := n1_; have HO484 := n2_; have HO489 := n3_; have BK476 := n4_; have BK486 := n5_; have HB := n6_; clear n0_ n1_ n2_ n3_ n4_ n5_ n6_; (try clear hb); (try clear hb2); (try clear hk); (try clear hi); (try clear ho0)) | ((with_reducible refine gate_dst (N := 9) rfl ?_); refine box_event ?hg (N := 9) ?hd (cs := #[.slice none 0 0]) (t := 26) ?hr ?_; (case hd => rfl); (case hg => rfl); (case hr => first | (go_simp; done) | (go_simp; rfl)); intro gb491 hg w29 hbox hb; have n0_ := Aside0.mk (Kd.S_below (by (with_reducible repeat (first | apply Kd.S_alloc | apply Kd.S_drewN | apply Kd.S_drew)); exact HO475.out) hb); have n1_ := Aside0.mk (Kd.S_below (by (with_reducible repeat (first | apply Kd.S_alloc | apply Kd.S_drewN | apply Kd.S_drew)); exact HO479.out) hb); have n2_ := Aside0.mk (Kd.S_below (by (with_reducible repeat (first | apply Kd.S_alloc | apply Kd.S_drewN | apply Kd.S_drew)); exact HO484.out) hb); have n3_ := Aside0.mk (Kd.S_below (by (with_reducible repeat (first | apply Kd.S_alloc | apply Kd.S_drewN | apply Kd.S_drew)); exact HO489.out) hb); have n4_ := Aside0.mk (kK BK476 hb); have n5_ := Aside0.mk (kK BK486 hb); have n6_ := Aside0.mk (below_step (kB HB) hb); have n7_ := Aside0.mk (hbox); have n8_ := Aside0.mk ((by rw [hg]; exact (below_size (kB HB)) : w.heap.size ≤ gb491)); have n9_ := Aside0.mk ((by rw [hg]; exact (below_size (kB HB)) : w.heap.size ≤ gb491)); have n10_ := Aside0.mk ((by rw [hg]; exact Nat.ne_of_lt (blk_lt (g := gb476) (o := .cells #[.slice Ao15 t473.length co15] 26 (0, 0)) (bA BK476)) : gb476 ≠ gb491)); have n11_ := Aside0.mk ((by rw [hg]; exact Nat.ne_of_gt (blk_lt (g := gb476) (o := .cells #[.slice Ao15 t473.length co15] 26 (0, 0)) (bA BK476)) : gb491 ≠ gb476)); have n12_ := Aside0.mk ((by rw [hg]; exact Nat.ne_of_lt (blk_lt (g := gb486) (o := .cells #[.slice Ao25 t482.length co25] 26 (0, 0)) (bA BK486)) : gb486 ≠ gb491)); have n13_ := Aside0.mk ((by rw [hg]; exact Nat.ne_of_gt (blk_lt (g := gb486) (o := .cells #[.slice Ao25 t482.length co25] 26 (0, 0)) (bA BK486)) : gb491 ≠ gb486)); clear HO475; clear HO479; clear HO484; clear HO489; clear BK476; clear BK486; clear HB; have HO475 := n0_; have HO479 := n1_; have HO484 := n2_; have HO489 := n3_; have BK476 := n4_; have BK486 := n5_; have HB := n6_; have BK491 := n7_; have GW491 := n8_; have GE491 := n9_; have NB476_491 := n10_; have NB491_476 := n11_; have NB486_491 := n12_; have NB491_486 := n13_; clear n0_ n1_ n2_ n3_ n4_ n5_ n6_ n7_ n8_ n9_ n10_ n11_ n12_ n13_; clear hb hbox hg; obtain ⟨Ao30, co30, eo30⟩ := Kd.S_slice HO489.out; subst eo30; have hnb31 := NB491_476.out; have hnc31 := NB476_491.out; have hnb32 := NB491_486.out; have hnc32 := NB486_491.out; have hcz33_0 : w29.cell? ⟨gb491, 0, none⟩ = some (.slice none 0 0) := (blk_cell BK491.out 0).trans rfl; have hfz33_0 := blk_frozen BK491.out 0))
     (try simp only [Act.put, List.setIfInBounds_toArray, List.set_cons_zero, List.set_cons_succ])
     go_cut [65] (fun v65 wc => ∃ (kq : Nat) (x65_11 : Bool), v65 = .bool x65_11 ∧ Aside0 (laws_FnSwapsKeepTheForm.j0 kq l1 t481 t485 x65_11 t473 t482 = some r) ∧ Aside0 (kq ≤ k) ∧ Aside0 (Kd.S (Kd.slice 3 (Kd.int .i64)) 35 wc w.heap.size (fun k_ => some k_ ≠ ((.slice Ao25 t482.length co25) : Value).ownBlock ∧ some k_ ≠ ((.slice Ao30 t487.length co30) : Value).ownBlock) (.slice Ao15 t473.length co15) t473) ∧ Aside0 (Kd.S (Kd.slice 3 (Kd.int .i64)) 35 wc w.heap.size (fun k_ => some k_ ≠ ((.slice Ao15 t473.length co15) : Value).ownBlock ∧ some k_ ≠ ((.slice Ao30 t487.length co30) : Value).ownBlock) (.slice Ao25 t482.length co25) t482) ∧ Aside0 (Kd.S (Kd.slice 3 (Kd.int .i64)) 35 wc w.heap.size (fun k_ => some k_ ≠ ((.slice Ao15 t473.length co15) : Value).ownBlock ∧ some k_ ≠ ((.slice Ao25 t482.length co25) : Value).ownBlock) (.slice Ao30 t487.length co30) t487) ∧ Aside0 (wc.heap[gb476]? = some (.cells #[(.slice Ao15 t473.length co15)] 26 (0, 0))) ∧ Aside0 (wc.heap[gb486]? = some (.cells #[(.slice Ao25 t482.length co25)] 26 (0, 0))) ∧ Aside0 (wc.heap[gb491]? = some (.cells #[(.slice Ao30 t487.length co30)] 26 (0, 0))) ∧ Aside0 (Below w.heap.size w wc))
     case first =>
      as_aux_lemma =>
       have H := HC12.out
       clear HC12
       by_cases c34 : (t485 != t490) = true
       ·
        rw [if_pos c34] at H
        exact absurd (H.trans (congrArg some hrT)) (fun h_ => laws_FnSwapsKeepTheForm.j0_no h_)
       ·
        rw [if_neg c34] at H
        have c34b0 : (t485 != t490) = false := by simpa using c34
        (try (have c34b1 : decide (t485 = t490) = true := by simpa using c34))
        (try (have c34b2 : (t485 == t490) = true := by simpa using c34))
        clear c34
        (first | rw [c34b0] | (simp only [i64_w, i32_w]; rw [c34b0]) | skip)
        replace H := Option.bind_eq_some_iff.mp H
        obtain ⟨t492, A350, H⟩ := H
        replace H : (laws_FnSwapsKeepTheForm.j0 k l1 t481 t485 (!t492) t473 t482) = some r := H
        have A35 := Aside0.mk A350
        clear A350
        have H' := Aside0.mk H
        clear H
        have hnb36 := NB486_476.out
        have hnc36 := NB476_486.out
        have hnb37 := NB486_491.out
        have hnc37 := NB491_486.out
        have hcz38_0 : w29.cell? ⟨gb486, 0, none⟩ = some (.slice Ao25 t482.length co25) := (blk_cell BK486.out 0).trans rfl
        have hfz38_0 := blk_frozen BK486.out 0
        have hnb39 := NB491_476.out
        have hnc39 := NB476_491.out
        have hcz40_0 : w29.cell? ⟨gb491, 0, none⟩ = some (.slice none 0 0) := (blk_cell BK491.out 0).trans rfl
        have hfz40_0 := blk_frozen BK491.out 0
        go_wp2_with (first | (go_at_call 8; (with_reducible refine (laws_dMatrix.calls k _ _ t482 _ _ t487 t492 _ ?side1 ?side2 ?side3 ?side4 A35.out).mono ?_); (case side1 => refine (Kd.S_reads' (e := 35) (base := w.heap.size) (ok := fun k_ => (((True ∧ some k_ ≠ (.slice Ao15 t473.length co15 : Value).ownBlock) ∧ some k_ ≠ (.slice Ao20 t477.length co20 : Value).ownBlock) ∧ some k_ ≠ (.slice Ao30 t487.length co30 : Value).ownBlock)) (n := t482.length) (c := co25) ?_).2.2; exact (by (with_reducible repeat (first | apply Kd.S_alloc | apply Kd.S_drewN | apply Kd.S_drew)); exact (Kd.S_mono (Kd.S_far (p := ⟨gb491, 0, none⟩) (Kd.S_types HO484.out BK491.out (by decide)) (fun _ hk => hk.2) (.slice Ao30 t487.length co30)) (fun _ h_ => h_.1)))); (case side2 => exact (Kd.S_reads' HO484.out).2.1); (case side3 => refine (Kd.S_reads' (e := 35) (base := w.heap.size) (ok := fun k_ => (((True ∧ some k_ ≠ (.slice Ao15 t473.length co15 : Value).ownBlock) ∧ some k_ ≠ (.slice Ao20 t477.length co20 : Value).ownBlock) ∧ some k_ ≠ (.slice Ao25 t482.length co25 : Value).ownBlock)) (n := t487.length) (c := co30) ?_).2.2; exact (by (with_reducible repeat (first | apply Kd.S_alloc | apply Kd.S_drewN | apply Kd.S_drew)); exact (Kd.S_mono (Kd.S_far (p := ⟨gb491, 0, none⟩) (Kd.S_types HO489.out BK491.out (by decide)) (fun _ hk => hk.2) (.slice Ao30 t487.length co30)) (fun _ h_ => h_.1)))); (case side4 => exact (Kd.S_reads' HO489.out).2.1); rintro e w41 ⟨rfl, hb⟩; have n0_ := Aside0.mk (Kd.S_below (by (with_reducible repeat (first | apply Kd.S_alloc | apply Kd.S_drewN | apply Kd.S_drew)); exact (Kd.S_mono (Kd.S_far (p := ⟨gb491, 0, none⟩) (Kd.S_types HO475.out BK491.out (by decide)) (fun _ hk => hk.2) (.slice Ao30 t487.length co30)) (fun _ h_ => h_.1))) hb); have n1_ := Aside0.mk (Kd.S_below (by (with_reducible repeat (first | apply Kd.S_alloc | apply Kd.S_drewN | apply Kd.S_drew)); exact (Kd.S_mono (Kd.S_far (p := ⟨gb491, 0, none⟩) (Kd.S_types HO479.out BK491.out (by decide)) (fun _ hk => hk.2) (.slice Ao30 t487.length co30)) (fun _ h_ => h_.1))) hb); have n2_ := Aside0.mk (Kd.S_below (by (with_reducible repeat (first | apply Kd.S_alloc | apply Kd.S_drewN | apply Kd.S_drew)); exact (Kd.S_mono (Kd.S_far (p := ⟨gb491, 0, none⟩) (Kd.S_types HO484.out BK491.out (by decide)) (fun _ hk => hk.2) (.slice Ao30 t487.length co30)) (fun _ h_ => h_.1))) hb); have n3_ := Aside0.mk (Kd.S_below (by (with_reducible repeat (first | apply Kd.S_alloc | apply Kd.S_drewN | apply Kd.S_drew)); exact (Kd.S_mono (Kd.S_far (p := ⟨gb491, 0, none⟩) (Kd.S_types HO489.out BK491.out (by decide)) (fun _ hk => hk.2) (.slice Ao30 t487.length co30)) (fun _ h_ => h_.1))) hb); have n4_ := Aside0.mk (blk_below (g := gb476) (o := .cells #[.slice Ao15 t473.length co15] 26 (0, 0)) (by (with_reducible repeat (first | refine blk_drewN ?_ _ | refine blk_drew ?_ | refine blk_alloc ?_ _)); refine blk_far ?_ NB476_491.out _; (with_reducible repeat (first | refine blk_drewN ?_ _ | refine blk_drew ?_ | refine blk_alloc ?_ _)); exact BK476.out) hb); have n5_ := Aside0.mk (blk_below (g := gb486) (o := .cells #[.slice Ao25 t482.length co25] 26 (0, 0)) (by (with_reducible repeat (first | refine blk_drewN ?_ _ | refine blk_drew ?_ | refine blk_alloc ?_ _)); refine blk_far ?_ NB486_491.out _; (with_reducible repeat (first | refine blk_drewN ?_ _ | refine blk_drew ?_ | refine blk_alloc ?_ _)); exact BK486.out) hb); have n6_ := Aside0.mk (blk_below (g := gb491) (o := .cells #[.slice Ao30 t487.length co30] 26 (0, 0)) (by (with_reducible repeat (first | refine blk_drewN ?_ _ | refine blk_drew ?_ | refine blk_alloc ?_ _)); refine blk_put (cs := #[.slice none 0 0]) ?_ 0 _ rfl; (with_reducible repeat (first | refine blk_drewN ?_ _ | refine blk_drew ?_ | refine blk_alloc ?_ _)); exact BK491.out) hb); have n7_ := Aside0.mk (below_step (kB HB) hb); clear HO475; clear HO479; clear HO484; clear HO489; clear BK476; clear BK486; clear BK491; clear HB; have HO475 := n0_; have HO479 := n1_; have HO484 := n2_; have HO489 := n3_; have BK476 := n4_; have BK486 := n5_; have BK491 := n6_; have HB := n7_; clear n0_ n1_ n2_ n3_ n4_ n5_ n6_ n7_; (try clear hb); (try clear hb2); (try clear hk); (try clear hi)))
        go_meet
        case rel => exact ⟨_, (!t492), e2, H', ⟨by first | omega | exact Nat.le_refl _⟩, ⟨by (with_reducible repeat (first | apply Kd.S_alloc | apply Kd.S_drewN | apply Kd.S_drew)); exact Kd.S_mono HO475.out (fun _ hk => ⟨hk.1.2, hk.2⟩)⟩, ⟨by (with_reducible repeat (first | apply Kd.S_alloc | apply Kd.S_drewN | apply Kd.S_drew)); exact Kd.S_mono HO484.out (fun _ hk => ⟨hk.1.1.2, hk.2⟩)⟩, ⟨by (with_reducible repeat (first | apply Kd.S_alloc | apply Kd.S_drewN | apply Kd.S_drew)); exact Kd.S_mono HO489.out (fun _ hk => ⟨hk.1.1.2, hk.2⟩)⟩, ⟨by (with_reducible repeat (first | refine blk_drewN ?_ _ | refine blk_drew ?_ | refine blk_alloc ?_ _)); exact BK476.out⟩, ⟨by (with_reducible repeat (first | refine blk_drewN ?_ _ | refine blk_drew ?_ | refine blk_alloc ?_ _)); exact BK486.out⟩, ⟨by (with_reducible repeat (first | refine blk_drewN ?_ _ | refine blk_drew ?_ | refine blk_alloc ?_ _)); exact BK491.out⟩, ⟨kB HB⟩⟩
     case rest =>
      as_aux_lemma =>
       clear HC12; (try clear c1); (try clear c2); (try clear p2); (try clear c3); (try clear c4); (try clear c6); (try clear c7); (try clear c8); (try clear c9); (try clear c10); (try clear c11); (try clear c12); (try clear c26); (try clear c31); (try clear c32); (try clear c34); (try clear c34b0); (try clear c34b1); (try clear c34b2); (try clear c36); (try clear c37); (try clear c39); (try clear hcz16_0); (try clear hcz27_0); (try clear hcz33_0); (try clear hcz38_0); (try clear hcz40_0); (try clear hfz16_0); (try clear hfz27_0); (try clear hfz33_0); (try clear hfz38_0); (try clear hfz40_0)
       obtain ⟨kq, x65_11, rfl, HA, HJ11, HO_477000, HO_487000, HO_492000, BK476, BK486, BK491, HB⟩ := hcut
       cases kq with
       | zero => exact absurd HA.out (by simp [laws_FnSwapsKeepTheForm.j0])
       | succ kj11 =>
        have H := HA.out
        clear HA
        simp only [laws_FnSwapsKeepTheForm.j0] at H
        by_cases c42 : x65_11 = true
        ·
         subst c42
         have H1 : (some false) = some r := by rw [if_pos rfl] at H; exact H
         exact absurd (H1.trans (congrArg some hrT)) (by simp)
        ·
         as_aux_lemma =>
          replace c42 := Bool.eq_false_iff.mpr c42
          subst c42
          have H1 : (if t485 = true then ((impl_KeepsForm.f kj11 t482 t473).bind fun bt493 => ((impl_MultiplyMatrices.f t482 t482).bind fun bt495 => ((impl_UnitMatrix.f 4).bind fun bt500 => (if bt493.2 = true then (if bt493.1 = true then (if bt495.2 = true then (if bt500.2 = true then ((laws_dMatrix.f kj11 bt495.1 bt500.1).bind fun t505 => (if t505 = true then (laws_FnSwapsKeepTheForm.j1 kj11 l1 t481 t485 t473 t482) else (some false))) else (some false)) else (some false)) else (some false)) else (some false))))) else (laws_FnSwapsKeepTheForm.j1 kj11 l1 t481 t485 t473 t482)) = some r := by rw [if_neg (show ¬ (false = true) by decide)] at H; exact H
          clear H
          have H := H1
          clear H1
          have HC43 := Aside0.mk H
          clear H
          go_upto_if 66 with (fail)
          go_cut [] (fun wc => ∃ (kq : Nat), Aside0 (laws_FnSwapsKeepTheForm.j1 kq l1 t481 t485 t473 t482 = some r) ∧ Aside0 (kq ≤ kj11) ∧ Aside0 (Kd.S (Kd.slice 3 (Kd.int .i64)) 35 wc w.heap.size (fun k_ => some k_ ≠ ((.slice Ao25 t482.length co25) : Value).ownBlock ∧ some k_ ≠ ((.slice Ao30 t487.length co30) : Value).ownBlock) (.slice Ao15 t473.length co15) t473) ∧ Aside0 (Kd.S (Kd.slice 3 (Kd.int .i64)) 35 wc w.heap.size (fun k_ => some k_ ≠ ((.slice Ao15 t473.length co15) : Value).ownBlock ∧ some k_ ≠ ((.slice Ao30 t487.length co30) : Value).ownBlock) (.slice Ao25 t482.length co25) t482) ∧ Aside0 (Kd.S (Kd.slice 3 (Kd.int .i64)) 35 wc w.heap.size (fun k_ => some k_ ≠ ((.slice Ao15 t473.length co15) : Value).ownBlock ∧ some k_ ≠ ((.slice Ao25 t482.length co25) : Value).ownBlock) (.slice Ao30 t487.length co30) t487) ∧ Aside0 (wc.heap[gb476]? = some (.cells #[(.slice Ao15 t473.length co15)] 26 (0, 0))) ∧ Aside0 (wc.heap[gb486]? = some (.cells #[(.slice Ao25 t482.length co25)] 26 (0, 0))) ∧ Aside0 (wc.heap[gb491]? = some (.cells #[(.slice Ao30 t487.length co30)] 26 (0, 0))) ∧ Aside0 (Below w.heap.size w wc))
          case first =>
           as_aux_lemma =>
            have H := HC43.out
            clear HC43
            by_cases c44 : t485 = true
            ·
             as_aux_lemma =>
              subst c44
              have H1 : ((impl_KeepsForm.f kj11 t482 t473).bind fun bt493 => ((impl_MultiplyMatrices.f t482 t482).bind fun bt495 => ((impl_UnitMatrix.f 4).bind fun bt500 => (if bt493.2 = true then (if bt493.1 = true then (if bt495.2 = true then (if bt500.2 = true then ((laws_dMatrix.f kj11 bt495.1 bt500.1).bind fun t505 => (if t505 = true then (laws_FnSwapsKeepTheForm.j1 kj11 l1 t481 true t473 t482) else (some false))) else (some false)) else (some false)) else (some false)) else (some false))))) = some r := by rw [if_pos rfl] at H; exact H
              clear H
              have H := H1
              clear H1
              replace H := Option.bind_eq_some_iff.mp H
              obtain ⟨⟨t493, t494⟩, A450, H⟩ := H
              replace H : ((impl_MultiplyMatrices.f t482 t482).bind fun bt495 => ((impl_UnitMatrix.f 4).bind fun bt500 => (if t494 = true then (if t493 = true then (if bt495.2 = true then (if bt500.2 = true then ((laws_dMatrix.f kj11 bt495.1 bt500.1).bind fun t505 => (if t505 = true then (laws_FnSwapsKeepTheForm.j1 kj11 l1 t481 true t473 t482) else (some false))) else (some false)) else (some false)) else (some false)) else (some false)))) = some r := H
              have A45 := Aside0.mk A450
              clear A450
              replace H := Option.bind_eq_some_iff.mp H
              obtain ⟨⟨t495, t498⟩, A460, H⟩ := H
              replace H : ((impl_UnitMatrix.f 4).bind fun bt500 => (if t494 = true then (if t493 = true then (if t498 = true then (if bt500.2 = true then ((laws_dMatrix.f kj11 t495 bt500.1).bind fun t505 => (if t505 = true then (laws_FnSwapsKeepTheForm.j1 kj11 l1 t481 true t473 t482) else (some false))) else (some false)) else (some false)) else (some false)) else (some false))) = some r := H
              have A46 := Aside0.mk A460
              clear A460
              replace H := Option.bind_eq_some_iff.mp H
              obtain ⟨⟨t500, t503⟩, A470, H⟩ := H
              replace H : (if t494 = true then (if t493 = true then (if t498 = true then (if t503 = true then ((laws_dMatrix.f kj11 t495 t500).bind fun t505 => (if t505 = true then (laws_FnSwapsKeepTheForm.j1 kj11 l1 t481 true t473 t482) else (some false))) else (some false)) else (some false)) else (some false)) else (some false)) = some r := H
              have A47 := Aside0.mk A470
              clear A470
              by_cases c48 : t494 = true
              ·
               subst c48
               have H1 : (if t493 = true then (if t498 = true then (if t503 = true then ((laws_dMatrix.f kj11 t495 t500).bind fun t505 => (if t505 = true then (laws_FnSwapsKeepTheForm.j1 kj11 l1 t481 true t473 t482) else (some false))) else (some false)) else (some false)) else (some false)) = some r := by rw [if_pos rfl] at H; exact H
               clear H
               have H := H1
               clear H1
               by_cases c49 : t493 = true
               ·
                subst c49
                have H1 : (if t498 = true then (if t503 = true then ((laws_dMatrix.f kj11 t495 t500).bind fun t505 => (if t505 = true then (laws_FnSwapsKeepTheForm.j1 kj11 l1 t481 true t473 t482) else (some false))) else (some false)) else (some false)) = some r := by rw [if_pos rfl] at H; exact H
                clear H
                have H := H1
                clear H1
                by_cases c50 : t498 = true
                ·
                 subst c50
                 have H1 : (if t503 = true then ((laws_dMatrix.f kj11 t495 t500).bind fun t505 => (if t505 = true then (laws_FnSwapsKeepTheForm.j1 kj11 l1 t481 true t473 t482) else (some false))) else (some false)) = some r := by rw [if_pos rfl] at H; exact H
                 clear H
                 have H := H1
                 clear H1
                 by_cases c51 : t503 = true
                 ·
                  subst c51
                  have H1 : ((laws_dMatrix.f kj11 t495 t500).bind fun t505 => (if t505 = true then (laws_FnSwapsKeepTheForm.j1 kj11 l1 t481 true t473 t482) else (some false))) = some r := by rw [if_pos rfl] at H; exact H
                  clear H
                  have H := H1
                  clear H1
                  replace H := Option.bind_eq_some_iff.mp H
                  obtain ⟨t505, A520, H⟩ := H
                  replace H : (if t505 = true then (laws_FnSwapsKeepTheForm.j1 kj11 l1 t481 true t473 t482) else (some false)) = some r := H
                  have A52 := Aside0.mk A520
                  clear A520
                  by_cases c53 : t505 = true
                  ·
                   subst c53
                   have H1 : (laws_FnSwapsKeepTheForm.j1 kj11 l1 t481 true t473 t482) = some r := by rw [if_pos rfl] at H; exact H
                   clear H
                   have H := H1
                   clear H1
                   have H' := Aside0.mk H
                   clear H
                   have hnb54 := NB486_476.out
                   have hnc54 := NB476_486.out
                   have hnb55 := NB486_491.out
                   have hnc55 := NB491_486.out
                   have hcz56_0 : wc.cell? ⟨gb486, 0, none⟩ = some (.slice Ao25 t482.length co25) := (blk_cell BK486.out 0).trans rfl
                   have hfz56_0 := blk_frozen BK486.out 0
                   have hnb57 := NB476_491.out
                   have hnc57 := NB491_476.out
                   have hcz58_0 : wc.cell? ⟨gb476, 0, none⟩ = some (.slice Ao15 t473.length co15) := (blk_cell BK476.out 0).trans rfl
                   have hfz58_0 := blk_frozen BK476.out 0
                   go_wp2_with (first | ((with_reducible refine gate_callee (f := 13) rfl ?_); refine gL (some 70) rfl rfl Try.func13 (by kernel_rfl) rfl #[.agg #[.slice Ao25 t482.length co25], .agg #[.slice Ao15 t473.length co15]] rfl ?_; (with_reducible refine (impl_KeepsForm.calls kj11 _ _ t482 _ _ t473 true true _ ?side1 ?side2 ?side3 ?side4 A45.out).mono ?_); (case side1 => exact cC (Kd.S_reads' HO_487000.out).2.2); (case side2 => exact (Kd.S_reads' HO_487000.out).2.1); (case side3 => exact cC (Kd.S_reads' HO_477000.out).2.2); (case side4 => exact (Kd.S_reads' HO_477000.out).2.1); rintro e w59 ⟨rfl, hb⟩; refine ⟨_, rfl, ?_⟩; have n0_ := Aside0.mk (Kd.S_below (by (with_reducible repeat (first | apply Kd.S_alloc | apply Kd.S_drewN | apply Kd.S_drew)); exact HO_477000.out) hb); have n1_ := Aside0.mk (Kd.S_below (by (with_reducible repeat (first | apply Kd.S_alloc | apply Kd.S_drewN | apply Kd.S_drew)); exact HO_487000.out) hb); have n2_ := Aside0.mk (Kd.S_below (by (with_reducible repeat (first | apply Kd.S_alloc | apply Kd.S_drewN | apply Kd.S_drew)); exact HO_492000.out) hb); have n3_ := Aside0.mk (kK BK476 hb); have n4_ := Aside0.mk (kK BK486 hb); have n5_ := Aside0.mk (kK BK491 hb); have n6_ := Aside0.mk (below_step (kB HB) hb); clear HO_477000; clear HO_487000; clear HO_492000; clear BK476; clear BK486; clear BK491; clear HB; have HO_477000 := n0_; have HO_487000 := n1_; have HO_492000 := n2_; have BK476 := n3_; have BK486 := n4_; have BK491 := n5_; have HB := n6_; clear n0_ n1_ n2_ n3_ n4_ n5_ n6_; (try clear hb); (try clear hb2); (try clear hk); (try clear hi); have hcz60_0 : w59.cell? ⟨gb486, 0, none⟩ = some (.slice Ao25 t482.length co25) := (blk_cell BK486.out 0).trans rfl; have hfz60_0 := blk_frozen BK486.out 0) | ((with_reducible refine gate_callee (f := 14) rfl ?_); refine gL (some 76) rfl rfl Try.func14 (by kernel_rfl) rfl #[.agg #[.slice Ao25 t482.length co25], .agg #[.slice Ao25 t482.length co25]] rfl ?_; (with_reducible refine (impl_MultiplyMatrices.calls _ _ t482 _ _ t482 t495 true _ ?side1 ?side2 ?side3 ?side4 A46.out).mono ?_); (case side1 => exact cC (Kd.S_reads' HO_487000.out).2.2); (case side2 => exact (Kd.S_reads' HO_487000.out).2.1); (case side3 => exact cC (Kd.S_reads' HO_487000.out).2.2); (case side4 => exact (Kd.S_reads' HO_487000.out).2.1); rintro e w61 ⟨v496, rfl, ho0, hb⟩; refine ⟨_, rfl, ?_⟩; have n0_ := Aside0.mk (Kd.S_below (by (with_reducible repeat (first | apply Kd.S_alloc | apply Kd.S_drewN | apply Kd.S_drew)); exact HO_477000.out) hb); have n1_ := Aside0.mk (Kd.S_below (by (with_reducible repeat (first | apply Kd.S_alloc | apply Kd.S_drewN | apply Kd.S_drew)); exact HO_487000.out) hb); have n2_ := Aside0.mk (Kd.S_below (by (with_reducible repeat (first | apply Kd.S_alloc | apply Kd.S_drewN | apply Kd.S_drew)); exact HO_492000.out) hb); have n3_ := Aside0.mk (Kd.V_lower (Kd.V_mono (ok' := fun k_ => some k_ ≠ (.slice Ao15 t473.length co15 : Value).ownBlock ∧ some k_ ≠ (.slice Ao25 t482.length co25 : Value).ownBlock ∧ some k_ ≠ (.slice Ao30 t487.length co30 : Value).ownBlock ∧ k_ ≠ gb476 ∧ k_ ≠ gb486 ∧ k_ ≠ gb491) ho0 (fun k_ hk_ => ⟨(Kd.fresh' (Kd.S_lt (by (with_reducible repeat (first | apply Kd.S_alloc | apply Kd.S_drewN | apply Kd.S_drew)); exact HO_477000.out)) k_ hk_), (Kd.fresh' (Kd.S_lt (by (with_reducible repeat (first | apply Kd.S_alloc | apply Kd.S_drewN | apply Kd.S_drew)); exact HO_487000.out)) k_ hk_), (Kd.fresh' (Kd.S_lt (by (with_reducible repeat (first | apply Kd.S_alloc | apply Kd.S_drewN | apply Kd.S_drew)); exact HO_492000.out)) k_ hk_), (Kd.freshB (g := gb476) (o := .cells #[.slice Ao15 t473.length co15] 26 (0, 0)) (bA BK476) k_ hk_), (Kd.freshB (g := gb486) (o := .cells #[.slice Ao25 t482.length co25] 26 (0, 0)) (bA BK486) k_ hk_), (Kd.freshB (g := gb491) (o := .cells #[.slice Ao30 t487.length co30] 26 (0, 0)) (bA BK491) k_ hk_)⟩)) (below_size (kB HB))); have n4_ := Aside0.mk (kK BK476 hb); have n5_ := Aside0.mk (kK BK486 hb); have n6_ := Aside0.mk (kK BK491 hb); have n7_ := Aside0.mk (below_step (kB HB) hb); clear HO_477000; clear HO_487000; clear HO_492000; clear BK476; clear BK486; clear BK491; clear HB; have HO_477000 := n0_; have HO_487000 := n1_; have HO_492000 := n2_; have HO497 := n3_; have BK476 := n4_; have BK486 := n5_; have BK491 := n6_; have HB := n7_; clear n0_ n1_ n2_ n3_ n4_ n5_ n6_ n7_; (try clear hb); (try clear hb2); (try clear hk); (try clear hi); (try clear ho0)) | ((with_reducible refine gate_dst (N := 13) rfl ?_); refine box_event ?hg (N := 13) ?hd (cs := #[.slice none 0 0]) (t := 26) ?hr ?_; (case hd => rfl); (case hg => rfl); (case hr => first | (go_simp; done) | (go_simp; rfl)); intro gb499 hg w62 hbox hb; have n0_ := Aside0.mk (Kd.S_below (by (with_reducible repeat (first | apply Kd.S_alloc | apply Kd.S_drewN | apply Kd.S_drew)); exact HO_477000.out) hb); have n1_ := Aside0.mk (Kd.S_below (by (with_reducible repeat (first | apply Kd.S_alloc | apply Kd.S_drewN | apply Kd.S_drew)); exact HO_487000.out) hb); have n2_ := Aside0.mk (Kd.S_below (by (with_reducible repeat (first | apply Kd.S_alloc | apply Kd.S_drewN | apply Kd.S_drew)); exact HO_492000.out) hb); have n3_ := Aside0.mk (Kd.V_below (Kd.V_elderB (by (with_reducible repeat (first | apply Kd.V_alloc | apply Kd.V_drewN | apply Kd.V_drew)); exact HO497.out) gb499 (Nat.le_of_eq hg.symm)) hb); have n4_ := Aside0.mk (kK BK476 hb); have n5_ := Aside0.mk (kK BK486 hb); have n6_ := Aside0.mk (kK BK491 hb); have n7_ := Aside0.mk (below_step (kB HB) hb); have n8_ := Aside0.mk (hbox); have n9_ := Aside0.mk ((by rw [hg]; exact (below_size (kB HB)) : w.heap.size ≤ gb499)); have n10_ := Aside0.mk ((by rw [hg]; exact (below_size (kB HB)) : w.heap.size ≤ gb499)); have n11_ := Aside0.mk ((by rw [hg]; exact Nat.ne_of_lt (blk_lt (g := gb476) (o := .cells #[.slice Ao15 t473.length co15] 26 (0, 0)) (bA BK476)) : gb476 ≠ gb499)); have n12_ := Aside0.mk ((by rw [hg]; exact Nat.ne_of_gt (blk_lt (g := gb476) (o := .cells #[.slice Ao15 t473.length co15] 26 (0, 0)) (bA BK476)) : gb499 ≠ gb476)); have n13_ := Aside0.mk ((by rw [hg]; exact Nat.ne_of_lt (blk_lt (g := gb486) (o := .cells #[.slice Ao25 t482.length co25] 26 (0, 0)) (bA BK486)) : gb486 ≠ gb499)); have n14_ := Aside0.mk ((by rw [hg]; exact Nat.ne_of_gt (blk_lt (g := gb486) (o := .cells #[.slice Ao25 t482.length co25] 26 (0, 0)) (bA BK486)) : gb499 ≠ gb486)); have n15_ := Aside0.mk ((by rw [hg]; exact Nat.ne_of_lt (blk_lt (g := gb491) (o := .cells #[.slice Ao30 t487.length co30] 26 (0, 0)) (bA BK491)) : gb491 ≠ gb499)); have n16_ := Aside0.mk ((by rw [hg]; exact Nat.ne_of_gt (blk_lt (g := gb491) (o := .cells #[.slice Ao30 t487.length co30] 26 (0, 0)) (bA BK491)) : gb499 ≠ gb491)); clear HO_477000; clear HO_487000; clear HO_492000; clear HO497; clear BK476; clear BK486; clear BK491; clear HB; have HO_477000 := n0_; have HO_487000 := n1_; have HO_492000 := n2_; have HO497 := n3_; have BK476 := n4_; have BK486 := n5_; have BK491 := n6_; have HB := n7_; have BK499 := n8_; have GW499 := n9_; have GE499 := n10_; have NB476_499 := n11_; have NB499_476 := n12_; have NB486_499 := n13_; have NB499_486 := n14_; have NB491_499 := n15_; have NB499_491 := n16_; clear n0_ n1_ n2_ n3_ n4_ n5_ n6_ n7_ n8_ n9_ n10_ n11_ n12_ n13_ n14_ n15_ n16_; clear hb hbox hg; obtain ⟨Ao63, co63, eo63⟩ := Kd.V_slice HO497.out; subst eo63; have hnb64 := NB499_476.out; have hnc64 := NB476_499.out; have hnb65 := NB499_486.out; have hnc65 := NB486_499.out; have hnb66 := NB499_491.out; have hnc66 := NB491_499.out; have hcz67_0 : w62.cell? ⟨gb499, 0, none⟩ = some (.slice none 0 0) := (blk_cell BK499.out 0).trans rfl; have hfz67_0 := blk_frozen BK499.out 0) | ((with_reducible refine gate_callee (f := 15) rfl ?_); refine gL (some 80) rfl rfl Try.func15 (by kernel_rfl) rfl #[.int .i64 4] rfl ?_; (with_reducible refine (impl_UnitMatrix.calls 4 t500 true _ A47.out).mono ?_); rintro e w68 ⟨v501, rfl, ho0, hb⟩; refine ⟨_, rfl, ?_⟩; have n0_ := Aside0.mk (Kd.S_elder' (by (with_reducible repeat (first | apply Kd.S_alloc | apply Kd.S_drewN | apply Kd.S_drew)); exact (Kd.S_mono (Kd.S_far (p := ⟨gb499, 0, none⟩) (Kd.S_types HO_477000.out BK499.out (by decide)) (fun _ hk => hk.2) (.slice Ao63 t495.length co63)) (fun _ h_ => h_.1))) (Kd.S_base ho0) hb); have n1_ := Aside0.mk (Kd.S_elder' (by (with_reducible repeat (first | apply Kd.S_alloc | apply Kd.S_drewN | apply Kd.S_drew)); exact (Kd.S_mono (Kd.S_far (p := ⟨gb499, 0, none⟩) (Kd.S_types HO_487000.out BK499.out (by decide)) (fun _ hk => hk.2) (.slice Ao63 t495.length co63)) (fun _ h_ => h_.1))) (Kd.S_base ho0) hb); have n2_ := Aside0.mk (Kd.S_elder' (by (with_reducible repeat (first | apply Kd.S_alloc | apply Kd.S_drewN | apply Kd.S_drew)); exact (Kd.S_mono (Kd.S_far (p := ⟨gb499, 0, none⟩) (Kd.S_types HO_492000.out BK499.out (by decide)) (fun _ hk => hk.2) (.slice Ao63 t495.length co63)) (fun _ h_ => h_.1))) (Kd.S_base ho0) hb); have n3_ := Aside0.mk (Kd.V_elder' (by (with_reducible repeat (first | apply Kd.V_alloc | apply Kd.V_drewN | apply Kd.V_drew)); exact (Kd.V_mono (Kd.V_far (p := ⟨gb499, 0, none⟩) (Kd.V_mono HO497.out (fun k_ hk => (⟨hk, hk.2⟩ : _ ∧ k_ ≠ gb499))) (fun _ hk => hk.2) (.slice Ao63 t495.length co63)) (fun _ h_ => h_.1))) (Kd.S_base ho0) hb); have n4_ := Aside0.mk (Kd.S_lower (Kd.S_new' (Kd.S_new' (Kd.S_new' ho0 (Kd.S_lt (by (with_reducible repeat (first | apply Kd.S_alloc | apply Kd.S_drewN | apply Kd.S_drew)); exact (Kd.S_mono (Kd.S_far (p := ⟨gb499, 0, none⟩) (Kd.S_types HO_477000.out BK499.out (by decide)) (fun _ hk => hk.2) (.slice Ao63 t495.length co63)) (fun _ h_ => h_.1))))) (Kd.S_lt (by (with_reducible repeat (first | apply Kd.S_alloc | apply Kd.S_drewN | apply Kd.S_drew)); exact (Kd.S_mono (Kd.S_far (p := ⟨gb499, 0, none⟩) (Kd.S_types HO_487000.out BK499.out (by decide)) (fun _ hk => hk.2) (.slice Ao63 t495.length co63)) (fun _ h_ => h_.1))))) (Kd.S_lt (by (with_reducible repeat (first | apply Kd.S_alloc | apply Kd.S_drewN | apply Kd.S_drew)); exact (Kd.S_mono (Kd.S_far (p := ⟨gb499, 0, none⟩) (Kd.S_types HO_492000.out BK499.out (by decide)) (fun _ hk => hk.2) (.slice Ao63 t495.length co63)) (fun _ h_ => h_.1))))) (below_size (kB HB))); have n5_ := Aside0.mk (blk_below (g := gb476) (o := .cells #[.slice Ao15 t473.length co15] 26 (0, 0)) (by (with_reducible repeat (first | refine blk_drewN ?_ _ | refine blk_drew ?_ | refine blk_alloc ?_ _)); refine blk_far ?_ NB476_499.out _; (with_reducible repeat (first | refine blk_drewN ?_ _ | refine blk_drew ?_ | refine blk_alloc ?_ _)); exact BK476.out) hb); have n6_ := Aside0.mk (blk_below (g := gb486) (o := .cells #[.slice Ao25 t482.length co25] 26 (0, 0)) (by (with_reducible repeat (first | refine blk_drewN ?_ _ | refine blk_drew ?_ | refine blk_alloc ?_ _)); refine blk_far ?_ NB486_499.out _; (with_reducible repeat (first | refine blk_drewN ?_ _ | refine blk_drew ?_ | refine blk_alloc ?_ _)); exact BK486.out) hb); have n7_ := Aside0.mk (blk_below (g := gb491) (o := .cells #[.slice Ao30 t487.length co30] 26 (0, 0)) (by (with_reducible repeat (first | refine blk_drewN ?_ _ | refine blk_drew ?_ | refine blk_alloc ?_ _)); refine blk_far ?_ NB491_499.out _; (with_reducible repeat (first | refine blk_drewN ?_ _ | refine blk_drew ?_ | refine blk_alloc ?_ _)); exact BK491.out) hb); have n8_ := Aside0.mk (blk_below (g := gb499) (o := .cells #[.slice Ao63 t495.length co63] 26 (0, 0)) (by (with_reducible repeat (first | refine blk_drewN ?_ _ | refine blk_drew ?_ | refine blk_alloc ?_ _)); refine blk_put (cs := #[.slice none 0 0]) ?_ 0 _ rfl; (with_reducible repeat (first | refine blk_drewN ?_ _ | refine blk_drew ?_ | refine blk_alloc ?_ _)); exact BK499.out) hb); have n9_ := Aside0.mk (below_step (kB HB) hb); clear HO_477000; clear HO_487000; clear HO_492000; clear HO497; clear BK476; clear BK486; clear BK491; clear BK499; clear HB; have HO_477000 := n0_; have HO_487000 := n1_; have HO_492000 := n2_; have HO497 := n3_; have HO502 := n4_; have BK476 := n5_; have BK486 := n6_; have BK491 := n7_; have BK499 := n8_; have HB := n9_; clear n0_ n1_ n2_ n3_ n4_ n5_ n6_ n7_ n8_ n9_; (try clear hb); (try clear hb2); (try clear hk); (try clear hi); (try clear ho0)) | ((with_reducible refine gate_dst (N := 15) rfl ?_); refine box_event ?hg (N := 15) ?hd (cs := #[.slice none 0 0]) (t := 26) ?hr ?_; (case hd => rfl); (case hg => rfl); (case hr => first | (go_simp; done) | (go_simp; rfl)); intro gb504 hg w69 hbox hb; have n0_ := Aside0.mk (Kd.S_below (by (with_reducible repeat (first | apply Kd.S_alloc | apply Kd.S_drewN | apply Kd.S_drew)); exact HO_477000.out) hb); have n1_ := Aside0.mk (Kd.S_below (by (with_reducible repeat (first | apply Kd.S_alloc | apply Kd.S_drewN | apply Kd.S_drew)); exact HO_487000.out) hb); have n2_ := Aside0.mk (Kd.S_below (by (with_reducible repeat (first | apply Kd.S_alloc | apply Kd.S_drewN | apply Kd.S_drew)); exact HO_492000.out) hb); have n3_ := Aside0.mk (Kd.V_below (Kd.V_elderB (by (with_reducible repeat (first | apply Kd.V_alloc | apply Kd.V_drewN | apply Kd.V_drew)); exact HO497.out) gb504 (Nat.le_of_eq hg.symm)) hb); have n4_ := Aside0.mk (Kd.S_below (by (with_reducible repeat (first | apply Kd.S_alloc | apply Kd.S_drewN | apply Kd.S_drew)); exact HO502.out) hb); have n5_ := Aside0.mk (kK BK476 hb); have n6_ := Aside0.mk (kK BK486 hb); have n7_ := Aside0.mk (kK BK491 hb); have n8_ := Aside0.mk (kK BK499 hb); have n9_ := Aside0.mk (below_step (kB HB) hb); have n10_ := Aside0.mk (hbox); have n11_ := Aside0.mk ((by rw [hg]; exact (below_size (kB HB)) : w.heap.size ≤ gb504)); have n12_ := Aside0.mk ((by rw [hg]; exact (below_size (kB HB)) : w.heap.size ≤ gb504)); have n13_ := Aside0.mk ((by rw [hg]; exact Nat.ne_of_lt (blk_lt (g := gb476) (o := .cells #[.slice Ao15 t473.length co15] 26 (0, 0)) (bA BK476)) : gb476 ≠ gb504)); have n14_ := Aside0.mk ((by rw [hg]; exact Nat.ne_of_gt (blk_lt (g := gb476) (o := .cells #[.slice Ao15 t473.length co15] 26 (0, 0)) (bA BK476)) : gb504 ≠ gb476)); have n15_ := Aside0.mk ((by rw [hg]; exact Nat.ne_of_lt (blk_lt (g := gb486) (o := .cells #[.slice Ao25 t482.length co25] 26 (0, 0)) (bA BK486)) : gb486 ≠ gb504)); have n16_ := Aside0.mk ((by rw [hg]; exact Nat.ne_of_gt (blk_lt (g := gb486) (o := .cells #[.slice Ao25 t482.length co25] 26 (0, 0)) (bA BK486)) : gb504 ≠ gb486)); have n17_ := Aside0.mk ((by rw [hg]; exact Nat.ne_of_lt (blk_lt (g := gb491) (o := .cells #[.slice Ao30 t487.length co30] 26 (0, 0)) (bA BK491)) : gb491 ≠ gb504)); have n18_ := Aside0.mk ((by rw [hg]; exact Nat.ne_of_gt (blk_lt (g := gb491) (o := .cells #[.slice Ao30 t487.length co30] 26 (0, 0)) (bA BK491)) : gb504 ≠ gb491)); have n19_ := Aside0.mk ((by rw [hg]; exact Nat.ne_of_lt (blk_lt (g := gb499) (o := .cells #[.slice Ao63 t495.length co63] 26 (0, 0)) (bA BK499)) : gb499 ≠ gb504)); have n20_ := Aside0.mk ((by rw [hg]; exact Nat.ne_of_gt (blk_lt (g := gb499) (o := .cells #[.slice Ao63 t495.length co63] 26 (0, 0)) (bA BK499)) : gb504 ≠ gb499)); clear HO_477000; clear HO_487000; clear HO_492000; clear HO497; clear HO502; clear BK476; clear BK486; clear BK491; clear BK499; clear HB; have HO_477000 := n0_; have HO_487000 := n1_; have HO_492000 := n2_; have HO497 := n3_; have HO502 := n4_; have BK476 := n5_; have BK486 := n6_; have BK491 := n7_; have BK499 := n8_; have HB := n9_; have BK504 := n10_; have GW504 := n11_; have GE504 := n12_; have NB476_504 := n13_; have NB504_476 := n14_; have NB486_504 := n15_; have NB504_486 := n16_; have NB491_504 := n17_; have NB504_491 := n18_; have NB499_504 := n19_; have NB504_499 := n20_; clear n0_ n1_ n2_ n3_ n4_ n5_ n6_ n7_ n8_ n9_ n10_ n11_ n12_ n13_ n14_ n15_ n16_ n17_ n18_ n19_ n20_; clear hb hbox hg; obtain ⟨Ao70, co70, eo70⟩ := Kd.S_slice HO502.out; subst eo70; have hnb71 := NB504_476.out; have hnc71 := NB476_504.out; have hnb72 := NB504_486.out; have hnc72 := NB486_504.out; have hnb73 := NB504_491.out; have hnc73 := NB491_504.out; have hnb74 := NB504_499.out; have hnc74 := NB499_504.out; have hcz75_0 : w69.cell? ⟨gb504, 0, none⟩ = some (.slice none 0 0) := (blk_cell BK504.out 0).trans rfl; have hfz75_0 := blk_frozen BK504.out 0; have hcz76_0 : w69.cell? ⟨gb499, 0, none⟩ = some (.slice Ao63 t495.length co63) := (blk_cell BK499.out 0).trans rfl; have hfz76_0 := blk_frozen BK499.out 0) | (go_at_call 8; (with_reducible refine (laws_dMatrix.calls kj11 _ _ t495 _ _ t500 true _ ?side1 ?side2 ?side3 ?side4 A52.out).mono ?_); (case side1 => refine (Kd.V_reads' (e := 35) (base := w.heap.size) (ok := fun k_ => ((((some k_ ≠ (.slice Ao15 t473.length co15 : Value).ownBlock ∧ (some k_ ≠ (.slice Ao25 t482.length co25 : Value).ownBlock ∧ (some k_ ≠ (.slice Ao30 t487.length co30 : Value).ownBlock ∧ (k_ ≠ gb476 ∧ (k_ ≠ gb486 ∧ k_ ≠ gb491))))) ∧ k_ ≠ gb499) ∧ some k_ ≠ (.slice Ao70 t500.length co70 : Value).ownBlock) ∧ k_ ≠ gb504)) (n := t495.length) (c := co63) ?_).2.2; exact (by (with_reducible repeat (first | apply Kd.V_alloc | apply Kd.V_drewN | apply Kd.V_drew)); exact (Kd.V_mono (Kd.V_far (p := ⟨gb504, 0, none⟩) (Kd.V_mono HO497.out (fun k_ hk => (⟨hk, hk.2⟩ : _ ∧ k_ ≠ gb504))) (fun _ hk => hk.2) (.slice Ao70 t500.length co70)) (fun _ h_ => h_.1)))); (case side2 => exact (Kd.V_reads' HO497.out).2.1); (case side3 => refine (Kd.S_reads' (e := 35) (base := w.heap.size) (ok := fun k_ => (((True ∧ some k_ ≠ (.slice Ao15 t473.length co15 : Value).ownBlock) ∧ some k_ ≠ (.slice Ao25 t482.length co25 : Value).ownBlock) ∧ some k_ ≠ (.slice Ao30 t487.length co30 : Value).ownBlock)) (n := t500.length) (c := co70) ?_).2.2; exact (by (with_reducible repeat (first | apply Kd.S_alloc | apply Kd.S_drewN | apply Kd.S_drew)); exact (Kd.S_mono (Kd.S_far (p := ⟨gb504, 0, none⟩) (Kd.S_types HO502.out BK504.out (by decide)) (fun _ hk => hk.2) (.slice Ao70 t500.length co70)) (fun _ h_ => h_.1)))); (case side4 => exact (Kd.S_reads' HO502.out).2.1); rintro e w77 ⟨rfl, hb⟩; have n0_ := Aside0.mk (Kd.S_below (by (with_reducible repeat (first | apply Kd.S_alloc | apply Kd.S_drewN | apply Kd.S_drew)); exact (Kd.S_mono (Kd.S_far (p := ⟨gb504, 0, none⟩) (Kd.S_types HO_477000.out BK504.out (by decide)) (fun _ hk => hk.2) (.slice Ao70 t500.length co70)) (fun _ h_ => h_.1))) hb); have n1_ := Aside0.mk (Kd.S_below (by (with_reducible repeat (first | apply Kd.S_alloc | apply Kd.S_drewN | apply Kd.S_drew)); exact (Kd.S_mono (Kd.S_far (p := ⟨gb504, 0, none⟩) (Kd.S_types HO_487000.out BK504.out (by decide)) (fun _ hk => hk.2) (.slice Ao70 t500.length co70)) (fun _ h_ => h_.1))) hb); have n2_ := Aside0.mk (Kd.S_below (by (with_reducible repeat (first | apply Kd.S_alloc | apply Kd.S_drewN | apply Kd.S_drew)); exact (Kd.S_mono (Kd.S_far (p := ⟨gb504, 0, none⟩) (Kd.S_types HO_492000.out BK504.out (by decide)) (fun _ hk => hk.2) (.slice Ao70 t500.length co70)) (fun _ h_ => h_.1))) hb); have n3_ := Aside0.mk (Kd.V_below (by (with_reducible repeat (first | apply Kd.V_alloc | apply Kd.V_drewN | apply Kd.V_drew)); exact (Kd.V_mono (Kd.V_far (p := ⟨gb504, 0, none⟩) (Kd.V_mono HO497.out (fun k_ hk => (⟨hk, hk.2⟩ : _ ∧ k_ ≠ gb504))) (fun _ hk => hk.2) (.slice Ao70 t500.length co70)) (fun _ h_ => h_.1))) hb); have n4_ := Aside0.mk (Kd.S_below (by (with_reducible repeat (first | apply Kd.S_alloc | apply Kd.S_drewN | apply Kd.S_drew)); exact (Kd.S_mono (Kd.S_far (p := ⟨gb504, 0, none⟩) (Kd.S_types HO502.out BK504.out (by decide)) (fun _ hk => hk.2) (.slice Ao70 t500.length co70)) (fun _ h_ => h_.1))) hb); have n5_ := Aside0.mk (blk_below (g := gb476) (o := .cells #[.slice Ao15 t473.length co15] 26 (0, 0)) (by (with_reducible repeat (first | refine blk_drewN ?_ _ | refine blk_drew ?_ | refine blk_alloc ?_ _)); refine blk_far ?_ NB476_504.out _; (with_reducible repeat (first | refine blk_drewN ?_ _ | refine blk_drew ?_ | refine blk_alloc ?_ _)); exact BK476.out) hb); have n6_ := Aside0.mk (blk_below (g := gb486) (o := .cells #[.slice Ao25 t482.length co25] 26 (0, 0)) (by (with_reducible repeat (first | refine blk_drewN ?_ _ | refine blk_drew ?_ | refine blk_alloc ?_ _)); refine blk_far ?_ NB486_504.out _; (with_reducible repeat (first | refine blk_drewN ?_ _ | refine blk_drew ?_ | refine blk_alloc ?_ _)); exact BK486.out) hb); have n7_ := Aside0.mk (blk_below (g := gb491) (o := .cells #[.slice Ao30 t487.length co30] 26 (0, 0)) (by (with_reducible repeat (first | refine blk_drewN ?_ _ | refine blk_drew ?_ | refine blk_alloc ?_ _)); refine blk_far ?_ NB491_504.out _; (with_reducible repeat (first | refine blk_drewN ?_ _ | refine blk_drew ?_ | refine blk_alloc ?_ _)); exact BK491.out) hb); have n8_ := Aside0.mk (blk_below (g := gb499) (o := .cells #[.slice Ao63 t495.length co63] 26 (0, 0)) (by (with_reducible repeat (first | refine blk_drewN ?_ _ | refine blk_drew ?_ | refine blk_alloc ?_ _)); refine blk_far ?_ NB499_504.out _; (with_reducible repeat (first | refine blk_drewN ?_ _ | refine blk_drew ?_ | refine blk_alloc ?_ _)); exact BK499.out) hb); have n9_ := Aside0.mk (blk_below (g := gb504) (o := .cells #[.slice Ao70 t500.length co70] 26 (0, 0)) (by (with_reducible repeat (first | refine blk_drewN ?_ _ | refine blk_drew ?_ | refine blk_alloc ?_ _)); refine blk_put (cs := #[.slice none 0 0]) ?_ 0 _ rfl; (with_reducible repeat (first | refine blk_drewN ?_ _ | refine blk_drew ?_ | refine blk_alloc ?_ _)); exact BK504.out) hb); have n10_ := Aside0.mk (below_step (kB HB) hb); clear HO_477000; clear HO_487000; clear HO_492000; clear HO497; clear HO502; clear BK476; clear BK486; clear BK491; clear BK499; clear BK504; clear HB; have HO_477000 := n0_; have HO_487000 := n1_; have HO_492000 := n2_; have HO497 := n3_; have HO502 := n4_; have BK476 := n5_; have BK486 := n6_; have BK491 := n7_; have BK499 := n8_; have BK504 := n9_; have HB := n10_; clear n0_ n1_ n2_ n3_ n4_ n5_ n6_ n7_ n8_ n9_ n10_; (try clear hb); (try clear hb2); (try clear hk); (try clear hi)))
                   go_meet
                   case rel => exact ⟨_, H', ⟨by have := HJ11.out; first | omega | exact Nat.le_refl _⟩, ⟨by (with_reducible repeat (first | apply Kd.S_alloc | apply Kd.S_drewN | apply Kd.S_drew)); exact Kd.S_mono HO_477000.out (fun _ hk => ⟨hk.1.1, hk.1.2⟩)⟩, ⟨by (with_reducible repeat (first | apply Kd.S_alloc | apply Kd.S_drewN | apply Kd.S_drew)); exact Kd.S_mono HO_487000.out (fun _ hk => ⟨hk.1.1, hk.1.2⟩)⟩, ⟨by (with_reducible repeat (first | apply Kd.S_alloc | apply Kd.S_drewN | apply Kd.S_drew)); exact Kd.S_mono HO_492000.out (fun _ hk => ⟨hk.1.1, hk.1.2⟩)⟩, ⟨by (with_reducible repeat (first | refine blk_drewN ?_ _ | refine blk_drew ?_ | refine blk_alloc ?_ _)); exact BK476.out⟩, ⟨by (with_reducible repeat (first | refine blk_drewN ?_ _ | refine blk_drew ?_ | refine blk_alloc ?_ _)); exact BK486.out⟩, ⟨by (with_reducible repeat (first | refine blk_drewN ?_ _ | refine blk_drew ?_ | refine blk_alloc ?_ _)); exact BK491.out⟩, ⟨kB HB⟩⟩
                  ·
                   replace c53 := Bool.eq_false_iff.mpr c53
                   subst c53
                   have H1 : (some false) = some r := by rw [if_neg (show ¬ (false = true) by decide)] at H; exact H
                   exact absurd (H1.trans (congrArg some hrT)) (by simp)
                 ·
                  replace c51 := Bool.eq_false_iff.mpr c51
                  subst c51
                  have H1 : (some false) = some r := by rw [if_neg (show ¬ (false = true) by decide)] at H; exact H
                  exact absurd (H1.trans (congrArg some hrT)) (by simp)
                ·
                 replace c50 := Bool.eq_false_iff.mpr c50
                 subst c50
                 have H1 : (some false) = some r := by rw [if_neg (show ¬ (false = true) by decide)] at H; exact H
                 exact absurd (H1.trans (congrArg some hrT)) (by simp)
               ·
                replace c49 := Bool.eq_false_iff.mpr c49
                subst c49
                have H1 : (some false) = some r := by rw [if_neg (show ¬ (false = true) by decide)] at H; exact H
                exact absurd (H1.trans (congrArg some hrT)) (by simp)
              ·
               replace c48 := Bool.eq_false_iff.mpr c48
               subst c48
               have H1 : (some false) = some r := by rw [if_neg (show ¬ (false = true) by decide)] at H; exact H
               exact absurd (H1.trans (congrArg some hrT)) (by simp)
            ·
             replace c44 := Bool.eq_false_iff.mpr c44
             subst c44
             have H1 : (laws_FnSwapsKeepTheForm.j1 kj11 l1 t481 false t473 t482) = some r := by rw [if_neg (show ¬ (false = true) by decide)] at H; exact H
             clear H
             have H := H1
             clear H1
             have H' := Aside0.mk H
             clear H
             go_wp2
             go_meet
             case rel => exact ⟨_, H', ⟨by have := HJ11.out; first | omega | exact Nat.le_refl _⟩, ⟨by (with_reducible repeat (first | apply Kd.S_alloc | apply Kd.S_drewN | apply Kd.S_drew)); exact HO_477000.out⟩, ⟨by (with_reducible repeat (first | apply Kd.S_alloc | apply Kd.S_drewN | apply Kd.S_drew)); exact HO_487000.out⟩, ⟨by (with_reducible repeat (first | apply Kd.S_alloc | apply Kd.S_drewN | apply Kd.S_drew)); exact HO_492000.out⟩, ⟨by (with_reducible repeat (first | refine blk_drewN ?_ _ | refine blk_drew ?_ | refine blk_alloc ?_ _)); exact BK476.out⟩, ⟨by (with_reducible repeat (first | refine blk_drewN ?_ _ | refine blk_drew ?_ | refine blk_alloc ?_ _)); exact BK486.out⟩, ⟨by (with_reducible repeat (first | refine blk_drewN ?_ _ | refine blk_drew ?_ | refine blk_alloc ?_ _)); exact BK491.out⟩, ⟨kB HB⟩⟩
          case rest =>
           as_aux_lemma =>
            clear HC43; (try clear c1); (try clear c2); (try clear p2); (try clear c3); (try clear c4); (try clear c5); (try clear c6); (try clear c7); (try clear c8); (try clear c9); (try clear c10); (try clear c11); (try clear c12); (try clear c13); (try clear c14); (try clear c15); (try clear c16); (try clear c17); (try clear c18); (try clear c26); (try clear c31); (try clear c32); (try clear c34); (try clear c34b0); (try clear c34b1); (try clear c34b2); (try clear c36); (try clear c37); (try clear c39); (try clear c42); (try clear c44); (try clear c48); (try clear c49); (try clear c50); (try clear c51); (try clear c53); (try clear c54); (try clear c55); (try clear c57); (try clear c64); (try clear c65); (try clear c66); (try clear c71); (try clear c72); (try clear c73); (try clear c74); (try clear c78); (try clear c79); (try clear c81); (try clear c88); (try clear c89); (try clear c90); (try clear c95); (try clear c96); (try clear c97); (try clear c98); (try clear c102); (try clear c103); (try clear c105); (try clear c112); (try clear c113); (try clear c114); (try clear c119); (try clear c120); (try clear c121); (try clear c122); (try clear c124); (try clear c125); (try clear c127); (try clear c134); (try clear c135); (try clear c136); (try clear c141); (try clear c142); (try clear c143); (try clear c144); (try clear c146); (try clear c147); (try clear c149); (try clear c156); (try clear c157); (try clear c158); (try clear c163); (try clear c164); (try clear c165); (try clear c166); (try clear c168); (try clear c169); (try clear c171); (try clear c178); (try clear c179); (try clear c180); (try clear c185); (try clear c186); (try clear c187); (try clear c188); (try clear hcz100_0); (try clear hcz104_0); (try clear hcz106_0); (try clear hcz108_0); (try clear hcz115_0); (try clear hcz123_0); (try clear hcz126_0); (try clear hcz128_0); (try clear hcz130_0); (try clear hcz137_0); (try clear hcz145_0); (try clear hcz148_0); (try clear hcz150_0); (try clear hcz152_0); (try clear hcz159_0); (try clear hcz167_0); (try clear hcz16_0); (try clear hcz170_0); (try clear hcz172_0); (try clear hcz174_0); (try clear hcz181_0); (try clear hcz189_0); (try clear hcz27_0); (try clear hcz33_0); (try clear hcz38_0); (try clear hcz40_0); (try clear hcz56_0); (try clear hcz58_0); (try clear hcz60_0); (try clear hcz67_0); (try clear hcz75_0); (try clear hcz76_0); (try clear hcz80_0); (try clear hcz82_0); (try clear hcz84_0); (try clear hcz91_0); (try clear hcz99_0); (try clear hfz100_0); (try clear hfz104_0); (try clear hfz106_0); (try clear hfz108_0); (try clear hfz115_0); (try clear hfz123_0); (try clear hfz126_0); (try clear hfz128_0); (try clear hfz130_0); (try clear hfz137_0); (try clear hfz145_0); (try clear hfz148_0); (try clear hfz150_0); (try clear hfz152_0); (try clear hfz159_0); (try clear hfz167_0); (try clear hfz16_0); (try clear hfz170_0); (try clear hfz172_0); (try clear hfz174_0); (try clear hfz181_0); (try clear hfz189_0); (try clear hfz27_0); (try clear hfz33_0); (try clear hfz38_0); (try clear hfz40_0); (try clear hfz56_0); (try clear hfz58_0); (try clear hfz60_0); (try clear hfz67_0); (try clear hfz75_0); (try clear hfz76_0); (try clear hfz80_0); (try clear hfz82_0); (try clear hfz84_0); (try clear hfz91_0); (try clear hfz99_0); (try clear p2)
            obtain ⟨kq, HA, HJ42, HO_477000, HO_487000, HO_492000, BK476, BK486, BK491, HB⟩ := hcut
            cases kq with
            | zero => exact absurd HA.out (by simp [laws_FnSwapsKeepTheForm.j1])
            | succ kj42 =>
             have H := HA.out
             clear HA
             simp only [laws_FnSwapsKeepTheForm.j1] at H
             replace H := Option.bind_eq_some_iff.mp H
             obtain ⟨⟨t506, t509⟩, A1900, H⟩ := H
             replace H : ((impl_FollowSwaps.f kj42 t506 t509).bind fun bt512 => ((spec_FollowSwaps.f kj42 t506 t509).bind fun bt516 => (if (bt512.2 != bt516.2) = true then (laws_FnSwapsKeepTheForm.j2 kj42 t481 t485 t506 bt512.1 bt512.2 true t473 t482) else ((laws_dSame.f kj42 bt512.1 bt516.1).bind fun t520 => (laws_FnSwapsKeepTheForm.j2 kj42 t481 t485 t506 bt512.1 bt512.2 (!t520) t473 t482))))) = some r := H
             have A190 := Aside0.mk A1900
             clear A1900
             replace H := Option.bind_eq_some_iff.mp H
             obtain ⟨⟨t512, t513⟩, A1910, H⟩ := H
             replace H : ((spec_FollowSwaps.f kj42 t506 t509).bind fun bt516 => (if (t513 != bt516.2) = true then (laws_FnSwapsKeepTheForm.j2 kj42 t481 t485 t506 t512 t513 true t473 t482) else ((laws_dSame.f kj42 t512 bt516.1).bind fun t520 => (laws_FnSwapsKeepTheForm.j2 kj42 t481 t485 t506 t512 t513 (!t520) t473 t482)))) = some r := H
             have A191 := Aside0.mk A1910
             clear A1910
             replace H := Option.bind_eq_some_iff.mp H
             obtain ⟨⟨t516, t517⟩, A1920, H⟩ := H
             replace H : (if (t513 != t517) = true then (laws_FnSwapsKeepTheForm.j2 kj42 t481 t485 t506 t512 t513 true t473 t482) else ((laws_dSame.f kj42 t512 t516).bind fun t520 => (laws_FnSwapsKeepTheForm.j2 kj42 t481 t485 t506 t512 t513 (!t520) t473 t482))) = some r := H
             have A192 := Aside0.mk A1920
             clear A1920
             have HC193 := Aside0.mk H
             clear H
             go_upto_region 20 with (first | ((with_reducible refine gate_callee (f := 16) rfl ?_); refine gL (some 105) rfl rfl Try.func16 (by kernel_rfl) rfl #[.slice A1 l1.length c1] rfl ?_; (with_reducible refine (spec_DrawFollowSwaps.calls kj42 _ _ l1 t506 t509 _ ?side1 ?side2 A190.out).mono ?_); (case side1 => exact cC (Kd.C_below HR1.out HB.out)); (case side2 => exact HC1.out); rintro e w194 ⟨v507, v510, rfl, ho0, ho1, hb⟩; refine ⟨_, rfl, ?_⟩; have n0_ := Aside0.mk (Kd.S_elder' (by (with_reducible repeat (first | apply Kd.S_alloc | apply Kd.S_drewN | apply Kd.S_drew)); exact HO_477000.out) (Kd.R_base ho1) hb); have n1_ := Aside0.mk (Kd.S_elder' (by (with_reducible repeat (first | apply Kd.S_alloc | apply Kd.S_drewN | apply Kd.S_drew)); exact HO_487000.out) (Kd.R_base ho1) hb); have n2_ := Aside0.mk (Kd.S_elder' (by (with_reducible repeat (first | apply Kd.S_alloc | apply Kd.S_drewN | apply Kd.S_drew)); exact HO_492000.out) (Kd.R_base ho1) hb); have n3_ := Aside0.mk (Kd.V_lower (Kd.V_mono (ok' := fun k_ => some k_ ≠ (v510 : Value).ownBlock ∧ some k_ ≠ (.slice Ao15 t473.length co15 : Value).ownBlock ∧ some k_ ≠ (.slice Ao25 t482.length co25 : Value).ownBlock ∧ some k_ ≠ (.slice Ao30 t487.length co30 : Value).ownBlock ∧ k_ ≠ gb476 ∧ k_ ≠ gb486 ∧ k_ ≠ gb491) ho0 (fun k_ hk_ => ⟨hk_.2, (Kd.fresh' (Kd.S_lt (by (with_reducible repeat (first | apply Kd.S_alloc | apply Kd.S_drewN | apply Kd.S_drew)); exact HO_477000.out)) k_ hk_.1), (Kd.fresh' (Kd.S_lt (by (with_reducible repeat (first | apply Kd.S_alloc | apply Kd.S_drewN | apply Kd.S_drew)); exact HO_487000.out)) k_ hk_.1), (Kd.fresh' (Kd.S_lt (by (with_reducible repeat (first | apply Kd.S_alloc | apply Kd.S_drewN | apply Kd.S_drew)); exact HO_492000.out)) k_ hk_.1), (Kd.freshB (g := gb476) (o := .cells #[.slice Ao15 t473.length co15] 26 (0, 0)) (bA BK476) k_ hk_.1), (Kd.freshB (g := gb486) (o := .cells #[.slice Ao25 t482.length co25] 26 (0, 0)) (bA BK486) k_ hk_.1), (Kd.freshB (g := gb491) (o := .cells #[.slice Ao30 t487.length co30] 26 (0, 0)) (bA BK491) k_ hk_.1)⟩)) (below_size (kB HB))); have n4_ := Aside0.mk (Kd.R_lower (Kd.R_mono (ok' := fun k_ => True) ho1 (fun _ hk_ => trivial)) (below_size (kB HB))); have n5_ := Aside0.mk (kK BK476 hb); have n6_ := Aside0.mk (kK BK486 hb); have n7_ := Aside0.mk (kK BK491 hb); have n8_ := Aside0.mk (below_step (kB HB) hb); clear HO_477000; clear HO_487000; clear HO_492000; clear BK476; clear BK486; clear BK491; clear HB; have HO_477000 := n0_; have HO_487000 := n1_; have HO_492000 := n2_; have HO508 := n3_; have HO511 := n4_; have BK476 := n5_; have BK486 := n6_; have BK491 := n7_; have HB := n8_; clear n0_ n1_ n2_ n3_ n4_ n5_ n6_ n7_ n8_; (try clear hb); (try clear hb2); (try clear hk); (try clear hi); (try clear ho0); (try clear ho1); obtain ⟨Ao195, co195, eo195⟩ := Kd.V_slice HO508.out; subst eo195; obtain ⟨Ao196, co196, eo196⟩ := Kd.R_slice HO511.out; subst eo196) | ((with_reducible refine gate_callee (f := 17) rfl ?_); refine gL (some 111) rfl rfl Try.func17 (by kernel_rfl) rfl #[.slice Ao195 t506.length co195, .slice Ao196 t509.length co196] rfl ?_; (with_reducible refine (impl_FollowSwaps.calls kj42 _ _ t506 _ _ t509 t512 t513 _ ?side1 ?side2 ?side3 ?side4 A191.out).mono ?_); (case side1 => repeat (first | exact (Kd.V_reads' HO508.out).2.2 | (with_reducible refine Kd.C_alloc ?_ _) | (with_reducible refine Kd.C_drewN ?_ _) | (with_reducible refine Kd.C_drew ?_))); (case side2 => exact (Kd.V_reads' HO508.out).2.1); (case side3 => exact cC (Kd.R_reads' HO511.out).2.2); (case side4 => exact (Kd.R_reads' HO511.out).2.1); rintro e w197 ⟨v514, rfl, ho0, hb⟩; refine ⟨_, rfl, ?_⟩; have n0_ := Aside0.mk (Kd.S_elder' (by (with_reducible repeat (first | apply Kd.S_alloc | apply Kd.S_drewN | apply Kd.S_drew)); exact HO_477000.out) (Kd.R_base ho0) hb); have n1_ := Aside0.mk (Kd.S_elder' (by (with_reducible repeat (first | apply Kd.S_alloc | apply Kd.S_drewN | apply Kd.S_drew)); exact HO_487000.out) (Kd.R_base ho0) hb); have n2_ := Aside0.mk (Kd.S_elder' (by (with_reducible repeat (first | apply Kd.S_alloc | apply Kd.S_drewN | apply Kd.S_drew)); exact HO_492000.out) (Kd.R_base ho0) hb); have n3_ := Aside0.mk (Kd.V_elder' (by (with_reducible repeat (first | apply Kd.V_alloc | apply Kd.V_drewN | apply Kd.V_drew)); exact HO508.out) (Kd.R_base ho0) hb); have n4_ := Aside0.mk (Kd.R_elder' (rA HO511) (Kd.R_base ho0) hb); have n5_ := Aside0.mk (Kd.R_lower (Kd.R_new' ho0 (Kd.R_lt (rA HO511))) (below_size (kB HB))); have n6_ := Aside0.mk (kK BK476 hb); have n7_ := Aside0.mk (kK BK486 hb); have n8_ := Aside0.mk (kK BK491 hb); have n9_ := Aside0.mk (below_step (kB HB) hb); clear HO_477000; clear HO_487000; clear HO_492000; clear HO508; clear HO511; clear BK476; clear BK486; clear BK491; clear HB; have HO_477000 := n0_; have HO_487000 := n1_; have HO_492000 := n2_; have HO508 := n3_; have HO511 := n4_; have HO515 := n5_; have BK476 := n6_; have BK486 := n7_; have BK491 := n8_; have HB := n9_; clear n0_ n1_ n2_ n3_ n4_ n5_ n6_ n7_ n8_ n9_; (try clear hb); (try clear hb2); (try clear hk); (try clear hi); (try clear ho0)) | ((with_reducible refine gate_callee (f := 18) rfl ?_); refine gL (some 117) rfl rfl Try.func18 (by kernel_rfl) rfl #[.slice Ao195 t506.length co195, .slice Ao196 t509.length co196] rfl ?_; (with_reducible refine (spec_FollowSwaps.calls kj42 _ _ t506 _ _ t509 t516 t517 _ ?side1 ?side2 ?side3 ?side4 A192.out).mono ?_); (case side1 => repeat (first | exact (Kd.V_reads' HO508.out).2.2 | (with_reducible refine Kd.C_alloc ?_ _) | (with_reducible refine Kd.C_drewN ?_ _) | (with_reducible refine Kd.C_drew ?_))); (case side2 => exact (Kd.V_reads' HO508.out).2.1); (case side3 => exact cC (Kd.R_reads' HO511.out).2.2); (case side4 => exact (Kd.R_reads' HO511.out).2.1); rintro e w198 ⟨v518, rfl, ho0, hb⟩; refine ⟨_, rfl, ?_⟩; have n0_ := Aside0.mk (Kd.S_elder' (by (with_reducible repeat (first | apply Kd.S_alloc | apply Kd.S_drewN | apply Kd.S_drew)); exact HO_477000.out) (Kd.R_base ho0) hb); have n1_ := Aside0.mk (Kd.S_elder' (by (with_reducible repeat (first | apply Kd.S_alloc | apply Kd.S_drewN | apply Kd.S_drew)); exact HO_487000.out) (Kd.R_base ho0) hb); have n2_ := Aside0.mk (Kd.S_elder' (by (with_reducible repeat (first | apply Kd.S_alloc | apply Kd.S_drewN | apply Kd.S_drew)); exact HO_492000.out) (Kd.R_base ho0) hb); have n3_ := Aside0.mk (Kd.V_elder' (by (with_reducible repeat (first | apply Kd.V_alloc | apply Kd.V_drewN | apply Kd.V_drew)); exact HO508.out) (Kd.R_base ho0) hb); have n4_ := Aside0.mk (Kd.R_elder' (rA HO511) (Kd.R_base ho0) hb); have n5_ := Aside0.mk (Kd.R_elder' (rA HO515) (Kd.R_base ho0) hb); have n6_ := Aside0.mk (Kd.R_lower (Kd.R_new' (Kd.R_new' ho0 (Kd.R_lt (rA HO511))) (Kd.R_lt (rA HO515))) (below_size (kB HB))); have n7_ := Aside0.mk (kK BK476 hb); have n8_ := Aside0.mk (kK BK486 hb); have n9_ := Aside0.mk (kK BK491 hb); have n10_ := Aside0.mk (below_step (kB HB) hb); clear HO_477000; clear HO_487000; clear HO_492000; clear HO508; clear HO511; clear HO515; clear BK476; clear BK486; clear BK491; clear HB; have HO_477000 := n0_; have HO_487000 := n1_; have HO_492000 := n2_; have HO508 := n3_; have HO511 := n4_; have HO515 := n5_; have HO519 := n6_; have BK476 := n7_; have BK486 := n8_; have BK491 := n9_; have HB := n10_; clear n0_ n1_ n2_ n3_ n4_ n5_ n6_ n7_ n8_ n9_ n10_; (try clear hb); (try clear hb2); (try clear hk); (try clear hi); (try clear ho0)))
             (try simp only [Act.put, List.setIfInBounds_toArray, List.set_cons_zero, List.set_cons_succ])
             go_cut [128] (fun v128 wc => ∃ (kq : Nat) (x128_192 : Bool), v128 = .bool x128_192 ∧ Aside0 (laws_FnSwapsKeepTheForm.j2 kq t481 t485 t506 t512 t513 x128_192 t473 t482 = some r) ∧ Aside0 (kq ≤ kj42) ∧ Aside0 (Kd.V (Kd.int .i64) 3 wc w.heap.size (fun k_ => some k_ ≠ (v514 : Value).ownBlock ∧ some k_ ≠ ((.slice Ao15 t473.length co15) : Value).ownBlock ∧ some k_ ≠ ((.slice Ao25 t482.length co25) : Value).ownBlock ∧ some k_ ≠ ((.slice Ao30 t487.length co30) : Value).ownBlock ∧ k_ ≠ gb476 ∧ k_ ≠ gb486 ∧ k_ ≠ gb491) (.slice Ao195 t506.length co195) t506) ∧ Aside0 (Kd.R (Kd.int .i64) 3 wc w.heap.size (fun _ => True) v514 t512) ∧ Aside0 (Kd.S (Kd.slice 3 (Kd.int .i64)) 35 wc w.heap.size (fun k_ => some k_ ≠ (v514 : Value).ownBlock ∧ some k_ ≠ ((.slice Ao25 t482.length co25) : Value).ownBlock ∧ some k_ ≠ ((.slice Ao30 t487.length co30) : Value).ownBlock) (.slice Ao15 t473.length co15) t473) ∧ Aside0 (Kd.S (Kd.slice 3 (Kd.int .i64)) 35 wc w.heap.size (fun k_ => some k_ ≠ (v514 : Value).ownBlock ∧ some k_ ≠ ((.slice Ao15 t473.length co15) : Value).ownBlock ∧ some k_ ≠ ((.slice Ao30 t487.length co30) : Value).ownBlock) (.slice Ao25 t482.length co25) t482) ∧ Aside0 (Kd.S (Kd.slice 3 (Kd.int .i64)) 35 wc w.heap.size (fun k_ => some k_ ≠ (v514 : Value).ownBlock ∧ some k_ ≠ ((.slice Ao15 t473.length co15) : Value).ownBlock ∧ some k_ ≠ ((.slice Ao25 t482.length co25) : Value).ownBlock) (.slice Ao30 t487.length co30) t487) ∧ Aside0 (wc.heap[gb476]? = some (.cells #[(.slice Ao15 t473.length co15)] 26 (0, 0))) ∧ Aside0 (wc.heap[gb486]? = some (.cells #[(.slice Ao25 t482.length co25)] 26 (0, 0))) ∧ Aside0 (wc.heap[gb491]? = some (.cells #[(.slice Ao30 t487.length co30)] 26 (0, 0))) ∧ Aside0 (Below w.heap.size w wc))
             case first =>
              as_aux_lemma =>
               have H := HC193.out
               clear HC193
               by_cases c199 : (t513 != t517) = true
               ·
                rw [if_pos c199] at H
                exact absurd (H.trans (congrArg some hrT)) (fun h_ => laws_FnSwapsKeepTheForm.j2_no h_)
               ·
                rw [if_neg c199] at H
                have c199b0 : (t513 != t517) = false := by simpa using c199
                (try (have c199b1 : decide (t513 = t517) = true := by simpa using c199))
                (try (have c199b2 : (t513 == t517) = true := by simpa using c199))
                clear c199
                (first | rw [c199b0] | (simp only [i64_w, i32_w]; rw [c199b0]) | skip)
                replace H := Option.bind_eq_some_iff.mp H
                obtain ⟨t520, A2000, H⟩ := H
                replace H : (laws_FnSwapsKeepTheForm.j2 kj42 t481 t485 t506 t512 t513 (!t520) t473 t482) = some r := H
                have A200 := Aside0.mk A2000
                clear A2000
                have H' := Aside0.mk H
                clear H
                obtain ⟨Ao201, co201, eo201⟩ := Kd.R_slice HO515.out
                subst eo201
                obtain ⟨Ao202, co202, eo202⟩ := Kd.R_slice HO519.out
                subst eo202
                go_wp2_with (first | (go_at_call 19; (with_reducible refine (laws_dSame.calls kj42 _ _ t512 _ _ t516 t520 _ ?side1 ?side2 ?side3 ?side4 A200.out).mono ?_); (case side1 => exact cC (Kd.R_reads' HO515.out).2.2); (case side2 => exact (Kd.R_reads' HO515.out).2.1); (case side3 => exact cC (Kd.R_reads' HO519.out).2.2); (case side4 => exact (Kd.R_reads' HO519.out).2.1); rintro e w' ⟨rfl, ⟨nd, rfl⟩⟩))
                go_meet
                case rel => exact ⟨_, (!t520), e2, H', ⟨by have := HJ11.out; have := HJ42.out; first | omega | exact Nat.le_refl _⟩, ⟨by (with_reducible repeat (first | apply Kd.V_alloc | apply Kd.V_drewN | apply Kd.V_drew)); exact Kd.V_mono HO508.out (fun _ hk => ⟨hk.1.2, ⟨hk.1.1.2.1, ⟨hk.1.1.2.2.1, ⟨hk.1.1.2.2.2.1, ⟨hk.1.1.2.2.2.2.1, ⟨hk.1.1.2.2.2.2.2.1, hk.1.1.2.2.2.2.2.2⟩⟩⟩⟩⟩⟩)⟩, ⟨by (with_reducible repeat (first | apply Kd.R_alloc | apply Kd.R_drewN | apply Kd.R_drew)); exact Kd.R_mono HO515.out (fun _ hk => trivial)⟩, ⟨by (with_reducible repeat (first | apply Kd.S_alloc | apply Kd.S_drewN | apply Kd.S_drew)); exact Kd.S_mono HO_477000.out (fun _ hk => ⟨hk.1.2, ⟨hk.1.1.1.1, hk.1.1.1.2⟩⟩)⟩, ⟨by (with_reducible repeat (first | apply Kd.S_alloc | apply Kd.S_drewN | apply Kd.S_drew)); exact Kd.S_mono HO_487000.out (fun _ hk => ⟨hk.1.2, ⟨hk.1.1.1.1, hk.1.1.1.2⟩⟩)⟩, ⟨by (with_reducible repeat (first | apply Kd.S_alloc | apply Kd.S_drewN | apply Kd.S_drew)); exact Kd.S_mono HO_492000.out (fun _ hk => ⟨hk.1.2, ⟨hk.1.1.1.1, hk.1.1.1.2⟩⟩)⟩, ⟨by (with_reducible repeat (first | refine blk_drewN ?_ _ | refine blk_drew ?_ | refine blk_alloc ?_ _)); exact BK476.out⟩, ⟨by (with_reducible repeat (first | refine blk_drewN ?_ _ | refine blk_drew ?_ | refine blk_alloc ?_ _)); exact BK486.out⟩, ⟨by (with_reducible repeat (first | refine blk_drewN ?_ _ | refine blk_drew ?_ | refine blk_alloc ?_ _)); exact BK491.out⟩, ⟨kB HB⟩⟩
             case rest =>
              as_aux_lemma =>
               clear HC193; (try clear c1); (try clear c2); (try clear p2); (try clear c3); (try clear c4); (try clear c5); (try clear c6); (try clear c7); (try clear c8); (try clear c9); (try clear c10); (try clear c11); (try clear c12); (try clear c13); (try clear c14); (try clear c15); (try clear c16); (try clear c17); (try clear c18); (try clear c19); (try clear c26); (try clear c31); (try clear c32); (try clear c34); (try clear c34b0); (try clear c34b1); (try clear c34b2); (try clear c36); (try clear c37); (try clear c39); (try clear c42); (try clear c44); (try clear c48); (try clear c49); (try clear c50); (try clear c51); (try clear c53); (try clear c54); (try clear c55); (try clear c57); (try clear c64); (try clear c65); (try clear c66); (try clear c71); (try clear c72); (try clear c73); (try clear c74); (try clear c78); (try clear c79); (try clear c81); (try clear c88); (try clear c89); (try clear c90); (try clear c95); (try clear c96); (try clear c97); (try clear c98); (try clear c102); (try clear c103); (try clear c105); (try clear c112); (try clear c113); (try clear c114); (try clear c119); (try clear c120); (try clear c121); (try clear c122); (try clear c124); (try clear c125); (try clear c127); (try clear c134); (try clear c135); (try clear c136); (try clear c141); (try clear c142); (try clear c143); (try clear c144); (try clear c146); (try clear c147); (try clear c149); (try clear c156); (try clear c157); (try clear c158); (try clear c163); (try clear c164); (try clear c165); (try clear c166); (try clear c168); (try clear c169); (try clear c171); (try clear c178); (try clear c179); (try clear c180); (try clear c185); (try clear c186); (try clear c187); (try clear c188); (try clear c199); (try clear c199b0); (try clear c199b1); (try clear c199b2); (try clear hcz100_0); (try clear hcz104_0); (try clear hcz106_0); (try clear hcz108_0); (try clear hcz115_0); (try clear hcz123_0); (try clear hcz126_0); (try clear hcz128_0); (try clear hcz130_0); (try clear hcz137_0); (try clear hcz145_0); (try clear hcz148_0); (try clear hcz150_0); (try clear hcz152_0); (try clear hcz159_0); (try clear hcz167_0); (try clear hcz16_0); (try clear hcz170_0); (try clear hcz172_0); (try clear hcz174_0); (try clear hcz181_0); (try clear hcz189_0); (try clear hcz27_0); (try clear hcz33_0); (try clear hcz38_0); (try clear hcz40_0); (try clear hcz56_0); (try clear hcz58_0); (try clear hcz60_0); (try clear hcz67_0); (try clear hcz75_0); (try clear hcz76_0); (try clear hcz80_0); (try clear hcz82_0); (try clear hcz84_0); (try clear hcz91_0); (try clear hcz99_0); (try clear hfz100_0); (try clear hfz104_0); (try clear hfz106_0); (try clear hfz108_0); (try clear hfz115_0); (try clear hfz123_0); (try clear hfz126_0); (try clear hfz128_0); (try clear hfz130_0); (try clear hfz137_0); (try clear hfz145_0); (try clear hfz148_0); (try clear hfz150_0); (try clear hfz152_0); (try clear hfz159_0); (try clear hfz167_0); (try clear hfz16_0); (try clear hfz170_0); (try clear hfz172_0); (try clear hfz174_0); (try clear hfz181_0); (try clear hfz189_0); (try clear hfz27_0); (try clear hfz33_0); (try clear hfz38_0); (try clear hfz40_0); (try clear hfz56_0); (try clear hfz58_0); (try clear hfz60_0); (try clear hfz67_0); (try clear hfz75_0); (try clear hfz76_0); (try clear hfz80_0); (try clear hfz82_0); (try clear hfz84_0); (try clear hfz91_0); (try clear hfz99_0); (try clear p2)
               obtain ⟨kq, x128_192, rfl, HA, HJ192, HO_17, HO_19, HO_477000, HO_487000, HO_492000, BK476, BK486, BK491, HB⟩ := hcut
               cases kq with
               | zero => exact absurd HA.out (by simp [laws_FnSwapsKeepTheForm.j2])
               | succ kj192 =>
                have H := HA.out
                clear HA
                simp only [laws_FnSwapsKeepTheForm.j2] at H
                by_cases c203 : x128_192 = true
                ·
                 subst c203
                 have H1 : (some false) = some r := by rw [if_pos rfl] at H; exact H
                 exact absurd (H1.trans (congrArg some hrT)) (by simp)
                ·
                 as_aux_lemma =>
                  replace c203 := Bool.eq_false_iff.mpr c203
                  subst c203
                  have H1 : ((impl_IsQuad.f kj192 t506).bind fun t521 => (if t521 = true then ((impl_FormAt.f kj192 t473 t506).bind fun bt522 => ((impl_ScaleOf.f kj192 t506).bind fun bt524 => ((impl_DivisorOf.f kj192 t506).bind fun bt526 => (if bt522.2 = true then (if bt522.1 = 0 then (if bt524.2 = true then (if bt526.2 = true then (laws_FnSwapsKeepTheForm.j3 kj192 t481 t485 t506 t512 t513 (bt524.1 != bt526.1) t482) else (laws_FnSwapsKeepTheForm.j3 kj192 t481 t485 t506 t512 t513 true t482)) else (laws_FnSwapsKeepTheForm.j3 kj192 t481 t485 t506 t512 t513 true t482)) else (laws_FnSwapsKeepTheForm.j3 kj192 t481 t485 t506 t512 t513 true t482)) else (laws_FnSwapsKeepTheForm.j3 kj192 t481 t485 t506 t512 t513 true t482))))) else (laws_FnSwapsKeepTheForm.j4 kj192 t506 t512 t513))) = some r := by rw [if_neg (show ¬ (false = true) by decide)] at H; exact H
                  clear H
                  have H := H1
                  clear H1
                  replace H := Option.bind_eq_some_iff.mp H
                  obtain ⟨t521, A2040, H⟩ := H
                  replace H : (if t521 = true then ((impl_FormAt.f kj192 t473 t506).bind fun bt522 => ((impl_ScaleOf.f kj192 t506).bind fun bt524 => ((impl_DivisorOf.f kj192 t506).bind fun bt526 => (if bt522.2 = true then (if bt522.1 = 0 then (if bt524.2 = true then (if bt526.2 = true then (laws_FnSwapsKeepTheForm.j3 kj192 t481 t485 t506 t512 t513 (bt524.1 != bt526.1) t482) else (laws_FnSwapsKeepTheForm.j3 kj192 t481 t485 t506 t512 t513 true t482)) else (laws_FnSwapsKeepTheForm.j3 kj192 t481 t485 t506 t512 t513 true t482)) else (laws_FnSwapsKeepTheForm.j3 kj192 t481 t485 t506 t512 t513 true t482)) else (laws_FnSwapsKeepTheForm.j3 kj192 t481 t485 t506 t512 t513 true t482))))) else (laws_FnSwapsKeepTheForm.j4 kj192 t506 t512 t513)) = some r := H
                  have A204 := Aside0.mk A2040
                  clear A2040
                  have HC205 := Aside0.mk H
                  clear H
                  go_upto_if 130 with (first | ((with_reducible refine gate_callee (f := 20) rfl ?_); refine gL (some 130) rfl rfl Try.func20 (by kernel_rfl) rfl #[.slice Ao195 t506.length co195] rfl ?_; (with_reducible refine (impl_IsQuad.calls kj192 _ _ t506 t521 _ ?side1 ?side2 A204.out).mono ?_); (case side1 => repeat (first | exact (Kd.V_reads' HO_17.out).2.2 | (with_reducible refine Kd.C_alloc ?_ _) | (with_reducible refine Kd.C_drewN ?_ _) | (with_reducible refine Kd.C_drew ?_))); (case side2 => exact (Kd.V_reads' HO_17.out).2.1); rintro e w206 ⟨rfl, hb⟩; refine ⟨_, rfl, ?_⟩; have n0_ := Aside0.mk (Kd.V_below (by (with_reducible repeat (first | apply Kd.V_alloc | apply Kd.V_drewN | apply Kd.V_drew)); exact HO_17.out) hb); have n1_ := Aside0.mk (Kd.R_below (rA HO_19) hb); have n2_ := Aside0.mk (Kd.S_below (by (with_reducible repeat (first | apply Kd.S_alloc | apply Kd.S_drewN | apply Kd.S_drew)); exact HO_477000.out) hb); have n3_ := Aside0.mk (Kd.S_below (by (with_reducible repeat (first | apply Kd.S_alloc | apply Kd.S_drewN | apply Kd.S_drew)); exact HO_487000.out) hb); have n4_ := Aside0.mk (Kd.S_below (by (with_reducible repeat (first | apply Kd.S_alloc | apply Kd.S_drewN | apply Kd.S_drew)); exact HO_492000.out) hb); have n5_ := Aside0.mk (kK BK476 hb); have n6_ := Aside0.mk (kK BK486 hb); have n7_ := Aside0.mk (kK BK491 hb); have n8_ := Aside0.mk (below_step (kB HB) hb); clear HO_17; clear HO_19; clear HO_477000; clear HO_487000; clear HO_492000; clear BK476; clear BK486; clear BK491; clear HB; have HO_17 := n0_; have HO_19 := n1_; have HO_477000 := n2_; have HO_487000 := n3_; have HO_492000 := n4_; have BK476 := n5_; have BK486 := n6_; have BK491 := n7_; have HB := n8_; clear n0_ n1_ n2_ n3_ n4_ n5_ n6_ n7_ n8_; (try clear hb); (try clear hb2); (try clear hk); (try clear hi)))
                  (try simp only [Act.put, List.setIfInBounds_toArray, List.set_cons_zero, List.set_cons_succ])
                  go_cut [] (fun wc => ∃ (kq : Nat), Aside0 (laws_FnSwapsKeepTheForm.j4 kq t506 t512 t513 = some r) ∧ Aside0 (kq ≤ kj192) ∧ Aside0 (Kd.V (Kd.int .i64) 3 wc w.heap.size (fun k_ => some k_ ≠ (v514 : Value).ownBlock ∧ some k_ ≠ ((.slice Ao15 t473.length co15) : Value).ownBlock ∧ some k_ ≠ ((.slice Ao25 t482.length co25) : Value).ownBlock ∧ some k_ ≠ ((.slice Ao30 t487.length co30) : Value).ownBlock ∧ k_ ≠ gb476 ∧ k_ ≠ gb486 ∧ k_ ≠ gb491) (.slice Ao195 t506.length co195) t506) ∧ Aside0 (Kd.R (Kd.int .i64) 3 wc w.heap.size (fun _ => True) v514 t512) ∧ Aside0 (Kd.S (Kd.slice 3 (Kd.int .i64)) 35 wc w.heap.size (fun k_ => some k_ ≠ (v514 : Value).ownBlock ∧ some k_ ≠ ((.slice Ao25 t482.length co25) : Value).ownBlock ∧ some k_ ≠ ((.slice Ao30 t487.length co30) : Value).ownBlock) (.slice Ao15 t473.length co15) t473) ∧ Aside0 (Kd.S (Kd.slice 3 (Kd.int .i64)) 35 wc w.heap.size (fun k_ => some k_ ≠ (v514 : Value).ownBlock ∧ some k_ ≠ ((.slice Ao15 t473.length co15) : Value).ownBlock ∧ some k_ ≠ ((.slice Ao30 t487.length co30) : Value).ownBlock) (.slice Ao25 t482.length co25) t482) ∧ Aside0 (Kd.S (Kd.slice 3 (Kd.int .i64)) 35 wc w.heap.size (fun k_ => some k_ ≠ (v514 : Value).ownBlock ∧ some k_ ≠ ((.slice Ao15 t473.length co15) : Value).ownBlock ∧ some k_ ≠ ((.slice Ao25 t482.length co25) : Value).ownBlock) (.slice Ao30 t487.length co30) t487) ∧ Aside0 (wc.heap[gb476]? = some (.cells #[(.slice Ao15 t473.length co15)] 26 (0, 0))) ∧ Aside0 (wc.heap[gb486]? = some (.cells #[(.slice Ao25 t482.length co25)] 26 (0, 0))) ∧ Aside0 (wc.heap[gb491]? = some (.cells #[(.slice Ao30 t487.length co30)] 26 (0, 0))) ∧ Aside0 (Below w.heap.size w wc))
                  case first =>
                   as_aux_lemma =>
                    have H := HC205.out
                    clear HC205
                    by_cases c207 : t521 = true
                    ·
                     as_aux_lemma =>
                      subst c207
                      have H1 : ((impl_FormAt.f kj192 t473 t506).bind fun bt522 => ((impl_ScaleOf.f kj192 t506).bind fun bt524 => ((impl_DivisorOf.f kj192 t506).bind fun bt526 => (if bt522.2 = true then (if bt522.1 = 0 then (if bt524.2 = true then (if bt526.2 = true then (laws_FnSwapsKeepTheForm.j3 kj192 t481 t485 t506 t512 t513 (bt524.1 != bt526.1) t482) else (laws_FnSwapsKeepTheForm.j3 kj192 t481 t485 t506 t512 t513 true t482)) else (laws_FnSwapsKeepTheForm.j3 kj192 t481 t485 t506 t512 t513 true t482)) else (laws_FnSwapsKeepTheForm.j3 kj192 t481 t485 t506 t512 t513 true t482)) else (laws_FnSwapsKeepTheForm.j3 kj192 t481 t485 t506 t512 t513 true t482))))) = some r := by rw [if_pos rfl] at H; exact H
                      clear H
                      have H := H1
                      clear H1
                      replace H := Option.bind_eq_some_iff.mp H
                      obtain ⟨⟨t522, t523⟩, A2080, H⟩ := H
                      replace H : ((impl_ScaleOf.f kj192 t506).bind fun bt524 => ((impl_DivisorOf.f kj192 t506).bind fun bt526 => (if t523 = true then (if t522 = 0 then (if bt524.2 = true then (if bt526.2 = true then (laws_FnSwapsKeepTheForm.j3 kj192 t481 t485 t506 t512 t513 (bt524.1 != bt526.1) t482) else (laws_FnSwapsKeepTheForm.j3 kj192 t481 t485 t506 t512 t513 true t482)) else (laws_FnSwapsKeepTheForm.j3 kj192 t481 t485 t506 t512 t513 true t482)) else (laws_FnSwapsKeepTheForm.j3 kj192 t481 t485 t506 t512 t513 true t482)) else (laws_FnSwapsKeepTheForm.j3 kj192 t481 t485 t506 t512 t513 true t482)))) = some r := H
                      have A208 := Aside0.mk A2080
                      clear A2080
                      replace H := Option.bind_eq_some_iff.mp H
                      obtain ⟨⟨t524, t525⟩, A2090, H⟩ := H
                      replace H : ((impl_DivisorOf.f kj192 t506).bind fun bt526 => (if t523 = true then (if t522 = 0 then (if t525 = true then (if bt526.2 = true then (laws_FnSwapsKeepTheForm.j3 kj192 t481 t485 t506 t512 t513 (t524 != bt526.1) t482) else (laws_FnSwapsKeepTheForm.j3 kj192 t481 t485 t506 t512 t513 true t482)) else (laws_FnSwapsKeepTheForm.j3 kj192 t481 t485 t506 t512 t513 true t482)) else (laws_FnSwapsKeepTheForm.j3 kj192 t481 t485 t506 t512 t513 true t482)) else (laws_FnSwapsKeepTheForm.j3 kj192 t481 t485 t506 t512 t513 true t482))) = some r := H
                      have A209 := Aside0.mk A2090
                      clear A2090
                      replace H := Option.bind_eq_some_iff.mp H
                      obtain ⟨⟨t526, t527⟩, A2100, H⟩ := H
                      replace H : (if t523 = true then (if t522 = 0 then (if t525 = true then (if t527 = true then (laws_FnSwapsKeepTheForm.j3 kj192 t481 t485 t506 t512 t513 (t524 != t526) t482) else (laws_FnSwapsKeepTheForm.j3 kj192 t481 t485 t506 t512 t513 true t482)) else (laws_FnSwapsKeepTheForm.j3 kj192 t481 t485 t506 t512 t513 true t482)) else (laws_FnSwapsKeepTheForm.j3 kj192 t481 t485 t506 t512 t513 true t482)) else (laws_FnSwapsKeepTheForm.j3 kj192 t481 t485 t506 t512 t513 true t482)) = some r := H
                      have A210 := Aside0.mk A2100
                      clear A2100
                      have HC211 := Aside0.mk H
                      clear H
                      have hnb212 := NB476_486.out
                      have hnc212 := NB486_476.out
                      have hnb213 := NB476_491.out
                      have hnc213 := NB491_476.out
                      have hcz214_0 : w206.cell? ⟨gb476, 0, none⟩ = some (.slice Ao15 t473.length co15) := (blk_cell BK476.out 0).trans rfl
                      have hfz214_0 := blk_frozen BK476.out 0
                      go_upto_region 26 with (first | ((with_reducible refine gate_callee (f := 21) rfl ?_); refine gL (some 134) rfl rfl Try.func21 (by kernel_rfl) rfl #[.agg #[.slice Ao15 t473.length co15], .slice Ao195 t506.length co195] rfl ?_; (with_reducible refine (impl_FormAt.calls kj192 _ _ t473 _ _ t506 t522 t523 _ ?side1 ?side2 ?side3 ?side4 A208.out).mono ?_); (case side1 => exact cC (Kd.S_reads' HO_477000.out).2.2); (case side2 => exact (Kd.S_reads' HO_477000.out).2.1); (case side3 => repeat (first | exact (Kd.V_reads' HO_17.out).2.2 | (with_reducible refine Kd.C_alloc ?_ _) | (with_reducible refine Kd.C_drewN ?_ _) | (with_reducible refine Kd.C_drew ?_))); (case side4 => exact (Kd.V_reads' HO_17.out).2.1); rintro e w215 ⟨rfl, hb⟩; refine ⟨_, rfl, ?_⟩; have n0_ := Aside0.mk (Kd.V_below (by (with_reducible repeat (first | apply Kd.V_alloc | apply Kd.V_drewN | apply Kd.V_drew)); exact HO_17.out) hb); have n1_ := Aside0.mk (Kd.R_below (rA HO_19) hb); have n2_ := Aside0.mk (Kd.S_below (by (with_reducible repeat (first | apply Kd.S_alloc | apply Kd.S_drewN | apply Kd.S_drew)); exact HO_477000.out) hb); have n3_ := Aside0.mk (Kd.S_below (by (with_reducible repeat (first | apply Kd.S_alloc | apply Kd.S_drewN | apply Kd.S_drew)); exact HO_487000.out) hb); have n4_ := Aside0.mk (Kd.S_below (by (with_reducible repeat (first | apply Kd.S_alloc | apply Kd.S_drewN | apply Kd.S_drew)); exact HO_492000.out) hb); have n5_ := Aside0.mk (kK BK476 hb); have n6_ := Aside0.mk (kK BK486 hb); have n7_ := Aside0.mk (kK BK491 hb); have n8_ := Aside0.mk (below_step (kB HB) hb); clear HO_17; clear HO_19; clear HO_477000; clear HO_487000; clear HO_492000; clear BK476; clear BK486; clear BK491; clear HB; have HO_17 := n0_; have HO_19 := n1_; have HO_477000 := n2_; have HO_487000 := n3_; have HO_492000 := n4_; have BK476 := n5_; have BK486 := n6_; have BK491 := n7_; have HB := n8_; clear n0_ n1_ n2_ n3_ n4_ n5_ n6_ n7_ n8_; (try clear hb); (try clear hb2); (try clear hk); (try clear hi)) | ((with_reducible refine gate_callee (f := 22) rfl ?_); refine gL (some 139) rfl rfl Try.func22 (by kernel_rfl) rfl #[.slice Ao195 t506.length co195] rfl ?_; (with_reducible refine (impl_ScaleOf.calls kj192 _ _ t506 t524 t525 _ ?side1 ?side2 A209.out).mono ?_); (case side1 => repeat (first | exact (Kd.V_reads' HO_17.out).2.2 | (with_reducible refine Kd.C_alloc ?_ _) | (with_reducible refine Kd.C_drewN ?_ _) | (with_reducible refine Kd.C_drew ?_))); (case side2 => exact (Kd.V_reads' HO_17.out).2.1); rintro e w216 ⟨rfl, hb⟩; refine ⟨_, rfl, ?_⟩; have n0_ := Aside0.mk (Kd.V_below (by (with_reducible repeat (first | apply Kd.V_alloc | apply Kd.V_drewN | apply Kd.V_drew)); exact HO_17.out) hb); have n1_ := Aside0.mk (Kd.R_below (rA HO_19) hb); have n2_ := Aside0.mk (Kd.S_below (by (with_reducible repeat (first | apply Kd.S_alloc | apply Kd.S_drewN | apply Kd.S_drew)); exact HO_477000.out) hb); have n3_ := Aside0.mk (Kd.S_below (by (with_reducible repeat (first | apply Kd.S_alloc | apply Kd.S_drewN | apply Kd.S_drew)); exact HO_487000.out) hb); have n4_ := Aside0.mk (Kd.S_below (by (with_reducible repeat (first | apply Kd.S_alloc | apply Kd.S_drewN | apply Kd.S_drew)); exact HO_492000.out) hb); have n5_ := Aside0.mk (kK BK476 hb); have n6_ := Aside0.mk (kK BK486 hb); have n7_ := Aside0.mk (kK BK491 hb); have n8_ := Aside0.mk (below_step (kB HB) hb); clear HO_17; clear HO_19; clear HO_477000; clear HO_487000; clear HO_492000; clear BK476; clear BK486; clear BK491; clear HB; have HO_17 := n0_; have HO_19 := n1_; have HO_477000 := n2_; have HO_487000 := n3_; have HO_492000 := n4_; have BK476 := n5_; have BK486 := n6_; have BK491 := n7_; have HB := n8_; clear n0_ n1_ n2_ n3_ n4_ n5_ n6_ n7_ n8_; (try clear hb); (try clear hb2); (try clear hk); (try clear hi)) | ((with_reducible refine gate_callee (f := 23) rfl ?_); refine gL (some 144) rfl rfl Try.func23 (by kernel_rfl) rfl #[.slice Ao195 t506.length co195] rfl ?_; (with_reducible refine (impl_DivisorOf.calls kj192 _ _ t506 t526 t527 _ ?side1 ?side2 A210.out).mono ?_); (case side1 => repeat (first | exact (Kd.V_reads' HO_17.out).2.2 | (with_reducible refine Kd.C_alloc ?_ _) | (with_reducible refine Kd.C_drewN ?_ _) | (with_reducible refine Kd.C_drew ?_))); (case side2 => exact (Kd.V_reads' HO_17.out).2.1); rintro e w217 ⟨rfl, hb⟩; refine ⟨_, rfl, ?_⟩; have n0_ := Aside0.mk (Kd.V_below (by (with_reducible repeat (first | apply Kd.V_alloc | apply Kd.V_drewN | apply Kd.V_drew)); exact HO_17.out) hb); have n1_ := Aside0.mk (Kd.R_below (rA HO_19) hb); have n2_ := Aside0.mk (Kd.S_below (by (with_reducible repeat (first | apply Kd.S_alloc | apply Kd.S_drewN | apply Kd.S_drew)); exact HO_477000.out) hb); have n3_ := Aside0.mk (Kd.S_below (by (with_reducible repeat (first | apply Kd.S_alloc | apply Kd.S_drewN | apply Kd.S_drew)); exact HO_487000.out) hb); have n4_ := Aside0.mk (Kd.S_below (by (with_reducible repeat (first | apply Kd.S_alloc | apply Kd.S_drewN | apply Kd.S_drew)); exact HO_492000.out) hb); have n5_ := Aside0.mk (kK BK476 hb); have n6_ := Aside0.mk (kK BK486 hb); have n7_ := Aside0.mk (kK BK491 hb); have n8_ := Aside0.mk (below_step (kB HB) hb); clear HO_17; clear HO_19; clear HO_477000; clear HO_487000; clear HO_492000; clear BK476; clear BK486; clear BK491; clear HB; have HO_17 := n0_; have HO_19 := n1_; have HO_477000 := n2_; have HO_487000 := n3_; have HO_492000 := n4_; have BK476 := n5_; have BK486 := n6_; have BK491 := n7_; have HB := n8_; clear n0_ n1_ n2_ n3_ n4_ n5_ n6_ n7_ n8_; (try clear hb); (try clear hb2); (try clear hk); (try clear hi)))
                      (try simp only [Act.put, List.setIfInBounds_toArray, List.set_cons_zero, List.set_cons_succ])
                      go_cut [165] (fun v165 wc => ∃ (kq : Nat) (x165_210 : Bool), v165 = .bool x165_210 ∧ Aside0 (laws_FnSwapsKeepTheForm.j3 kq t481 t485 t506 t512 t513 x165_210 t482 = some r) ∧ Aside0 (kq ≤ kj192) ∧ Aside0 (Kd.V (Kd.int .i64) 3 wc w.heap.size (fun k_ => some k_ ≠ (v514 : Value).ownBlock ∧ some k_ ≠ ((.slice Ao15 t473.length co15) : Value).ownBlock ∧ some k_ ≠ ((.slice Ao25 t482.length co25) : Value).ownBlock ∧ some k_ ≠ ((.slice Ao30 t487.length co30) : Value).ownBlock ∧ k_ ≠ gb476 ∧ k_ ≠ gb486 ∧ k_ ≠ gb491) (.slice Ao195 t506.length co195) t506) ∧ Aside0 (Kd.R (Kd.int .i64) 3 wc w.heap.size (fun _ => True) v514 t512) ∧ Aside0 (Kd.S (Kd.slice 3 (Kd.int .i64)) 35 wc w.heap.size (fun k_ => some k_ ≠ (v514 : Value).ownBlock ∧ some k_ ≠ ((.slice Ao25 t482.length co25) : Value).ownBlock ∧ some k_ ≠ ((.slice Ao30 t487.length co30) : Value).ownBlock) (.slice Ao15 t473.length co15) t473) ∧ Aside0 (Kd.S (Kd.slice 3 (Kd.int .i64)) 35 wc w.heap.size (fun k_ => some k_ ≠ (v514 : Value).ownBlock ∧ some k_ ≠ ((.slice Ao15 t473.length co15) : Value).ownBlock ∧ some k_ ≠ ((.slice Ao30 t487.length co30) : Value).ownBlock) (.slice Ao25 t482.length co25) t482) ∧ Aside0 (Kd.S (Kd.slice 3 (Kd.int .i64)) 35 wc w.heap.size (fun k_ => some k_ ≠ (v514 : Value).ownBlock ∧ some k_ ≠ ((.slice Ao15 t473.length co15) : Value).ownBlock ∧ some k_ ≠ ((.slice Ao25 t482.length co25) : Value).ownBlock) (.slice Ao30 t487.length co30) t487) ∧ Aside0 (wc.heap[gb476]? = some (.cells #[(.slice Ao15 t473.length co15)] 26 (0, 0))) ∧ Aside0 (wc.heap[gb486]? = some (.cells #[(.slice Ao25 t482.length co25)] 26 (0, 0))) ∧ Aside0 (wc.heap[gb491]? = some (.cells #[(.slice Ao30 t487.length co30)] 26 (0, 0))) ∧ Aside0 (Below w.heap.size w wc))
                      case first =>
                       as_aux_lemma =>
                        have H := HC211.out
                        clear HC211
                        by_cases c218 : t523 = true
                        ·
                         subst c218
                         have H1 : (if t522 = 0 then (if t525 = true then (if t527 = true then (laws_FnSwapsKeepTheForm.j3 kj192 t481 t485 t506 t512 t513 (t524 != t526) t482) else (laws_FnSwapsKeepTheForm.j3 kj192 t481 t485 t506 t512 t513 true t482)) else (laws_FnSwapsKeepTheForm.j3 kj192 t481 t485 t506 t512 t513 true t482)) else (laws_FnSwapsKeepTheForm.j3 kj192 t481 t485 t506 t512 t513 true t482)) = some r := by rw [if_pos rfl] at H; exact H
                         clear H
                         have H := H1
                         clear H1
                         by_cases c219 : t522 = 0
                         ·
                          rw [if_pos c219] at H
                          have c219b0 : (t522 == 0) = true := beq_iff_eq.mpr c219
                          have c219b1 : (t522 != 0) = false := bne_eq_false_iff_eq.mpr c219
                          clear c219
                          (first | rw [c219b0] | (simp only [i64_w, i32_w]; rw [c219b0]) | skip)
                          by_cases c220 : t525 = true
                          ·
                           subst c220
                           have H1 : (if t527 = true then (laws_FnSwapsKeepTheForm.j3 kj192 t481 t485 t506 t512 t513 (t524 != t526) t482) else (laws_FnSwapsKeepTheForm.j3 kj192 t481 t485 t506 t512 t513 true t482)) = some r := by rw [if_pos rfl] at H; exact H
                           clear H
                           have H := H1
                           clear H1
                           by_cases c221 : t527 = true
                           ·
                            subst c221
                            have H1 : (laws_FnSwapsKeepTheForm.j3 kj192 t481 t485 t506 t512 t513 (t524 != t526) t482) = some r := by rw [if_pos rfl] at H; exact H
                            clear H
                            have H := H1
                            clear H1
                            have H' := Aside0.mk H
                            clear H
                            go_wp2
                            go_meet
                            case rel => exact ⟨_, ((t524 != t526)), e2, H', ⟨by have := HJ11.out; have := HJ42.out; have := HJ192.out; first | omega | exact Nat.le_refl _⟩, ⟨by (with_reducible repeat (first | apply Kd.V_alloc | apply Kd.V_drewN | apply Kd.V_drew)); exact HO_17.out⟩, ⟨by (with_reducible repeat (first | apply Kd.R_alloc | apply Kd.R_drewN | apply Kd.R_drew)); exact HO_19.out⟩, ⟨by (with_reducible repeat (first | apply Kd.S_alloc | apply Kd.S_drewN | apply Kd.S_drew)); exact HO_477000.out⟩, ⟨by (with_reducible repeat (first | apply Kd.S_alloc | apply Kd.S_drewN | apply Kd.S_drew)); exact HO_487000.out⟩, ⟨by (with_reducible repeat (first | apply Kd.S_alloc | apply Kd.S_drewN | apply Kd.S_drew)); exact HO_492000.out⟩, ⟨by (with_reducible repeat (first | refine blk_drewN ?_ _ | refine blk_drew ?_ | refine blk_alloc ?_ _)); exact BK476.out⟩, ⟨by (with_reducible repeat (first | refine blk_drewN ?_ _ | refine blk_drew ?_ | refine blk_alloc ?_ _)); exact BK486.out⟩, ⟨by (with_reducible repeat (first | refine blk_drewN ?_ _ | refine blk_drew ?_ | refine blk_alloc ?_ _)); exact BK491.out⟩, ⟨kB HB⟩⟩
                           ·
                            replace c221 := Bool.eq_false_iff.mpr c221
                            subst c221
                            have H1 : (laws_FnSwapsKeepTheForm.j3 kj192 t481 t485 t506 t512 t513 true t482) = some r := by rw [if_neg (show ¬ (false = true) by decide)] at H; exact H
                            exact absurd (H1.trans (congrArg some hrT)) (fun h_ => laws_FnSwapsKeepTheForm.j3_no h_)
                          ·
                           replace c220 := Bool.eq_false_iff.mpr c220
                           subst c220
                           have H1 : (laws_FnSwapsKeepTheForm.j3 kj192 t481 t485 t506 t512 t513 true t482) = some r := by rw [if_neg (show ¬ (false = true) by decide)] at H; exact H
                           exact absurd (H1.trans (congrArg some hrT)) (fun h_ => laws_FnSwapsKeepTheForm.j3_no h_)
                         ·
                          rw [if_neg c219] at H
                          exact absurd (H.trans (congrArg some hrT)) (fun h_ => laws_FnSwapsKeepTheForm.j3_no h_)
                        ·
                         replace c218 := Bool.eq_false_iff.mpr c218
                         subst c218
                         have H1 : (laws_FnSwapsKeepTheForm.j3 kj192 t481 t485 t506 t512 t513 true t482) = some r := by rw [if_neg (show ¬ (false = true) by decide)] at H; exact H
                         exact absurd (H1.trans (congrArg some hrT)) (fun h_ => laws_FnSwapsKeepTheForm.j3_no h_)
                      case rest =>
                       as_aux_lemma =>
                        clear HC211; (try clear c1); (try clear c2); (try clear p2); (try clear c3); (try clear c4); (try clear c5); (try clear c6); (try clear c7); (try clear c8); (try clear c9); (try clear c10); (try clear c11); (try clear c12); (try clear c13); (try clear c14); (try clear c15); (try clear c16); (try clear c17); (try clear c18); (try clear c19); (try clear c20); (try clear c21); (try clear c22); (try clear c23); (try clear c26); (try clear c31); (try clear c32); (try clear c34); (try clear c34b0); (try clear c34b1); (try clear c34b2); (try clear c36); (try clear c37); (try clear c39); (try clear c42); (try clear c44); (try clear c48); (try clear c49); (try clear c50); (try clear c51); (try clear c53); (try clear c54); (try clear c55); (try clear c57); (try clear c64); (try clear c65); (try clear c66); (try clear c71); (try clear c72); (try clear c73); (try clear c74); (try clear c78); (try clear c79); (try clear c81); (try clear c88); (try clear c89); (try clear c90); (try clear c95); (try clear c96); (try clear c97); (try clear c98); (try clear c102); (try clear c103); (try clear c105); (try clear c112); (try clear c113); (try clear c114); (try clear c119); (try clear c120); (try clear c121); (try clear c122); (try clear c124); (try clear c125); (try clear c127); (try clear c134); (try clear c135); (try clear c136); (try clear c141); (try clear c142); (try clear c143); (try clear c144); (try clear c146); (try clear c147); (try clear c149); (try clear c156); (try clear c157); (try clear c158); (try clear c163); (try clear c164); (try clear c165); (try clear c166); (try clear c168); (try clear c169); (try clear c171); (try clear c178); (try clear c179); (try clear c180); (try clear c185); (try clear c186); (try clear c187); (try clear c188); (try clear c199); (try clear c199b0); (try clear c199b1); (try clear c199b2); (try clear c203); (try clear c207); (try clear c212); (try clear c213); (try clear c218); (try clear c219); (try clear c219b0); (try clear c219b1); (try clear c220); (try clear c221); (try clear hcz100_0); (try clear hcz104_0); (try clear hcz106_0); (try clear hcz108_0); (try clear hcz115_0); (try clear hcz123_0); (try clear hcz126_0); (try clear hcz128_0); (try clear hcz130_0); (try clear hcz137_0); (try clear hcz145_0); (try clear hcz148_0); (try clear hcz150_0); (try clear hcz152_0); (try clear hcz159_0); (try clear hcz167_0); (try clear hcz16_0); (try clear hcz170_0); (try clear hcz172_0); (try clear hcz174_0); (try clear hcz181_0); (try clear hcz189_0); (try clear hcz214_0); (try clear hcz27_0); (try clear hcz33_0); (try clear hcz38_0); (try clear hcz40_0); (try clear hcz56_0); (try clear hcz58_0); (try clear hcz60_0); (try clear hcz67_0); (try clear hcz75_0); (try clear hcz76_0); (try clear hcz80_0); (try clear hcz82_0); (try clear hcz84_0); (try clear hcz91_0); (try clear hcz99_0); (try clear hfz100_0); (try clear hfz104_0); (try clear hfz106_0); (try clear hfz108_0); (try clear hfz115_0); (try clear hfz123_0); (try clear hfz126_0); (try clear hfz128_0); (try clear hfz130_0); (try clear hfz137_0); (try clear hfz145_0); (try clear hfz148_0); (try clear hfz150_0); (try clear hfz152_0); (try clear hfz159_0); (try clear hfz167_0); (try clear hfz16_0); (try clear hfz170_0); (try clear hfz172_0); (try clear hfz174_0); (try clear hfz181_0); (try clear hfz189_0); (try clear hfz214_0); (try clear hfz27_0); (try clear hfz33_0); (try clear hfz38_0); (try clear hfz40_0); (try clear hfz56_0); (try clear hfz58_0); (try clear hfz60_0); (try clear hfz67_0); (try clear hfz75_0); (try clear hfz76_0); (try clear hfz80_0); (try clear hfz82_0); (try clear hfz84_0); (try clear hfz91_0); (try clear hfz99_0); (try clear p2)
                        obtain ⟨kq, x165_210, rfl, HA, HJ210, HO_17, HO_19, HO_477000, HO_487000, HO_492000, BK476, BK486, BK491, HB⟩ := hcut
                        cases kq with
                        | zero => exact absurd HA.out (by simp [laws_FnSwapsKeepTheForm.j3])
                        | succ kj210 =>
                         have H := HA.out
                         clear HA
                         simp only [laws_FnSwapsKeepTheForm.j3] at H
                         by_cases c222 : x165_210 = true
                         ·
                          subst c222
                          have H1 : (some false) = some r := by rw [if_pos rfl] at H; exact H
                          exact absurd (H1.trans (congrArg some hrT)) (by simp)
                         ·
                          as_aux_lemma =>
                           replace c222 := Bool.eq_false_iff.mpr c222
                           subst c222
                           have H1 : (if t485 = true then ((impl_ApplyMatrix.f kj210 t482 t506).bind fun bt528 => ((impl_SwapAt.f kj210 t506 t481).bind fun bt532 => (if bt532.2 = true then (if bt528.2 = true then ((laws_dSame.f kj210 bt528.1 bt532.1).bind fun t536 => (if t536 = true then (laws_FnSwapsKeepTheForm.j4 kj210 t506 t512 t513) else (some false))) else (some false)) else (laws_FnSwapsKeepTheForm.j4 kj210 t506 t512 t513)))) else (laws_FnSwapsKeepTheForm.j4 kj210 t506 t512 t513)) = some r := by rw [if_neg (show ¬ (false = true) by decide)] at H; exact H
                           clear H
                           have H := H1
                           clear H1
                           by_cases c223 : t485 = true
                           ·
                            subst c223
                            have H1 : ((impl_ApplyMatrix.f kj210 t482 t506).bind fun bt528 => ((impl_SwapAt.f kj210 t506 t481).bind fun bt532 => (if bt532.2 = true then (if bt528.2 = true then ((laws_dSame.f kj210 bt528.1 bt532.1).bind fun t536 => (if t536 = true then (laws_FnSwapsKeepTheForm.j4 kj210 t506 t512 t513) else (some false))) else (some false)) else (laws_FnSwapsKeepTheForm.j4 kj210 t506 t512 t513)))) = some r := by rw [if_pos rfl] at H; exact H
                            clear H
                            have H := H1
                            clear H1
                            replace H := Option.bind_eq_some_iff.mp H
                            obtain ⟨⟨t528, t531⟩, A2240, H⟩ := H
                            replace H : ((impl_SwapAt.f kj210 t506 t481).bind fun bt532 => (if bt532.2 = true then (if t531 = true then ((laws_dSame.f kj210 t528 bt532.1).bind fun t536 => (if t536 = true then (laws_FnSwapsKeepTheForm.j4 kj210 t506 t512 t513) else (some false))) else (some false)) else (laws_FnSwapsKeepTheForm.j4 kj210 t506 t512 t513))) = some r := H
                            have A224 := Aside0.mk A2240
                            clear A2240
                            replace H := Option.bind_eq_some_iff.mp H
                            obtain ⟨⟨t532, t533⟩, A2250, H⟩ := H
                            replace H : (if t533 = true then (if t531 = true then ((laws_dSame.f kj210 t528 t532).bind fun t536 => (if t536 = true then (laws_FnSwapsKeepTheForm.j4 kj210 t506 t512 t513) else (some false))) else (some false)) else (laws_FnSwapsKeepTheForm.j4 kj210 t506 t512 t513)) = some r := H
                            have A225 := Aside0.mk A2250
                            clear A2250
                            by_cases c226 : t533 = true
                            ·
                             subst c226
                             have H1 : (if t531 = true then ((laws_dSame.f kj210 t528 t532).bind fun t536 => (if t536 = true then (laws_FnSwapsKeepTheForm.j4 kj210 t506 t512 t513) else (some false))) else (some false)) = some r := by rw [if_pos rfl] at H; exact H
                             clear H
                             have H := H1
                             clear H1
                             by_cases c227 : t531 = true
                             ·
                              subst c227
                              have H1 : ((laws_dSame.f kj210 t528 t532).bind fun t536 => (if t536 = true then (laws_FnSwapsKeepTheForm.j4 kj210 t506 t512 t513) else (some false))) = some r := by rw [if_pos rfl] at H; exact H
                              clear H
                              have H := H1
                              clear H1
                              replace H := Option.bind_eq_some_iff.mp H
                              obtain ⟨t536, A2280, H⟩ := H
                              replace H : (if t536 = true then (laws_FnSwapsKeepTheForm.j4 kj210 t506 t512 t513) else (some false)) = some r := H
                              have A228 := Aside0.mk A2280
                              clear A2280
                              by_cases c229 : t536 = true
                              ·
                               subst c229
                               have H1 : (laws_FnSwapsKeepTheForm.j4 kj210 t506 t512 t513) = some r := by rw [if_pos rfl] at H; exact H
                               clear H
                               have H := H1
                               clear H1
                               have H' := Aside0.mk H
                               clear H
                               have hnb230 := NB486_476.out
                               have hnc230 := NB476_486.out
                               have hnb231 := NB486_491.out
                               have hnc231 := NB491_486.out
                               have hcz232_0 : wc.cell? ⟨gb486, 0, none⟩ = some (.slice Ao25 t482.length co25) := (blk_cell BK486.out 0).trans rfl
                               have hfz232_0 := blk_frozen BK486.out 0
                               go_wp2_with (first | ((with_reducible refine gate_callee (f := 24) rfl ?_); refine gL (some 170) rfl rfl Try.func24 (by kernel_rfl) rfl #[.agg #[.slice Ao25 t482.length co25], .slice Ao195 t506.length co195] rfl ?_; (with_reducible refine (impl_ApplyMatrix.calls kj210 _ _ t482 _ _ t506 t528 true _ ?side1 ?side2 ?side3 ?side4 A224.out).mono ?_); (case side1 => exact cC (Kd.S_reads' HO_487000.out).2.2); (case side2 => exact (Kd.S_reads' HO_487000.out).2.1); (case side3 => repeat (first | exact (Kd.V_reads' HO_17.out).2.2 | (with_reducible refine Kd.C_alloc ?_ _) | (with_reducible refine Kd.C_drewN ?_ _) | (with_reducible refine Kd.C_drew ?_))); (case side4 => exact (Kd.V_reads' HO_17.out).2.1); rintro e w233 ⟨v529, rfl, ho0, hb⟩; refine ⟨_, rfl, ?_⟩; have n0_ := Aside0.mk (Kd.V_elder' (by (with_reducible repeat (first | apply Kd.V_alloc | apply Kd.V_drewN | apply Kd.V_drew)); exact HO_17.out) (Kd.R_base ho0) hb); have n1_ := Aside0.mk (Kd.R_elder' (rA HO_19) (Kd.R_base ho0) hb); have n2_ := Aside0.mk (Kd.S_elder' (by (with_reducible repeat (first | apply Kd.S_alloc | apply Kd.S_drewN | apply Kd.S_drew)); exact HO_477000.out) (Kd.R_base ho0) hb); have n3_ := Aside0.mk (Kd.S_elder' (by (with_reducible repeat (first | apply Kd.S_alloc | apply Kd.S_drewN | apply Kd.S_drew)); exact HO_487000.out) (Kd.R_base ho0) hb); have n4_ := Aside0.mk (Kd.S_elder' (by (with_reducible repeat (first | apply Kd.S_alloc | apply Kd.S_drewN | apply Kd.S_drew)); exact HO_492000.out) (Kd.R_base ho0) hb); have n5_ := Aside0.mk (Kd.R_lower (Kd.R_new' ho0 (Kd.R_lt (rA HO_19))) (below_size (kB HB))); have n6_ := Aside0.mk (kK BK476 hb); have n7_ := Aside0.mk (kK BK486 hb); have n8_ := Aside0.mk (kK BK491 hb); have n9_ := Aside0.mk (below_step (kB HB) hb); clear HO_17; clear HO_19; clear HO_477000; clear HO_487000; clear HO_492000; clear BK476; clear BK486; clear BK491; clear HB; have HO_17 := n0_; have HO_19 := n1_; have HO_477000 := n2_; have HO_487000 := n3_; have HO_492000 := n4_; have HO530 := n5_; have BK476 := n6_; have BK486 := n7_; have BK491 := n8_; have HB := n9_; clear n0_ n1_ n2_ n3_ n4_ n5_ n6_ n7_ n8_ n9_; (try clear hb); (try clear hb2); (try clear hk); (try clear hi); (try clear ho0)) | ((with_reducible refine gate_callee (f := 25) rfl ?_); refine gL (some 176) rfl rfl Try.func25 (by kernel_rfl) rfl #[.slice Ao195 t506.length co195, .int .i64 t481] rfl ?_; (with_reducible refine (impl_SwapAt.calls kj210 _ _ t506 t481 t532 true _ ?side1 ?side2 A225.out).mono ?_); (case side1 => repeat (first | exact (Kd.V_reads' HO_17.out).2.2 | (with_reducible refine Kd.C_alloc ?_ _) | (with_reducible refine Kd.C_drewN ?_ _) | (with_reducible refine Kd.C_drew ?_))); (case side2 => exact (Kd.V_reads' HO_17.out).2.1); rintro e w234 ⟨v534, rfl, ho0, hb⟩; refine ⟨_, rfl, ?_⟩; have n0_ := Aside0.mk (Kd.V_elder' (by (with_reducible repeat (first | apply Kd.V_alloc | apply Kd.V_drewN | apply Kd.V_drew)); exact HO_17.out) (Kd.R_base ho0) hb); have n1_ := Aside0.mk (Kd.R_elder' (rA HO_19) (Kd.R_base ho0) hb); have n2_ := Aside0.mk (Kd.S_elder' (by (with_reducible repeat (first | apply Kd.S_alloc | apply Kd.S_drewN | apply Kd.S_drew)); exact HO_477000.out) (Kd.R_base ho0) hb); have n3_ := Aside0.mk (Kd.S_elder' (by (with_reducible repeat (first | apply Kd.S_alloc | apply Kd.S_drewN | apply Kd.S_drew)); exact HO_487000.out) (Kd.R_base ho0) hb); have n4_ := Aside0.mk (Kd.S_elder' (by (with_reducible repeat (first | apply Kd.S_alloc | apply Kd.S_drewN | apply Kd.S_drew)); exact HO_492000.out) (Kd.R_base ho0) hb); have n5_ := Aside0.mk (Kd.R_elder' (rA HO530) (Kd.R_base ho0) hb); have n6_ := Aside0.mk (Kd.R_lower (Kd.R_new' (Kd.R_new' ho0 (Kd.R_lt (rA HO_19))) (Kd.R_lt (rA HO530))) (below_size (kB HB))); have n7_ := Aside0.mk (kK BK476 hb); have n8_ := Aside0.mk (kK BK486 hb); have n9_ := Aside0.mk (kK BK491 hb); have n10_ := Aside0.mk (below_step (kB HB) hb); clear HO_17; clear HO_19; clear HO_477000; clear HO_487000; clear HO_492000; clear HO530; clear BK476; clear BK486; clear BK491; clear HB; have HO_17 := n0_; have HO_19 := n1_; have HO_477000 := n2_; have HO_487000 := n3_; have HO_492000 := n4_; have HO530 := n5_; have HO535 := n6_; have BK476 := n7_; have BK486 := n8_; have BK491 := n9_; have HB := n10_; clear n0_ n1_ n2_ n3_ n4_ n5_ n6_ n7_ n8_ n9_ n10_; (try clear hb); (try clear hb2); (try clear hk); (try clear hi); (try clear ho0); obtain ⟨Ao235, co235, eo235⟩ := Kd.R_slice HO530.out; subst eo235; obtain ⟨Ao236, co236, eo236⟩ := Kd.R_slice HO535.out; subst eo236) | (go_at_call 19; (with_reducible refine (laws_dSame.calls kj210 _ _ t528 _ _ t532 true _ ?side1 ?side2 ?side3 ?side4 A228.out).mono ?_); (case side1 => exact cC (Kd.R_reads' HO530.out).2.2); (case side2 => exact (Kd.R_reads' HO530.out).2.1); (case side3 => exact cC (Kd.R_reads' HO535.out).2.2); (case side4 => exact (Kd.R_reads' HO535.out).2.1); rintro e w' ⟨rfl, ⟨nd, rfl⟩⟩))
                               go_meet
                               case rel => exact ⟨_, H', ⟨by have := HJ11.out; have := HJ42.out; have := HJ192.out; have := HJ210.out; first | omega | exact Nat.le_refl _⟩, ⟨by (with_reducible repeat (first | apply Kd.V_alloc | apply Kd.V_drewN | apply Kd.V_drew)); exact Kd.V_mono HO_17.out (fun _ hk => ⟨hk.1.1.1, ⟨hk.1.1.2.1, ⟨hk.1.1.2.2.1, ⟨hk.1.1.2.2.2.1, ⟨hk.1.1.2.2.2.2.1, ⟨hk.1.1.2.2.2.2.2.1, hk.1.1.2.2.2.2.2.2⟩⟩⟩⟩⟩⟩)⟩, ⟨by (with_reducible repeat (first | apply Kd.R_alloc | apply Kd.R_drewN | apply Kd.R_drew)); exact Kd.R_mono HO_19.out (fun _ hk => trivial)⟩, ⟨by (with_reducible repeat (first | apply Kd.S_alloc | apply Kd.S_drewN | apply Kd.S_drew)); exact Kd.S_mono HO_477000.out (fun _ hk => ⟨hk.1.1.1, ⟨hk.1.1.2.1, hk.1.1.2.2⟩⟩)⟩, ⟨by (with_reducible repeat (first | apply Kd.S_alloc | apply Kd.S_drewN | apply Kd.S_drew)); exact Kd.S_mono HO_487000.out (fun _ hk => ⟨hk.1.1.1, ⟨hk.1.1.2.1, hk.1.1.2.2⟩⟩)⟩, ⟨by (with_reducible repeat (first | apply Kd.S_alloc | apply Kd.S_drewN | apply Kd.S_drew)); exact Kd.S_mono HO_492000.out (fun _ hk => ⟨hk.1.1.1, ⟨hk.1.1.2.1, hk.1.1.2.2⟩⟩)⟩, ⟨by (with_reducible repeat (first | refine blk_drewN ?_ _ | refine blk_drew ?_ | refine blk_alloc ?_ _)); exact BK476.out⟩, ⟨by (with_reducible repeat (first | refine blk_drewN ?_ _ | refine blk_drew ?_ | refine blk_alloc ?_ _)); exact BK486.out⟩, ⟨by (with_reducible repeat (first | refine blk_drewN ?_ _ | refine blk_drew ?_ | refine blk_alloc ?_ _)); exact BK491.out⟩, ⟨kB HB⟩⟩
                              ·
                               replace c229 := Bool.eq_false_iff.mpr c229
                               subst c229
                               have H1 : (some false) = some r := by rw [if_neg (show ¬ (false = true) by decide)] at H; exact H
                               exact absurd (H1.trans (congrArg some hrT)) (by simp)
                             ·
                              replace c227 := Bool.eq_false_iff.mpr c227
                              subst c227
                              have H1 : (some false) = some r := by rw [if_neg (show ¬ (false = true) by decide)] at H; exact H
                              exact absurd (H1.trans (congrArg some hrT)) (by simp)
                            ·
                             replace c226 := Bool.eq_false_iff.mpr c226
                             subst c226
                             have H1 : (laws_FnSwapsKeepTheForm.j4 kj210 t506 t512 t513) = some r := by rw [if_neg (show ¬ (false = true) by decide)] at H; exact H
                             clear H
                             have H := H1
                             clear H1
                             have H' := Aside0.mk H
                             clear H
                             have hnb249 := NB486_476.out
                             have hnc249 := NB476_486.out
                             have hnb250 := NB486_491.out
                             have hnc250 := NB491_486.out
                             have hcz251_0 : wc.cell? ⟨gb486, 0, none⟩ = some (.slice Ao25 t482.length co25) := (blk_cell BK486.out 0).trans rfl
                             have hfz251_0 := blk_frozen BK486.out 0
                             go_wp2_with (first | ((with_reducible refine gate_callee (f := 24) rfl ?_); refine gL (some 170) rfl rfl Try.func24 (by kernel_rfl) rfl #[.agg #[.slice Ao25 t482.length co25], .slice Ao195 t506.length co195] rfl ?_; (with_reducible refine (impl_ApplyMatrix.calls kj210 _ _ t482 _ _ t506 t528 t531 _ ?side1 ?side2 ?side3 ?side4 A224.out).mono ?_); (case side1 => exact cC (Kd.S_reads' HO_487000.out).2.2); (case side2 => exact (Kd.S_reads' HO_487000.out).2.1); (case side3 => repeat (first | exact (Kd.V_reads' HO_17.out).2.2 | (with_reducible refine Kd.C_alloc ?_ _) | (with_reducible refine Kd.C_drewN ?_ _) | (with_reducible refine Kd.C_drew ?_))); (case side4 => exact (Kd.V_reads' HO_17.out).2.1); rintro e w252 ⟨v529, rfl, ho0, hb⟩; refine ⟨_, rfl, ?_⟩; have n0_ := Aside0.mk (Kd.V_elder' (by (with_reducible repeat (first | apply Kd.V_alloc | apply Kd.V_drewN | apply Kd.V_drew)); exact HO_17.out) (Kd.R_base ho0) hb); have n1_ := Aside0.mk (Kd.R_elder' (rA HO_19) (Kd.R_base ho0) hb); have n2_ := Aside0.mk (Kd.S_elder' (by (with_reducible repeat (first | apply Kd.S_alloc | apply Kd.S_drewN | apply Kd.S_drew)); exact HO_477000.out) (Kd.R_base ho0) hb); have n3_ := Aside0.mk (Kd.S_elder' (by (with_reducible repeat (first | apply Kd.S_alloc | apply Kd.S_drewN | apply Kd.S_drew)); exact HO_487000.out) (Kd.R_base ho0) hb); have n4_ := Aside0.mk (Kd.S_elder' (by (with_reducible repeat (first | apply Kd.S_alloc | apply Kd.S_drewN | apply Kd.S_drew)); exact HO_492000.out) (Kd.R_base ho0) hb); have n5_ := Aside0.mk (Kd.R_lower (Kd.R_new' ho0 (Kd.R_lt (rA HO_19))) (below_size (kB HB))); have n6_ := Aside0.mk (kK BK476 hb); have n7_ := Aside0.mk (kK BK486 hb); have n8_ := Aside0.mk (kK BK491 hb); have n9_ := Aside0.mk (below_step (kB HB) hb); clear HO_17; clear HO_19; clear HO_477000; clear HO_487000; clear HO_492000; clear BK476; clear BK486; clear BK491; clear HB; have HO_17 := n0_; have HO_19 := n1_; have HO_477000 := n2_; have HO_487000 := n3_; have HO_492000 := n4_; have HO530 := n5_; have BK476 := n6_; have BK486 := n7_; have BK491 := n8_; have HB := n9_; clear n0_ n1_ n2_ n3_ n4_ n5_ n6_ n7_ n8_ n9_; (try clear hb); (try clear hb2); (try clear hk); (try clear hi); (try clear ho0)) | ((with_reducible refine gate_callee (f := 25) rfl ?_); refine gL (some 176) rfl rfl Try.func25 (by kernel_rfl) rfl #[.slice Ao195 t506.length co195, .int .i64 t481] rfl ?_; (with_reducible refine (impl_SwapAt.calls kj210 _ _ t506 t481 t532 false _ ?side1 ?side2 A225.out).mono ?_); (case side1 => repeat (first | exact (Kd.V_reads' HO_17.out).2.2 | (with_reducible refine Kd.C_alloc ?_ _) | (with_reducible refine Kd.C_drewN ?_ _) | (with_reducible refine Kd.C_drew ?_))); (case side2 => exact (Kd.V_reads' HO_17.out).2.1); rintro e w253 ⟨v534, rfl, ho0, hb⟩; refine ⟨_, rfl, ?_⟩; have n0_ := Aside0.mk (Kd.V_elder' (by (with_reducible repeat (first | apply Kd.V_alloc | apply Kd.V_drewN | apply Kd.V_drew)); exact HO_17.out) (Kd.R_base ho0) hb); have n1_ := Aside0.mk (Kd.R_elder' (rA HO_19) (Kd.R_base ho0) hb); have n2_ := Aside0.mk (Kd.S_elder' (by (with_reducible repeat (first | apply Kd.S_alloc | apply Kd.S_drewN | apply Kd.S_drew)); exact HO_477000.out) (Kd.R_base ho0) hb); have n3_ := Aside0.mk (Kd.S_elder' (by (with_reducible repeat (first | apply Kd.S_alloc | apply Kd.S_drewN | apply Kd.S_drew)); exact HO_487000.out) (Kd.R_base ho0) hb); have n4_ := Aside0.mk (Kd.S_elder' (by (with_reducible repeat (first | apply Kd.S_alloc | apply Kd.S_drewN | apply Kd.S_drew)); exact HO_492000.out) (Kd.R_base ho0) hb); have n5_ := Aside0.mk (Kd.R_elder' (rA HO530) (Kd.R_base ho0) hb); have n6_ := Aside0.mk (Kd.R_lower (Kd.R_new' (Kd.R_new' ho0 (Kd.R_lt (rA HO_19))) (Kd.R_lt (rA HO530))) (below_size (kB HB))); have n7_ := Aside0.mk (kK BK476 hb); have n8_ := Aside0.mk (kK BK486 hb); have n9_ := Aside0.mk (kK BK491 hb); have n10_ := Aside0.mk (below_step (kB HB) hb); clear HO_17; clear HO_19; clear HO_477000; clear HO_487000; clear HO_492000; clear HO530; clear BK476; clear BK486; clear BK491; clear HB; have HO_17 := n0_; have HO_19 := n1_; have HO_477000 := n2_; have HO_487000 := n3_; have HO_492000 := n4_; have HO530 := n5_; have HO535 := n6_; have BK476 := n7_; have BK486 := n8_; have BK491 := n9_; have HB := n10_; clear n0_ n1_ n2_ n3_ n4_ n5_ n6_ n7_ n8_ n9_ n10_; (try clear hb); (try clear hb2); (try clear hk); (try clear hi); (try clear ho0)))
                             go_meet
                             case rel => exact ⟨_, H', ⟨by have := HJ11.out; have := HJ42.out; have := HJ192.out; have := HJ210.out; first | omega | exact Nat.le_refl _⟩, ⟨by (with_reducible repeat (first | apply Kd.V_alloc | apply Kd.V_drewN | apply Kd.V_drew)); exact Kd.V_mono HO_17.out (fun _ hk => ⟨hk.1.1.1, ⟨hk.1.1.2.1, ⟨hk.1.1.2.2.1, ⟨hk.1.1.2.2.2.1, ⟨hk.1.1.2.2.2.2.1, ⟨hk.1.1.2.2.2.2.2.1, hk.1.1.2.2.2.2.2.2⟩⟩⟩⟩⟩⟩)⟩, ⟨by (with_reducible repeat (first | apply Kd.R_alloc | apply Kd.R_drewN | apply Kd.R_drew)); exact Kd.R_mono HO_19.out (fun _ hk => trivial)⟩, ⟨by (with_reducible repeat (first | apply Kd.S_alloc | apply Kd.S_drewN | apply Kd.S_drew)); exact Kd.S_mono HO_477000.out (fun _ hk => ⟨hk.1.1.1, ⟨hk.1.1.2.1, hk.1.1.2.2⟩⟩)⟩, ⟨by (with_reducible repeat (first | apply Kd.S_alloc | apply Kd.S_drewN | apply Kd.S_drew)); exact Kd.S_mono HO_487000.out (fun _ hk => ⟨hk.1.1.1, ⟨hk.1.1.2.1, hk.1.1.2.2⟩⟩)⟩, ⟨by (with_reducible repeat (first | apply Kd.S_alloc | apply Kd.S_drewN | apply Kd.S_drew)); exact Kd.S_mono HO_492000.out (fun _ hk => ⟨hk.1.1.1, ⟨hk.1.1.2.1, hk.1.1.2.2⟩⟩)⟩, ⟨by (with_reducible repeat (first | refine blk_drewN ?_ _ | refine blk_drew ?_ | refine blk_alloc ?_ _)); exact BK476.out⟩, ⟨by (with_reducible repeat (first | refine blk_drewN ?_ _ | refine blk_drew ?_ | refine blk_alloc ?_ _)); exact BK486.out⟩, ⟨by (with_reducible repeat (first | refine blk_drewN ?_ _ | refine blk_drew ?_ | refine blk_alloc ?_ _)); exact BK491.out⟩, ⟨kB HB⟩⟩
                           ·
                            replace c223 := Bool.eq_false_iff.mpr c223
                            subst c223
                            have H1 : (laws_FnSwapsKeepTheForm.j4 kj210 t506 t512 t513) = some r := by rw [if_neg (show ¬ (false = true) by decide)] at H; exact H
                            clear H
                            have H := H1
                            clear H1
                            have H' := Aside0.mk H
                            clear H
                            go_wp2
                            go_meet
                            case rel => exact ⟨_, H', ⟨by have := HJ11.out; have := HJ42.out; have := HJ192.out; have := HJ210.out; first | omega | exact Nat.le_refl _⟩, ⟨by (with_reducible repeat (first | apply Kd.V_alloc | apply Kd.V_drewN | apply Kd.V_drew)); exact HO_17.out⟩, ⟨by (with_reducible repeat (first | apply Kd.R_alloc | apply Kd.R_drewN | apply Kd.R_drew)); exact HO_19.out⟩, ⟨by (with_reducible repeat (first | apply Kd.S_alloc | apply Kd.S_drewN | apply Kd.S_drew)); exact HO_477000.out⟩, ⟨by (with_reducible repeat (first | apply Kd.S_alloc | apply Kd.S_drewN | apply Kd.S_drew)); exact HO_487000.out⟩, ⟨by (with_reducible repeat (first | apply Kd.S_alloc | apply Kd.S_drewN | apply Kd.S_drew)); exact HO_492000.out⟩, ⟨by (with_reducible repeat (first | refine blk_drewN ?_ _ | refine blk_drew ?_ | refine blk_alloc ?_ _)); exact BK476.out⟩, ⟨by (with_reducible repeat (first | refine blk_drewN ?_ _ | refine blk_drew ?_ | refine blk_alloc ?_ _)); exact BK486.out⟩, ⟨by (with_reducible repeat (first | refine blk_drewN ?_ _ | refine blk_drew ?_ | refine blk_alloc ?_ _)); exact BK491.out⟩, ⟨kB HB⟩⟩
                    ·
                     replace c207 := Bool.eq_false_iff.mpr c207
                     subst c207
                     have H1 : (laws_FnSwapsKeepTheForm.j4 kj192 t506 t512 t513) = some r := by rw [if_neg (show ¬ (false = true) by decide)] at H; exact H
                     clear H
                     have H := H1
                     clear H1
                     have H' := Aside0.mk H
                     clear H
                     go_wp2
                     go_meet
                     case rel => exact ⟨_, H', ⟨by have := HJ11.out; have := HJ42.out; have := HJ192.out; first | omega | exact Nat.le_refl _⟩, ⟨by (with_reducible repeat (first | apply Kd.V_alloc | apply Kd.V_drewN | apply Kd.V_drew)); exact HO_17.out⟩, ⟨by (with_reducible repeat (first | apply Kd.R_alloc | apply Kd.R_drewN | apply Kd.R_drew)); exact HO_19.out⟩, ⟨by (with_reducible repeat (first | apply Kd.S_alloc | apply Kd.S_drewN | apply Kd.S_drew)); exact HO_477000.out⟩, ⟨by (with_reducible repeat (first | apply Kd.S_alloc | apply Kd.S_drewN | apply Kd.S_drew)); exact HO_487000.out⟩, ⟨by (with_reducible repeat (first | apply Kd.S_alloc | apply Kd.S_drewN | apply Kd.S_drew)); exact HO_492000.out⟩, ⟨by (with_reducible repeat (first | refine blk_drewN ?_ _ | refine blk_drew ?_ | refine blk_alloc ?_ _)); exact BK476.out⟩, ⟨by (with_reducible repeat (first | refine blk_drewN ?_ _ | refine blk_drew ?_ | refine blk_alloc ?_ _)); exact BK486.out⟩, ⟨by (with_reducible repeat (first | refine blk_drewN ?_ _ | refine blk_drew ?_ | refine blk_alloc ?_ _)); exact BK491.out⟩, ⟨kB HB⟩⟩
                  case rest =>
                   as_aux_lemma =>
                    clear HC205; (try clear c1); (try clear c2); (try clear p2); (try clear c3); (try clear c4); (try clear c5); (try clear c6); (try clear c7); (try clear c8); (try clear c9); (try clear c10); (try clear c11); (try clear c12); (try clear c13); (try clear c14); (try clear c15); (try clear c16); (try clear c17); (try clear c18); (try clear c19); (try clear c20); (try clear c21); (try clear c22); (try clear c23); (try clear c24); (try clear c25); (try clear c26); (try clear c31); (try clear c32); (try clear c34); (try clear c34b0); (try clear c34b1); (try clear c34b2); (try clear c36); (try clear c37); (try clear c39); (try clear c42); (try clear c44); (try clear c48); (try clear c49); (try clear c50); (try clear c51); (try clear c53); (try clear c54); (try clear c55); (try clear c57); (try clear c64); (try clear c65); (try clear c66); (try clear c71); (try clear c72); (try clear c73); (try clear c74); (try clear c78); (try clear c79); (try clear c81); (try clear c88); (try clear c89); (try clear c90); (try clear c95); (try clear c96); (try clear c97); (try clear c98); (try clear c102); (try clear c103); (try clear c105); (try clear c112); (try clear c113); (try clear c114); (try clear c119); (try clear c120); (try clear c121); (try clear c122); (try clear c124); (try clear c125); (try clear c127); (try clear c134); (try clear c135); (try clear c136); (try clear c141); (try clear c142); (try clear c143); (try clear c144); (try clear c146); (try clear c147); (try clear c149); (try clear c156); (try clear c157); (try clear c158); (try clear c163); (try clear c164); (try clear c165); (try clear c166); (try clear c168); (try clear c169); (try clear c171); (try clear c178); (try clear c179); (try clear c180); (try clear c185); (try clear c186); (try clear c187); (try clear c188); (try clear c199); (try clear c199b0); (try clear c199b1); (try clear c199b2); (try clear c203); (try clear c207); (try clear c212); (try clear c213); (try clear c218); (try clear c219); (try clear c219b0); (try clear c219b1); (try clear c220); (try clear c221); (try clear c222); (try clear c223); (try clear c226); (try clear c227); (try clear c229); (try clear c230); (try clear c231); (try clear c237); (try clear c238); (try clear c244); (try clear c245); (try clear c249); (try clear c250); (try clear hcz100_0); (try clear hcz104_0); (try clear hcz106_0); (try clear hcz108_0); (try clear hcz115_0); (try clear hcz123_0); (try clear hcz126_0); (try clear hcz128_0); (try clear hcz130_0); (try clear hcz137_0); (try clear hcz145_0); (try clear hcz148_0); (try clear hcz150_0); (try clear hcz152_0); (try clear hcz159_0); (try clear hcz167_0); (try clear hcz16_0); (try clear hcz170_0); (try clear hcz172_0); (try clear hcz174_0); (try clear hcz181_0); (try clear hcz189_0); (try clear hcz214_0); (try clear hcz232_0); (try clear hcz239_0); (try clear hcz246_0); (try clear hcz251_0); (try clear hcz27_0); (try clear hcz33_0); (try clear hcz38_0); (try clear hcz40_0); (try clear hcz56_0); (try clear hcz58_0); (try clear hcz60_0); (try clear hcz67_0); (try clear hcz75_0); (try clear hcz76_0); (try clear hcz80_0); (try clear hcz82_0); (try clear hcz84_0); (try clear hcz91_0); (try clear hcz99_0); (try clear hfz100_0); (try clear hfz104_0); (try clear hfz106_0); (try clear hfz108_0); (try clear hfz115_0); (try clear hfz123_0); (try clear hfz126_0); (try clear hfz128_0); (try clear hfz130_0); (try clear hfz137_0); (try clear hfz145_0); (try clear hfz148_0); (try clear hfz150_0); (try clear hfz152_0); (try clear hfz159_0); (try clear hfz167_0); (try clear hfz16_0); (try clear hfz170_0); (try clear hfz172_0); (try clear hfz174_0); (try clear hfz181_0); (try clear hfz189_0); (try clear hfz214_0); (try clear hfz232_0); (try clear hfz239_0); (try clear hfz246_0); (try clear hfz251_0); (try clear hfz27_0); (try clear hfz33_0); (try clear hfz38_0); (try clear hfz40_0); (try clear hfz56_0); (try clear hfz58_0); (try clear hfz60_0); (try clear hfz67_0); (try clear hfz75_0); (try clear hfz76_0); (try clear hfz80_0); (try clear hfz82_0); (try clear hfz84_0); (try clear hfz91_0); (try clear hfz99_0); (try clear p2)
                    obtain ⟨kq, HA, HJ204, HO_17, HO_19, HO_477000, HO_487000, HO_492000, BK476, BK486, BK491, HB⟩ := hcut
                    cases kq with
                    | zero => exact absurd HA.out (by simp [laws_FnSwapsKeepTheForm.j4])
                    | succ kj204 =>
                     have H := HA.out
                     clear HA
                     simp only [laws_FnSwapsKeepTheForm.j4] at H
                     by_cases c254 : t513 = true
                     ·
                      subst c254
                      have H1 : ((impl_ScaleOf.f kj204 t506).bind fun bt537 => ((impl_ScaleOf.f kj204 t512).bind fun bt539 => (if bt537.2 = true then (if bt539.2 = true then (some (bt537.1 == bt539.1)) else (some false)) else (some false)))) = some r := by rw [if_pos rfl] at H; exact H
                      clear H
                      have H := H1
                      clear H1
                      replace H := Option.bind_eq_some_iff.mp H
                      obtain ⟨⟨t537, t538⟩, A2550, H⟩ := H
                      replace H : ((impl_ScaleOf.f kj204 t512).bind fun bt539 => (if t538 = true then (if bt539.2 = true then (some (t537 == bt539.1)) else (some false)) else (some false))) = some r := H
                      have A255 := Aside0.mk A2550
                      clear A2550
                      replace H := Option.bind_eq_some_iff.mp H
                      obtain ⟨⟨t539, t540⟩, A2560, H⟩ := H
                      replace H : (if t538 = true then (if t540 = true then (some (t537 == t539)) else (some false)) else (some false)) = some r := H
                      have A256 := Aside0.mk A2560
                      clear A2560
                      by_cases c257 : t538 = true
                      ·
                       subst c257
                       have H1 : (if t540 = true then (some (t537 == t539)) else (some false)) = some r := by rw [if_pos rfl] at H; exact H
                       clear H
                       have H := H1
                       clear H1
                       by_cases c258 : t540 = true
                       ·
                        subst c258
                        have H1 : (some (t537 == t539)) = some r := by rw [if_pos rfl] at H; exact H
                        clear H
                        have H := H1
                        clear H1
                        obtain rfl := Option.some.inj H
                        go_wp2_with (first | ((with_reducible refine gate_callee (f := 22) rfl ?_); refine gL (some 193) rfl rfl Try.func22 (by kernel_rfl) rfl #[.slice Ao195 t506.length co195] rfl ?_; (with_reducible refine (impl_ScaleOf.calls kj204 _ _ t506 t537 true _ ?side1 ?side2 A255.out).mono ?_); (case side1 => repeat (first | exact (Kd.V_reads' HO_17.out).2.2 | (with_reducible refine Kd.C_alloc ?_ _) | (with_reducible refine Kd.C_drewN ?_ _) | (with_reducible refine Kd.C_drew ?_))); (case side2 => exact (Kd.V_reads' HO_17.out).2.1); rintro e w259 ⟨rfl, hb⟩; refine ⟨_, rfl, ?_⟩; have n0_ := Aside0.mk (Kd.V_below (by (with_reducible repeat (first | apply Kd.V_alloc | apply Kd.V_drewN | apply Kd.V_drew)); exact HO_17.out) hb); have n1_ := Aside0.mk (Kd.R_below (rA HO_19) hb); have n2_ := Aside0.mk (Kd.S_below (by (with_reducible repeat (first | apply Kd.S_alloc | apply Kd.S_drewN | apply Kd.S_drew)); exact HO_477000.out) hb); have n3_ := Aside0.mk (Kd.S_below (by (with_reducible repeat (first | apply Kd.S_alloc | apply Kd.S_drewN | apply Kd.S_drew)); exact HO_487000.out) hb); have n4_ := Aside0.mk (Kd.S_below (by (with_reducible repeat (first | apply Kd.S_alloc | apply Kd.S_drewN | apply Kd.S_drew)); exact HO_492000.out) hb); have n5_ := Aside0.mk (kK BK476 hb); have n6_ := Aside0.mk (kK BK486 hb); have n7_ := Aside0.mk (kK BK491 hb); have n8_ := Aside0.mk (below_step (kB HB) hb); clear HO_17; clear HO_19; clear HO_477000; clear HO_487000; clear HO_492000; clear BK476; clear BK486; clear BK491; clear HB; have HO_17 := n0_; have HO_19 := n1_; have HO_477000 := n2_; have HO_487000 := n3_; have HO_492000 := n4_; have BK476 := n5_; have BK486 := n6_; have BK491 := n7_; have HB := n8_; clear n0_ n1_ n2_ n3_ n4_ n5_ n6_ n7_ n8_; (try clear hb); (try clear hb2); (try clear hk); (try clear hi); obtain ⟨Ao260, co260, eo260⟩ := Kd.R_slice HO_19.out; subst eo260) | ((with_reducible refine gate_callee (f := 22) rfl ?_); refine gL (some 198) rfl rfl Try.func22 (by kernel_rfl) rfl #[.slice Ao260 t512.length co260] rfl ?_; (with_reducible refine (impl_ScaleOf.calls kj204 _ _ t512 t539 true _ ?side1 ?side2 A256.out).mono ?_); (case side1 => exact cC (Kd.R_reads' HO_19.out).2.2); (case side2 => exact (Kd.R_reads' HO_19.out).2.1); rintro e w261 ⟨rfl, hb⟩; refine ⟨_, rfl, ?_⟩; have n0_ := Aside0.mk (Kd.V_below (by (with_reducible repeat (first | apply Kd.V_alloc | apply Kd.V_drewN | apply Kd.V_drew)); exact HO_17.out) hb); have n1_ := Aside0.mk (Kd.R_below (rA HO_19) hb); have n2_ := Aside0.mk (Kd.S_below (by (with_reducible repeat (first | apply Kd.S_alloc | apply Kd.S_drewN | apply Kd.S_drew)); exact HO_477000.out) hb); have n3_ := Aside0.mk (Kd.S_below (by (with_reducible repeat (first | apply Kd.S_alloc | apply Kd.S_drewN | apply Kd.S_drew)); exact HO_487000.out) hb); have n4_ := Aside0.mk (Kd.S_below (by (with_reducible repeat (first | apply Kd.S_alloc | apply Kd.S_drewN | apply Kd.S_drew)); exact HO_492000.out) hb); have n5_ := Aside0.mk (kK BK476 hb); have n6_ := Aside0.mk (kK BK486 hb); have n7_ := Aside0.mk (kK BK491 hb); have n8_ := Aside0.mk (below_step (kB HB) hb); clear HO_17; clear HO_19; clear HO_477000; clear HO_487000; clear HO_492000; clear BK476; clear BK486; clear BK491; clear HB; have HO_17 := n0_; have HO_19 := n1_; have HO_477000 := n2_; have HO_487000 := n3_; have HO_492000 := n4_; have BK476 := n5_; have BK486 := n6_; have BK491 := n7_; have HB := n8_; clear n0_ n1_ n2_ n3_ n4_ n5_ n6_ n7_ n8_; (try clear hb); (try clear hb2); (try clear hk); (try clear hi)))
                        go_ret
                        exact ⟨e1, kB HB⟩
                       ·
                        replace c258 := Bool.eq_false_iff.mpr c258
                        subst c258
                        have H1 : (some false) = some r := by rw [if_neg (show ¬ (false = true) by decide)] at H; exact H
                        exact absurd (H1.trans (congrArg some hrT)) (by simp)
                      ·
                       replace c257 := Bool.eq_false_iff.mpr c257
                       subst c257
                       have H1 : (some false) = some r := by rw [if_neg (show ¬ (false = true) by decide)] at H; exact H
                       exact absurd (H1.trans (congrArg some hrT)) (by simp)
                     ·
                      replace c254 := Bool.eq_false_iff.mpr c254
                      subst c254
                      have H1 : (some true) = some r := by rw [if_neg (show ¬ (false = true) by decide)] at H; exact H
                      clear H
                      have H := H1
                      clear H1
                      obtain rfl := Option.some.inj H
                      go_wp2
                      go_ret
                      exact ⟨e1, kB HB⟩
   ·
    replace c8 := Bool.eq_false_iff.mpr c8
    subst c8
    have H1 : (some false) = some r := by rw [if_neg (show ¬ (false = true) by decide)] at H; exact H
    exact absurd (H1.trans (congrArg some hrT)) (by simp)
/-- THE ONE PURE STATEMENT of laws_FnSwapsKeepTheForm: yours. -/
def laws_FnSwapsKeepTheForm.Pure : Prop := ∀ (l0 : List Int) (l1 : List Int), l0.length ≤ maxLen → l0.length * 1 ≤ 140737488351232 → (∀ x ∈ l0, (Lit.int .u8 x).wf = true) → l1.length ≤ maxLen → l1.length * 1 ≤ 140737488351232 → (∀ x ∈ l1, (Lit.int .u8 x).wf = true) → ∃ k, laws_FnSwapsKeepTheForm.f k l0 l1 = some true
theorem laws_FnSwapsKeepTheForm.walk (P : laws_FnSwapsKeepTheForm.Pure) (a0 : Option Addr) (len0 cap0 : Nat) (z0 : List Int) (a1 : Option Addr) (len1 cap1 : Nat) (z1 : List Int) (w : World) (w0 : (a0 = none ∧ len0 = 0 ∧ cap0 = 0 ∧ z0 = []) ∨ ∃ x, a0 = some x ∧ len0 ≤ cap0 ∧ cap0 ≤ maxLen ∧ z0.length = cap0 ∧ (∀ i, i < z0.length → w.cell? (x.add i) = some (.int .u8 (z0.getD i 0))) ∧ ∀ n ∈ z0, (Lit.int .u8 n).wf = true) (y0 : len0 * 1 ≤ 140737488351232) (w1 : (a1 = none ∧ len1 = 0 ∧ cap1 = 0 ∧ z1 = []) ∨ ∃ x, a1 = some x ∧ len1 ≤ cap1 ∧ cap1 ≤ maxLen ∧ z1.length = cap1 ∧ (∀ i, i < z1.length → w.cell? (x.add i) = some (.int .u8 (z1.getD i 0))) ∧ ∀ n ∈ z1, (Lit.int .u8 n).wf = true) (y1 : len1 * 1 ≤ 140737488351232) :
 Calls Try.prog 3 #[.slice a0 len0 cap0, .slice a1 len1 cap1] w fun e w' => e = .returned (.bool true) ∧ Below w.heap.size w w' := by
 obtain ⟨l0, rfl, hr0, hm0, hw0, hc0⟩ := ReadsInt.ofRowC w0
 obtain ⟨l1, rfl, hr1, hm1, hw1, hc1⟩ := ReadsInt.ofRowC w1
 obtain ⟨k, h⟩ := P l0 l1 hm0 y0 hw0 hm1 y1 hw1
 refine (laws_FnSwapsKeepTheForm.calls k _ _ l0 _ _ l1 true w (Kd.C_of_reads (d := (0 : Int)) (h1 := fun _ => rfl) hr0) hc0 (Kd.C_of_reads (d := (0 : Int)) (h1 := fun _ => rfl) hr1) hc1 h rfl).mono ?_
 rintro e w' ⟨rfl, hd⟩
 exact ⟨rfl, hd⟩

end Go.Proofs.Ytnaginnhccldhaa.P
