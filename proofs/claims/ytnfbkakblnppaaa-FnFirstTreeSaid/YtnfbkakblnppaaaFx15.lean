-- Written by a program of this session (wip/mkprint.py over the kit's print), out of the translation. Not trusted: Lean checks it.
import Derived.Test.YtnfbkakblnppaaaFx0
import Derived.Test.YtnfbkakblnppaaaFx1
import Derived.Test.YtnfbkakblnppaaaFx3
import Derived.Test.YtnfbkakblnppaaaFx6
import Derived.Test.YtnfbkakblnppaaaFx7
import Derived.Test.YtnfbkakblnppaaaFx8
import Derived.Test.YtnfbkakblnppaaaFx11
import Derived.Test.YtnfbkakblnppaaaFx12
import Derived.Test.YtnfbkakblnppaaaFx14
namespace Go.Proofs.Ytnfbkakblnppaaa.P
open Go.RowKit Go.Proofs.YtnfbkakblnppaaaW.PrintWords Go.Proofs.YtnfbkakblnppaaaW.PrintLast Go.Proofs.YtnfbkakblnppaaaW.PrintMore
attribute [local go_sem] max2_int min2_int max_two min_two max_three min_three max_four min_four   -- for this text's walks alone
set_option linter.unusedVariables false
set_option linter.unusedSimpArgs false

/-! ### laws_FnFirstTree: function 4 -/
mutual
def laws_FnFirstTree.j0 : Nat → List Int → List Int → Int → List Int → Bool → Bool → Option (Bool)
 | 0, _, _, _, _, _, _ => none
 | k + 1, x1, x5, x6, x7, x8, x69 => if x69 = true then (some false) else ((some (([(([1, 0, 0] : List Int)), (([0, 1, 0] : List Int)), (([0, 0, (-1)] : List Int))] : List (List Int)) : List (List Int))).bind fun y448 => ((spec_DrawBergMatrix.f x1).bind fun t452 => ((impl_BergMatrix.f t452).bind fun bt453 => ((spec_BergMatrix.f t452).bind fun bt458 => (if (bt453.2 != bt458.2) = true then (laws_FnFirstTree.j1 k x1 x5 x6 x7 x8 bt453.2 true y448 bt453.1) else ((laws_vSameLists.f k bt453.1 bt458.1).bind fun t463 => (if t463 = true then (if t452 ≥ 0 then (laws_FnFirstTree.j1 k x1 x5 x6 x7 x8 bt453.2 (bt453.2 != (decide (t452 ≤ 2))) y448 bt453.1) else (laws_FnFirstTree.j1 k x1 x5 x6 x7 x8 bt453.2 (bt453.2 != false) y448 bt453.1)) else (laws_FnFirstTree.j1 k x1 x5 x6 x7 x8 bt453.2 true y448 bt453.1))))))))
def laws_FnFirstTree.j1 : Nat → List Int → List Int → Int → List Int → Bool → Bool → Bool → List (List Int) → List (List Int) → Option (Bool)
 | 0, _, _, _, _, _, _, _, _, _ => none
 | k + 1, x1, x5, x6, x7, x8, x14, x107, x452000, x458000 => if x107 = true then (some false) else (if x14 = true then ((impl_KeepsForm.f k x458000 x452000).bind fun bt464 => ((impl_DeterminantOf.f k x458000).bind fun bt466 => (if bt464.2 = true then (if bt466.2 = true then (if bt464.1 = true then (if bt466.1 = 1 then (laws_FnFirstTree.j2 k x1 x5 x6 x7 x8) else (if bt466.1 = (-1) then (laws_FnFirstTree.j2 k x1 x5 x6 x7 x8) else (some false))) else (some false)) else (some false)) else (some false)))) else (laws_FnFirstTree.j2 k x1 x5 x6 x7 x8))
def laws_FnFirstTree.j2 : Nat → List Int → List Int → Int → List Int → Bool → Option (Bool)
 | 0, _, _, _, _, _ => none
 | k + 1, x1, x5, x6, x7, x8 => if x8 = true then ((impl_BergMatrix.f x6).bind fun bt468 => ((impl_BergParent.f k x7).bind fun bt473 => ((impl_BergWord.f k x7).bind fun bt478 => ((impl_BergWord.f k x5).bind fun bt482 => (if bt468.2 = true then (if bt473.2.2 = true then (if bt478.2 = true then (if bt482.2 = true then ((laws_vSame.f k bt473.1 x5).bind fun t486 => (if t486 = true then (if bt473.2.1 = x6 then ((some (([] : List Int) : List Int)).bind fun y487 => (if y487.length + bt482.1.length < 17592186044416 then ((some (y487 ++ bt482.1 : List Int)).bind fun y490 => (if y490.length < 17592186044416 then ((laws_vSame.f k bt478.1 (y490 ++ [x6])).bind fun t496 => (laws_FnFirstTree.j3 k x1 x5 x7 (!t496) bt468.1)) else (none))) else (none))) else (laws_FnFirstTree.j3 k x1 x5 x7 true bt468.1)) else (laws_FnFirstTree.j3 k x1 x5 x7 true bt468.1))) else (laws_FnFirstTree.j3 k x1 x5 x7 true bt468.1)) else (laws_FnFirstTree.j3 k x1 x5 x7 true bt468.1)) else (laws_FnFirstTree.j3 k x1 x5 x7 true bt468.1)) else (laws_FnFirstTree.j3 k x1 x5 x7 true bt468.1)))))) else (laws_FnFirstTree.j4 k x1)
def laws_FnFirstTree.j4 : Nat → List Int → Option (Bool)
 | 0, _ => none
 | k + 1, x1 => (spec_DrawBergParent.f k x1).bind fun t503 => ((impl_BergParent.f k t503).bind fun bt506 => ((spec_BergParent.f k t503).bind fun bt511 => (if (bt506.2.2 != bt511.2.2) = true then (laws_FnFirstTree.j5 k t503 bt506.1 bt506.2.1 bt506.2.2 true) else ((laws_vSame.f k bt506.1 bt511.1).bind fun t516 => (if t516 = true then (if bt506.2.1 = bt511.2.1 then ((impl_IsRight.f k t503).bind fun t517 => (if t517 = true then (if 2 < (t503.length : Int) then (laws_FnFirstTree.j5 k t503 bt506.1 bt506.2.1 bt506.2.2 (bt506.2.2 != ((rd t503 2) != 5))) else (none)) else (laws_FnFirstTree.j5 k t503 bt506.1 bt506.2.1 bt506.2.2 (bt506.2.2 != false)))) else (laws_FnFirstTree.j5 k t503 bt506.1 bt506.2.1 bt506.2.2 true)) else (laws_FnFirstTree.j5 k t503 bt506.1 bt506.2.1 bt506.2.2 true))))))
def laws_FnFirstTree.j5 : Nat → List Int → List Int → Int → Bool → Bool → Option (Bool)
 | 0, _, _, _, _, _ => none
 | k + 1, x32, x33, x34, x35, x253 => if x253 = true then (some false) else (if x35 = true then ((impl_BergChild.f k x33 x34).bind fun bt519 => (if bt519.2 = true then ((laws_vSame.f k bt519.1 x32).bind fun t523 => (if t523 = true then (if 2 < (x33.length : Int) then (if 2 < (x32.length : Int) then (some (decide ((rd x33 2) < (rd x32 2)))) else (none)) else (none)) else (some false))) else (some false))) else (some true))
def laws_FnFirstTree.j3 : Nat → List Int → List Int → List Int → Bool → List (List Int) → Option (Bool)
 | 0, _, _, _, _, _ => none
 | k + 1, x1, x5, x7, x195, x473000 => if x195 = true then (some false) else (if 2 < (x7.length : Int) then (if (rd x7 2) ≤ 1000000 then ((impl_ApplyMatrix.f k x473000 x5).bind fun bt498 => (if bt498.2 = true then ((laws_vSame.f k bt498.1 x7).bind fun t502 => (if t502 = true then (laws_FnFirstTree.j4 k x1) else (some false))) else (some false))) else (laws_FnFirstTree.j4 k x1)) else (none))
end
def laws_FnFirstTree.f (k : Nat) (l0 : List Int) (l1 : List Int) : Option (Bool) := (laws_big.f l0 l1).bind fun t425 => (if t425 = true then (some true) else ((spec_DrawBergChild.f k l0).bind fun bt426 => ((impl_BergChild.f k bt426.1 bt426.2).bind fun bt430 => ((spec_BergChild.f k bt426.1 bt426.2).bind fun bt434 => (if (bt430.2 != bt434.2) = true then (laws_FnFirstTree.j0 k l1 bt426.1 bt426.2 bt430.1 bt430.2 true) else ((laws_vSame.f k bt430.1 bt434.1).bind fun t438 => (laws_FnFirstTree.j0 k l1 bt426.1 bt426.2 bt430.1 bt430.2 (!t438))))))))
theorem laws_FnFirstTree.mono_l : ∀ k, (∀ y0 y1 y2 y3 y4 y5, LeO (laws_FnFirstTree.j0 k y0 y1 y2 y3 y4 y5) (laws_FnFirstTree.j0 (k + 1) y0 y1 y2 y3 y4 y5)) ∧ (∀ y0 y1 y2 y3 y4 y5 y6 y7 y8, LeO (laws_FnFirstTree.j1 k y0 y1 y2 y3 y4 y5 y6 y7 y8) (laws_FnFirstTree.j1 (k + 1) y0 y1 y2 y3 y4 y5 y6 y7 y8)) ∧ (∀ y0 y1 y2 y3 y4, LeO (laws_FnFirstTree.j2 k y0 y1 y2 y3 y4) (laws_FnFirstTree.j2 (k + 1) y0 y1 y2 y3 y4)) ∧ (∀ y0, LeO (laws_FnFirstTree.j4 k y0) (laws_FnFirstTree.j4 (k + 1) y0)) ∧ (∀ y0 y1 y2 y3 y4, LeO (laws_FnFirstTree.j5 k y0 y1 y2 y3 y4) (laws_FnFirstTree.j5 (k + 1) y0 y1 y2 y3 y4)) ∧ (∀ y0 y1 y2 y3 y4, LeO (laws_FnFirstTree.j3 k y0 y1 y2 y3 y4) (laws_FnFirstTree.j3 (k + 1) y0 y1 y2 y3 y4))
 | 0 => ⟨fun _ _ _ _ _ _ r h => by simp [laws_FnFirstTree.j0] at h, fun _ _ _ _ _ _ _ _ _ r h => by simp [laws_FnFirstTree.j1] at h, fun _ _ _ _ _ r h => by simp [laws_FnFirstTree.j2] at h, fun _ r h => by simp [laws_FnFirstTree.j4] at h, fun _ _ _ _ _ r h => by simp [laws_FnFirstTree.j5] at h, fun _ _ _ _ _ r h => by simp [laws_FnFirstTree.j3] at h⟩
 | k + 1 => by
  obtain ⟨ih0, ih1, ih2, ih3, ih4, ih5⟩ := laws_FnFirstTree.mono_l k
  refine ⟨?_, ?_, ?_, ?_, ?_, ?_⟩
  ·
   intro y0 y1 y2 y3 y4 y5
   unfold laws_FnFirstTree.j0
   repeat' first
   | (with_reducible exact ih0 _ _ _ _ _ _)
   | (with_reducible exact ih1 _ _ _ _ _ _ _ _ _)
   | (with_reducible exact ih2 _ _ _ _ _)
   | (with_reducible exact ih3 _)
   | (with_reducible exact ih4 _ _ _ _ _)
   | (with_reducible exact ih5 _ _ _ _ _)
   | (with_reducible exact impl_ApplyMatrix.mono _ _ _)
   | (with_reducible exact impl_BergChild.mono _ _ _)
   | (with_reducible exact impl_BergParent.mono _ _)
   | (with_reducible exact impl_BergWord.mono _ _)
   | (with_reducible exact impl_DeterminantOf.mono _ _)
   | (with_reducible exact impl_IsRight.mono _ _)
   | (with_reducible exact impl_KeepsForm.mono _ _ _)
   | (with_reducible exact laws_vSame.mono _ _ _)
   | (with_reducible exact laws_vSameLists.mono _ _ _)
   | (with_reducible exact spec_BergChild.mono _ _ _)
   | (with_reducible exact spec_BergParent.mono _ _)
   | (with_reducible exact spec_DrawBergChild.mono _ _)
   | (with_reducible exact spec_DrawBergParent.mono _ _)
   | (with_reducible exact LeO.refl _)
   | (with_reducible exact LeO.none _)
   | (with_reducible refine LeO.ite ?_ ?_)
   | (with_reducible refine LeO.bind ?_ (fun _ => ?_))
   | exact ih0 _ _ _ _ _ _
   | exact ih1 _ _ _ _ _ _ _ _ _
   | exact ih2 _ _ _ _ _
   | exact ih3 _
   | exact ih4 _ _ _ _ _
   | exact ih5 _ _ _ _ _
   | exact impl_ApplyMatrix.mono _ _ _
   | exact impl_BergChild.mono _ _ _
   | exact impl_BergParent.mono _ _
   | exact impl_BergWord.mono _ _
   | exact impl_DeterminantOf.mono _ _
   | exact impl_IsRight.mono _ _
   | exact impl_KeepsForm.mono _ _ _
   | exact laws_vSame.mono _ _ _
   | exact laws_vSameLists.mono _ _ _
   | exact spec_BergChild.mono _ _ _
   | exact spec_BergParent.mono _ _
   | exact spec_DrawBergChild.mono _ _
   | exact spec_DrawBergParent.mono _ _
   | exact LeO.none _
   | refine LeO.ite ?_ ?_
   | refine LeO.bind ?_ (fun _ => ?_)
  ·
   intro y0 y1 y2 y3 y4 y5 y6 y7 y8
   unfold laws_FnFirstTree.j1
   repeat' first
   | (with_reducible exact ih0 _ _ _ _ _ _)
   | (with_reducible exact ih1 _ _ _ _ _ _ _ _ _)
   | (with_reducible exact ih2 _ _ _ _ _)
   | (with_reducible exact ih3 _)
   | (with_reducible exact ih4 _ _ _ _ _)
   | (with_reducible exact ih5 _ _ _ _ _)
   | (with_reducible exact impl_ApplyMatrix.mono _ _ _)
   | (with_reducible exact impl_BergChild.mono _ _ _)
   | (with_reducible exact impl_BergParent.mono _ _)
   | (with_reducible exact impl_BergWord.mono _ _)
   | (with_reducible exact impl_DeterminantOf.mono _ _)
   | (with_reducible exact impl_IsRight.mono _ _)
   | (with_reducible exact impl_KeepsForm.mono _ _ _)
   | (with_reducible exact laws_vSame.mono _ _ _)
   | (with_reducible exact laws_vSameLists.mono _ _ _)
   | (with_reducible exact spec_BergChild.mono _ _ _)
   | (with_reducible exact spec_BergParent.mono _ _)
   | (with_reducible exact spec_DrawBergChild.mono _ _)
   | (with_reducible exact spec_DrawBergParent.mono _ _)
   | (with_reducible exact LeO.refl _)
   | (with_reducible exact LeO.none _)
   | (with_reducible refine LeO.ite ?_ ?_)
   | (with_reducible refine LeO.bind ?_ (fun _ => ?_))
   | exact ih0 _ _ _ _ _ _
   | exact ih1 _ _ _ _ _ _ _ _ _
   | exact ih2 _ _ _ _ _
   | exact ih3 _
   | exact ih4 _ _ _ _ _
   | exact ih5 _ _ _ _ _
   | exact impl_ApplyMatrix.mono _ _ _
   | exact impl_BergChild.mono _ _ _
   | exact impl_BergParent.mono _ _
   | exact impl_BergWord.mono _ _
   | exact impl_DeterminantOf.mono _ _
   | exact impl_IsRight.mono _ _
   | exact impl_KeepsForm.mono _ _ _
   | exact laws_vSame.mono _ _ _
   | exact laws_vSameLists.mono _ _ _
   | exact spec_BergChild.mono _ _ _
   | exact spec_BergParent.mono _ _
   | exact spec_DrawBergChild.mono _ _
   | exact spec_DrawBergParent.mono _ _
   | exact LeO.none _
   | refine LeO.ite ?_ ?_
   | refine LeO.bind ?_ (fun _ => ?_)
  ·
   intro y0 y1 y2 y3 y4
   unfold laws_FnFirstTree.j2
   repeat' first
   | (with_reducible exact ih0 _ _ _ _ _ _)
   | (with_reducible exact ih1 _ _ _ _ _ _ _ _ _)
   | (with_reducible exact ih2 _ _ _ _ _)
   | (with_reducible exact ih3 _)
   | (with_reducible exact ih4 _ _ _ _ _)
   | (with_reducible exact ih5 _ _ _ _ _)
   | (with_reducible exact impl_ApplyMatrix.mono _ _ _)
   | (with_reducible exact impl_BergChild.mono _ _ _)
   | (with_reducible exact impl_BergParent.mono _ _)
   | (with_reducible exact impl_BergWord.mono _ _)
   | (with_reducible exact impl_DeterminantOf.mono _ _)
   | (with_reducible exact impl_IsRight.mono _ _)
   | (with_reducible exact impl_KeepsForm.mono _ _ _)
   | (with_reducible exact laws_vSame.mono _ _ _)
   | (with_reducible exact laws_vSameLists.mono _ _ _)
   | (with_reducible exact spec_BergChild.mono _ _ _)
   | (with_reducible exact spec_BergParent.mono _ _)
   | (with_reducible exact spec_DrawBergChild.mono _ _)
   | (with_reducible exact spec_DrawBergParent.mono _ _)
   | (with_reducible exact LeO.refl _)
   | (with_reducible exact LeO.none _)
   | (with_reducible refine LeO.ite ?_ ?_)
   | (with_reducible refine LeO.bind ?_ (fun _ => ?_))
   | exact ih0 _ _ _ _ _ _
   | exact ih1 _ _ _ _ _ _ _ _ _
   | exact ih2 _ _ _ _ _
   | exact ih3 _
   | exact ih4 _ _ _ _ _
   | exact ih5 _ _ _ _ _
   | exact impl_ApplyMatrix.mono _ _ _
   | exact impl_BergChild.mono _ _ _
   | exact impl_BergParent.mono _ _
   | exact impl_BergWord.mono _ _
   | exact impl_DeterminantOf.mono _ _
   | exact impl_IsRight.mono _ _
   | exact impl_KeepsForm.mono _ _ _
   | exact laws_vSame.mono _ _ _
   | exact laws_vSameLists.mono _ _ _
   | exact spec_BergChild.mono _ _ _
   | exact spec_BergParent.mono _ _
   | exact spec_DrawBergChild.mono _ _
   | exact spec_DrawBergParent.mono _ _
   | exact LeO.none _
   | refine LeO.ite ?_ ?_
   | refine LeO.bind ?_ (fun _ => ?_)
  ·
   intro y0
   unfold laws_FnFirstTree.j4
   repeat' first
   | (with_reducible exact ih0 _ _ _ _ _ _)
   | (with_reducible exact ih1 _ _ _ _ _ _ _ _ _)
   | (with_reducible exact ih2 _ _ _ _ _)
   | (with_reducible exact ih3 _)
   | (with_reducible exact ih4 _ _ _ _ _)
   | (with_reducible exact ih5 _ _ _ _ _)
   | (with_reducible exact impl_ApplyMatrix.mono _ _ _)
   | (with_reducible exact impl_BergChild.mono _ _ _)
   | (with_reducible exact impl_BergParent.mono _ _)
   | (with_reducible exact impl_BergWord.mono _ _)
   | (with_reducible exact impl_DeterminantOf.mono _ _)
   | (with_reducible exact impl_IsRight.mono _ _)
   | (with_reducible exact impl_KeepsForm.mono _ _ _)
   | (with_reducible exact laws_vSame.mono _ _ _)
   | (with_reducible exact laws_vSameLists.mono _ _ _)
   | (with_reducible exact spec_BergChild.mono _ _ _)
   | (with_reducible exact spec_BergParent.mono _ _)
   | (with_reducible exact spec_DrawBergChild.mono _ _)
   | (with_reducible exact spec_DrawBergParent.mono _ _)
   | (with_reducible exact LeO.refl _)
   | (with_reducible exact LeO.none _)
   | (with_reducible refine LeO.ite ?_ ?_)
   | (with_reducible refine LeO.bind ?_ (fun _ => ?_))
   | exact ih0 _ _ _ _ _ _
   | exact ih1 _ _ _ _ _ _ _ _ _
   | exact ih2 _ _ _ _ _
   | exact ih3 _
   | exact ih4 _ _ _ _ _
   | exact ih5 _ _ _ _ _
   | exact impl_ApplyMatrix.mono _ _ _
   | exact impl_BergChild.mono _ _ _
   | exact impl_BergParent.mono _ _
   | exact impl_BergWord.mono _ _
   | exact impl_DeterminantOf.mono _ _
   | exact impl_IsRight.mono _ _
   | exact impl_KeepsForm.mono _ _ _
   | exact laws_vSame.mono _ _ _
   | exact laws_vSameLists.mono _ _ _
   | exact spec_BergChild.mono _ _ _
   | exact spec_BergParent.mono _ _
   | exact spec_DrawBergChild.mono _ _
   | exact spec_DrawBergParent.mono _ _
   | exact LeO.none _
   | refine LeO.ite ?_ ?_
   | refine LeO.bind ?_ (fun _ => ?_)
  ·
   intro y0 y1 y2 y3 y4
   unfold laws_FnFirstTree.j5
   repeat' first
   | (with_reducible exact ih0 _ _ _ _ _ _)
   | (with_reducible exact ih1 _ _ _ _ _ _ _ _ _)
   | (with_reducible exact ih2 _ _ _ _ _)
   | (with_reducible exact ih3 _)
   | (with_reducible exact ih4 _ _ _ _ _)
   | (with_reducible exact ih5 _ _ _ _ _)
   | (with_reducible exact impl_ApplyMatrix.mono _ _ _)
   | (with_reducible exact impl_BergChild.mono _ _ _)
   | (with_reducible exact impl_BergParent.mono _ _)
   | (with_reducible exact impl_BergWord.mono _ _)
   | (with_reducible exact impl_DeterminantOf.mono _ _)
   | (with_reducible exact impl_IsRight.mono _ _)
   | (with_reducible exact impl_KeepsForm.mono _ _ _)
   | (with_reducible exact laws_vSame.mono _ _ _)
   | (with_reducible exact laws_vSameLists.mono _ _ _)
   | (with_reducible exact spec_BergChild.mono _ _ _)
   | (with_reducible exact spec_BergParent.mono _ _)
   | (with_reducible exact spec_DrawBergChild.mono _ _)
   | (with_reducible exact spec_DrawBergParent.mono _ _)
   | (with_reducible exact LeO.refl _)
   | (with_reducible exact LeO.none _)
   | (with_reducible refine LeO.ite ?_ ?_)
   | (with_reducible refine LeO.bind ?_ (fun _ => ?_))
   | exact ih0 _ _ _ _ _ _
   | exact ih1 _ _ _ _ _ _ _ _ _
   | exact ih2 _ _ _ _ _
   | exact ih3 _
   | exact ih4 _ _ _ _ _
   | exact ih5 _ _ _ _ _
   | exact impl_ApplyMatrix.mono _ _ _
   | exact impl_BergChild.mono _ _ _
   | exact impl_BergParent.mono _ _
   | exact impl_BergWord.mono _ _
   | exact impl_DeterminantOf.mono _ _
   | exact impl_IsRight.mono _ _
   | exact impl_KeepsForm.mono _ _ _
   | exact laws_vSame.mono _ _ _
   | exact laws_vSameLists.mono _ _ _
   | exact spec_BergChild.mono _ _ _
   | exact spec_BergParent.mono _ _
   | exact spec_DrawBergChild.mono _ _
   | exact spec_DrawBergParent.mono _ _
   | exact LeO.none _
   | refine LeO.ite ?_ ?_
   | refine LeO.bind ?_ (fun _ => ?_)
  ·
   intro y0 y1 y2 y3 y4
   unfold laws_FnFirstTree.j3
   repeat' first
   | (with_reducible exact ih0 _ _ _ _ _ _)
   | (with_reducible exact ih1 _ _ _ _ _ _ _ _ _)
   | (with_reducible exact ih2 _ _ _ _ _)
   | (with_reducible exact ih3 _)
   | (with_reducible exact ih4 _ _ _ _ _)
   | (with_reducible exact ih5 _ _ _ _ _)
   | (with_reducible exact impl_ApplyMatrix.mono _ _ _)
   | (with_reducible exact impl_BergChild.mono _ _ _)
   | (with_reducible exact impl_BergParent.mono _ _)
   | (with_reducible exact impl_BergWord.mono _ _)
   | (with_reducible exact impl_DeterminantOf.mono _ _)
   | (with_reducible exact impl_IsRight.mono _ _)
   | (with_reducible exact impl_KeepsForm.mono _ _ _)
   | (with_reducible exact laws_vSame.mono _ _ _)
   | (with_reducible exact laws_vSameLists.mono _ _ _)
   | (with_reducible exact spec_BergChild.mono _ _ _)
   | (with_reducible exact spec_BergParent.mono _ _)
   | (with_reducible exact spec_DrawBergChild.mono _ _)
   | (with_reducible exact spec_DrawBergParent.mono _ _)
   | (with_reducible exact LeO.refl _)
   | (with_reducible exact LeO.none _)
   | (with_reducible refine LeO.ite ?_ ?_)
   | (with_reducible refine LeO.bind ?_ (fun _ => ?_))
   | exact ih0 _ _ _ _ _ _
   | exact ih1 _ _ _ _ _ _ _ _ _
   | exact ih2 _ _ _ _ _
   | exact ih3 _
   | exact ih4 _ _ _ _ _
   | exact ih5 _ _ _ _ _
   | exact impl_ApplyMatrix.mono _ _ _
   | exact impl_BergChild.mono _ _ _
   | exact impl_BergParent.mono _ _
   | exact impl_BergWord.mono _ _
   | exact impl_DeterminantOf.mono _ _
   | exact impl_IsRight.mono _ _
   | exact impl_KeepsForm.mono _ _ _
   | exact laws_vSame.mono _ _ _
   | exact laws_vSameLists.mono _ _ _
   | exact spec_BergChild.mono _ _ _
   | exact spec_BergParent.mono _ _
   | exact spec_DrawBergChild.mono _ _
   | exact spec_DrawBergParent.mono _ _
   | exact LeO.none _
   | refine LeO.ite ?_ ?_
   | refine LeO.bind ?_ (fun _ => ?_)
theorem laws_FnFirstTree.mono : ∀ a0 a1 k, LeO (laws_FnFirstTree.f k a0 a1) (laws_FnFirstTree.f (k + 1) a0 a1) := by
 intro a0 a1 k
 obtain ⟨ih0, ih1, ih2, ih3, ih4, ih5⟩ := laws_FnFirstTree.mono_l k
 unfold laws_FnFirstTree.f
 repeat' first
  | (with_reducible exact ih0 _ _ _ _ _ _)
  | (with_reducible exact ih1 _ _ _ _ _ _ _ _ _)
  | (with_reducible exact ih2 _ _ _ _ _)
  | (with_reducible exact ih3 _)
  | (with_reducible exact ih4 _ _ _ _ _)
  | (with_reducible exact ih5 _ _ _ _ _)
  | (with_reducible exact impl_ApplyMatrix.mono _ _ _)
  | (with_reducible exact impl_BergChild.mono _ _ _)
  | (with_reducible exact impl_BergParent.mono _ _)
  | (with_reducible exact impl_BergWord.mono _ _)
  | (with_reducible exact impl_DeterminantOf.mono _ _)
  | (with_reducible exact impl_IsRight.mono _ _)
  | (with_reducible exact impl_KeepsForm.mono _ _ _)
  | (with_reducible exact laws_vSame.mono _ _ _)
  | (with_reducible exact laws_vSameLists.mono _ _ _)
  | (with_reducible exact spec_BergChild.mono _ _ _)
  | (with_reducible exact spec_BergParent.mono _ _)
  | (with_reducible exact spec_DrawBergChild.mono _ _)
  | (with_reducible exact spec_DrawBergParent.mono _ _)
  | (with_reducible exact LeO.refl _)
  | (with_reducible exact LeO.none _)
  | (with_reducible refine LeO.ite ?_ ?_)
  | (with_reducible refine LeO.bind ?_ (fun _ => ?_))
  | exact ih0 _ _ _ _ _ _
  | exact ih1 _ _ _ _ _ _ _ _ _
  | exact ih2 _ _ _ _ _
  | exact ih3 _
  | exact ih4 _ _ _ _ _
  | exact ih5 _ _ _ _ _
  | exact impl_ApplyMatrix.mono _ _ _
  | exact impl_BergChild.mono _ _ _
  | exact impl_BergParent.mono _ _
  | exact impl_BergWord.mono _ _
  | exact impl_DeterminantOf.mono _ _
  | exact impl_IsRight.mono _ _
  | exact impl_KeepsForm.mono _ _ _
  | exact laws_vSame.mono _ _ _
  | exact laws_vSameLists.mono _ _ _
  | exact spec_BergChild.mono _ _ _
  | exact spec_BergParent.mono _ _
  | exact spec_DrawBergChild.mono _ _
  | exact spec_DrawBergParent.mono _ _
  | exact LeO.none _
  | refine LeO.ite ?_ ?_
  | refine LeO.bind ?_ (fun _ => ?_)
theorem laws_FnFirstTree.j0_no : ∀ {k y0 y1 y2 y3 y4}, laws_FnFirstTree.j0 k y0 y1 y2 y3 y4 true = some true → False := by
 intro k y0 y1 y2 y3 y4 h
 cases k <;> simp [laws_FnFirstTree.j0] at h
theorem laws_FnFirstTree.j1_no : ∀ {k y0 y1 y2 y3 y4 y5 y7 y8}, laws_FnFirstTree.j1 k y0 y1 y2 y3 y4 y5 true y7 y8 = some true → False := by
 intro k y0 y1 y2 y3 y4 y5 y7 y8 h
 cases k <;> simp [laws_FnFirstTree.j1] at h
theorem laws_FnFirstTree.j5_no : ∀ {k y0 y1 y2 y3}, laws_FnFirstTree.j5 k y0 y1 y2 y3 true = some true → False := by
 intro k y0 y1 y2 y3 h
 cases k <;> simp [laws_FnFirstTree.j5] at h
theorem laws_FnFirstTree.j3_no : ∀ {k y0 y1 y2 y4}, laws_FnFirstTree.j3 k y0 y1 y2 true y4 = some true → False := by
 intro k y0 y1 y2 y4 h
 cases k <;> simp [laws_FnFirstTree.j3] at h
set_option maxHeartbeats 8000000 in
set_option maxRecDepth 100000 in
theorem laws_FnFirstTree.calls (k : Nat) (A0 : Option Addr) (c0 : Nat) (l0 : List Int) (A1 : Option Addr) (c1 : Nat) (l1 : List Int) (r : Bool) (w : World) (hr0 : Kd.C (Kd.int .u8) w A0 l0.length l0) (hc0 : l0.length ≤ c0) (hr1 : Kd.C (Kd.int .u8) w A1 l1.length l1) (hc1 : l1.length ≤ c1) (h : laws_FnFirstTree.f k l0 l1 = some r) (hrT : r = true) :
 Calls Try.prog 4 #[.slice A0 l0.length c0, .slice A1 l1.length c1] w fun e w' => e = .returned (.bool r) ∧ Below w.heap.size w w' := by
 have hu33 := Try.underlying33
 have HR0 := Aside0.mk hr0
 have HC0 := Aside0.mk hc0
 clear hr0 hc0
 have HR1 := Aside0.mk hr1
 have HC1 := Aside0.mk hc1
 clear hr1 hc1
 have HB := Aside0.mk (Below.refl w.heap.size w)
 have H : ((laws_big.f l0 l1).bind fun t425 => (if t425 = true then (some true) else ((spec_DrawBergChild.f k l0).bind fun bt426 => ((impl_BergChild.f k bt426.1 bt426.2).bind fun bt430 => ((spec_BergChild.f k bt426.1 bt426.2).bind fun bt434 => (if (bt430.2 != bt434.2) = true then (laws_FnFirstTree.j0 k l1 bt426.1 bt426.2 bt430.1 bt430.2 true) else ((laws_vSame.f k bt430.1 bt434.1).bind fun t438 => (laws_FnFirstTree.j0 k l1 bt426.1 bt426.2 bt430.1 bt430.2 (!t438))))))))) = some r := h
 clear h
 replace H := Option.bind_eq_some_iff.mp H
 obtain ⟨t425, A30, H⟩ := H
 replace H : (if t425 = true then (some true) else ((spec_DrawBergChild.f k l0).bind fun bt426 => ((impl_BergChild.f k bt426.1 bt426.2).bind fun bt430 => ((spec_BergChild.f k bt426.1 bt426.2).bind fun bt434 => (if (bt430.2 != bt434.2) = true then (laws_FnFirstTree.j0 k l1 bt426.1 bt426.2 bt430.1 bt430.2 true) else ((laws_vSame.f k bt430.1 bt434.1).bind fun t438 => (laws_FnFirstTree.j0 k l1 bt426.1 bt426.2 bt430.1 bt430.2 (!t438)))))))) = some r := H
 have A3 := Aside0.mk A30
 clear A30
 by_cases c4 : t425 = true
 ·
  subst c4
  have H1 : (some true) = some r := by rw [if_pos rfl] at H; exact H
  clear H
  have H := H1
  clear H1
  obtain rfl := Option.some.inj H
  go_enter Try.func4, Try.ntmps4
  go_wp2_with (first | (go_at_call 7; (with_reducible refine (laws_big.calls _ _ l0 _ _ l1 true _ ?side1 ?side2 ?side3 ?side4 A3.out).mono ?_); (case side1 => exact cC HR0.out); (case side2 => exact HC0.out); (case side3 => exact cC HR1.out); (case side4 => exact HC1.out); rintro e w' ⟨rfl, ⟨nd, rfl⟩⟩; (try exact dD)))
  repeat (go_quiet (first | (go_at_call 7; (with_reducible refine (laws_big.calls _ _ l0 _ _ l1 true _ ?side1 ?side2 ?side3 ?side4 A3.out).mono ?_); (case side1 => exact cC HR0.out); (case side2 => exact HC0.out); (case side3 => exact cC HR1.out); (case side4 => exact HC1.out); rintro e w' ⟨rfl, ⟨nd, rfl⟩⟩; (try exact dD))); try go_wp2_with (first | (go_at_call 7; (with_reducible refine (laws_big.calls _ _ l0 _ _ l1 true _ ?side1 ?side2 ?side3 ?side4 A3.out).mono ?_); (case side1 => exact cC HR0.out); (case side2 => exact HC0.out); (case side3 => exact cC HR1.out); (case side4 => exact HC1.out); rintro e w' ⟨rfl, ⟨nd, rfl⟩⟩; (try exact dD))))
  go_ret
  exact ⟨e1, bq⟩
 ·
  as_aux_lemma =>
   replace c4 := Bool.eq_false_iff.mpr c4
   subst c4
   have H1 : ((spec_DrawBergChild.f k l0).bind fun bt426 => ((impl_BergChild.f k bt426.1 bt426.2).bind fun bt430 => ((spec_BergChild.f k bt426.1 bt426.2).bind fun bt434 => (if (bt430.2 != bt434.2) = true then (laws_FnFirstTree.j0 k l1 bt426.1 bt426.2 bt430.1 bt430.2 true) else ((laws_vSame.f k bt430.1 bt434.1).bind fun t438 => (laws_FnFirstTree.j0 k l1 bt426.1 bt426.2 bt430.1 bt430.2 (!t438))))))) = some r := by rw [if_neg (show ¬ (false = true) by decide)] at H; exact H
   clear H
   have H := H1
   clear H1
   replace H := Option.bind_eq_some_iff.mp H
   obtain ⟨⟨t426, t427⟩, A50, H⟩ := H
   replace H : ((impl_BergChild.f k t426 t427).bind fun bt430 => ((spec_BergChild.f k t426 t427).bind fun bt434 => (if (bt430.2 != bt434.2) = true then (laws_FnFirstTree.j0 k l1 t426 t427 bt430.1 bt430.2 true) else ((laws_vSame.f k bt430.1 bt434.1).bind fun t438 => (laws_FnFirstTree.j0 k l1 t426 t427 bt430.1 bt430.2 (!t438)))))) = some r := H
   have A5 := Aside0.mk A50
   clear A50
   replace H := Option.bind_eq_some_iff.mp H
   obtain ⟨⟨t430, t431⟩, A60, H⟩ := H
   replace H : ((spec_BergChild.f k t426 t427).bind fun bt434 => (if (t431 != bt434.2) = true then (laws_FnFirstTree.j0 k l1 t426 t427 t430 t431 true) else ((laws_vSame.f k t430 bt434.1).bind fun t438 => (laws_FnFirstTree.j0 k l1 t426 t427 t430 t431 (!t438))))) = some r := H
   have A6 := Aside0.mk A60
   clear A60
   replace H := Option.bind_eq_some_iff.mp H
   obtain ⟨⟨t434, t435⟩, A70, H⟩ := H
   replace H : (if (t431 != t435) = true then (laws_FnFirstTree.j0 k l1 t426 t427 t430 t431 true) else ((laws_vSame.f k t430 t434).bind fun t438 => (laws_FnFirstTree.j0 k l1 t426 t427 t430 t431 (!t438)))) = some r := H
   have A7 := Aside0.mk A70
   clear A70
   have HC8 := Aside0.mk H
   clear H
   go_enter Try.func4, Try.ntmps4
   go_upto_region 6 with (first | (go_at_call 7; (with_reducible refine (laws_big.calls _ _ l0 _ _ l1 false _ ?side1 ?side2 ?side3 ?side4 A3.out).mono ?_); (case side1 => exact cC HR0.out); (case side2 => exact HC0.out); (case side3 => exact cC HR1.out); (case side4 => exact HC1.out); rintro e w' ⟨rfl, ⟨nd, rfl⟩⟩; (try exact dD)) | (go_at_call 22; (with_reducible refine (spec_DrawBergChild.calls k _ _ l0 t426 t427 _ ?side1 ?side2 A5.out).mono ?_); (case side1 => exact cC HR0.out); (case side2 => exact HC0.out); rintro e w9 ⟨v428, rfl, ho0, hb⟩; have n0_ := Aside0.mk (Kd.R_lower ho0 (below_size bq)); have n1_ := Aside0.mk (below_step bq hb); clear HB; have HO429 := n0_; have HB := n1_; clear n0_ n1_; (try clear hb); (try clear hb2); (try clear hk); (try clear hi); (try clear ho0); obtain ⟨Ao10, co10, eo10⟩ := Kd.R_slice HO429.out; subst eo10) | (go_at_call 23; (with_reducible refine (impl_BergChild.calls k _ _ t426 t427 t430 t431 _ ?side1 ?side2 A6.out).mono ?_); (case side1 => exact cC (Kd.R_reads' HO429.out).2.2); (case side2 => exact (Kd.R_reads' HO429.out).2.1); rintro e w11 ⟨v432, rfl, ho0, hb⟩; have n0_ := Aside0.mk (Kd.R_elder' (rA HO429) (Kd.R_base ho0) hb); have n1_ := Aside0.mk (Kd.R_lower (Kd.R_new' ho0 (Kd.R_lt (rA HO429))) (below_size bq)); have n2_ := Aside0.mk (below_step bq hb); clear HO429; clear HB; have HO429 := n0_; have HO433 := n1_; have HB := n2_; clear n0_ n1_ n2_; (try clear hb); (try clear hb2); (try clear hk); (try clear hi); (try clear ho0)) | (go_at_call 24; (with_reducible refine (spec_BergChild.calls k _ _ t426 t427 t434 t435 _ ?side1 ?side2 A7.out).mono ?_); (case side1 => exact cC (Kd.R_reads' HO429.out).2.2); (case side2 => exact (Kd.R_reads' HO429.out).2.1); rintro e w12 ⟨v436, rfl, ho0, hb⟩; have n0_ := Aside0.mk (Kd.R_elder' (rA HO429) (Kd.R_base ho0) hb); have n1_ := Aside0.mk (Kd.R_elder' (rA HO433) (Kd.R_base ho0) hb); have n2_ := Aside0.mk (Kd.R_lower (Kd.R_new' (Kd.R_new' ho0 (Kd.R_lt (rA HO429))) (Kd.R_lt (rA HO433))) (below_size bq)); have n3_ := Aside0.mk (below_step bq hb); clear HO429; clear HO433; clear HB; have HO429 := n0_; have HO433 := n1_; have HO437 := n2_; have HB := n3_; clear n0_ n1_ n2_ n3_; (try clear hb); (try clear hb2); (try clear hk); (try clear hi); (try clear ho0)))
   repeat (go_quiet (first | (go_at_call 7; (with_reducible refine (laws_big.calls _ _ l0 _ _ l1 false _ ?side1 ?side2 ?side3 ?side4 A3.out).mono ?_); (case side1 => exact cC HR0.out); (case side2 => exact HC0.out); (case side3 => exact cC HR1.out); (case side4 => exact HC1.out); rintro e w' ⟨rfl, ⟨nd, rfl⟩⟩; (try exact dD)) | (go_at_call 22; (with_reducible refine (spec_DrawBergChild.calls k _ _ l0 t426 t427 _ ?side1 ?side2 A5.out).mono ?_); (case side1 => exact cC HR0.out); (case side2 => exact HC0.out); rintro e w9 ⟨v428, rfl, ho0, hb⟩; have n0_ := Aside0.mk (Kd.R_lower ho0 (below_size bq)); have n1_ := Aside0.mk (below_step bq hb); clear HB; have HO429 := n0_; have HB := n1_; clear n0_ n1_; (try clear hb); (try clear hb2); (try clear hk); (try clear hi); (try clear ho0); obtain ⟨Ao10, co10, eo10⟩ := Kd.R_slice HO429.out; subst eo10) | (go_at_call 23; (with_reducible refine (impl_BergChild.calls k _ _ t426 t427 t430 t431 _ ?side1 ?side2 A6.out).mono ?_); (case side1 => exact cC (Kd.R_reads' HO429.out).2.2); (case side2 => exact (Kd.R_reads' HO429.out).2.1); rintro e w11 ⟨v432, rfl, ho0, hb⟩; have n0_ := Aside0.mk (Kd.R_elder' (rA HO429) (Kd.R_base ho0) hb); have n1_ := Aside0.mk (Kd.R_lower (Kd.R_new' ho0 (Kd.R_lt (rA HO429))) (below_size bq)); have n2_ := Aside0.mk (below_step bq hb); clear HO429; clear HB; have HO429 := n0_; have HO433 := n1_; have HB := n2_; clear n0_ n1_ n2_; (try clear hb); (try clear hb2); (try clear hk); (try clear hi); (try clear ho0)) | (go_at_call 24; (with_reducible refine (spec_BergChild.calls k _ _ t426 t427 t434 t435 _ ?side1 ?side2 A7.out).mono ?_); (case side1 => exact cC (Kd.R_reads' HO429.out).2.2); (case side2 => exact (Kd.R_reads' HO429.out).2.1); rintro e w12 ⟨v436, rfl, ho0, hb⟩; have n0_ := Aside0.mk (Kd.R_elder' (rA HO429) (Kd.R_base ho0) hb); have n1_ := Aside0.mk (Kd.R_elder' (rA HO433) (Kd.R_base ho0) hb); have n2_ := Aside0.mk (Kd.R_lower (Kd.R_new' (Kd.R_new' ho0 (Kd.R_lt (rA HO429))) (Kd.R_lt (rA HO433))) (below_size bq)); have n3_ := Aside0.mk (below_step bq hb); clear HO429; clear HO433; clear HB; have HO429 := n0_; have HO433 := n1_; have HO437 := n2_; have HB := n3_; clear n0_ n1_ n2_ n3_; (try clear hb); (try clear hb2); (try clear hk); (try clear hi); (try clear ho0))); go_upto_region 6 with (first | (go_at_call 7; (with_reducible refine (laws_big.calls _ _ l0 _ _ l1 false _ ?side1 ?side2 ?side3 ?side4 A3.out).mono ?_); (case side1 => exact cC HR0.out); (case side2 => exact HC0.out); (case side3 => exact cC HR1.out); (case side4 => exact HC1.out); rintro e w' ⟨rfl, ⟨nd, rfl⟩⟩; (try exact dD)) | (go_at_call 22; (with_reducible refine (spec_DrawBergChild.calls k _ _ l0 t426 t427 _ ?side1 ?side2 A5.out).mono ?_); (case side1 => exact cC HR0.out); (case side2 => exact HC0.out); rintro e w9 ⟨v428, rfl, ho0, hb⟩; have n0_ := Aside0.mk (Kd.R_lower ho0 (below_size bq)); have n1_ := Aside0.mk (below_step bq hb); clear HB; have HO429 := n0_; have HB := n1_; clear n0_ n1_; (try clear hb); (try clear hb2); (try clear hk); (try clear hi); (try clear ho0); obtain ⟨Ao10, co10, eo10⟩ := Kd.R_slice HO429.out; subst eo10) | (go_at_call 23; (with_reducible refine (impl_BergChild.calls k _ _ t426 t427 t430 t431 _ ?side1 ?side2 A6.out).mono ?_); (case side1 => exact cC (Kd.R_reads' HO429.out).2.2); (case side2 => exact (Kd.R_reads' HO429.out).2.1); rintro e w11 ⟨v432, rfl, ho0, hb⟩; have n0_ := Aside0.mk (Kd.R_elder' (rA HO429) (Kd.R_base ho0) hb); have n1_ := Aside0.mk (Kd.R_lower (Kd.R_new' ho0 (Kd.R_lt (rA HO429))) (below_size bq)); have n2_ := Aside0.mk (below_step bq hb); clear HO429; clear HB; have HO429 := n0_; have HO433 := n1_; have HB := n2_; clear n0_ n1_ n2_; (try clear hb); (try clear hb2); (try clear hk); (try clear hi); (try clear ho0)) | (go_at_call 24; (with_reducible refine (spec_BergChild.calls k _ _ t426 t427 t434 t435 _ ?side1 ?side2 A7.out).mono ?_); (case side1 => exact cC (Kd.R_reads' HO429.out).2.2); (case side2 => exact (Kd.R_reads' HO429.out).2.1); rintro e w12 ⟨v436, rfl, ho0, hb⟩; have n0_ := Aside0.mk (Kd.R_elder' (rA HO429) (Kd.R_base ho0) hb); have n1_ := Aside0.mk (Kd.R_elder' (rA HO433) (Kd.R_base ho0) hb); have n2_ := Aside0.mk (Kd.R_lower (Kd.R_new' (Kd.R_new' ho0 (Kd.R_lt (rA HO429))) (Kd.R_lt (rA HO433))) (below_size bq)); have n3_ := Aside0.mk (below_step bq hb); clear HO429; clear HO433; clear HB; have HO429 := n0_; have HO433 := n1_; have HO437 := n2_; have HB := n3_; clear n0_ n1_ n2_ n3_; (try clear hb); (try clear hb2); (try clear hk); (try clear hi); (try clear ho0))))
   (try simp only [Act.put, List.setIfInBounds_toArray, List.set_cons_zero, List.set_cons_succ])
   go_cut [69] (fun v69 wc => ∃ (kq : Nat) (x69_7 : Bool), v69 = .bool x69_7 ∧ Aside0 (laws_FnFirstTree.j0 kq l1 t426 t427 t430 t431 x69_7 = some r) ∧ Aside0 (kq ≤ k) ∧ Aside0 (Kd.R (Kd.int .i64) 3 wc w.heap.size (fun k_ => some k_ ≠ (v432 : Value).ownBlock) (.slice Ao10 t426.length co10) t426) ∧ Aside0 (Kd.R (Kd.int .i64) 3 wc w.heap.size (fun k_ => some k_ ≠ ((.slice Ao10 t426.length co10) : Value).ownBlock) v432 t430) ∧ Aside0 (Below w.heap.size w wc))
   case first =>
    as_aux_lemma =>
     have H := HC8.out
     clear HC8
     by_cases c13 : (t431 != t435) = true
     ·
      rw [if_pos c13] at H
      exact absurd (H.trans (congrArg some hrT)) (fun h_ => laws_FnFirstTree.j0_no h_)
     ·
      rw [if_neg c13] at H
      have c13b0 : (t431 != t435) = false := by simpa using c13
      (try (have c13b1 : decide (t431 = t435) = true := by simpa using c13))
      (try (have c13b2 : (t431 == t435) = true := by simpa using c13))
      clear c13
      (first | rw [c13b0] | (simp only [i64_w, i32_w]; rw [c13b0]) | skip)
      replace H := Option.bind_eq_some_iff.mp H
      obtain ⟨t438, A140, H⟩ := H
      replace H : (laws_FnFirstTree.j0 k l1 t426 t427 t430 t431 (!t438)) = some r := H
      have A14 := Aside0.mk A140
      clear A140
      have H' := Aside0.mk H
      clear H
      obtain ⟨Ao15, co15, eo15⟩ := Kd.R_slice HO433.out
      subst eo15
      obtain ⟨Ao16, co16, eo16⟩ := Kd.R_slice HO437.out
      subst eo16
      go_wp2_with (first | (go_at_call 11; (with_reducible refine (laws_vSame.calls k _ _ t430 _ _ t434 t438 _ ?side1 ?side2 ?side3 ?side4 A14.out).mono ?_); (case side1 => exact cC (Kd.R_reads' HO433.out).2.2); (case side2 => exact (Kd.R_reads' HO433.out).2.1); (case side3 => exact cC (Kd.R_reads' HO437.out).2.2); (case side4 => exact (Kd.R_reads' HO437.out).2.1); rintro e w' ⟨rfl, ⟨nd, rfl⟩⟩; (try exact dD)))
      repeat (go_quiet (first | (go_at_call 11; (with_reducible refine (laws_vSame.calls k _ _ t430 _ _ t434 t438 _ ?side1 ?side2 ?side3 ?side4 A14.out).mono ?_); (case side1 => exact cC (Kd.R_reads' HO433.out).2.2); (case side2 => exact (Kd.R_reads' HO433.out).2.1); (case side3 => exact cC (Kd.R_reads' HO437.out).2.2); (case side4 => exact (Kd.R_reads' HO437.out).2.1); rintro e w' ⟨rfl, ⟨nd, rfl⟩⟩; (try exact dD))); try go_wp2_with (first | (go_at_call 11; (with_reducible refine (laws_vSame.calls k _ _ t430 _ _ t434 t438 _ ?side1 ?side2 ?side3 ?side4 A14.out).mono ?_); (case side1 => exact cC (Kd.R_reads' HO433.out).2.2); (case side2 => exact (Kd.R_reads' HO433.out).2.1); (case side3 => exact cC (Kd.R_reads' HO437.out).2.2); (case side4 => exact (Kd.R_reads' HO437.out).2.1); rintro e w' ⟨rfl, ⟨nd, rfl⟩⟩; (try exact dD))))
      go_meet
      case rel => exact ⟨_, (!t438), e2, H', ⟨by first | omega | exact Nat.le_refl _⟩, ⟨by (with_reducible repeat (first | apply Kd.R_alloc | apply Kd.R_drewN | apply Kd.R_drew)); exact Kd.R_mono HO429.out (fun _ hk => hk.1.2)⟩, ⟨by (with_reducible repeat (first | apply Kd.R_alloc | apply Kd.R_drewN | apply Kd.R_drew)); exact Kd.R_mono HO433.out (fun _ hk => hk.1.2)⟩, ⟨bq⟩⟩
   case rest =>
    as_aux_lemma =>
     clear HC8; (try clear c1); (try clear p2); (try clear c4); (try clear c13); (try clear c13b0); (try clear c13b1); (try clear c13b2)
     obtain ⟨kq, x69_7, rfl, HA, HJ7, HO_5, HO_7, HB⟩ := hcut
     cases kq with
     | zero => exact absurd HA.out (by simp [laws_FnFirstTree.j0])
     | succ kj7 =>
      have H := HA.out
      clear HA
      simp only [laws_FnFirstTree.j0] at H
      by_cases c17 : x69_7 = true
      ·
       subst c17
       have H1 : (some false) = some r := by rw [if_pos rfl] at H; exact H
       exact absurd (H1.trans (congrArg some hrT)) (by simp)
      ·
       as_aux_lemma =>
        replace c17 := Bool.eq_false_iff.mpr c17
        subst c17
        have H1 : ((some (([(([1, 0, 0] : List Int)), (([0, 1, 0] : List Int)), (([0, 0, (-1)] : List Int))] : List (List Int)) : List (List Int))).bind fun y448 => ((spec_DrawBergMatrix.f l1).bind fun t452 => ((impl_BergMatrix.f t452).bind fun bt453 => ((spec_BergMatrix.f t452).bind fun bt458 => (if (bt453.2 != bt458.2) = true then (laws_FnFirstTree.j1 kj7 l1 t426 t427 t430 t431 bt453.2 true y448 bt453.1) else ((laws_vSameLists.f kj7 bt453.1 bt458.1).bind fun t463 => (if t463 = true then (if t452 ≥ 0 then (laws_FnFirstTree.j1 kj7 l1 t426 t427 t430 t431 bt453.2 (bt453.2 != (decide (t452 ≤ 2))) y448 bt453.1) else (laws_FnFirstTree.j1 kj7 l1 t426 t427 t430 t431 bt453.2 (bt453.2 != false) y448 bt453.1)) else (laws_FnFirstTree.j1 kj7 l1 t426 t427 t430 t431 bt453.2 true y448 bt453.1)))))))) = some r := by rw [if_neg (show ¬ (false = true) by decide)] at H; exact H
        clear H
        have H := H1
        clear H1
        obtain ⟨y439, hy439⟩ : ∃ y_ : List Int, y_ = (([1, 0, 0] : List Int)) := ⟨_, rfl⟩
        replace H : ((some (([y439, (([0, 1, 0] : List Int)), (([0, 0, (-1)] : List Int))] : List (List Int)) : List (List Int))).bind fun y448 => ((spec_DrawBergMatrix.f l1).bind fun t452 => ((impl_BergMatrix.f t452).bind fun bt453 => ((spec_BergMatrix.f t452).bind fun bt458 => (if (bt453.2 != bt458.2) = true then (laws_FnFirstTree.j1 kj7 l1 t426 t427 t430 t431 bt453.2 true y448 bt453.1) else ((laws_vSameLists.f kj7 bt453.1 bt458.1).bind fun t463 => (if t463 = true then (if t452 ≥ 0 then (laws_FnFirstTree.j1 kj7 l1 t426 t427 t430 t431 bt453.2 (bt453.2 != (decide (t452 ≤ 2))) y448 bt453.1) else (laws_FnFirstTree.j1 kj7 l1 t426 t427 t430 t431 bt453.2 (bt453.2 != false) y448 bt453.1)) else (laws_FnFirstTree.j1 kj7 l1 t426 t427 t430 t431 bt453.2 true y448 bt453.1)))))))) = some r := by first | (rw [hy439]; with_reducible exact H) | (have H2_ := (Option.bind_some _ _).symm.trans H; rw [hy439]; with_reducible exact H2_) | (have H2_ := (Option.bind_some _ _).symm.trans H; with_reducible exact H2_) | with_reducible exact H | (rw [hy439]; exact H) | exact H
        have Ny439 := Aside0.mk hy439
        clear hy439
        obtain ⟨y442, hy442⟩ : ∃ y_ : List Int, y_ = (([0, 1, 0] : List Int)) := ⟨_, rfl⟩
        replace H : ((some (([y439, y442, (([0, 0, (-1)] : List Int))] : List (List Int)) : List (List Int))).bind fun y448 => ((spec_DrawBergMatrix.f l1).bind fun t452 => ((impl_BergMatrix.f t452).bind fun bt453 => ((spec_BergMatrix.f t452).bind fun bt458 => (if (bt453.2 != bt458.2) = true then (laws_FnFirstTree.j1 kj7 l1 t426 t427 t430 t431 bt453.2 true y448 bt453.1) else ((laws_vSameLists.f kj7 bt453.1 bt458.1).bind fun t463 => (if t463 = true then (if t452 ≥ 0 then (laws_FnFirstTree.j1 kj7 l1 t426 t427 t430 t431 bt453.2 (bt453.2 != (decide (t452 ≤ 2))) y448 bt453.1) else (laws_FnFirstTree.j1 kj7 l1 t426 t427 t430 t431 bt453.2 (bt453.2 != false) y448 bt453.1)) else (laws_FnFirstTree.j1 kj7 l1 t426 t427 t430 t431 bt453.2 true y448 bt453.1)))))))) = some r := by first | (rw [hy442]; with_reducible exact H) | (have H2_ := (Option.bind_some _ _).symm.trans H; rw [hy442]; with_reducible exact H2_) | (have H2_ := (Option.bind_some _ _).symm.trans H; with_reducible exact H2_) | with_reducible exact H | (rw [hy442]; exact H) | exact H
        have Ny442 := Aside0.mk hy442
        clear hy442
        obtain ⟨y445, hy445⟩ : ∃ y_ : List Int, y_ = (([0, 0, (-1)] : List Int)) := ⟨_, rfl⟩
        replace H : ((some (([y439, y442, y445] : List (List Int)) : List (List Int))).bind fun y448 => ((spec_DrawBergMatrix.f l1).bind fun t452 => ((impl_BergMatrix.f t452).bind fun bt453 => ((spec_BergMatrix.f t452).bind fun bt458 => (if (bt453.2 != bt458.2) = true then (laws_FnFirstTree.j1 kj7 l1 t426 t427 t430 t431 bt453.2 true y448 bt453.1) else ((laws_vSameLists.f kj7 bt453.1 bt458.1).bind fun t463 => (if t463 = true then (if t452 ≥ 0 then (laws_FnFirstTree.j1 kj7 l1 t426 t427 t430 t431 bt453.2 (bt453.2 != (decide (t452 ≤ 2))) y448 bt453.1) else (laws_FnFirstTree.j1 kj7 l1 t426 t427 t430 t431 bt453.2 (bt453.2 != false) y448 bt453.1)) else (laws_FnFirstTree.j1 kj7 l1 t426 t427 t430 t431 bt453.2 true y448 bt453.1)))))))) = some r := by first | (rw [hy445]; with_reducible exact H) | (have H2_ := (Option.bind_some _ _).symm.trans H; rw [hy445]; with_reducible exact H2_) | (have H2_ := (Option.bind_some _ _).symm.trans H; with_reducible exact H2_) | with_reducible exact H | (rw [hy445]; exact H) | exact H
        have Ny445 := Aside0.mk hy445
        clear hy445
        obtain ⟨y448, hy448⟩ : ∃ y_ : List (List Int), y_ = (([y439, y442, y445] : List (List Int))) := ⟨_, rfl⟩
        replace H : ((spec_DrawBergMatrix.f l1).bind fun t452 => ((impl_BergMatrix.f t452).bind fun bt453 => ((spec_BergMatrix.f t452).bind fun bt458 => (if (bt453.2 != bt458.2) = true then (laws_FnFirstTree.j1 kj7 l1 t426 t427 t430 t431 bt453.2 true y448 bt453.1) else ((laws_vSameLists.f kj7 bt453.1 bt458.1).bind fun t463 => (if t463 = true then (if t452 ≥ 0 then (laws_FnFirstTree.j1 kj7 l1 t426 t427 t430 t431 bt453.2 (bt453.2 != (decide (t452 ≤ 2))) y448 bt453.1) else (laws_FnFirstTree.j1 kj7 l1 t426 t427 t430 t431 bt453.2 (bt453.2 != false) y448 bt453.1)) else (laws_FnFirstTree.j1 kj7 l1 t426 t427 t430 t431 bt453.2 true y448 bt453.1))))))) = some r := by first | (rw [hy448]; with_reducible exact H) | (have H2_ := (Option.bind_some _ _).symm.trans H; rw [hy448]; with_reducible exact H2_) | (have H2_ := (Option.bind_some _ _).symm.trans H; with_reducible exact H2_) | with_reducible exact H | (rw [hy448]; exact H) | exact H
        have Ny448 := Aside0.mk hy448
        clear hy448
        replace H := Option.bind_eq_some_iff.mp H
        obtain ⟨t452, A180, H⟩ := H
        replace H : ((impl_BergMatrix.f t452).bind fun bt453 => ((spec_BergMatrix.f t452).bind fun bt458 => (if (bt453.2 != bt458.2) = true then (laws_FnFirstTree.j1 kj7 l1 t426 t427 t430 t431 bt453.2 true y448 bt453.1) else ((laws_vSameLists.f kj7 bt453.1 bt458.1).bind fun t463 => (if t463 = true then (if t452 ≥ 0 then (laws_FnFirstTree.j1 kj7 l1 t426 t427 t430 t431 bt453.2 (bt453.2 != (decide (t452 ≤ 2))) y448 bt453.1) else (laws_FnFirstTree.j1 kj7 l1 t426 t427 t430 t431 bt453.2 (bt453.2 != false) y448 bt453.1)) else (laws_FnFirstTree.j1 kj7 l1 t426 t427 t430 t431 bt453.2 true y448 bt453.1)))))) = some r := H
        have A18 := Aside0.mk A180
        clear A180
        replace H := Option.bind_eq_some_iff.mp H
        obtain ⟨⟨t453, t456⟩, A190, H⟩ := H
        replace H : ((spec_BergMatrix.f t452).bind fun bt458 => (if (t456 != bt458.2) = true then (laws_FnFirstTree.j1 kj7 l1 t426 t427 t430 t431 t456 true y448 t453) else ((laws_vSameLists.f kj7 t453 bt458.1).bind fun t463 => (if t463 = true then (if t452 ≥ 0 then (laws_FnFirstTree.j1 kj7 l1 t426 t427 t430 t431 t456 (t456 != (decide (t452 ≤ 2))) y448 t453) else (laws_FnFirstTree.j1 kj7 l1 t426 t427 t430 t431 t456 (t456 != false) y448 t453)) else (laws_FnFirstTree.j1 kj7 l1 t426 t427 t430 t431 t456 true y448 t453))))) = some r := H
        have A19 := Aside0.mk A190
        clear A190
        replace H := Option.bind_eq_some_iff.mp H
        obtain ⟨⟨t458, t461⟩, A200, H⟩ := H
        replace H : (if (t456 != t461) = true then (laws_FnFirstTree.j1 kj7 l1 t426 t427 t430 t431 t456 true y448 t453) else ((laws_vSameLists.f kj7 t453 t458).bind fun t463 => (if t463 = true then (if t452 ≥ 0 then (laws_FnFirstTree.j1 kj7 l1 t426 t427 t430 t431 t456 (t456 != (decide (t452 ≤ 2))) y448 t453) else (laws_FnFirstTree.j1 kj7 l1 t426 t427 t430 t431 t456 (t456 != false) y448 t453)) else (laws_FnFirstTree.j1 kj7 l1 t426 t427 t430 t431 t456 true y448 t453)))) = some r := H
        have A20 := Aside0.mk A200
        clear A200
        have HC21 := Aside0.mk H
        clear H
        go_upto_region 12 with (first | ((with_reducible refine gate_dst (N := 70) rfl ?_); (try (refine gate_guard (by rfl) ?_; dsimp only)); refine Kd.R_lit (Kd.int .i64) _ 3 ?hg (N := 70) ?hd (xs := ([1, 0, 0] : List Int)) (inner := [.int .i64 1, .int .i64 0, .int .i64 0]) (ok := fun _ => True) (okp := fun _ => True) ?hr ?hp (fun _ hk => hk) trivial (Below.refl _ _) (Nat.le_refl _) (by simp) ?_; (case hd => rfl); (case hg => rfl); (case hr => first | (go_simp; done) | (go_simp; rfl)); (case hp => exact (Reps.one (show Kd.M (Kd.int .i64) _ _ _ 1 [.int .i64 1] from rfl) (Reps.one (show Kd.M (Kd.int .i64) _ _ _ 0 [.int .i64 0] from rfl) (Reps.one (show Kd.M (Kd.int .i64) _ _ _ 0 [.int .i64 0] from rfl) (Reps.none _ _))))); intro v440 w22 ho23 hb hg_ hnew_; clear hg_ hnew_; (first | rw [← Ny439.out] at ho23 | (simp only [Int.reduceToNat] at ho23; rw [← Ny439.out] at ho23)); have n0_ := Aside0.mk (Kd.R_elder' (rA HO_5) (Kd.R_base ho23) hb); have n1_ := Aside0.mk (Kd.R_elder' (rA HO_7) (Kd.R_base ho23) hb); have n2_ := Aside0.mk (Kd.R_lower (Kd.R_new' (Kd.R_new' ho23 (Kd.R_lt (rA HO_5))) (Kd.R_lt (rA HO_7))) (below_size bq)); have n3_ := Aside0.mk (below_step bq hb); clear HO_5; clear HO_7; clear HB; have HO_5 := n0_; have HO_7 := n1_; have HO441 := n2_; have HB := n3_; clear n0_ n1_ n2_ n3_; clear hb ho23) | ((with_reducible refine gate_dst (N := 71) rfl ?_); (try (refine gate_guard (by rfl) ?_; dsimp only)); refine Kd.R_lit (Kd.int .i64) _ 3 ?hg (N := 71) ?hd (xs := ([0, 1, 0] : List Int)) (inner := [.int .i64 0, .int .i64 1, .int .i64 0]) (ok := fun _ => True) (okp := fun _ => True) ?hr ?hp (fun _ hk => hk) trivial (Below.refl _ _) (Nat.le_refl _) (by simp) ?_; (case hd => rfl); (case hg => rfl); (case hr => first | (go_simp; done) | (go_simp; rfl)); (case hp => exact (Reps.one (show Kd.M (Kd.int .i64) _ _ _ 0 [.int .i64 0] from rfl) (Reps.one (show Kd.M (Kd.int .i64) _ _ _ 1 [.int .i64 1] from rfl) (Reps.one (show Kd.M (Kd.int .i64) _ _ _ 0 [.int .i64 0] from rfl) (Reps.none _ _))))); intro v443 w24 ho25 hb hg_ hnew_; clear hg_ hnew_; (first | rw [← Ny442.out] at ho25 | (simp only [Int.reduceToNat] at ho25; rw [← Ny442.out] at ho25)); have n0_ := Aside0.mk (Kd.R_elder' (rA HO_5) (Kd.R_base ho25) hb); have n1_ := Aside0.mk (Kd.R_elder' (rA HO_7) (Kd.R_base ho25) hb); have n2_ := Aside0.mk (Kd.R_elder' (rA HO441) (Kd.R_base ho25) hb); have n3_ := Aside0.mk (Kd.R_lower (Kd.R_new' (Kd.R_new' (Kd.R_new' ho25 (Kd.R_lt (rA HO_5))) (Kd.R_lt (rA HO_7))) (Kd.R_lt (rA HO441))) (below_size bq)); have n4_ := Aside0.mk (below_step bq hb); clear HO_5; clear HO_7; clear HO441; clear HB; have HO_5 := n0_; have HO_7 := n1_; have HO441 := n2_; have HO444 := n3_; have HB := n4_; clear n0_ n1_ n2_ n3_ n4_; clear hb ho25) | ((with_reducible refine gate_dst (N := 72) rfl ?_); (try (refine gate_guard (by rfl) ?_; dsimp only)); refine Kd.R_lit (Kd.int .i64) _ 3 ?hg (N := 72) ?hd (xs := ([0, 0, (-1)] : List Int)) (inner := [.int .i64 0, .int .i64 0, .int .i64 (-1)]) (ok := fun _ => True) (okp := fun _ => True) ?hr ?hp (fun _ hk => hk) trivial (Below.refl _ _) (Nat.le_refl _) (by simp) ?_; (case hd => rfl); (case hg => rfl); (case hr => first | (go_simp; done) | (go_simp; rfl)); (case hp => exact (Reps.one (show Kd.M (Kd.int .i64) _ _ _ 0 [.int .i64 0] from rfl) (Reps.one (show Kd.M (Kd.int .i64) _ _ _ 0 [.int .i64 0] from rfl) (Reps.one (show Kd.M (Kd.int .i64) _ _ _ (-1) [.int .i64 (-1)] from rfl) (Reps.none _ _))))); intro v446 w26 ho27 hb hg_ hnew_; clear hg_ hnew_; (first | rw [← Ny445.out] at ho27 | (simp only [Int.reduceToNat] at ho27; rw [← Ny445.out] at ho27)); have n0_ := Aside0.mk (Kd.R_elder' (rA HO_5) (Kd.R_base ho27) hb); have n1_ := Aside0.mk (Kd.R_elder' (rA HO_7) (Kd.R_base ho27) hb); have n2_ := Aside0.mk (Kd.R_elder' (rA HO441) (Kd.R_base ho27) hb); have n3_ := Aside0.mk (Kd.R_elder' (rA HO444) (Kd.R_base ho27) hb); have n4_ := Aside0.mk (Kd.R_lower (Kd.R_new' (Kd.R_new' (Kd.R_new' (Kd.R_new' ho27 (Kd.R_lt (rA HO_5))) (Kd.R_lt (rA HO_7))) (Kd.R_lt (rA HO441))) (Kd.R_lt (rA HO444))) (below_size bq)); have n5_ := Aside0.mk (below_step bq hb); clear HO_5; clear HO_7; clear HO441; clear HO444; clear HB; have HO_5 := n0_; have HO_7 := n1_; have HO441 := n2_; have HO444 := n3_; have HO447 := n4_; have HB := n5_; clear n0_ n1_ n2_ n3_ n4_ n5_; clear hb ho27; obtain ⟨Ao28, co28, eo28⟩ := Kd.R_slice HO441.out; subst eo28; obtain ⟨Ao29, co29, eo29⟩ := Kd.R_slice HO444.out; subst eo29; obtain ⟨Ao30, co30, eo30⟩ := Kd.R_slice HO447.out; subst eo30) | ((with_reducible refine gate_dst (N := 73) rfl ?_); (try (refine gate_guard (by rfl) ?_; dsimp only)); refine Kd.N_lit (Kd.slice 3 (Kd.int .i64)) _ 24 ?hg (N' := 73) ?hd (xs := ([y439, y442, y445] : List (List Int))) (inner := [.slice Ao28 y439.length co28, .slice Ao29 y442.length co29, .slice Ao30 y445.length co30]) (ok := (fun k_ => some k_ ≠ (.slice Ao10 t426.length co10 : Value).ownBlock ∧ some k_ ≠ (v432 : Value).ownBlock)) (okp := (fun k_ => some k_ ≠ (.slice Ao10 t426.length co10 : Value).ownBlock ∧ some k_ ≠ (v432 : Value).ownBlock)) ?hr ?hp (fun _ hk => hk) ((show ∀ k_, w26.heap.size ≤ k_ → (fun k_ => some k_ ≠ (.slice Ao10 t426.length co10 : Value).ownBlock ∧ some k_ ≠ (v432 : Value).ownBlock) k_ from fun k_ hk => ⟨Kd.fresh' (Kd.R_lt (rA HO_5)) k_ hk, Kd.fresh' (Kd.R_lt (rA HO_7)) k_ hk⟩) _ (Nat.le_refl _)) (Below.refl _ _) (Nat.le_refl _) (by simp) ?_; (case hd => rfl); (case hg => rfl); (case hr => first | (go_simp; done) | (go_simp; rfl)); (case hp => exact (Reps.one (show Kd.FK (Kd.slice 3 (Kd.int .i64)) _ _ y439 [.slice Ao28 y439.length co28] from (Kd.FK_slice_mk (Kd.R_reads' (Kd.R_mono (ok' := (fun k_ => some k_ ≠ (.slice Ao10 t426.length co10 : Value).ownBlock ∧ some k_ ≠ (v432 : Value).ownBlock)) (HO441.out) (fun k_ hk => ⟨hk.1.1.1.2, hk.1.1.2⟩))).2.1 (Kd.R_F (Kd.R_mono (ok' := (fun k_ => some k_ ≠ (.slice Ao10 t426.length co10 : Value).ownBlock ∧ some k_ ≠ (v432 : Value).ownBlock)) (HO441.out) (fun k_ hk => ⟨hk.1.1.1.2, hk.1.1.2⟩))))) (Reps.one (show Kd.FK (Kd.slice 3 (Kd.int .i64)) _ _ y442 [.slice Ao29 y442.length co29] from (Kd.FK_slice_mk (Kd.R_reads' (Kd.R_mono (ok' := (fun k_ => some k_ ≠ (.slice Ao10 t426.length co10 : Value).ownBlock ∧ some k_ ≠ (v432 : Value).ownBlock)) (HO444.out) (fun k_ hk => ⟨hk.1.1.1.2, hk.1.1.2⟩))).2.1 (Kd.R_F (Kd.R_mono (ok' := (fun k_ => some k_ ≠ (.slice Ao10 t426.length co10 : Value).ownBlock ∧ some k_ ≠ (v432 : Value).ownBlock)) (HO444.out) (fun k_ hk => ⟨hk.1.1.1.2, hk.1.1.2⟩))))) (Reps.one (show Kd.FK (Kd.slice 3 (Kd.int .i64)) _ _ y445 [.slice Ao30 y445.length co30] from (Kd.FK_slice_mk (Kd.R_reads' (Kd.R_mono (ok' := (fun k_ => some k_ ≠ (.slice Ao10 t426.length co10 : Value).ownBlock ∧ some k_ ≠ (v432 : Value).ownBlock)) (HO447.out) (fun k_ hk => ⟨hk.1.1.1.2, hk.1.1.2⟩))).2.1 (Kd.R_F (Kd.R_mono (ok' := (fun k_ => some k_ ≠ (.slice Ao10 t426.length co10 : Value).ownBlock ∧ some k_ ≠ (v432 : Value).ownBlock)) (HO447.out) (fun k_ hk => ⟨hk.1.1.1.2, hk.1.1.2⟩))))) (Reps.none _ _))))); intro v449 w31 ho32 hb hg_ hnew_; clear hg_ hnew_; (first | rw [← Ny448.out] at ho32 | (simp only [Int.reduceToNat] at ho32; rw [← Ny448.out] at ho32)); have n0_ := Aside0.mk (Kd.R_below (rA HO_5) hb); have n1_ := Aside0.mk (Kd.R_below (rA HO_7) hb); have n2_ := Aside0.mk (Kd.N_lower ho32 (below_size bq)); have n3_ := Aside0.mk (below_step bq hb); clear HO_5; clear HO_7; clear HB; clear HO441; clear HO444; clear HO447; have HO_5 := n0_; have HO_7 := n1_; have HO450 := n2_; have HB := n3_; clear n0_ n1_ n2_ n3_; clear hb ho32; obtain ⟨Ao33, co33, eo33⟩ := Kd.N_slice HO450.out; subst eo33) | ((with_reducible refine gate_dst (N := 11) rfl ?_); (try (refine gate_guard (by rfl) ?_; dsimp only)); refine box_event ?hg (N := 11) ?hd (cs := #[.slice none 0 0]) (t := 33) ?hr ?_; (case hd => rfl); (case hg => rfl); (case hr => first | (go_simp; done) | (go_simp; rfl)); intro gb451 hg w34 hbox hb; have n0_ := Aside0.mk (Kd.R_below (rA HO_5) hb); have n1_ := Aside0.mk (Kd.R_below (rA HO_7) hb); have n2_ := Aside0.mk (Kd.N_below (Kd.N_elderB (nA HO450) gb451 (Nat.le_of_eq hg.symm)) hb); have n3_ := Aside0.mk (below_step bq hb); have n4_ := Aside0.mk (hbox); have n5_ := Aside0.mk ((by rw [hg]; exact (below_size bq) : w.heap.size ≤ gb451)); have n6_ := Aside0.mk ((by rw [hg]; exact (below_size bq) : w.heap.size ≤ gb451)); clear HO_5; clear HO_7; clear HO450; clear HB; have HO_5 := n0_; have HO_7 := n1_; have HO450 := n2_; have HB := n3_; have BK451 := n4_; have GW451 := n5_; have GE451 := n6_; clear n0_ n1_ n2_ n3_ n4_ n5_ n6_; clear hb hbox hg; have hcz35_0 : w34.cell? ⟨gb451, 0, none⟩ = some (.slice none 0 0) := (blk_cell BK451.out 0).trans rfl; have hfz35_0 := blk_frozen BK451.out 0) | (go_at_call 25; (with_reducible refine (spec_DrawBergMatrix.calls _ _ l1 t452 _ ?side1 ?side2 A18.out).mono ?_); (case side1 => exact Kd.C_below HR1.out (kB HB)); (case side2 => exact HC1.out); rintro e w36 ⟨rfl, hb⟩; have n0_ := Aside0.mk (Kd.R_below (by (with_reducible repeat (first | apply Kd.R_alloc | apply Kd.R_drewN | apply Kd.R_drew)); exact (Kd.R_mono (Kd.R_far (p := ⟨gb451, 0, none⟩) (Kd.R_types HO_5.out BK451.out (by decide)) (fun _ hk => hk.2) (.slice Ao33 y448.length co33)) (fun _ h_ => h_.1))) hb); have n1_ := Aside0.mk (Kd.R_below (by (with_reducible repeat (first | apply Kd.R_alloc | apply Kd.R_drewN | apply Kd.R_drew)); exact (Kd.R_mono (Kd.R_far (p := ⟨gb451, 0, none⟩) (Kd.R_types HO_7.out BK451.out (by decide)) (fun _ hk => hk.2) (.slice Ao33 y448.length co33)) (fun _ h_ => h_.1))) hb); have n2_ := Aside0.mk (Kd.N_below (by (with_reducible repeat (first | apply Kd.N_alloc | apply Kd.N_drewN | apply Kd.N_drew)); exact (Kd.N_mono (Kd.N_far (p := ⟨gb451, 0, none⟩) (Kd.N_mono HO450.out (fun k_ hk => (⟨hk, hk.2⟩ : _ ∧ k_ ≠ gb451))) (fun _ hk => hk.2) (.slice Ao33 y448.length co33)) (fun _ h_ => h_.1))) hb); have n3_ := Aside0.mk (blk_below (g := gb451) (o := .cells #[.slice Ao33 y448.length co33] 33 (0, 0)) (by (with_reducible repeat (first | refine blk_drewN ?_ _ | refine blk_drew ?_ | refine blk_alloc ?_ _)); refine blk_put (cs := #[.slice none 0 0]) ?_ 0 _ rfl; (with_reducible repeat (first | refine blk_drewN ?_ _ | refine blk_drew ?_ | refine blk_alloc ?_ _)); exact BK451.out) hb); have n4_ := Aside0.mk (below_step (kB HB) hb); clear HO_5; clear HO_7; clear HO450; clear BK451; clear HB; have HO_5 := n0_; have HO_7 := n1_; have HO450 := n2_; have BK451 := n3_; have HB := n4_; clear n0_ n1_ n2_ n3_ n4_; (try clear hb); (try clear hb2); (try clear hk); (try clear hi)) | (go_at_call 26; (with_reducible refine (impl_BergMatrix.calls t452 t453 t456 _ A19.out).mono ?_); rintro e w37 ⟨v454, rfl, ho0, hb⟩; have n0_ := Aside0.mk (Kd.R_below (rA HO_5) hb); have n1_ := Aside0.mk (Kd.R_below (rA HO_7) hb); have n2_ := Aside0.mk (Kd.N_elder' (nA HO450) (Kd.N_base ho0) hb); have n3_ := Aside0.mk (Kd.N_lower (Kd.N_mono (ok' := fun k_ => some k_ ≠ (.slice Ao10 t426.length co10 : Value).ownBlock ∧ some k_ ≠ (v432 : Value).ownBlock ∧ some k_ ≠ (.slice Ao33 y448.length co33 : Value).ownBlock ∧ k_ ≠ gb451) ho0 (fun k_ hk_ => ⟨(Kd.fresh' (Kd.R_lt (rA HO_5)) k_ hk_), (Kd.fresh' (Kd.R_lt (rA HO_7)) k_ hk_), (Kd.fresh' (Kd.N_lt (nA HO450)) k_ hk_), (Kd.freshB (g := gb451) (o := .cells #[.slice Ao33 y448.length co33] 33 (0, 0)) (bA BK451) k_ hk_)⟩)) (below_size (kB HB))); have n4_ := Aside0.mk (kK BK451 hb); have n5_ := Aside0.mk (below_step (kB HB) hb); clear HO_5; clear HO_7; clear HO450; clear BK451; clear HB; have HO_5 := n0_; have HO_7 := n1_; have HO450 := n2_; have HO455 := n3_; have BK451 := n4_; have HB := n5_; clear n0_ n1_ n2_ n3_ n4_ n5_; (try clear hb); (try clear hb2); (try clear hk); (try clear hi); (try clear ho0)) | ((with_reducible refine gate_dst (N := 13) rfl ?_); (try (refine gate_guard (by rfl) ?_; dsimp only)); refine box_event ?hg (N := 13) ?hd (cs := #[.slice none 0 0]) (t := 33) ?hr ?_; (case hd => rfl); (case hg => rfl); (case hr => first | (go_simp; done) | (go_simp; rfl)); intro gb457 hg w38 hbox hb; have n0_ := Aside0.mk (Kd.R_below (rA HO_5) hb); have n1_ := Aside0.mk (Kd.R_below (rA HO_7) hb); have n2_ := Aside0.mk (Kd.N_below (Kd.N_elderB (nA HO450) gb457 (Nat.le_of_eq hg.symm)) hb); have n3_ := Aside0.mk (Kd.N_below (Kd.N_elderB (nA HO455) gb457 (Nat.le_of_eq hg.symm)) hb); have n4_ := Aside0.mk (kK BK451 hb); have n5_ := Aside0.mk (below_step (kB HB) hb); have n6_ := Aside0.mk (hbox); have n7_ := Aside0.mk ((by rw [hg]; exact (below_size (kB HB)) : w.heap.size ≤ gb457)); have n8_ := Aside0.mk ((by rw [hg]; exact (below_size (kB HB)) : w.heap.size ≤ gb457)); have n9_ := Aside0.mk ((by rw [hg]; exact Nat.ne_of_lt (blk_lt (g := gb451) (o := .cells #[.slice Ao33 y448.length co33] 33 (0, 0)) (bA BK451)) : gb451 ≠ gb457)); have n10_ := Aside0.mk ((by rw [hg]; exact Nat.ne_of_gt (blk_lt (g := gb451) (o := .cells #[.slice Ao33 y448.length co33] 33 (0, 0)) (bA BK451)) : gb457 ≠ gb451)); clear HO_5; clear HO_7; clear HO450; clear HO455; clear BK451; clear HB; have HO_5 := n0_; have HO_7 := n1_; have HO450 := n2_; have HO455 := n3_; have BK451 := n4_; have HB := n5_; have BK457 := n6_; have GW457 := n7_; have GE457 := n8_; have NB451_457 := n9_; have NB457_451 := n10_; clear n0_ n1_ n2_ n3_ n4_ n5_ n6_ n7_ n8_ n9_ n10_; clear hb hbox hg; obtain ⟨Ao39, co39, eo39⟩ := Kd.N_slice HO455.out; subst eo39; have hnb40 := NB457_451.out; have hnc40 := NB451_457.out; have hcz41_0 : w38.cell? ⟨gb457, 0, none⟩ = some (.slice none 0 0) := (blk_cell BK457.out 0).trans rfl; have hfz41_0 := blk_frozen BK457.out 0) | (go_at_call 27; (with_reducible refine (spec_BergMatrix.calls t452 t458 t461 _ A20.out).mono ?_); rintro e w42 ⟨v459, rfl, ho0, hb⟩; have n0_ := Aside0.mk (Kd.R_below (by (with_reducible repeat (first | apply Kd.R_alloc | apply Kd.R_drewN | apply Kd.R_drew)); exact (Kd.R_mono (Kd.R_far (p := ⟨gb457, 0, none⟩) (Kd.R_types HO_5.out BK457.out (by decide)) (fun _ hk => hk.2) (.slice Ao39 t453.length co39)) (fun _ h_ => h_.1))) hb); have n1_ := Aside0.mk (Kd.R_below (by (with_reducible repeat (first | apply Kd.R_alloc | apply Kd.R_drewN | apply Kd.R_drew)); exact (Kd.R_mono (Kd.R_far (p := ⟨gb457, 0, none⟩) (Kd.R_types HO_7.out BK457.out (by decide)) (fun _ hk => hk.2) (.slice Ao39 t453.length co39)) (fun _ h_ => h_.1))) hb); have n2_ := Aside0.mk (Kd.N_elder' (by (with_reducible repeat (first | apply Kd.N_alloc | apply Kd.N_drewN | apply Kd.N_drew)); exact (Kd.N_mono (Kd.N_far (p := ⟨gb457, 0, none⟩) (Kd.N_mono HO450.out (fun k_ hk => (⟨hk, hk.2⟩ : _ ∧ k_ ≠ gb457))) (fun _ hk => hk.2) (.slice Ao39 t453.length co39)) (fun _ h_ => h_.1))) (Kd.N_base ho0) hb); have n3_ := Aside0.mk (Kd.N_elder' (by (with_reducible repeat (first | apply Kd.N_alloc | apply Kd.N_drewN | apply Kd.N_drew)); exact (Kd.N_mono (Kd.N_far (p := ⟨gb457, 0, none⟩) (Kd.N_mono HO455.out (fun k_ hk => (⟨hk, hk.2⟩ : _ ∧ k_ ≠ gb457))) (fun _ hk => hk.2) (.slice Ao39 t453.length co39)) (fun _ h_ => h_.1))) (Kd.N_base ho0) hb); have n4_ := Aside0.mk (Kd.N_lower (Kd.N_mono (ok' := fun k_ => some k_ ≠ (.slice Ao10 t426.length co10 : Value).ownBlock ∧ some k_ ≠ (v432 : Value).ownBlock ∧ some k_ ≠ (.slice Ao33 y448.length co33 : Value).ownBlock ∧ some k_ ≠ (.slice Ao39 t453.length co39 : Value).ownBlock ∧ k_ ≠ gb451 ∧ k_ ≠ gb457) ho0 (fun k_ hk_ => ⟨(Kd.fresh' (Kd.R_lt (by (with_reducible repeat (first | apply Kd.R_alloc | apply Kd.R_drewN | apply Kd.R_drew)); exact (Kd.R_mono (Kd.R_far (p := ⟨gb457, 0, none⟩) (Kd.R_types HO_5.out BK457.out (by decide)) (fun _ hk => hk.2) (.slice Ao39 t453.length co39)) (fun _ h_ => h_.1)))) k_ hk_), (Kd.fresh' (Kd.R_lt (by (with_reducible repeat (first | apply Kd.R_alloc | apply Kd.R_drewN | apply Kd.R_drew)); exact (Kd.R_mono (Kd.R_far (p := ⟨gb457, 0, none⟩) (Kd.R_types HO_7.out BK457.out (by decide)) (fun _ hk => hk.2) (.slice Ao39 t453.length co39)) (fun _ h_ => h_.1)))) k_ hk_), (Kd.fresh' (Kd.N_lt (by (with_reducible repeat (first | apply Kd.N_alloc | apply Kd.N_drewN | apply Kd.N_drew)); exact (Kd.N_mono (Kd.N_far (p := ⟨gb457, 0, none⟩) (Kd.N_mono HO450.out (fun k_ hk => (⟨hk, hk.2⟩ : _ ∧ k_ ≠ gb457))) (fun _ hk => hk.2) (.slice Ao39 t453.length co39)) (fun _ h_ => h_.1)))) k_ hk_), (Kd.fresh' (Kd.N_lt (by (with_reducible repeat (first | apply Kd.N_alloc | apply Kd.N_drewN | apply Kd.N_drew)); exact (Kd.N_mono (Kd.N_far (p := ⟨gb457, 0, none⟩) (Kd.N_mono HO455.out (fun k_ hk => (⟨hk, hk.2⟩ : _ ∧ k_ ≠ gb457))) (fun _ hk => hk.2) (.slice Ao39 t453.length co39)) (fun _ h_ => h_.1)))) k_ hk_), (Kd.freshB (g := gb451) (o := .cells #[.slice Ao33 y448.length co33] 33 (0, 0)) (by (with_reducible repeat (first | refine blk_drewN ?_ _ | refine blk_drew ?_ | refine blk_alloc ?_ _)); refine blk_far ?_ NB451_457.out _; (with_reducible repeat (first | refine blk_drewN ?_ _ | refine blk_drew ?_ | refine blk_alloc ?_ _)); exact BK451.out) k_ hk_), (Kd.freshB (g := gb457) (o := .cells #[.slice Ao39 t453.length co39] 33 (0, 0)) (by (with_reducible repeat (first | refine blk_drewN ?_ _ | refine blk_drew ?_ | refine blk_alloc ?_ _)); refine blk_put (cs := #[.slice none 0 0]) ?_ 0 _ rfl; (with_reducible repeat (first | refine blk_drewN ?_ _ | refine blk_drew ?_ | refine blk_alloc ?_ _)); exact BK457.out) k_ hk_)⟩)) (below_size (kB HB))); have n5_ := Aside0.mk (blk_below (g := gb451) (o := .cells #[.slice Ao33 y448.length co33] 33 (0, 0)) (by (with_reducible repeat (first | refine blk_drewN ?_ _ | refine blk_drew ?_ | refine blk_alloc ?_ _)); refine blk_far ?_ NB451_457.out _; (with_reducible repeat (first | refine blk_drewN ?_ _ | refine blk_drew ?_ | refine blk_alloc ?_ _)); exact BK451.out) hb); have n6_ := Aside0.mk (blk_below (g := gb457) (o := .cells #[.slice Ao39 t453.length co39] 33 (0, 0)) (by (with_reducible repeat (first | refine blk_drewN ?_ _ | refine blk_drew ?_ | refine blk_alloc ?_ _)); refine blk_put (cs := #[.slice none 0 0]) ?_ 0 _ rfl; (with_reducible repeat (first | refine blk_drewN ?_ _ | refine blk_drew ?_ | refine blk_alloc ?_ _)); exact BK457.out) hb); have n7_ := Aside0.mk (below_step (kB HB) hb); clear HO_5; clear HO_7; clear HO450; clear HO455; clear BK451; clear BK457; clear HB; have HO_5 := n0_; have HO_7 := n1_; have HO450 := n2_; have HO455 := n3_; have HO460 := n4_; have BK451 := n5_; have BK457 := n6_; have HB := n7_; clear n0_ n1_ n2_ n3_ n4_ n5_ n6_ n7_; (try clear hb); (try clear hb2); (try clear hk); (try clear hi); (try clear ho0)) | ((with_reducible refine gate_dst (N := 15) rfl ?_); (try (refine gate_guard (by rfl) ?_; dsimp only)); refine box_event ?hg (N := 15) ?hd (cs := #[.slice none 0 0]) (t := 33) ?hr ?_; (case hd => rfl); (case hg => rfl); (case hr => first | (go_simp; done) | (go_simp; rfl)); intro gb462 hg w43 hbox hb; have n0_ := Aside0.mk (Kd.R_below (rA HO_5) hb); have n1_ := Aside0.mk (Kd.R_below (rA HO_7) hb); have n2_ := Aside0.mk (Kd.N_below (Kd.N_elderB (nA HO450) gb462 (Nat.le_of_eq hg.symm)) hb); have n3_ := Aside0.mk (Kd.N_below (Kd.N_elderB (nA HO455) gb462 (Nat.le_of_eq hg.symm)) hb); have n4_ := Aside0.mk (Kd.N_below (Kd.N_elderB (nA HO460) gb462 (Nat.le_of_eq hg.symm)) hb); have n5_ := Aside0.mk (kK BK451 hb); have n6_ := Aside0.mk (kK BK457 hb); have n7_ := Aside0.mk (below_step (kB HB) hb); have n8_ := Aside0.mk (hbox); have n9_ := Aside0.mk ((by rw [hg]; exact (below_size (kB HB)) : w.heap.size ≤ gb462)); have n10_ := Aside0.mk ((by rw [hg]; exact (below_size (kB HB)) : w.heap.size ≤ gb462)); have n11_ := Aside0.mk ((by rw [hg]; exact Nat.ne_of_lt (blk_lt (g := gb451) (o := .cells #[.slice Ao33 y448.length co33] 33 (0, 0)) (bA BK451)) : gb451 ≠ gb462)); have n12_ := Aside0.mk ((by rw [hg]; exact Nat.ne_of_gt (blk_lt (g := gb451) (o := .cells #[.slice Ao33 y448.length co33] 33 (0, 0)) (bA BK451)) : gb462 ≠ gb451)); have n13_ := Aside0.mk ((by rw [hg]; exact Nat.ne_of_lt (blk_lt (g := gb457) (o := .cells #[.slice Ao39 t453.length co39] 33 (0, 0)) (bA BK457)) : gb457 ≠ gb462)); have n14_ := Aside0.mk ((by rw [hg]; exact Nat.ne_of_gt (blk_lt (g := gb457) (o := .cells #[.slice Ao39 t453.length co39] 33 (0, 0)) (bA BK457)) : gb462 ≠ gb457)); clear HO_5; clear HO_7; clear HO450; clear HO455; clear HO460; clear BK451; clear BK457; clear HB; have HO_5 := n0_; have HO_7 := n1_; have HO450 := n2_; have HO455 := n3_; have HO460 := n4_; have BK451 := n5_; have BK457 := n6_; have HB := n7_; have BK462 := n8_; have GW462 := n9_; have GE462 := n10_; have NB451_462 := n11_; have NB462_451 := n12_; have NB457_462 := n13_; have NB462_457 := n14_; clear n0_ n1_ n2_ n3_ n4_ n5_ n6_ n7_ n8_ n9_ n10_ n11_ n12_ n13_ n14_; clear hb hbox hg; obtain ⟨Ao44, co44, eo44⟩ := Kd.N_slice HO460.out; subst eo44; have hnb45 := NB462_451.out; have hnc45 := NB451_462.out; have hnb46 := NB462_457.out; have hnc46 := NB457_462.out; have hcz47_0 : w43.cell? ⟨gb462, 0, none⟩ = some (.slice none 0 0) := (blk_cell BK462.out 0).trans rfl; have hfz47_0 := blk_frozen BK462.out 0))
        (try simp only [Act.put, List.setIfInBounds_toArray, List.set_cons_zero, List.set_cons_succ])
        go_cut [107] (fun v107 wc => ∃ (kq : Nat) (x107_20 : Bool), v107 = .bool x107_20 ∧ Aside0 (laws_FnFirstTree.j1 kq l1 t426 t427 t430 t431 t456 x107_20 y448 t453 = some r) ∧ Aside0 (kq ≤ kj7) ∧ Aside0 (Kd.R (Kd.int .i64) 3 wc w.heap.size (fun k_ => some k_ ≠ (v432 : Value).ownBlock) (.slice Ao10 t426.length co10) t426) ∧ Aside0 (Kd.R (Kd.int .i64) 3 wc w.heap.size (fun k_ => some k_ ≠ ((.slice Ao10 t426.length co10) : Value).ownBlock) v432 t430) ∧ Aside0 (Kd.N (Kd.slice 3 (Kd.int .i64)) 24 wc w.heap.size (fun k_ => some k_ ≠ ((.slice Ao10 t426.length co10) : Value).ownBlock ∧ some k_ ≠ (v432 : Value).ownBlock ∧ some k_ ≠ ((.slice Ao39 t453.length co39) : Value).ownBlock ∧ some k_ ≠ ((.slice Ao44 t458.length co44) : Value).ownBlock ∧ k_ ≠ gb451 ∧ k_ ≠ gb457 ∧ k_ ≠ gb462) (.slice Ao33 y448.length co33) y448) ∧ Aside0 (Kd.N (Kd.slice 3 (Kd.int .i64)) 24 wc w.heap.size (fun k_ => some k_ ≠ ((.slice Ao10 t426.length co10) : Value).ownBlock ∧ some k_ ≠ (v432 : Value).ownBlock ∧ some k_ ≠ ((.slice Ao33 y448.length co33) : Value).ownBlock ∧ some k_ ≠ ((.slice Ao44 t458.length co44) : Value).ownBlock ∧ k_ ≠ gb451 ∧ k_ ≠ gb457 ∧ k_ ≠ gb462) (.slice Ao39 t453.length co39) t453) ∧ Aside0 (Kd.N (Kd.slice 3 (Kd.int .i64)) 24 wc w.heap.size (fun k_ => some k_ ≠ ((.slice Ao10 t426.length co10) : Value).ownBlock ∧ some k_ ≠ (v432 : Value).ownBlock ∧ some k_ ≠ ((.slice Ao33 y448.length co33) : Value).ownBlock ∧ some k_ ≠ ((.slice Ao39 t453.length co39) : Value).ownBlock ∧ k_ ≠ gb451 ∧ k_ ≠ gb457 ∧ k_ ≠ gb462) (.slice Ao44 t458.length co44) t458) ∧ Aside0 (wc.heap[gb451]? = some (.cells #[(.slice Ao33 y448.length co33)] 33 (0, 0))) ∧ Aside0 (wc.heap[gb457]? = some (.cells #[(.slice Ao39 t453.length co39)] 33 (0, 0))) ∧ Aside0 (wc.heap[gb462]? = some (.cells #[(.slice Ao44 t458.length co44)] 33 (0, 0))) ∧ Aside0 (Below w.heap.size w wc))
        case first =>
         as_aux_lemma =>
          have H := HC21.out
          clear HC21
          by_cases c48 : (t456 != t461) = true
          ·
           rw [if_pos c48] at H
           exact absurd (H.trans (congrArg some hrT)) (fun h_ => laws_FnFirstTree.j1_no h_)
          ·
           rw [if_neg c48] at H
           have c48b0 : (t456 != t461) = false := by simpa using c48
           (try (have c48b1 : decide (t456 = t461) = true := by simpa using c48))
           (try (have c48b2 : (t456 == t461) = true := by simpa using c48))
           clear c48
           (first | rw [c48b0] | (simp only [i64_w, i32_w]; rw [c48b0]) | skip)
           replace H := Option.bind_eq_some_iff.mp H
           obtain ⟨t463, A490, H⟩ := H
           replace H : (if t463 = true then (if t452 ≥ 0 then (laws_FnFirstTree.j1 kj7 l1 t426 t427 t430 t431 t456 (t456 != (decide (t452 ≤ 2))) y448 t453) else (laws_FnFirstTree.j1 kj7 l1 t426 t427 t430 t431 t456 (t456 != false) y448 t453)) else (laws_FnFirstTree.j1 kj7 l1 t426 t427 t430 t431 t456 true y448 t453)) = some r := H
           have A49 := Aside0.mk A490
           clear A490
           by_cases c50 : t463 = true
           ·
            subst c50
            have H1 : (if t452 ≥ 0 then (laws_FnFirstTree.j1 kj7 l1 t426 t427 t430 t431 t456 (t456 != (decide (t452 ≤ 2))) y448 t453) else (laws_FnFirstTree.j1 kj7 l1 t426 t427 t430 t431 t456 (t456 != false) y448 t453)) = some r := by rw [if_pos rfl] at H; exact H
            clear H
            have H := H1
            clear H1
            by_cases c51 : t452 ≥ 0
            ·
             rw [if_pos c51] at H
             have c51b0 : decide (0 ≤ t452) = true := decide_eq_true c51
             clear c51
             have H' := Aside0.mk H
             clear H
             have hnb52 := NB457_451.out
             have hnc52 := NB451_457.out
             have hnb53 := NB457_462.out
             have hnc53 := NB462_457.out
             have hcz54_0 : w43.cell? ⟨gb457, 0, none⟩ = some (.slice Ao39 t453.length co39) := (blk_cell BK457.out 0).trans rfl
             have hfz54_0 := blk_frozen BK457.out 0
             have hnb55 := NB462_451.out
             have hnc55 := NB451_462.out
             have hcz56_0 : w43.cell? ⟨gb462, 0, none⟩ = some (.slice none 0 0) := (blk_cell BK462.out 0).trans rfl
             have hfz56_0 := blk_frozen BK462.out 0
             go_wp2_with (first | (go_at_call 15; (with_reducible refine (laws_vSameLists.calls kj7 _ _ t453 _ _ t458 true _ ?side1 ?side2 ?side3 ?side4 A49.out).mono ?_); (case side1 => refine (Kd.N_reads' (e := 24) (base := w.heap.size) (ok := fun k_ => ((((some k_ ≠ (.slice Ao10 t426.length co10 : Value).ownBlock ∧ (some k_ ≠ (v432 : Value).ownBlock ∧ (some k_ ≠ (.slice Ao33 y448.length co33 : Value).ownBlock ∧ k_ ≠ gb451))) ∧ k_ ≠ gb457) ∧ some k_ ≠ (.slice Ao44 t458.length co44 : Value).ownBlock) ∧ k_ ≠ gb462)) (n := t453.length) (c := co39) ?_).2.2; exact (by (with_reducible repeat (first | apply Kd.N_alloc | apply Kd.N_drewN | apply Kd.N_drew)); exact (Kd.N_mono (Kd.N_far (p := ⟨gb462, 0, none⟩) (Kd.N_mono HO455.out (fun k_ hk => (⟨hk, hk.2⟩ : _ ∧ k_ ≠ gb462))) (fun _ hk => hk.2) (.slice Ao44 t458.length co44)) (fun _ h_ => h_.1)))); (case side2 => exact (Kd.N_reads' HO455.out).2.1); (case side3 => refine (Kd.N_reads' (e := 24) (base := w.heap.size) (ok := fun k_ => ((some k_ ≠ (.slice Ao10 t426.length co10 : Value).ownBlock ∧ (some k_ ≠ (v432 : Value).ownBlock ∧ (some k_ ≠ (.slice Ao33 y448.length co33 : Value).ownBlock ∧ (some k_ ≠ (.slice Ao39 t453.length co39 : Value).ownBlock ∧ (k_ ≠ gb451 ∧ k_ ≠ gb457))))) ∧ k_ ≠ gb462)) (n := t458.length) (c := co44) ?_).2.2; exact (by (with_reducible repeat (first | apply Kd.N_alloc | apply Kd.N_drewN | apply Kd.N_drew)); exact (Kd.N_mono (Kd.N_far (p := ⟨gb462, 0, none⟩) (Kd.N_mono HO460.out (fun k_ hk => (⟨hk, hk.2⟩ : _ ∧ k_ ≠ gb462))) (fun _ hk => hk.2) (.slice Ao44 t458.length co44)) (fun _ h_ => h_.1)))); (case side4 => exact (Kd.N_reads' HO460.out).2.1); rintro e w' ⟨rfl, ⟨nd, rfl⟩⟩; (try exact dD)))
             repeat (go_quiet (first | (go_at_call 15; (with_reducible refine (laws_vSameLists.calls kj7 _ _ t453 _ _ t458 true _ ?side1 ?side2 ?side3 ?side4 A49.out).mono ?_); (case side1 => refine (Kd.N_reads' (e := 24) (base := w.heap.size) (ok := fun k_ => ((((some k_ ≠ (.slice Ao10 t426.length co10 : Value).ownBlock ∧ (some k_ ≠ (v432 : Value).ownBlock ∧ (some k_ ≠ (.slice Ao33 y448.length co33 : Value).ownBlock ∧ k_ ≠ gb451))) ∧ k_ ≠ gb457) ∧ some k_ ≠ (.slice Ao44 t458.length co44 : Value).ownBlock) ∧ k_ ≠ gb462)) (n := t453.length) (c := co39) ?_).2.2; exact (by (with_reducible repeat (first | apply Kd.N_alloc | apply Kd.N_drewN | apply Kd.N_drew)); exact (Kd.N_mono (Kd.N_far (p := ⟨gb462, 0, none⟩) (Kd.N_mono HO455.out (fun k_ hk => (⟨hk, hk.2⟩ : _ ∧ k_ ≠ gb462))) (fun _ hk => hk.2) (.slice Ao44 t458.length co44)) (fun _ h_ => h_.1)))); (case side2 => exact (Kd.N_reads' HO455.out).2.1); (case side3 => refine (Kd.N_reads' (e := 24) (base := w.heap.size) (ok := fun k_ => ((some k_ ≠ (.slice Ao10 t426.length co10 : Value).ownBlock ∧ (some k_ ≠ (v432 : Value).ownBlock ∧ (some k_ ≠ (.slice Ao33 y448.length co33 : Value).ownBlock ∧ (some k_ ≠ (.slice Ao39 t453.length co39 : Value).ownBlock ∧ (k_ ≠ gb451 ∧ k_ ≠ gb457))))) ∧ k_ ≠ gb462)) (n := t458.length) (c := co44) ?_).2.2; exact (by (with_reducible repeat (first | apply Kd.N_alloc | apply Kd.N_drewN | apply Kd.N_drew)); exact (Kd.N_mono (Kd.N_far (p := ⟨gb462, 0, none⟩) (Kd.N_mono HO460.out (fun k_ hk => (⟨hk, hk.2⟩ : _ ∧ k_ ≠ gb462))) (fun _ hk => hk.2) (.slice Ao44 t458.length co44)) (fun _ h_ => h_.1)))); (case side4 => exact (Kd.N_reads' HO460.out).2.1); rintro e w' ⟨rfl, ⟨nd, rfl⟩⟩; (try exact dD))); try go_wp2_with (first | (go_at_call 15; (with_reducible refine (laws_vSameLists.calls kj7 _ _ t453 _ _ t458 true _ ?side1 ?side2 ?side3 ?side4 A49.out).mono ?_); (case side1 => refine (Kd.N_reads' (e := 24) (base := w.heap.size) (ok := fun k_ => ((((some k_ ≠ (.slice Ao10 t426.length co10 : Value).ownBlock ∧ (some k_ ≠ (v432 : Value).ownBlock ∧ (some k_ ≠ (.slice Ao33 y448.length co33 : Value).ownBlock ∧ k_ ≠ gb451))) ∧ k_ ≠ gb457) ∧ some k_ ≠ (.slice Ao44 t458.length co44 : Value).ownBlock) ∧ k_ ≠ gb462)) (n := t453.length) (c := co39) ?_).2.2; exact (by (with_reducible repeat (first | apply Kd.N_alloc | apply Kd.N_drewN | apply Kd.N_drew)); exact (Kd.N_mono (Kd.N_far (p := ⟨gb462, 0, none⟩) (Kd.N_mono HO455.out (fun k_ hk => (⟨hk, hk.2⟩ : _ ∧ k_ ≠ gb462))) (fun _ hk => hk.2) (.slice Ao44 t458.length co44)) (fun _ h_ => h_.1)))); (case side2 => exact (Kd.N_reads' HO455.out).2.1); (case side3 => refine (Kd.N_reads' (e := 24) (base := w.heap.size) (ok := fun k_ => ((some k_ ≠ (.slice Ao10 t426.length co10 : Value).ownBlock ∧ (some k_ ≠ (v432 : Value).ownBlock ∧ (some k_ ≠ (.slice Ao33 y448.length co33 : Value).ownBlock ∧ (some k_ ≠ (.slice Ao39 t453.length co39 : Value).ownBlock ∧ (k_ ≠ gb451 ∧ k_ ≠ gb457))))) ∧ k_ ≠ gb462)) (n := t458.length) (c := co44) ?_).2.2; exact (by (with_reducible repeat (first | apply Kd.N_alloc | apply Kd.N_drewN | apply Kd.N_drew)); exact (Kd.N_mono (Kd.N_far (p := ⟨gb462, 0, none⟩) (Kd.N_mono HO460.out (fun k_ hk => (⟨hk, hk.2⟩ : _ ∧ k_ ≠ gb462))) (fun _ hk => hk.2) (.slice Ao44 t458.length co44)) (fun _ h_ => h_.1)))); (case side4 => exact (Kd.N_reads' HO460.out).2.1); rintro e w' ⟨rfl, ⟨nd, rfl⟩⟩; (try exact dD))))
             go_meet
             case rel => exact ⟨_, ((t456 != (decide (t452 ≤ 2)))), e2, H', ⟨by have := HJ7.out; first | omega | exact Nat.le_refl _⟩, ⟨by (with_reducible repeat (first | apply Kd.R_alloc | apply Kd.R_drewN | apply Kd.R_drew)); exact Kd.R_mono (Kd.R_far (p := ⟨gb462, 0, none⟩) (Kd.R_types HO_5.out BK462.out (by decide)) (fun _ hk => hk.2) (.slice Ao44 t458.length co44)) (fun _ hk => hk.1.1.1.1)⟩, ⟨by (with_reducible repeat (first | apply Kd.R_alloc | apply Kd.R_drewN | apply Kd.R_drew)); exact Kd.R_mono (Kd.R_far (p := ⟨gb462, 0, none⟩) (Kd.R_types HO_7.out BK462.out (by decide)) (fun _ hk => hk.2) (.slice Ao44 t458.length co44)) (fun _ hk => hk.1.1.1.1)⟩, ⟨by (with_reducible repeat (first | apply Kd.N_alloc | apply Kd.N_drewN | apply Kd.N_drew)); exact Kd.N_mono (Kd.N_far (p := ⟨gb462, 0, none⟩) (Kd.N_mono HO450.out (fun k_ hk => (⟨hk, hk.2⟩ : _ ∧ k_ ≠ gb462))) (fun _ hk => hk.2) (.slice Ao44 t458.length co44)) (fun _ hk => ⟨hk.1.1.1.1.1.1.1, ⟨hk.1.1.1.1.1.1.2, ⟨hk.1.1.1.1.2, ⟨hk.1.1.2, ⟨hk.1.1.1.1.1.2, ⟨hk.1.1.1.2, hk.1.2⟩⟩⟩⟩⟩⟩)⟩, ⟨by (with_reducible repeat (first | apply Kd.N_alloc | apply Kd.N_drewN | apply Kd.N_drew)); exact Kd.N_mono (Kd.N_far (p := ⟨gb462, 0, none⟩) (Kd.N_mono HO455.out (fun k_ hk => (⟨hk, hk.2⟩ : _ ∧ k_ ≠ gb462))) (fun _ hk => hk.2) (.slice Ao44 t458.length co44)) (fun _ hk => ⟨hk.1.1.1.1.1, ⟨hk.1.1.1.1.2.1, ⟨hk.1.1.1.1.2.2.1, ⟨hk.1.1.2, ⟨hk.1.1.1.1.2.2.2, ⟨hk.1.1.1.2, hk.1.2⟩⟩⟩⟩⟩⟩)⟩, ⟨by (with_reducible repeat (first | apply Kd.N_alloc | apply Kd.N_drewN | apply Kd.N_drew)); exact Kd.N_mono (Kd.N_far (p := ⟨gb462, 0, none⟩) (Kd.N_mono HO460.out (fun k_ hk => (⟨hk, hk.2⟩ : _ ∧ k_ ≠ gb462))) (fun _ hk => hk.2) (.slice Ao44 t458.length co44)) (fun _ hk => ⟨hk.1.1.1, ⟨hk.1.1.2.1, ⟨hk.1.1.2.2.1, ⟨hk.1.1.2.2.2.1, ⟨hk.1.1.2.2.2.2.1, ⟨hk.1.1.2.2.2.2.2, hk.1.2⟩⟩⟩⟩⟩⟩)⟩, ⟨by (with_reducible repeat (first | refine blk_drewN ?_ _ | refine blk_drew ?_ | refine blk_alloc ?_ _)); refine blk_far ?_ NB451_462.out _; (with_reducible repeat (first | refine blk_drewN ?_ _ | refine blk_drew ?_ | refine blk_alloc ?_ _)); exact BK451.out⟩, ⟨by (with_reducible repeat (first | refine blk_drewN ?_ _ | refine blk_drew ?_ | refine blk_alloc ?_ _)); refine blk_far ?_ NB457_462.out _; (with_reducible repeat (first | refine blk_drewN ?_ _ | refine blk_drew ?_ | refine blk_alloc ?_ _)); exact BK457.out⟩, ⟨by (with_reducible repeat (first | refine blk_drewN ?_ _ | refine blk_drew ?_ | refine blk_alloc ?_ _)); refine blk_put (cs := #[.slice none 0 0]) ?_ 0 _ rfl; (with_reducible repeat (first | refine blk_drewN ?_ _ | refine blk_drew ?_ | refine blk_alloc ?_ _)); exact BK462.out⟩, ⟨kB HB⟩⟩
            ·
             rw [if_neg c51] at H
             have c51b0 : decide (0 ≤ t452) = false := decide_eq_false c51
             clear c51
             have H' := Aside0.mk H
             clear H
             have hnb57 := NB457_451.out
             have hnc57 := NB451_457.out
             have hnb58 := NB457_462.out
             have hnc58 := NB462_457.out
             have hcz59_0 : w43.cell? ⟨gb457, 0, none⟩ = some (.slice Ao39 t453.length co39) := (blk_cell BK457.out 0).trans rfl
             have hfz59_0 := blk_frozen BK457.out 0
             have hnb60 := NB462_451.out
             have hnc60 := NB451_462.out
             have hcz61_0 : w43.cell? ⟨gb462, 0, none⟩ = some (.slice none 0 0) := (blk_cell BK462.out 0).trans rfl
             have hfz61_0 := blk_frozen BK462.out 0
             go_wp2_with (first | (go_at_call 15; (with_reducible refine (laws_vSameLists.calls kj7 _ _ t453 _ _ t458 true _ ?side1 ?side2 ?side3 ?side4 A49.out).mono ?_); (case side1 => refine (Kd.N_reads' (e := 24) (base := w.heap.size) (ok := fun k_ => ((((some k_ ≠ (.slice Ao10 t426.length co10 : Value).ownBlock ∧ (some k_ ≠ (v432 : Value).ownBlock ∧ (some k_ ≠ (.slice Ao33 y448.length co33 : Value).ownBlock ∧ k_ ≠ gb451))) ∧ k_ ≠ gb457) ∧ some k_ ≠ (.slice Ao44 t458.length co44 : Value).ownBlock) ∧ k_ ≠ gb462)) (n := t453.length) (c := co39) ?_).2.2; exact (by (with_reducible repeat (first | apply Kd.N_alloc | apply Kd.N_drewN | apply Kd.N_drew)); exact (Kd.N_mono (Kd.N_far (p := ⟨gb462, 0, none⟩) (Kd.N_mono HO455.out (fun k_ hk => (⟨hk, hk.2⟩ : _ ∧ k_ ≠ gb462))) (fun _ hk => hk.2) (.slice Ao44 t458.length co44)) (fun _ h_ => h_.1)))); (case side2 => exact (Kd.N_reads' HO455.out).2.1); (case side3 => refine (Kd.N_reads' (e := 24) (base := w.heap.size) (ok := fun k_ => ((some k_ ≠ (.slice Ao10 t426.length co10 : Value).ownBlock ∧ (some k_ ≠ (v432 : Value).ownBlock ∧ (some k_ ≠ (.slice Ao33 y448.length co33 : Value).ownBlock ∧ (some k_ ≠ (.slice Ao39 t453.length co39 : Value).ownBlock ∧ (k_ ≠ gb451 ∧ k_ ≠ gb457))))) ∧ k_ ≠ gb462)) (n := t458.length) (c := co44) ?_).2.2; exact (by (with_reducible repeat (first | apply Kd.N_alloc | apply Kd.N_drewN | apply Kd.N_drew)); exact (Kd.N_mono (Kd.N_far (p := ⟨gb462, 0, none⟩) (Kd.N_mono HO460.out (fun k_ hk => (⟨hk, hk.2⟩ : _ ∧ k_ ≠ gb462))) (fun _ hk => hk.2) (.slice Ao44 t458.length co44)) (fun _ h_ => h_.1)))); (case side4 => exact (Kd.N_reads' HO460.out).2.1); rintro e w' ⟨rfl, ⟨nd, rfl⟩⟩; (try exact dD)))
             repeat (go_quiet (first | (go_at_call 15; (with_reducible refine (laws_vSameLists.calls kj7 _ _ t453 _ _ t458 true _ ?side1 ?side2 ?side3 ?side4 A49.out).mono ?_); (case side1 => refine (Kd.N_reads' (e := 24) (base := w.heap.size) (ok := fun k_ => ((((some k_ ≠ (.slice Ao10 t426.length co10 : Value).ownBlock ∧ (some k_ ≠ (v432 : Value).ownBlock ∧ (some k_ ≠ (.slice Ao33 y448.length co33 : Value).ownBlock ∧ k_ ≠ gb451))) ∧ k_ ≠ gb457) ∧ some k_ ≠ (.slice Ao44 t458.length co44 : Value).ownBlock) ∧ k_ ≠ gb462)) (n := t453.length) (c := co39) ?_).2.2; exact (by (with_reducible repeat (first | apply Kd.N_alloc | apply Kd.N_drewN | apply Kd.N_drew)); exact (Kd.N_mono (Kd.N_far (p := ⟨gb462, 0, none⟩) (Kd.N_mono HO455.out (fun k_ hk => (⟨hk, hk.2⟩ : _ ∧ k_ ≠ gb462))) (fun _ hk => hk.2) (.slice Ao44 t458.length co44)) (fun _ h_ => h_.1)))); (case side2 => exact (Kd.N_reads' HO455.out).2.1); (case side3 => refine (Kd.N_reads' (e := 24) (base := w.heap.size) (ok := fun k_ => ((some k_ ≠ (.slice Ao10 t426.length co10 : Value).ownBlock ∧ (some k_ ≠ (v432 : Value).ownBlock ∧ (some k_ ≠ (.slice Ao33 y448.length co33 : Value).ownBlock ∧ (some k_ ≠ (.slice Ao39 t453.length co39 : Value).ownBlock ∧ (k_ ≠ gb451 ∧ k_ ≠ gb457))))) ∧ k_ ≠ gb462)) (n := t458.length) (c := co44) ?_).2.2; exact (by (with_reducible repeat (first | apply Kd.N_alloc | apply Kd.N_drewN | apply Kd.N_drew)); exact (Kd.N_mono (Kd.N_far (p := ⟨gb462, 0, none⟩) (Kd.N_mono HO460.out (fun k_ hk => (⟨hk, hk.2⟩ : _ ∧ k_ ≠ gb462))) (fun _ hk => hk.2) (.slice Ao44 t458.length co44)) (fun _ h_ => h_.1)))); (case side4 => exact (Kd.N_reads' HO460.out).2.1); rintro e w' ⟨rfl, ⟨nd, rfl⟩⟩; (try exact dD))); try go_wp2_with (first | (go_at_call 15; (with_reducible refine (laws_vSameLists.calls kj7 _ _ t453 _ _ t458 true _ ?side1 ?side2 ?side3 ?side4 A49.out).mono ?_); (case side1 => refine (Kd.N_reads' (e := 24) (base := w.heap.size) (ok := fun k_ => ((((some k_ ≠ (.slice Ao10 t426.length co10 : Value).ownBlock ∧ (some k_ ≠ (v432 : Value).ownBlock ∧ (some k_ ≠ (.slice Ao33 y448.length co33 : Value).ownBlock ∧ k_ ≠ gb451))) ∧ k_ ≠ gb457) ∧ some k_ ≠ (.slice Ao44 t458.length co44 : Value).ownBlock) ∧ k_ ≠ gb462)) (n := t453.length) (c := co39) ?_).2.2; exact (by (with_reducible repeat (first | apply Kd.N_alloc | apply Kd.N_drewN | apply Kd.N_drew)); exact (Kd.N_mono (Kd.N_far (p := ⟨gb462, 0, none⟩) (Kd.N_mono HO455.out (fun k_ hk => (⟨hk, hk.2⟩ : _ ∧ k_ ≠ gb462))) (fun _ hk => hk.2) (.slice Ao44 t458.length co44)) (fun _ h_ => h_.1)))); (case side2 => exact (Kd.N_reads' HO455.out).2.1); (case side3 => refine (Kd.N_reads' (e := 24) (base := w.heap.size) (ok := fun k_ => ((some k_ ≠ (.slice Ao10 t426.length co10 : Value).ownBlock ∧ (some k_ ≠ (v432 : Value).ownBlock ∧ (some k_ ≠ (.slice Ao33 y448.length co33 : Value).ownBlock ∧ (some k_ ≠ (.slice Ao39 t453.length co39 : Value).ownBlock ∧ (k_ ≠ gb451 ∧ k_ ≠ gb457))))) ∧ k_ ≠ gb462)) (n := t458.length) (c := co44) ?_).2.2; exact (by (with_reducible repeat (first | apply Kd.N_alloc | apply Kd.N_drewN | apply Kd.N_drew)); exact (Kd.N_mono (Kd.N_far (p := ⟨gb462, 0, none⟩) (Kd.N_mono HO460.out (fun k_ hk => (⟨hk, hk.2⟩ : _ ∧ k_ ≠ gb462))) (fun _ hk => hk.2) (.slice Ao44 t458.length co44)) (fun _ h_ => h_.1)))); (case side4 => exact (Kd.N_reads' HO460.out).2.1); rintro e w' ⟨rfl, ⟨nd, rfl⟩⟩; (try exact dD))))
             go_meet
             case rel => exact ⟨_, ((t456 != false)), e2, H', ⟨by have := HJ7.out; first | omega | exact Nat.le_refl _⟩, ⟨by (with_reducible repeat (first | apply Kd.R_alloc | apply Kd.R_drewN | apply Kd.R_drew)); exact Kd.R_mono (Kd.R_far (p := ⟨gb462, 0, none⟩) (Kd.R_types HO_5.out BK462.out (by decide)) (fun _ hk => hk.2) (.slice Ao44 t458.length co44)) (fun _ hk => hk.1.1.1.1)⟩, ⟨by (with_reducible repeat (first | apply Kd.R_alloc | apply Kd.R_drewN | apply Kd.R_drew)); exact Kd.R_mono (Kd.R_far (p := ⟨gb462, 0, none⟩) (Kd.R_types HO_7.out BK462.out (by decide)) (fun _ hk => hk.2) (.slice Ao44 t458.length co44)) (fun _ hk => hk.1.1.1.1)⟩, ⟨by (with_reducible repeat (first | apply Kd.N_alloc | apply Kd.N_drewN | apply Kd.N_drew)); exact Kd.N_mono (Kd.N_far (p := ⟨gb462, 0, none⟩) (Kd.N_mono HO450.out (fun k_ hk => (⟨hk, hk.2⟩ : _ ∧ k_ ≠ gb462))) (fun _ hk => hk.2) (.slice Ao44 t458.length co44)) (fun _ hk => ⟨hk.1.1.1.1.1.1.1, ⟨hk.1.1.1.1.1.1.2, ⟨hk.1.1.1.1.2, ⟨hk.1.1.2, ⟨hk.1.1.1.1.1.2, ⟨hk.1.1.1.2, hk.1.2⟩⟩⟩⟩⟩⟩)⟩, ⟨by (with_reducible repeat (first | apply Kd.N_alloc | apply Kd.N_drewN | apply Kd.N_drew)); exact Kd.N_mono (Kd.N_far (p := ⟨gb462, 0, none⟩) (Kd.N_mono HO455.out (fun k_ hk => (⟨hk, hk.2⟩ : _ ∧ k_ ≠ gb462))) (fun _ hk => hk.2) (.slice Ao44 t458.length co44)) (fun _ hk => ⟨hk.1.1.1.1.1, ⟨hk.1.1.1.1.2.1, ⟨hk.1.1.1.1.2.2.1, ⟨hk.1.1.2, ⟨hk.1.1.1.1.2.2.2, ⟨hk.1.1.1.2, hk.1.2⟩⟩⟩⟩⟩⟩)⟩, ⟨by (with_reducible repeat (first | apply Kd.N_alloc | apply Kd.N_drewN | apply Kd.N_drew)); exact Kd.N_mono (Kd.N_far (p := ⟨gb462, 0, none⟩) (Kd.N_mono HO460.out (fun k_ hk => (⟨hk, hk.2⟩ : _ ∧ k_ ≠ gb462))) (fun _ hk => hk.2) (.slice Ao44 t458.length co44)) (fun _ hk => ⟨hk.1.1.1, ⟨hk.1.1.2.1, ⟨hk.1.1.2.2.1, ⟨hk.1.1.2.2.2.1, ⟨hk.1.1.2.2.2.2.1, ⟨hk.1.1.2.2.2.2.2, hk.1.2⟩⟩⟩⟩⟩⟩)⟩, ⟨by (with_reducible repeat (first | refine blk_drewN ?_ _ | refine blk_drew ?_ | refine blk_alloc ?_ _)); refine blk_far ?_ NB451_462.out _; (with_reducible repeat (first | refine blk_drewN ?_ _ | refine blk_drew ?_ | refine blk_alloc ?_ _)); exact BK451.out⟩, ⟨by (with_reducible repeat (first | refine blk_drewN ?_ _ | refine blk_drew ?_ | refine blk_alloc ?_ _)); refine blk_far ?_ NB457_462.out _; (with_reducible repeat (first | refine blk_drewN ?_ _ | refine blk_drew ?_ | refine blk_alloc ?_ _)); exact BK457.out⟩, ⟨by (with_reducible repeat (first | refine blk_drewN ?_ _ | refine blk_drew ?_ | refine blk_alloc ?_ _)); refine blk_put (cs := #[.slice none 0 0]) ?_ 0 _ rfl; (with_reducible repeat (first | refine blk_drewN ?_ _ | refine blk_drew ?_ | refine blk_alloc ?_ _)); exact BK462.out⟩, ⟨kB HB⟩⟩
           ·
            replace c50 := Bool.eq_false_iff.mpr c50
            subst c50
            have H1 : (laws_FnFirstTree.j1 kj7 l1 t426 t427 t430 t431 t456 true y448 t453) = some r := by rw [if_neg (show ¬ (false = true) by decide)] at H; exact H
            exact absurd (H1.trans (congrArg some hrT)) (fun h_ => laws_FnFirstTree.j1_no h_)
        case rest =>
         as_aux_lemma =>
          clear HC21; (try clear c1); (try clear p2); (try clear c4); (try clear c5); (try clear c6); (try clear c13); (try clear c13b0); (try clear c13b1); (try clear c13b2); (try clear c17); (try clear c40); (try clear c45); (try clear c46); (try clear c48); (try clear c48b0); (try clear c48b1); (try clear c48b2); (try clear c50); (try clear c51); (try clear c51b0); (try clear c52); (try clear c53); (try clear c55); (try clear c57); (try clear c58); (try clear c60); (try clear c62); (try clear c63); (try clear c65); (try clear hcz35_0); (try clear hcz41_0); (try clear hcz47_0); (try clear hcz54_0); (try clear hcz56_0); (try clear hcz59_0); (try clear hcz61_0); (try clear hcz64_0); (try clear hcz66_0); (try clear hfz35_0); (try clear hfz41_0); (try clear hfz47_0); (try clear hfz54_0); (try clear hfz56_0); (try clear hfz59_0); (try clear hfz61_0); (try clear hfz64_0); (try clear hfz66_0); (try clear p2)
          obtain ⟨kq, x107_20, rfl, HA, HJ20, HO_5, HO_7, HO_452000, HO_458000, HO_463000, BK451, BK457, BK462, HB⟩ := hcut
          cases kq with
          | zero => exact absurd HA.out (by simp [laws_FnFirstTree.j1])
          | succ kj20 =>
           have H := HA.out
           clear HA
           simp only [laws_FnFirstTree.j1] at H
           by_cases c67 : x107_20 = true
           ·
            subst c67
            have H1 : (some false) = some r := by rw [if_pos rfl] at H; exact H
            exact absurd (H1.trans (congrArg some hrT)) (by simp)
           ·
            as_aux_lemma =>
             replace c67 := Bool.eq_false_iff.mpr c67
             subst c67
             have H1 : (if t456 = true then ((impl_KeepsForm.f kj20 t453 y448).bind fun bt464 => ((impl_DeterminantOf.f kj20 t453).bind fun bt466 => (if bt464.2 = true then (if bt466.2 = true then (if bt464.1 = true then (if bt466.1 = 1 then (laws_FnFirstTree.j2 kj20 l1 t426 t427 t430 t431) else (if bt466.1 = (-1) then (laws_FnFirstTree.j2 kj20 l1 t426 t427 t430 t431) else (some false))) else (some false)) else (some false)) else (some false)))) else (laws_FnFirstTree.j2 kj20 l1 t426 t427 t430 t431)) = some r := by rw [if_neg (show ¬ (false = true) by decide)] at H; exact H
             clear H
             have H := H1
             clear H1
             have HC68 := Aside0.mk H
             clear H
             go_upto_if 108 with (fail)
             repeat (go_quiet (fail); go_upto_if 108 with (fail))
             go_cut [] (fun wc => ∃ (kq : Nat), Aside0 (laws_FnFirstTree.j2 kq l1 t426 t427 t430 t431 = some r) ∧ Aside0 (kq ≤ kj20) ∧ Aside0 (Kd.R (Kd.int .i64) 3 wc w.heap.size (fun k_ => some k_ ≠ (v432 : Value).ownBlock) (.slice Ao10 t426.length co10) t426) ∧ Aside0 (Kd.R (Kd.int .i64) 3 wc w.heap.size (fun k_ => some k_ ≠ ((.slice Ao10 t426.length co10) : Value).ownBlock) v432 t430) ∧ Aside0 (Kd.N (Kd.slice 3 (Kd.int .i64)) 24 wc w.heap.size (fun k_ => some k_ ≠ ((.slice Ao10 t426.length co10) : Value).ownBlock ∧ some k_ ≠ (v432 : Value).ownBlock ∧ some k_ ≠ ((.slice Ao39 t453.length co39) : Value).ownBlock ∧ some k_ ≠ ((.slice Ao44 t458.length co44) : Value).ownBlock ∧ k_ ≠ gb451 ∧ k_ ≠ gb457 ∧ k_ ≠ gb462) (.slice Ao33 y448.length co33) y448) ∧ Aside0 (Kd.N (Kd.slice 3 (Kd.int .i64)) 24 wc w.heap.size (fun k_ => some k_ ≠ ((.slice Ao10 t426.length co10) : Value).ownBlock ∧ some k_ ≠ (v432 : Value).ownBlock ∧ some k_ ≠ ((.slice Ao33 y448.length co33) : Value).ownBlock ∧ some k_ ≠ ((.slice Ao44 t458.length co44) : Value).ownBlock ∧ k_ ≠ gb451 ∧ k_ ≠ gb457 ∧ k_ ≠ gb462) (.slice Ao39 t453.length co39) t453) ∧ Aside0 (Kd.N (Kd.slice 3 (Kd.int .i64)) 24 wc w.heap.size (fun k_ => some k_ ≠ ((.slice Ao10 t426.length co10) : Value).ownBlock ∧ some k_ ≠ (v432 : Value).ownBlock ∧ some k_ ≠ ((.slice Ao33 y448.length co33) : Value).ownBlock ∧ some k_ ≠ ((.slice Ao39 t453.length co39) : Value).ownBlock ∧ k_ ≠ gb451 ∧ k_ ≠ gb457 ∧ k_ ≠ gb462) (.slice Ao44 t458.length co44) t458) ∧ Aside0 (wc.heap[gb451]? = some (.cells #[(.slice Ao33 y448.length co33)] 33 (0, 0))) ∧ Aside0 (wc.heap[gb457]? = some (.cells #[(.slice Ao39 t453.length co39)] 33 (0, 0))) ∧ Aside0 (wc.heap[gb462]? = some (.cells #[(.slice Ao44 t458.length co44)] 33 (0, 0))) ∧ Aside0 (Below w.heap.size w wc))
             case first =>
              as_aux_lemma =>
               have H := HC68.out
               clear HC68
               by_cases c69 : t456 = true
               ·
                as_aux_lemma =>
                 subst c69
                 have H1 : ((impl_KeepsForm.f kj20 t453 y448).bind fun bt464 => ((impl_DeterminantOf.f kj20 t453).bind fun bt466 => (if bt464.2 = true then (if bt466.2 = true then (if bt464.1 = true then (if bt466.1 = 1 then (laws_FnFirstTree.j2 kj20 l1 t426 t427 t430 t431) else (if bt466.1 = (-1) then (laws_FnFirstTree.j2 kj20 l1 t426 t427 t430 t431) else (some false))) else (some false)) else (some false)) else (some false)))) = some r := by rw [if_pos rfl] at H; exact H
                 clear H
                 have H := H1
                 clear H1
                 replace H := Option.bind_eq_some_iff.mp H
                 obtain ⟨⟨t464, t465⟩, A700, H⟩ := H
                 replace H : ((impl_DeterminantOf.f kj20 t453).bind fun bt466 => (if t465 = true then (if bt466.2 = true then (if t464 = true then (if bt466.1 = 1 then (laws_FnFirstTree.j2 kj20 l1 t426 t427 t430 t431) else (if bt466.1 = (-1) then (laws_FnFirstTree.j2 kj20 l1 t426 t427 t430 t431) else (some false))) else (some false)) else (some false)) else (some false))) = some r := H
                 have A70 := Aside0.mk A700
                 clear A700
                 replace H := Option.bind_eq_some_iff.mp H
                 obtain ⟨⟨t466, t467⟩, A710, H⟩ := H
                 replace H : (if t465 = true then (if t467 = true then (if t464 = true then (if t466 = 1 then (laws_FnFirstTree.j2 kj20 l1 t426 t427 t430 t431) else (if t466 = (-1) then (laws_FnFirstTree.j2 kj20 l1 t426 t427 t430 t431) else (some false))) else (some false)) else (some false)) else (some false)) = some r := H
                 have A71 := Aside0.mk A710
                 clear A710
                 by_cases c72 : t465 = true
                 ·
                  subst c72
                  have H1 : (if t467 = true then (if t464 = true then (if t466 = 1 then (laws_FnFirstTree.j2 kj20 l1 t426 t427 t430 t431) else (if t466 = (-1) then (laws_FnFirstTree.j2 kj20 l1 t426 t427 t430 t431) else (some false))) else (some false)) else (some false)) = some r := by rw [if_pos rfl] at H; exact H
                  clear H
                  have H := H1
                  clear H1
                  by_cases c73 : t467 = true
                  ·
                   subst c73
                   have H1 : (if t464 = true then (if t466 = 1 then (laws_FnFirstTree.j2 kj20 l1 t426 t427 t430 t431) else (if t466 = (-1) then (laws_FnFirstTree.j2 kj20 l1 t426 t427 t430 t431) else (some false))) else (some false)) = some r := by rw [if_pos rfl] at H; exact H
                   clear H
                   have H := H1
                   clear H1
                   by_cases c74 : t464 = true
                   ·
                    subst c74
                    have H1 : (if t466 = 1 then (laws_FnFirstTree.j2 kj20 l1 t426 t427 t430 t431) else (if t466 = (-1) then (laws_FnFirstTree.j2 kj20 l1 t426 t427 t430 t431) else (some false))) = some r := by rw [if_pos rfl] at H; exact H
                    clear H
                    have H := H1
                    clear H1
                    by_cases c75 : t466 = 1
                    ·
                     rw [if_pos c75] at H
                     have c75b0 : (t466 == 1) = true := beq_iff_eq.mpr c75
                     have c75b1 : (t466 != 1) = false := bne_eq_false_iff_eq.mpr c75
                     clear c75
                     (first | rw [c75b0] | (simp only [i64_w, i32_w]; rw [c75b0]) | skip)
                     have H' := Aside0.mk H
                     clear H
                     have hnb76 := NB457_451.out
                     have hnc76 := NB451_457.out
                     have hnb77 := NB457_462.out
                     have hnc77 := NB462_457.out
                     have hcz78_0 : wc.cell? ⟨gb457, 0, none⟩ = some (.slice Ao39 t453.length co39) := (blk_cell BK457.out 0).trans rfl
                     have hfz78_0 := blk_frozen BK457.out 0
                     have hnb79 := NB451_462.out
                     have hnc79 := NB462_451.out
                     have hcz80_0 : wc.cell? ⟨gb451, 0, none⟩ = some (.slice Ao33 y448.length co33) := (blk_cell BK451.out 0).trans rfl
                     have hfz80_0 := blk_frozen BK451.out 0
                     go_wp2_with (first | (go_at_call 28; (with_reducible refine (impl_KeepsForm.calls kj20 _ _ t453 _ _ y448 true true _ ?side1 ?side2 ?side3 ?side4 A70.out).mono ?_); (case side1 => exact cC (Kd.N_reads' HO_458000.out).2.2); (case side2 => exact (Kd.N_reads' HO_458000.out).2.1); (case side3 => exact cC (Kd.N_reads' HO_452000.out).2.2); (case side4 => exact (Kd.N_reads' HO_452000.out).2.1); rintro e w81 ⟨rfl, hb⟩; have n0_ := Aside0.mk (Kd.R_below (rA HO_5) hb); have n1_ := Aside0.mk (Kd.R_below (rA HO_7) hb); have n2_ := Aside0.mk (Kd.N_below (nA HO_452000) hb); have n3_ := Aside0.mk (Kd.N_below (nA HO_458000) hb); have n4_ := Aside0.mk (Kd.N_below (nA HO_463000) hb); have n5_ := Aside0.mk (kK BK451 hb); have n6_ := Aside0.mk (kK BK457 hb); have n7_ := Aside0.mk (kK BK462 hb); have n8_ := Aside0.mk (below_step (kB HB) hb); clear HO_5; clear HO_7; clear HO_452000; clear HO_458000; clear HO_463000; clear BK451; clear BK457; clear BK462; clear HB; have HO_5 := n0_; have HO_7 := n1_; have HO_452000 := n2_; have HO_458000 := n3_; have HO_463000 := n4_; have BK451 := n5_; have BK457 := n6_; have BK462 := n7_; have HB := n8_; clear n0_ n1_ n2_ n3_ n4_ n5_ n6_ n7_ n8_; (try clear hb); (try clear hb2); (try clear hk); (try clear hi); have hcz82_0 : w81.cell? ⟨gb457, 0, none⟩ = some (.slice Ao39 t453.length co39) := (blk_cell BK457.out 0).trans rfl; have hfz82_0 := blk_frozen BK457.out 0) | (go_at_call 29; (with_reducible refine (impl_DeterminantOf.calls kj20 _ _ t453 t466 true _ ?side1 ?side2 A71.out).mono ?_); (case side1 => exact cC (Kd.N_reads' HO_458000.out).2.2); (case side2 => exact (Kd.N_reads' HO_458000.out).2.1); rintro e w83 ⟨rfl, hb⟩; have n0_ := Aside0.mk (Kd.R_below (rA HO_5) hb); have n1_ := Aside0.mk (Kd.R_below (rA HO_7) hb); have n2_ := Aside0.mk (Kd.N_below (nA HO_452000) hb); have n3_ := Aside0.mk (Kd.N_below (nA HO_458000) hb); have n4_ := Aside0.mk (Kd.N_below (nA HO_463000) hb); have n5_ := Aside0.mk (kK BK451 hb); have n6_ := Aside0.mk (kK BK457 hb); have n7_ := Aside0.mk (kK BK462 hb); have n8_ := Aside0.mk (below_step (kB HB) hb); clear HO_5; clear HO_7; clear HO_452000; clear HO_458000; clear HO_463000; clear BK451; clear BK457; clear BK462; clear HB; have HO_5 := n0_; have HO_7 := n1_; have HO_452000 := n2_; have HO_458000 := n3_; have HO_463000 := n4_; have BK451 := n5_; have BK457 := n6_; have BK462 := n7_; have HB := n8_; clear n0_ n1_ n2_ n3_ n4_ n5_ n6_ n7_ n8_; (try clear hb); (try clear hb2); (try clear hk); (try clear hi)))
                     repeat (go_quiet (first | (go_at_call 28; (with_reducible refine (impl_KeepsForm.calls kj20 _ _ t453 _ _ y448 true true _ ?side1 ?side2 ?side3 ?side4 A70.out).mono ?_); (case side1 => exact cC (Kd.N_reads' HO_458000.out).2.2); (case side2 => exact (Kd.N_reads' HO_458000.out).2.1); (case side3 => exact cC (Kd.N_reads' HO_452000.out).2.2); (case side4 => exact (Kd.N_reads' HO_452000.out).2.1); rintro e w81 ⟨rfl, hb⟩; have n0_ := Aside0.mk (Kd.R_below (rA HO_5) hb); have n1_ := Aside0.mk (Kd.R_below (rA HO_7) hb); have n2_ := Aside0.mk (Kd.N_below (nA HO_452000) hb); have n3_ := Aside0.mk (Kd.N_below (nA HO_458000) hb); have n4_ := Aside0.mk (Kd.N_below (nA HO_463000) hb); have n5_ := Aside0.mk (kK BK451 hb); have n6_ := Aside0.mk (kK BK457 hb); have n7_ := Aside0.mk (kK BK462 hb); have n8_ := Aside0.mk (below_step (kB HB) hb); clear HO_5; clear HO_7; clear HO_452000; clear HO_458000; clear HO_463000; clear BK451; clear BK457; clear BK462; clear HB; have HO_5 := n0_; have HO_7 := n1_; have HO_452000 := n2_; have HO_458000 := n3_; have HO_463000 := n4_; have BK451 := n5_; have BK457 := n6_; have BK462 := n7_; have HB := n8_; clear n0_ n1_ n2_ n3_ n4_ n5_ n6_ n7_ n8_; (try clear hb); (try clear hb2); (try clear hk); (try clear hi); have hcz82_0 : w81.cell? ⟨gb457, 0, none⟩ = some (.slice Ao39 t453.length co39) := (blk_cell BK457.out 0).trans rfl; have hfz82_0 := blk_frozen BK457.out 0) | (go_at_call 29; (with_reducible refine (impl_DeterminantOf.calls kj20 _ _ t453 t466 true _ ?side1 ?side2 A71.out).mono ?_); (case side1 => exact cC (Kd.N_reads' HO_458000.out).2.2); (case side2 => exact (Kd.N_reads' HO_458000.out).2.1); rintro e w83 ⟨rfl, hb⟩; have n0_ := Aside0.mk (Kd.R_below (rA HO_5) hb); have n1_ := Aside0.mk (Kd.R_below (rA HO_7) hb); have n2_ := Aside0.mk (Kd.N_below (nA HO_452000) hb); have n3_ := Aside0.mk (Kd.N_below (nA HO_458000) hb); have n4_ := Aside0.mk (Kd.N_below (nA HO_463000) hb); have n5_ := Aside0.mk (kK BK451 hb); have n6_ := Aside0.mk (kK BK457 hb); have n7_ := Aside0.mk (kK BK462 hb); have n8_ := Aside0.mk (below_step (kB HB) hb); clear HO_5; clear HO_7; clear HO_452000; clear HO_458000; clear HO_463000; clear BK451; clear BK457; clear BK462; clear HB; have HO_5 := n0_; have HO_7 := n1_; have HO_452000 := n2_; have HO_458000 := n3_; have HO_463000 := n4_; have BK451 := n5_; have BK457 := n6_; have BK462 := n7_; have HB := n8_; clear n0_ n1_ n2_ n3_ n4_ n5_ n6_ n7_ n8_; (try clear hb); (try clear hb2); (try clear hk); (try clear hi))); try go_wp2_with (first | (go_at_call 28; (with_reducible refine (impl_KeepsForm.calls kj20 _ _ t453 _ _ y448 true true _ ?side1 ?side2 ?side3 ?side4 A70.out).mono ?_); (case side1 => exact cC (Kd.N_reads' HO_458000.out).2.2); (case side2 => exact (Kd.N_reads' HO_458000.out).2.1); (case side3 => exact cC (Kd.N_reads' HO_452000.out).2.2); (case side4 => exact (Kd.N_reads' HO_452000.out).2.1); rintro e w81 ⟨rfl, hb⟩; have n0_ := Aside0.mk (Kd.R_below (rA HO_5) hb); have n1_ := Aside0.mk (Kd.R_below (rA HO_7) hb); have n2_ := Aside0.mk (Kd.N_below (nA HO_452000) hb); have n3_ := Aside0.mk (Kd.N_below (nA HO_458000) hb); have n4_ := Aside0.mk (Kd.N_below (nA HO_463000) hb); have n5_ := Aside0.mk (kK BK451 hb); have n6_ := Aside0.mk (kK BK457 hb); have n7_ := Aside0.mk (kK BK462 hb); have n8_ := Aside0.mk (below_step (kB HB) hb); clear HO_5; clear HO_7; clear HO_452000; clear HO_458000; clear HO_463000; clear BK451; clear BK457; clear BK462; clear HB; have HO_5 := n0_; have HO_7 := n1_; have HO_452000 := n2_; have HO_458000 := n3_; have HO_463000 := n4_; have BK451 := n5_; have BK457 := n6_; have BK462 := n7_; have HB := n8_; clear n0_ n1_ n2_ n3_ n4_ n5_ n6_ n7_ n8_; (try clear hb); (try clear hb2); (try clear hk); (try clear hi); have hcz82_0 : w81.cell? ⟨gb457, 0, none⟩ = some (.slice Ao39 t453.length co39) := (blk_cell BK457.out 0).trans rfl; have hfz82_0 := blk_frozen BK457.out 0) | (go_at_call 29; (with_reducible refine (impl_DeterminantOf.calls kj20 _ _ t453 t466 true _ ?side1 ?side2 A71.out).mono ?_); (case side1 => exact cC (Kd.N_reads' HO_458000.out).2.2); (case side2 => exact (Kd.N_reads' HO_458000.out).2.1); rintro e w83 ⟨rfl, hb⟩; have n0_ := Aside0.mk (Kd.R_below (rA HO_5) hb); have n1_ := Aside0.mk (Kd.R_below (rA HO_7) hb); have n2_ := Aside0.mk (Kd.N_below (nA HO_452000) hb); have n3_ := Aside0.mk (Kd.N_below (nA HO_458000) hb); have n4_ := Aside0.mk (Kd.N_below (nA HO_463000) hb); have n5_ := Aside0.mk (kK BK451 hb); have n6_ := Aside0.mk (kK BK457 hb); have n7_ := Aside0.mk (kK BK462 hb); have n8_ := Aside0.mk (below_step (kB HB) hb); clear HO_5; clear HO_7; clear HO_452000; clear HO_458000; clear HO_463000; clear BK451; clear BK457; clear BK462; clear HB; have HO_5 := n0_; have HO_7 := n1_; have HO_452000 := n2_; have HO_458000 := n3_; have HO_463000 := n4_; have BK451 := n5_; have BK457 := n6_; have BK462 := n7_; have HB := n8_; clear n0_ n1_ n2_ n3_ n4_ n5_ n6_ n7_ n8_; (try clear hb); (try clear hb2); (try clear hk); (try clear hi))))
                     go_meet
                     case rel => exact ⟨_, H', ⟨by have := HJ7.out; have := HJ20.out; first | omega | exact Nat.le_refl _⟩, ⟨by (with_reducible repeat (first | apply Kd.R_alloc | apply Kd.R_drewN | apply Kd.R_drew)); exact HO_5.out⟩, ⟨by (with_reducible repeat (first | apply Kd.R_alloc | apply Kd.R_drewN | apply Kd.R_drew)); exact HO_7.out⟩, ⟨by (with_reducible repeat (first | apply Kd.N_alloc | apply Kd.N_drewN | apply Kd.N_drew)); exact HO_452000.out⟩, ⟨by (with_reducible repeat (first | apply Kd.N_alloc | apply Kd.N_drewN | apply Kd.N_drew)); exact HO_458000.out⟩, ⟨by (with_reducible repeat (first | apply Kd.N_alloc | apply Kd.N_drewN | apply Kd.N_drew)); exact HO_463000.out⟩, ⟨by (with_reducible repeat (first | refine blk_drewN ?_ _ | refine blk_drew ?_ | refine blk_alloc ?_ _)); exact BK451.out⟩, ⟨by (with_reducible repeat (first | refine blk_drewN ?_ _ | refine blk_drew ?_ | refine blk_alloc ?_ _)); exact BK457.out⟩, ⟨by (with_reducible repeat (first | refine blk_drewN ?_ _ | refine blk_drew ?_ | refine blk_alloc ?_ _)); exact BK462.out⟩, ⟨kB HB⟩⟩
                    ·
                     rw [if_neg c75] at H
                     have c75b0 : (t466 == 1) = false := beq_eq_false_iff_ne.mpr c75
                     have c75b1 : (t466 != 1) = true := bne_iff_ne.mpr c75
                     (first | rw [c75b0] | (simp only [i64_w, i32_w]; rw [c75b0]) | skip)
                     by_cases c84 : t466 = (-1)
                     ·
                      rw [if_pos c84] at H
                      have c84b0 : (t466 == (-1)) = true := beq_iff_eq.mpr c84
                      have c84b1 : (t466 != (-1)) = false := bne_eq_false_iff_eq.mpr c84
                      clear c84
                      have H' := Aside0.mk H
                      clear H
                      have hnb85 := NB457_451.out
                      have hnc85 := NB451_457.out
                      have hnb86 := NB457_462.out
                      have hnc86 := NB462_457.out
                      have hcz87_0 : wc.cell? ⟨gb457, 0, none⟩ = some (.slice Ao39 t453.length co39) := (blk_cell BK457.out 0).trans rfl
                      have hfz87_0 := blk_frozen BK457.out 0
                      have hnb88 := NB451_462.out
                      have hnc88 := NB462_451.out
                      have hcz89_0 : wc.cell? ⟨gb451, 0, none⟩ = some (.slice Ao33 y448.length co33) := (blk_cell BK451.out 0).trans rfl
                      have hfz89_0 := blk_frozen BK451.out 0
                      go_wp2_with (first | (go_at_call 28; (with_reducible refine (impl_KeepsForm.calls kj20 _ _ t453 _ _ y448 true true _ ?side1 ?side2 ?side3 ?side4 A70.out).mono ?_); (case side1 => exact cC (Kd.N_reads' HO_458000.out).2.2); (case side2 => exact (Kd.N_reads' HO_458000.out).2.1); (case side3 => exact cC (Kd.N_reads' HO_452000.out).2.2); (case side4 => exact (Kd.N_reads' HO_452000.out).2.1); rintro e w90 ⟨rfl, hb⟩; have n0_ := Aside0.mk (Kd.R_below (rA HO_5) hb); have n1_ := Aside0.mk (Kd.R_below (rA HO_7) hb); have n2_ := Aside0.mk (Kd.N_below (nA HO_452000) hb); have n3_ := Aside0.mk (Kd.N_below (nA HO_458000) hb); have n4_ := Aside0.mk (Kd.N_below (nA HO_463000) hb); have n5_ := Aside0.mk (kK BK451 hb); have n6_ := Aside0.mk (kK BK457 hb); have n7_ := Aside0.mk (kK BK462 hb); have n8_ := Aside0.mk (below_step (kB HB) hb); clear HO_5; clear HO_7; clear HO_452000; clear HO_458000; clear HO_463000; clear BK451; clear BK457; clear BK462; clear HB; have HO_5 := n0_; have HO_7 := n1_; have HO_452000 := n2_; have HO_458000 := n3_; have HO_463000 := n4_; have BK451 := n5_; have BK457 := n6_; have BK462 := n7_; have HB := n8_; clear n0_ n1_ n2_ n3_ n4_ n5_ n6_ n7_ n8_; (try clear hb); (try clear hb2); (try clear hk); (try clear hi); have hcz91_0 : w90.cell? ⟨gb457, 0, none⟩ = some (.slice Ao39 t453.length co39) := (blk_cell BK457.out 0).trans rfl; have hfz91_0 := blk_frozen BK457.out 0) | (go_at_call 29; (with_reducible refine (impl_DeterminantOf.calls kj20 _ _ t453 t466 true _ ?side1 ?side2 A71.out).mono ?_); (case side1 => exact cC (Kd.N_reads' HO_458000.out).2.2); (case side2 => exact (Kd.N_reads' HO_458000.out).2.1); rintro e w92 ⟨rfl, hb⟩; have n0_ := Aside0.mk (Kd.R_below (rA HO_5) hb); have n1_ := Aside0.mk (Kd.R_below (rA HO_7) hb); have n2_ := Aside0.mk (Kd.N_below (nA HO_452000) hb); have n3_ := Aside0.mk (Kd.N_below (nA HO_458000) hb); have n4_ := Aside0.mk (Kd.N_below (nA HO_463000) hb); have n5_ := Aside0.mk (kK BK451 hb); have n6_ := Aside0.mk (kK BK457 hb); have n7_ := Aside0.mk (kK BK462 hb); have n8_ := Aside0.mk (below_step (kB HB) hb); clear HO_5; clear HO_7; clear HO_452000; clear HO_458000; clear HO_463000; clear BK451; clear BK457; clear BK462; clear HB; have HO_5 := n0_; have HO_7 := n1_; have HO_452000 := n2_; have HO_458000 := n3_; have HO_463000 := n4_; have BK451 := n5_; have BK457 := n6_; have BK462 := n7_; have HB := n8_; clear n0_ n1_ n2_ n3_ n4_ n5_ n6_ n7_ n8_; (try clear hb); (try clear hb2); (try clear hk); (try clear hi)))
                      repeat (go_quiet (first | (go_at_call 28; (with_reducible refine (impl_KeepsForm.calls kj20 _ _ t453 _ _ y448 true true _ ?side1 ?side2 ?side3 ?side4 A70.out).mono ?_); (case side1 => exact cC (Kd.N_reads' HO_458000.out).2.2); (case side2 => exact (Kd.N_reads' HO_458000.out).2.1); (case side3 => exact cC (Kd.N_reads' HO_452000.out).2.2); (case side4 => exact (Kd.N_reads' HO_452000.out).2.1); rintro e w90 ⟨rfl, hb⟩; have n0_ := Aside0.mk (Kd.R_below (rA HO_5) hb); have n1_ := Aside0.mk (Kd.R_below (rA HO_7) hb); have n2_ := Aside0.mk (Kd.N_below (nA HO_452000) hb); have n3_ := Aside0.mk (Kd.N_below (nA HO_458000) hb); have n4_ := Aside0.mk (Kd.N_below (nA HO_463000) hb); have n5_ := Aside0.mk (kK BK451 hb); have n6_ := Aside0.mk (kK BK457 hb); have n7_ := Aside0.mk (kK BK462 hb); have n8_ := Aside0.mk (below_step (kB HB) hb); clear HO_5; clear HO_7; clear HO_452000; clear HO_458000; clear HO_463000; clear BK451; clear BK457; clear BK462; clear HB; have HO_5 := n0_; have HO_7 := n1_; have HO_452000 := n2_; have HO_458000 := n3_; have HO_463000 := n4_; have BK451 := n5_; have BK457 := n6_; have BK462 := n7_; have HB := n8_; clear n0_ n1_ n2_ n3_ n4_ n5_ n6_ n7_ n8_; (try clear hb); (try clear hb2); (try clear hk); (try clear hi); have hcz91_0 : w90.cell? ⟨gb457, 0, none⟩ = some (.slice Ao39 t453.length co39) := (blk_cell BK457.out 0).trans rfl; have hfz91_0 := blk_frozen BK457.out 0) | (go_at_call 29; (with_reducible refine (impl_DeterminantOf.calls kj20 _ _ t453 t466 true _ ?side1 ?side2 A71.out).mono ?_); (case side1 => exact cC (Kd.N_reads' HO_458000.out).2.2); (case side2 => exact (Kd.N_reads' HO_458000.out).2.1); rintro e w92 ⟨rfl, hb⟩; have n0_ := Aside0.mk (Kd.R_below (rA HO_5) hb); have n1_ := Aside0.mk (Kd.R_below (rA HO_7) hb); have n2_ := Aside0.mk (Kd.N_below (nA HO_452000) hb); have n3_ := Aside0.mk (Kd.N_below (nA HO_458000) hb); have n4_ := Aside0.mk (Kd.N_below (nA HO_463000) hb); have n5_ := Aside0.mk (kK BK451 hb); have n6_ := Aside0.mk (kK BK457 hb); have n7_ := Aside0.mk (kK BK462 hb); have n8_ := Aside0.mk (below_step (kB HB) hb); clear HO_5; clear HO_7; clear HO_452000; clear HO_458000; clear HO_463000; clear BK451; clear BK457; clear BK462; clear HB; have HO_5 := n0_; have HO_7 := n1_; have HO_452000 := n2_; have HO_458000 := n3_; have HO_463000 := n4_; have BK451 := n5_; have BK457 := n6_; have BK462 := n7_; have HB := n8_; clear n0_ n1_ n2_ n3_ n4_ n5_ n6_ n7_ n8_; (try clear hb); (try clear hb2); (try clear hk); (try clear hi))); try go_wp2_with (first | (go_at_call 28; (with_reducible refine (impl_KeepsForm.calls kj20 _ _ t453 _ _ y448 true true _ ?side1 ?side2 ?side3 ?side4 A70.out).mono ?_); (case side1 => exact cC (Kd.N_reads' HO_458000.out).2.2); (case side2 => exact (Kd.N_reads' HO_458000.out).2.1); (case side3 => exact cC (Kd.N_reads' HO_452000.out).2.2); (case side4 => exact (Kd.N_reads' HO_452000.out).2.1); rintro e w90 ⟨rfl, hb⟩; have n0_ := Aside0.mk (Kd.R_below (rA HO_5) hb); have n1_ := Aside0.mk (Kd.R_below (rA HO_7) hb); have n2_ := Aside0.mk (Kd.N_below (nA HO_452000) hb); have n3_ := Aside0.mk (Kd.N_below (nA HO_458000) hb); have n4_ := Aside0.mk (Kd.N_below (nA HO_463000) hb); have n5_ := Aside0.mk (kK BK451 hb); have n6_ := Aside0.mk (kK BK457 hb); have n7_ := Aside0.mk (kK BK462 hb); have n8_ := Aside0.mk (below_step (kB HB) hb); clear HO_5; clear HO_7; clear HO_452000; clear HO_458000; clear HO_463000; clear BK451; clear BK457; clear BK462; clear HB; have HO_5 := n0_; have HO_7 := n1_; have HO_452000 := n2_; have HO_458000 := n3_; have HO_463000 := n4_; have BK451 := n5_; have BK457 := n6_; have BK462 := n7_; have HB := n8_; clear n0_ n1_ n2_ n3_ n4_ n5_ n6_ n7_ n8_; (try clear hb); (try clear hb2); (try clear hk); (try clear hi); have hcz91_0 : w90.cell? ⟨gb457, 0, none⟩ = some (.slice Ao39 t453.length co39) := (blk_cell BK457.out 0).trans rfl; have hfz91_0 := blk_frozen BK457.out 0) | (go_at_call 29; (with_reducible refine (impl_DeterminantOf.calls kj20 _ _ t453 t466 true _ ?side1 ?side2 A71.out).mono ?_); (case side1 => exact cC (Kd.N_reads' HO_458000.out).2.2); (case side2 => exact (Kd.N_reads' HO_458000.out).2.1); rintro e w92 ⟨rfl, hb⟩; have n0_ := Aside0.mk (Kd.R_below (rA HO_5) hb); have n1_ := Aside0.mk (Kd.R_below (rA HO_7) hb); have n2_ := Aside0.mk (Kd.N_below (nA HO_452000) hb); have n3_ := Aside0.mk (Kd.N_below (nA HO_458000) hb); have n4_ := Aside0.mk (Kd.N_below (nA HO_463000) hb); have n5_ := Aside0.mk (kK BK451 hb); have n6_ := Aside0.mk (kK BK457 hb); have n7_ := Aside0.mk (kK BK462 hb); have n8_ := Aside0.mk (below_step (kB HB) hb); clear HO_5; clear HO_7; clear HO_452000; clear HO_458000; clear HO_463000; clear BK451; clear BK457; clear BK462; clear HB; have HO_5 := n0_; have HO_7 := n1_; have HO_452000 := n2_; have HO_458000 := n3_; have HO_463000 := n4_; have BK451 := n5_; have BK457 := n6_; have BK462 := n7_; have HB := n8_; clear n0_ n1_ n2_ n3_ n4_ n5_ n6_ n7_ n8_; (try clear hb); (try clear hb2); (try clear hk); (try clear hi))))
                      go_meet
                      case rel => exact ⟨_, H', ⟨by have := HJ7.out; have := HJ20.out; first | omega | exact Nat.le_refl _⟩, ⟨by (with_reducible repeat (first | apply Kd.R_alloc | apply Kd.R_drewN | apply Kd.R_drew)); exact HO_5.out⟩, ⟨by (with_reducible repeat (first | apply Kd.R_alloc | apply Kd.R_drewN | apply Kd.R_drew)); exact HO_7.out⟩, ⟨by (with_reducible repeat (first | apply Kd.N_alloc | apply Kd.N_drewN | apply Kd.N_drew)); exact HO_452000.out⟩, ⟨by (with_reducible repeat (first | apply Kd.N_alloc | apply Kd.N_drewN | apply Kd.N_drew)); exact HO_458000.out⟩, ⟨by (with_reducible repeat (first | apply Kd.N_alloc | apply Kd.N_drewN | apply Kd.N_drew)); exact HO_463000.out⟩, ⟨by (with_reducible repeat (first | refine blk_drewN ?_ _ | refine blk_drew ?_ | refine blk_alloc ?_ _)); exact BK451.out⟩, ⟨by (with_reducible repeat (first | refine blk_drewN ?_ _ | refine blk_drew ?_ | refine blk_alloc ?_ _)); exact BK457.out⟩, ⟨by (with_reducible repeat (first | refine blk_drewN ?_ _ | refine blk_drew ?_ | refine blk_alloc ?_ _)); exact BK462.out⟩, ⟨kB HB⟩⟩
                     ·
                      rw [if_neg c84] at H
                      exact absurd (H.trans (congrArg some hrT)) (by simp)
                   ·
                    replace c74 := Bool.eq_false_iff.mpr c74
                    subst c74
                    have H1 : (some false) = some r := by rw [if_neg (show ¬ (false = true) by decide)] at H; exact H
                    exact absurd (H1.trans (congrArg some hrT)) (by simp)
                  ·
                   replace c73 := Bool.eq_false_iff.mpr c73
                   subst c73
                   have H1 : (some false) = some r := by rw [if_neg (show ¬ (false = true) by decide)] at H; exact H
                   exact absurd (H1.trans (congrArg some hrT)) (by simp)
                 ·
                  replace c72 := Bool.eq_false_iff.mpr c72
                  subst c72
                  have H1 : (some false) = some r := by rw [if_neg (show ¬ (false = true) by decide)] at H; exact H
                  exact absurd (H1.trans (congrArg some hrT)) (by simp)
               ·
                replace c69 := Bool.eq_false_iff.mpr c69
                subst c69
                have H1 : (laws_FnFirstTree.j2 kj20 l1 t426 t427 t430 t431) = some r := by rw [if_neg (show ¬ (false = true) by decide)] at H; exact H
                clear H
                have H := H1
                clear H1
                have H' := Aside0.mk H
                clear H
                go_wp2
                repeat (go_quiet (fail); try go_wp2)
                go_meet
                case rel => exact ⟨_, H', ⟨by have := HJ7.out; have := HJ20.out; first | omega | exact Nat.le_refl _⟩, ⟨by (with_reducible repeat (first | apply Kd.R_alloc | apply Kd.R_drewN | apply Kd.R_drew)); exact HO_5.out⟩, ⟨by (with_reducible repeat (first | apply Kd.R_alloc | apply Kd.R_drewN | apply Kd.R_drew)); exact HO_7.out⟩, ⟨by (with_reducible repeat (first | apply Kd.N_alloc | apply Kd.N_drewN | apply Kd.N_drew)); exact HO_452000.out⟩, ⟨by (with_reducible repeat (first | apply Kd.N_alloc | apply Kd.N_drewN | apply Kd.N_drew)); exact HO_458000.out⟩, ⟨by (with_reducible repeat (first | apply Kd.N_alloc | apply Kd.N_drewN | apply Kd.N_drew)); exact HO_463000.out⟩, ⟨by (with_reducible repeat (first | refine blk_drewN ?_ _ | refine blk_drew ?_ | refine blk_alloc ?_ _)); exact BK451.out⟩, ⟨by (with_reducible repeat (first | refine blk_drewN ?_ _ | refine blk_drew ?_ | refine blk_alloc ?_ _)); exact BK457.out⟩, ⟨by (with_reducible repeat (first | refine blk_drewN ?_ _ | refine blk_drew ?_ | refine blk_alloc ?_ _)); exact BK462.out⟩, ⟨kB HB⟩⟩
             case rest =>
              as_aux_lemma =>
               clear HC68; (try clear c1); (try clear p2); (try clear c4); (try clear c5); (try clear c6); (try clear c7); (try clear c8); (try clear c9); (try clear c10); (try clear c11); (try clear c12); (try clear c13); (try clear c13b0); (try clear c13b1); (try clear c13b2); (try clear c17); (try clear c40); (try clear c45); (try clear c46); (try clear c48); (try clear c48b0); (try clear c48b1); (try clear c48b2); (try clear c50); (try clear c51); (try clear c51b0); (try clear c52); (try clear c53); (try clear c55); (try clear c57); (try clear c58); (try clear c60); (try clear c62); (try clear c63); (try clear c65); (try clear c67); (try clear c69); (try clear c72); (try clear c73); (try clear c74); (try clear c75); (try clear c75b0); (try clear c75b1); (try clear c76); (try clear c77); (try clear c79); (try clear c84); (try clear c84b0); (try clear c84b1); (try clear c85); (try clear c86); (try clear c88); (try clear c93); (try clear c94); (try clear c96); (try clear c101); (try clear c102); (try clear c104); (try clear c109); (try clear c110); (try clear c112); (try clear c117); (try clear c118); (try clear c120); (try clear hcz103_0); (try clear hcz105_0); (try clear hcz107_0); (try clear hcz111_0); (try clear hcz113_0); (try clear hcz115_0); (try clear hcz119_0); (try clear hcz121_0); (try clear hcz123_0); (try clear hcz35_0); (try clear hcz41_0); (try clear hcz47_0); (try clear hcz54_0); (try clear hcz56_0); (try clear hcz59_0); (try clear hcz61_0); (try clear hcz64_0); (try clear hcz66_0); (try clear hcz78_0); (try clear hcz80_0); (try clear hcz82_0); (try clear hcz87_0); (try clear hcz89_0); (try clear hcz91_0); (try clear hcz95_0); (try clear hcz97_0); (try clear hcz99_0); (try clear hfz103_0); (try clear hfz105_0); (try clear hfz107_0); (try clear hfz111_0); (try clear hfz113_0); (try clear hfz115_0); (try clear hfz119_0); (try clear hfz121_0); (try clear hfz123_0); (try clear hfz35_0); (try clear hfz41_0); (try clear hfz47_0); (try clear hfz54_0); (try clear hfz56_0); (try clear hfz59_0); (try clear hfz61_0); (try clear hfz64_0); (try clear hfz66_0); (try clear hfz78_0); (try clear hfz80_0); (try clear hfz82_0); (try clear hfz87_0); (try clear hfz89_0); (try clear hfz91_0); (try clear hfz95_0); (try clear hfz97_0); (try clear hfz99_0); (try clear p2)
               obtain ⟨kq, HA, HJ67, HO_5, HO_7, HO_452000, HO_458000, HO_463000, BK451, BK457, BK462, HB⟩ := hcut
               cases kq with
               | zero => exact absurd HA.out (by simp [laws_FnFirstTree.j2])
               | succ kj67 =>
                have H := HA.out
                clear HA
                simp only [laws_FnFirstTree.j2] at H
                have HC125 := Aside0.mk H
                clear H
                go_upto_if 138 with (fail)
                repeat (go_quiet (fail); go_upto_if 138 with (fail))
                go_cut [] (fun wc => ∃ (kq : Nat), Aside0 (laws_FnFirstTree.j4 kq l1 = some r) ∧ Aside0 (kq ≤ kj67) ∧ Aside0 (Kd.N (Kd.slice 3 (Kd.int .i64)) 24 wc w.heap.size (fun k_ => some k_ ≠ ((.slice Ao39 t453.length co39) : Value).ownBlock ∧ some k_ ≠ ((.slice Ao44 t458.length co44) : Value).ownBlock ∧ k_ ≠ gb451 ∧ k_ ≠ gb457 ∧ k_ ≠ gb462) (.slice Ao33 y448.length co33) y448) ∧ Aside0 (Kd.N (Kd.slice 3 (Kd.int .i64)) 24 wc w.heap.size (fun k_ => some k_ ≠ ((.slice Ao33 y448.length co33) : Value).ownBlock ∧ some k_ ≠ ((.slice Ao44 t458.length co44) : Value).ownBlock ∧ k_ ≠ gb451 ∧ k_ ≠ gb457 ∧ k_ ≠ gb462) (.slice Ao39 t453.length co39) t453) ∧ Aside0 (Kd.N (Kd.slice 3 (Kd.int .i64)) 24 wc w.heap.size (fun k_ => some k_ ≠ ((.slice Ao33 y448.length co33) : Value).ownBlock ∧ some k_ ≠ ((.slice Ao39 t453.length co39) : Value).ownBlock ∧ k_ ≠ gb451 ∧ k_ ≠ gb457 ∧ k_ ≠ gb462) (.slice Ao44 t458.length co44) t458) ∧ Aside0 (wc.heap[gb451]? = some (.cells #[(.slice Ao33 y448.length co33)] 33 (0, 0))) ∧ Aside0 (wc.heap[gb457]? = some (.cells #[(.slice Ao39 t453.length co39)] 33 (0, 0))) ∧ Aside0 (wc.heap[gb462]? = some (.cells #[(.slice Ao44 t458.length co44)] 33 (0, 0))) ∧ Aside0 (Below w.heap.size w wc))
                case first =>
                 as_aux_lemma =>
                  have H := HC125.out
                  clear HC125
                  by_cases c126 : t431 = true
                  ·
                   as_aux_lemma =>
                    subst c126
                    have H1 : ((impl_BergMatrix.f t427).bind fun bt468 => ((impl_BergParent.f kj67 t430).bind fun bt473 => ((impl_BergWord.f kj67 t430).bind fun bt478 => ((impl_BergWord.f kj67 t426).bind fun bt482 => (if bt468.2 = true then (if bt473.2.2 = true then (if bt478.2 = true then (if bt482.2 = true then ((laws_vSame.f kj67 bt473.1 t426).bind fun t486 => (if t486 = true then (if bt473.2.1 = t427 then ((some (([] : List Int) : List Int)).bind fun y487 => (if y487.length + bt482.1.length < 17592186044416 then ((some (y487 ++ bt482.1 : List Int)).bind fun y490 => (if y490.length < 17592186044416 then ((laws_vSame.f kj67 bt478.1 (y490 ++ [t427])).bind fun t496 => (laws_FnFirstTree.j3 kj67 l1 t426 t430 (!t496) bt468.1)) else (none))) else (none))) else (laws_FnFirstTree.j3 kj67 l1 t426 t430 true bt468.1)) else (laws_FnFirstTree.j3 kj67 l1 t426 t430 true bt468.1))) else (laws_FnFirstTree.j3 kj67 l1 t426 t430 true bt468.1)) else (laws_FnFirstTree.j3 kj67 l1 t426 t430 true bt468.1)) else (laws_FnFirstTree.j3 kj67 l1 t426 t430 true bt468.1)) else (laws_FnFirstTree.j3 kj67 l1 t426 t430 true bt468.1)))))) = some r := by rw [if_pos rfl] at H; exact H
                    clear H
                    have H := H1
                    clear H1
                    replace H := Option.bind_eq_some_iff.mp H
                    obtain ⟨⟨t468, t471⟩, A1270, H⟩ := H
                    replace H : ((impl_BergParent.f kj67 t430).bind fun bt473 => ((impl_BergWord.f kj67 t430).bind fun bt478 => ((impl_BergWord.f kj67 t426).bind fun bt482 => (if t471 = true then (if bt473.2.2 = true then (if bt478.2 = true then (if bt482.2 = true then ((laws_vSame.f kj67 bt473.1 t426).bind fun t486 => (if t486 = true then (if bt473.2.1 = t427 then ((some (([] : List Int) : List Int)).bind fun y487 => (if y487.length + bt482.1.length < 17592186044416 then ((some (y487 ++ bt482.1 : List Int)).bind fun y490 => (if y490.length < 17592186044416 then ((laws_vSame.f kj67 bt478.1 (y490 ++ [t427])).bind fun t496 => (laws_FnFirstTree.j3 kj67 l1 t426 t430 (!t496) t468)) else (none))) else (none))) else (laws_FnFirstTree.j3 kj67 l1 t426 t430 true t468)) else (laws_FnFirstTree.j3 kj67 l1 t426 t430 true t468))) else (laws_FnFirstTree.j3 kj67 l1 t426 t430 true t468)) else (laws_FnFirstTree.j3 kj67 l1 t426 t430 true t468)) else (laws_FnFirstTree.j3 kj67 l1 t426 t430 true t468)) else (laws_FnFirstTree.j3 kj67 l1 t426 t430 true t468))))) = some r := H
                    have A127 := Aside0.mk A1270
                    clear A1270
                    replace H := Option.bind_eq_some_iff.mp H
                    obtain ⟨⟨t473, t474, t475⟩, A1280, H⟩ := H
                    replace H : ((impl_BergWord.f kj67 t430).bind fun bt478 => ((impl_BergWord.f kj67 t426).bind fun bt482 => (if t471 = true then (if t475 = true then (if bt478.2 = true then (if bt482.2 = true then ((laws_vSame.f kj67 t473 t426).bind fun t486 => (if t486 = true then (if t474 = t427 then ((some (([] : List Int) : List Int)).bind fun y487 => (if y487.length + bt482.1.length < 17592186044416 then ((some (y487 ++ bt482.1 : List Int)).bind fun y490 => (if y490.length < 17592186044416 then ((laws_vSame.f kj67 bt478.1 (y490 ++ [t427])).bind fun t496 => (laws_FnFirstTree.j3 kj67 l1 t426 t430 (!t496) t468)) else (none))) else (none))) else (laws_FnFirstTree.j3 kj67 l1 t426 t430 true t468)) else (laws_FnFirstTree.j3 kj67 l1 t426 t430 true t468))) else (laws_FnFirstTree.j3 kj67 l1 t426 t430 true t468)) else (laws_FnFirstTree.j3 kj67 l1 t426 t430 true t468)) else (laws_FnFirstTree.j3 kj67 l1 t426 t430 true t468)) else (laws_FnFirstTree.j3 kj67 l1 t426 t430 true t468)))) = some r := H
                    have A128 := Aside0.mk A1280
                    clear A1280
                    replace H := Option.bind_eq_some_iff.mp H
                    obtain ⟨⟨t478, t479⟩, A1290, H⟩ := H
                    replace H : ((impl_BergWord.f kj67 t426).bind fun bt482 => (if t471 = true then (if t475 = true then (if t479 = true then (if bt482.2 = true then ((laws_vSame.f kj67 t473 t426).bind fun t486 => (if t486 = true then (if t474 = t427 then ((some (([] : List Int) : List Int)).bind fun y487 => (if y487.length + bt482.1.length < 17592186044416 then ((some (y487 ++ bt482.1 : List Int)).bind fun y490 => (if y490.length < 17592186044416 then ((laws_vSame.f kj67 t478 (y490 ++ [t427])).bind fun t496 => (laws_FnFirstTree.j3 kj67 l1 t426 t430 (!t496) t468)) else (none))) else (none))) else (laws_FnFirstTree.j3 kj67 l1 t426 t430 true t468)) else (laws_FnFirstTree.j3 kj67 l1 t426 t430 true t468))) else (laws_FnFirstTree.j3 kj67 l1 t426 t430 true t468)) else (laws_FnFirstTree.j3 kj67 l1 t426 t430 true t468)) else (laws_FnFirstTree.j3 kj67 l1 t426 t430 true t468)) else (laws_FnFirstTree.j3 kj67 l1 t426 t430 true t468))) = some r := H
                    have A129 := Aside0.mk A1290
                    clear A1290
                    replace H := Option.bind_eq_some_iff.mp H
                    obtain ⟨⟨t482, t483⟩, A1300, H⟩ := H
                    replace H : (if t471 = true then (if t475 = true then (if t479 = true then (if t483 = true then ((laws_vSame.f kj67 t473 t426).bind fun t486 => (if t486 = true then (if t474 = t427 then ((some (([] : List Int) : List Int)).bind fun y487 => (if y487.length + t482.length < 17592186044416 then ((some (y487 ++ t482 : List Int)).bind fun y490 => (if y490.length < 17592186044416 then ((laws_vSame.f kj67 t478 (y490 ++ [t427])).bind fun t496 => (laws_FnFirstTree.j3 kj67 l1 t426 t430 (!t496) t468)) else (none))) else (none))) else (laws_FnFirstTree.j3 kj67 l1 t426 t430 true t468)) else (laws_FnFirstTree.j3 kj67 l1 t426 t430 true t468))) else (laws_FnFirstTree.j3 kj67 l1 t426 t430 true t468)) else (laws_FnFirstTree.j3 kj67 l1 t426 t430 true t468)) else (laws_FnFirstTree.j3 kj67 l1 t426 t430 true t468)) else (laws_FnFirstTree.j3 kj67 l1 t426 t430 true t468)) = some r := H
                    have A130 := Aside0.mk A1300
                    clear A1300
                    have HC131 := Aside0.mk H
                    clear H
                    go_upto_region 24 with (first | (go_at_call 26; (with_reducible refine (impl_BergMatrix.calls t427 t468 t471 _ A127.out).mono ?_); rintro e w132 ⟨v469, rfl, ho0, hb⟩; have n0_ := Aside0.mk (Kd.R_below (rA HO_5) hb); have n1_ := Aside0.mk (Kd.R_below (rA HO_7) hb); have n2_ := Aside0.mk (Kd.N_elder' (nA HO_452000) (Kd.N_base ho0) hb); have n3_ := Aside0.mk (Kd.N_elder' (nA HO_458000) (Kd.N_base ho0) hb); have n4_ := Aside0.mk (Kd.N_elder' (nA HO_463000) (Kd.N_base ho0) hb); have n5_ := Aside0.mk (Kd.N_lower (Kd.N_mono (ok' := fun k_ => some k_ ≠ (.slice Ao10 t426.length co10 : Value).ownBlock ∧ some k_ ≠ (v432 : Value).ownBlock ∧ some k_ ≠ (.slice Ao33 y448.length co33 : Value).ownBlock ∧ some k_ ≠ (.slice Ao39 t453.length co39 : Value).ownBlock ∧ some k_ ≠ (.slice Ao44 t458.length co44 : Value).ownBlock ∧ k_ ≠ gb451 ∧ k_ ≠ gb457 ∧ k_ ≠ gb462) ho0 (fun k_ hk_ => ⟨(Kd.fresh' (Kd.R_lt (rA HO_5)) k_ hk_), (Kd.fresh' (Kd.R_lt (rA HO_7)) k_ hk_), (Kd.fresh' (Kd.N_lt (nA HO_452000)) k_ hk_), (Kd.fresh' (Kd.N_lt (nA HO_458000)) k_ hk_), (Kd.fresh' (Kd.N_lt (nA HO_463000)) k_ hk_), (Kd.freshB (g := gb451) (o := .cells #[.slice Ao33 y448.length co33] 33 (0, 0)) (bA BK451) k_ hk_), (Kd.freshB (g := gb457) (o := .cells #[.slice Ao39 t453.length co39] 33 (0, 0)) (bA BK457) k_ hk_), (Kd.freshB (g := gb462) (o := .cells #[.slice Ao44 t458.length co44] 33 (0, 0)) (bA BK462) k_ hk_)⟩)) (below_size (kB HB))); have n6_ := Aside0.mk (kK BK451 hb); have n7_ := Aside0.mk (kK BK457 hb); have n8_ := Aside0.mk (kK BK462 hb); have n9_ := Aside0.mk (below_step (kB HB) hb); clear HO_5; clear HO_7; clear HO_452000; clear HO_458000; clear HO_463000; clear BK451; clear BK457; clear BK462; clear HB; have HO_5 := n0_; have HO_7 := n1_; have HO_452000 := n2_; have HO_458000 := n3_; have HO_463000 := n4_; have HO470 := n5_; have BK451 := n6_; have BK457 := n7_; have BK462 := n8_; have HB := n9_; clear n0_ n1_ n2_ n3_ n4_ n5_ n6_ n7_ n8_ n9_; (try clear hb); (try clear hb2); (try clear hk); (try clear hi); (try clear ho0)) | ((with_reducible refine gate_dst (N := 21) rfl ?_); (try (refine gate_guard (by rfl) ?_; dsimp only)); refine box_event ?hg (N := 21) ?hd (cs := #[.slice none 0 0]) (t := 33) ?hr ?_; (case hd => rfl); (case hg => rfl); (case hr => first | (go_simp; done) | (go_simp; rfl)); intro gb472 hg w133 hbox hb; have n0_ := Aside0.mk (Kd.R_below (rA HO_5) hb); have n1_ := Aside0.mk (Kd.R_below (rA HO_7) hb); have n2_ := Aside0.mk (Kd.N_below (Kd.N_elderB (nA HO_452000) gb472 (Nat.le_of_eq hg.symm)) hb); have n3_ := Aside0.mk (Kd.N_below (Kd.N_elderB (nA HO_458000) gb472 (Nat.le_of_eq hg.symm)) hb); have n4_ := Aside0.mk (Kd.N_below (Kd.N_elderB (nA HO_463000) gb472 (Nat.le_of_eq hg.symm)) hb); have n5_ := Aside0.mk (Kd.N_below (Kd.N_elderB (nA HO470) gb472 (Nat.le_of_eq hg.symm)) hb); have n6_ := Aside0.mk (kK BK451 hb); have n7_ := Aside0.mk (kK BK457 hb); have n8_ := Aside0.mk (kK BK462 hb); have n9_ := Aside0.mk (below_step (kB HB) hb); have n10_ := Aside0.mk (hbox); have n11_ := Aside0.mk ((by rw [hg]; exact (below_size (kB HB)) : w.heap.size ≤ gb472)); have n12_ := Aside0.mk ((by rw [hg]; exact (below_size (kB HB)) : w.heap.size ≤ gb472)); have n13_ := Aside0.mk ((by rw [hg]; exact Nat.ne_of_lt (blk_lt (g := gb451) (o := .cells #[.slice Ao33 y448.length co33] 33 (0, 0)) (bA BK451)) : gb451 ≠ gb472)); have n14_ := Aside0.mk ((by rw [hg]; exact Nat.ne_of_gt (blk_lt (g := gb451) (o := .cells #[.slice Ao33 y448.length co33] 33 (0, 0)) (bA BK451)) : gb472 ≠ gb451)); have n15_ := Aside0.mk ((by rw [hg]; exact Nat.ne_of_lt (blk_lt (g := gb457) (o := .cells #[.slice Ao39 t453.length co39] 33 (0, 0)) (bA BK457)) : gb457 ≠ gb472)); have n16_ := Aside0.mk ((by rw [hg]; exact Nat.ne_of_gt (blk_lt (g := gb457) (o := .cells #[.slice Ao39 t453.length co39] 33 (0, 0)) (bA BK457)) : gb472 ≠ gb457)); have n17_ := Aside0.mk ((by rw [hg]; exact Nat.ne_of_lt (blk_lt (g := gb462) (o := .cells #[.slice Ao44 t458.length co44] 33 (0, 0)) (bA BK462)) : gb462 ≠ gb472)); have n18_ := Aside0.mk ((by rw [hg]; exact Nat.ne_of_gt (blk_lt (g := gb462) (o := .cells #[.slice Ao44 t458.length co44] 33 (0, 0)) (bA BK462)) : gb472 ≠ gb462)); clear HO_5; clear HO_7; clear HO_452000; clear HO_458000; clear HO_463000; clear HO470; clear BK451; clear BK457; clear BK462; clear HB; have HO_5 := n0_; have HO_7 := n1_; have HO_452000 := n2_; have HO_458000 := n3_; have HO_463000 := n4_; have HO470 := n5_; have BK451 := n6_; have BK457 := n7_; have BK462 := n8_; have HB := n9_; have BK472 := n10_; have GW472 := n11_; have GE472 := n12_; have NB451_472 := n13_; have NB472_451 := n14_; have NB457_472 := n15_; have NB472_457 := n16_; have NB462_472 := n17_; have NB472_462 := n18_; clear n0_ n1_ n2_ n3_ n4_ n5_ n6_ n7_ n8_ n9_ n10_ n11_ n12_ n13_ n14_ n15_ n16_ n17_ n18_; clear hb hbox hg; obtain ⟨Ao134, co134, eo134⟩ := Kd.N_slice HO470.out; subst eo134; have hnb135 := NB472_451.out; have hnc135 := NB451_472.out; have hnb136 := NB472_457.out; have hnc136 := NB457_472.out; have hnb137 := NB472_462.out; have hnc137 := NB462_472.out; have hcz138_0 : w133.cell? ⟨gb472, 0, none⟩ = some (.slice none 0 0) := (blk_cell BK472.out 0).trans rfl; have hfz138_0 := blk_frozen BK472.out 0; obtain ⟨Ao139, co139, eo139⟩ := Kd.R_slice HO_7.out; subst eo139) | (go_at_call 30; (with_reducible refine (impl_BergParent.calls kj67 _ _ t430 t473 t474 t475 _ ?side1 ?side2 A128.out).mono ?_); (case side1 => refine (Kd.R_reads' (e := 3) (base := w.heap.size) (ok := fun k_ => some k_ ≠ (.slice Ao10 t426.length co10 : Value).ownBlock) (n := t430.length) (c := co139) ?_).2.2; exact (by (with_reducible repeat (first | apply Kd.R_alloc | apply Kd.R_drewN | apply Kd.R_drew)); exact (Kd.R_mono (Kd.R_far (p := ⟨gb472, 0, none⟩) (Kd.R_types HO_7.out BK472.out (by decide)) (fun _ hk => hk.2) (.slice Ao134 t468.length co134)) (fun _ h_ => h_.1)))); (case side2 => exact (Kd.R_reads' HO_7.out).2.1); rintro e w140 ⟨v476, rfl, ho0, hb⟩; have n0_ := Aside0.mk (Kd.R_elder' (by (with_reducible repeat (first | apply Kd.R_alloc | apply Kd.R_drewN | apply Kd.R_drew)); exact (Kd.R_mono (Kd.R_far (p := ⟨gb472, 0, none⟩) (Kd.R_types HO_5.out BK472.out (by decide)) (fun _ hk => hk.2) (.slice Ao134 t468.length co134)) (fun _ h_ => h_.1))) (Kd.R_base ho0) hb); have n1_ := Aside0.mk (Kd.R_elder' (by (with_reducible repeat (first | apply Kd.R_alloc | apply Kd.R_drewN | apply Kd.R_drew)); exact (Kd.R_mono (Kd.R_far (p := ⟨gb472, 0, none⟩) (Kd.R_types HO_7.out BK472.out (by decide)) (fun _ hk => hk.2) (.slice Ao134 t468.length co134)) (fun _ h_ => h_.1))) (Kd.R_base ho0) hb); have n2_ := Aside0.mk (Kd.N_elder' (by (with_reducible repeat (first | apply Kd.N_alloc | apply Kd.N_drewN | apply Kd.N_drew)); exact (Kd.N_mono (Kd.N_far (p := ⟨gb472, 0, none⟩) (Kd.N_mono HO_452000.out (fun k_ hk => (⟨hk, hk.2⟩ : _ ∧ k_ ≠ gb472))) (fun _ hk => hk.2) (.slice Ao134 t468.length co134)) (fun _ h_ => h_.1))) (Kd.R_base ho0) hb); have n3_ := Aside0.mk (Kd.N_elder' (by (with_reducible repeat (first | apply Kd.N_alloc | apply Kd.N_drewN | apply Kd.N_drew)); exact (Kd.N_mono (Kd.N_far (p := ⟨gb472, 0, none⟩) (Kd.N_mono HO_458000.out (fun k_ hk => (⟨hk, hk.2⟩ : _ ∧ k_ ≠ gb472))) (fun _ hk => hk.2) (.slice Ao134 t468.length co134)) (fun _ h_ => h_.1))) (Kd.R_base ho0) hb); have n4_ := Aside0.mk (Kd.N_elder' (by (with_reducible repeat (first | apply Kd.N_alloc | apply Kd.N_drewN | apply Kd.N_drew)); exact (Kd.N_mono (Kd.N_far (p := ⟨gb472, 0, none⟩) (Kd.N_mono HO_463000.out (fun k_ hk => (⟨hk, hk.2⟩ : _ ∧ k_ ≠ gb472))) (fun _ hk => hk.2) (.slice Ao134 t468.length co134)) (fun _ h_ => h_.1))) (Kd.R_base ho0) hb); have n5_ := Aside0.mk (Kd.N_elder' (by (with_reducible repeat (first | apply Kd.N_alloc | apply Kd.N_drewN | apply Kd.N_drew)); exact (Kd.N_mono (Kd.N_far (p := ⟨gb472, 0, none⟩) (Kd.N_mono HO470.out (fun k_ hk => (⟨hk, hk.2⟩ : _ ∧ k_ ≠ gb472))) (fun _ hk => hk.2) (.slice Ao134 t468.length co134)) (fun _ h_ => h_.1))) (Kd.R_base ho0) hb); have n6_ := Aside0.mk (Kd.R_lower (Kd.R_new' (Kd.R_new' ho0 (Kd.R_lt (by (with_reducible repeat (first | apply Kd.R_alloc | apply Kd.R_drewN | apply Kd.R_drew)); exact (Kd.R_mono (Kd.R_far (p := ⟨gb472, 0, none⟩) (Kd.R_types HO_5.out BK472.out (by decide)) (fun _ hk => hk.2) (.slice Ao134 t468.length co134)) (fun _ h_ => h_.1))))) (Kd.R_lt (by (with_reducible repeat (first | apply Kd.R_alloc | apply Kd.R_drewN | apply Kd.R_drew)); exact (Kd.R_mono (Kd.R_far (p := ⟨gb472, 0, none⟩) (Kd.R_types HO_7.out BK472.out (by decide)) (fun _ hk => hk.2) (.slice Ao134 t468.length co134)) (fun _ h_ => h_.1))))) (below_size (kB HB))); have n7_ := Aside0.mk (blk_below (g := gb451) (o := .cells #[.slice Ao33 y448.length co33] 33 (0, 0)) (by (with_reducible repeat (first | refine blk_drewN ?_ _ | refine blk_drew ?_ | refine blk_alloc ?_ _)); refine blk_far ?_ NB451_472.out _; (with_reducible repeat (first | refine blk_drewN ?_ _ | refine blk_drew ?_ | refine blk_alloc ?_ _)); exact BK451.out) hb); have n8_ := Aside0.mk (blk_below (g := gb457) (o := .cells #[.slice Ao39 t453.length co39] 33 (0, 0)) (by (with_reducible repeat (first | refine blk_drewN ?_ _ | refine blk_drew ?_ | refine blk_alloc ?_ _)); refine blk_far ?_ NB457_472.out _; (with_reducible repeat (first | refine blk_drewN ?_ _ | refine blk_drew ?_ | refine blk_alloc ?_ _)); exact BK457.out) hb); have n9_ := Aside0.mk (blk_below (g := gb462) (o := .cells #[.slice Ao44 t458.length co44] 33 (0, 0)) (by (with_reducible repeat (first | refine blk_drewN ?_ _ | refine blk_drew ?_ | refine blk_alloc ?_ _)); refine blk_far ?_ NB462_472.out _; (with_reducible repeat (first | refine blk_drewN ?_ _ | refine blk_drew ?_ | refine blk_alloc ?_ _)); exact BK462.out) hb); have n10_ := Aside0.mk (blk_below (g := gb472) (o := .cells #[.slice Ao134 t468.length co134] 33 (0, 0)) (by (with_reducible repeat (first | refine blk_drewN ?_ _ | refine blk_drew ?_ | refine blk_alloc ?_ _)); refine blk_put (cs := #[.slice none 0 0]) ?_ 0 _ rfl; (with_reducible repeat (first | refine blk_drewN ?_ _ | refine blk_drew ?_ | refine blk_alloc ?_ _)); exact BK472.out) hb); have n11_ := Aside0.mk (below_step (kB HB) hb); clear HO_5; clear HO_7; clear HO_452000; clear HO_458000; clear HO_463000; clear HO470; clear BK451; clear BK457; clear BK462; clear BK472; clear HB; have HO_5 := n0_; have HO_7 := n1_; have HO_452000 := n2_; have HO_458000 := n3_; have HO_463000 := n4_; have HO470 := n5_; have HO477 := n6_; have BK451 := n7_; have BK457 := n8_; have BK462 := n9_; have BK472 := n10_; have HB := n11_; clear n0_ n1_ n2_ n3_ n4_ n5_ n6_ n7_ n8_ n9_ n10_ n11_; (try clear hb); (try clear hb2); (try clear hk); (try clear hi); (try clear ho0)) | (go_at_call 31; (with_reducible refine (impl_BergWord.calls kj67 _ _ t430 t478 t479 _ ?side1 ?side2 A129.out).mono ?_); (case side1 => exact cC (Kd.R_reads' HO_7.out).2.2); (case side2 => exact (Kd.R_reads' HO_7.out).2.1); rintro e w141 ⟨v480, rfl, ho0, hb⟩; have n0_ := Aside0.mk (Kd.R_elder' (rA HO_5) (Kd.R_base ho0) hb); have n1_ := Aside0.mk (Kd.R_elder' (rA HO_7) (Kd.R_base ho0) hb); have n2_ := Aside0.mk (Kd.N_elder' (nA HO_452000) (Kd.R_base ho0) hb); have n3_ := Aside0.mk (Kd.N_elder' (nA HO_458000) (Kd.R_base ho0) hb); have n4_ := Aside0.mk (Kd.N_elder' (nA HO_463000) (Kd.R_base ho0) hb); have n5_ := Aside0.mk (Kd.N_elder' (nA HO470) (Kd.R_base ho0) hb); have n6_ := Aside0.mk (Kd.R_elder' (rA HO477) (Kd.R_base ho0) hb); have n7_ := Aside0.mk (Kd.R_lower (Kd.R_new' (Kd.R_new' (Kd.R_new' ho0 (Kd.R_lt (rA HO_5))) (Kd.R_lt (rA HO_7))) (Kd.R_lt (rA HO477))) (below_size (kB HB))); have n8_ := Aside0.mk (kK BK451 hb); have n9_ := Aside0.mk (kK BK457 hb); have n10_ := Aside0.mk (kK BK462 hb); have n11_ := Aside0.mk (kK BK472 hb); have n12_ := Aside0.mk (below_step (kB HB) hb); clear HO_5; clear HO_7; clear HO_452000; clear HO_458000; clear HO_463000; clear HO470; clear HO477; clear BK451; clear BK457; clear BK462; clear BK472; clear HB; have HO_5 := n0_; have HO_7 := n1_; have HO_452000 := n2_; have HO_458000 := n3_; have HO_463000 := n4_; have HO470 := n5_; have HO477 := n6_; have HO481 := n7_; have BK451 := n8_; have BK457 := n9_; have BK462 := n10_; have BK472 := n11_; have HB := n12_; clear n0_ n1_ n2_ n3_ n4_ n5_ n6_ n7_ n8_ n9_ n10_ n11_ n12_; (try clear hb); (try clear hb2); (try clear hk); (try clear hi); (try clear ho0)) | (go_at_call 31; (with_reducible refine (impl_BergWord.calls kj67 _ _ t426 t482 t483 _ ?side1 ?side2 A130.out).mono ?_); (case side1 => exact cC (Kd.R_reads' HO_5.out).2.2); (case side2 => exact (Kd.R_reads' HO_5.out).2.1); rintro e w142 ⟨v484, rfl, ho0, hb⟩; have n0_ := Aside0.mk (Kd.R_elder' (rA HO_5) (Kd.R_base ho0) hb); have n1_ := Aside0.mk (Kd.R_elder' (rA HO_7) (Kd.R_base ho0) hb); have n2_ := Aside0.mk (Kd.N_elder' (nA HO_452000) (Kd.R_base ho0) hb); have n3_ := Aside0.mk (Kd.N_elder' (nA HO_458000) (Kd.R_base ho0) hb); have n4_ := Aside0.mk (Kd.N_elder' (nA HO_463000) (Kd.R_base ho0) hb); have n5_ := Aside0.mk (Kd.N_elder' (nA HO470) (Kd.R_base ho0) hb); have n6_ := Aside0.mk (Kd.R_elder' (rA HO477) (Kd.R_base ho0) hb); have n7_ := Aside0.mk (Kd.R_elder' (rA HO481) (Kd.R_base ho0) hb); have n8_ := Aside0.mk (Kd.R_lower (Kd.R_new' (Kd.R_new' (Kd.R_new' (Kd.R_new' ho0 (Kd.R_lt (rA HO_5))) (Kd.R_lt (rA HO_7))) (Kd.R_lt (rA HO477))) (Kd.R_lt (rA HO481))) (below_size (kB HB))); have n9_ := Aside0.mk (kK BK451 hb); have n10_ := Aside0.mk (kK BK457 hb); have n11_ := Aside0.mk (kK BK462 hb); have n12_ := Aside0.mk (kK BK472 hb); have n13_ := Aside0.mk (below_step (kB HB) hb); clear HO_5; clear HO_7; clear HO_452000; clear HO_458000; clear HO_463000; clear HO470; clear HO477; clear HO481; clear BK451; clear BK457; clear BK462; clear BK472; clear HB; have HO_5 := n0_; have HO_7 := n1_; have HO_452000 := n2_; have HO_458000 := n3_; have HO_463000 := n4_; have HO470 := n5_; have HO477 := n6_; have HO481 := n7_; have HO485 := n8_; have BK451 := n9_; have BK457 := n10_; have BK462 := n11_; have BK472 := n12_; have HB := n13_; clear n0_ n1_ n2_ n3_ n4_ n5_ n6_ n7_ n8_ n9_ n10_ n11_ n12_ n13_; (try clear hb); (try clear hb2); (try clear hk); (try clear hi); (try clear ho0)))
                    (try simp only [Act.put, List.setIfInBounds_toArray, List.set_cons_zero, List.set_cons_succ])
                    go_cut [195] (fun v195 wc => ∃ (kq : Nat) (x195_130 : Bool), v195 = .bool x195_130 ∧ Aside0 (laws_FnFirstTree.j3 kq l1 t426 t430 x195_130 t468 = some r) ∧ Aside0 (kq ≤ kj67) ∧ Aside0 (Kd.R (Kd.int .i64) 3 wc w.heap.size (fun k_ => some k_ ≠ ((.slice Ao139 t430.length co139) : Value).ownBlock) (.slice Ao10 t426.length co10) t426) ∧ Aside0 (Kd.R (Kd.int .i64) 3 wc w.heap.size (fun k_ => some k_ ≠ ((.slice Ao10 t426.length co10) : Value).ownBlock) (.slice Ao139 t430.length co139) t430) ∧ Aside0 (Kd.N (Kd.slice 3 (Kd.int .i64)) 24 wc w.heap.size (fun k_ => some k_ ≠ ((.slice Ao10 t426.length co10) : Value).ownBlock ∧ some k_ ≠ ((.slice Ao139 t430.length co139) : Value).ownBlock ∧ some k_ ≠ ((.slice Ao39 t453.length co39) : Value).ownBlock ∧ some k_ ≠ ((.slice Ao44 t458.length co44) : Value).ownBlock ∧ some k_ ≠ ((.slice Ao134 t468.length co134) : Value).ownBlock ∧ k_ ≠ gb451 ∧ k_ ≠ gb457 ∧ k_ ≠ gb462 ∧ k_ ≠ gb472) (.slice Ao33 y448.length co33) y448) ∧ Aside0 (Kd.N (Kd.slice 3 (Kd.int .i64)) 24 wc w.heap.size (fun k_ => some k_ ≠ ((.slice Ao10 t426.length co10) : Value).ownBlock ∧ some k_ ≠ ((.slice Ao139 t430.length co139) : Value).ownBlock ∧ some k_ ≠ ((.slice Ao33 y448.length co33) : Value).ownBlock ∧ some k_ ≠ ((.slice Ao44 t458.length co44) : Value).ownBlock ∧ some k_ ≠ ((.slice Ao134 t468.length co134) : Value).ownBlock ∧ k_ ≠ gb451 ∧ k_ ≠ gb457 ∧ k_ ≠ gb462 ∧ k_ ≠ gb472) (.slice Ao39 t453.length co39) t453) ∧ Aside0 (Kd.N (Kd.slice 3 (Kd.int .i64)) 24 wc w.heap.size (fun k_ => some k_ ≠ ((.slice Ao10 t426.length co10) : Value).ownBlock ∧ some k_ ≠ ((.slice Ao139 t430.length co139) : Value).ownBlock ∧ some k_ ≠ ((.slice Ao33 y448.length co33) : Value).ownBlock ∧ some k_ ≠ ((.slice Ao39 t453.length co39) : Value).ownBlock ∧ some k_ ≠ ((.slice Ao134 t468.length co134) : Value).ownBlock ∧ k_ ≠ gb451 ∧ k_ ≠ gb457 ∧ k_ ≠ gb462 ∧ k_ ≠ gb472) (.slice Ao44 t458.length co44) t458) ∧ Aside0 (Kd.N (Kd.slice 3 (Kd.int .i64)) 24 wc w.heap.size (fun k_ => some k_ ≠ ((.slice Ao10 t426.length co10) : Value).ownBlock ∧ some k_ ≠ ((.slice Ao139 t430.length co139) : Value).ownBlock ∧ some k_ ≠ ((.slice Ao33 y448.length co33) : Value).ownBlock ∧ some k_ ≠ ((.slice Ao39 t453.length co39) : Value).ownBlock ∧ some k_ ≠ ((.slice Ao44 t458.length co44) : Value).ownBlock ∧ k_ ≠ gb451 ∧ k_ ≠ gb457 ∧ k_ ≠ gb462 ∧ k_ ≠ gb472) (.slice Ao134 t468.length co134) t468) ∧ Aside0 (wc.heap[gb451]? = some (.cells #[(.slice Ao33 y448.length co33)] 33 (0, 0))) ∧ Aside0 (wc.heap[gb457]? = some (.cells #[(.slice Ao39 t453.length co39)] 33 (0, 0))) ∧ Aside0 (wc.heap[gb462]? = some (.cells #[(.slice Ao44 t458.length co44)] 33 (0, 0))) ∧ Aside0 (wc.heap[gb472]? = some (.cells #[(.slice Ao134 t468.length co134)] 33 (0, 0))) ∧ Aside0 (Below w.heap.size w wc))
                    case first =>
                     as_aux_lemma =>
                      have H := HC131.out
                      clear HC131
                      by_cases c143 : t471 = true
                      ·
                       as_aux_lemma =>
                        subst c143
                        have H1 : (if t475 = true then (if t479 = true then (if t483 = true then ((laws_vSame.f kj67 t473 t426).bind fun t486 => (if t486 = true then (if t474 = t427 then ((some (([] : List Int) : List Int)).bind fun y487 => (if y487.length + t482.length < 17592186044416 then ((some (y487 ++ t482 : List Int)).bind fun y490 => (if y490.length < 17592186044416 then ((laws_vSame.f kj67 t478 (y490 ++ [t427])).bind fun t496 => (laws_FnFirstTree.j3 kj67 l1 t426 t430 (!t496) t468)) else (none))) else (none))) else (laws_FnFirstTree.j3 kj67 l1 t426 t430 true t468)) else (laws_FnFirstTree.j3 kj67 l1 t426 t430 true t468))) else (laws_FnFirstTree.j3 kj67 l1 t426 t430 true t468)) else (laws_FnFirstTree.j3 kj67 l1 t426 t430 true t468)) else (laws_FnFirstTree.j3 kj67 l1 t426 t430 true t468)) = some r := by rw [if_pos rfl] at H; exact H
                        clear H
                        have H := H1
                        clear H1
                        by_cases c144 : t475 = true
                        ·
                         as_aux_lemma =>
                          subst c144
                          have H1 : (if t479 = true then (if t483 = true then ((laws_vSame.f kj67 t473 t426).bind fun t486 => (if t486 = true then (if t474 = t427 then ((some (([] : List Int) : List Int)).bind fun y487 => (if y487.length + t482.length < 17592186044416 then ((some (y487 ++ t482 : List Int)).bind fun y490 => (if y490.length < 17592186044416 then ((laws_vSame.f kj67 t478 (y490 ++ [t427])).bind fun t496 => (laws_FnFirstTree.j3 kj67 l1 t426 t430 (!t496) t468)) else (none))) else (none))) else (laws_FnFirstTree.j3 kj67 l1 t426 t430 true t468)) else (laws_FnFirstTree.j3 kj67 l1 t426 t430 true t468))) else (laws_FnFirstTree.j3 kj67 l1 t426 t430 true t468)) else (laws_FnFirstTree.j3 kj67 l1 t426 t430 true t468)) = some r := by rw [if_pos rfl] at H; exact H
                          clear H
                          have H := H1
                          clear H1
                          by_cases c145 : t479 = true
                          ·
                           subst c145
                           have H1 : (if t483 = true then ((laws_vSame.f kj67 t473 t426).bind fun t486 => (if t486 = true then (if t474 = t427 then ((some (([] : List Int) : List Int)).bind fun y487 => (if y487.length + t482.length < 17592186044416 then ((some (y487 ++ t482 : List Int)).bind fun y490 => (if y490.length < 17592186044416 then ((laws_vSame.f kj67 t478 (y490 ++ [t427])).bind fun t496 => (laws_FnFirstTree.j3 kj67 l1 t426 t430 (!t496) t468)) else (none))) else (none))) else (laws_FnFirstTree.j3 kj67 l1 t426 t430 true t468)) else (laws_FnFirstTree.j3 kj67 l1 t426 t430 true t468))) else (laws_FnFirstTree.j3 kj67 l1 t426 t430 true t468)) = some r := by rw [if_pos rfl] at H; exact H
                           clear H
                           have H := H1
                           clear H1
                           by_cases c146 : t483 = true
                           ·
                            subst c146
                            have H1 : ((laws_vSame.f kj67 t473 t426).bind fun t486 => (if t486 = true then (if t474 = t427 then ((some (([] : List Int) : List Int)).bind fun y487 => (if y487.length + t482.length < 17592186044416 then ((some (y487 ++ t482 : List Int)).bind fun y490 => (if y490.length < 17592186044416 then ((laws_vSame.f kj67 t478 (y490 ++ [t427])).bind fun t496 => (laws_FnFirstTree.j3 kj67 l1 t426 t430 (!t496) t468)) else (none))) else (none))) else (laws_FnFirstTree.j3 kj67 l1 t426 t430 true t468)) else (laws_FnFirstTree.j3 kj67 l1 t426 t430 true t468))) = some r := by rw [if_pos rfl] at H; exact H
                            clear H
                            have H := H1
                            clear H1
                            replace H := Option.bind_eq_some_iff.mp H
                            obtain ⟨t486, A1470, H⟩ := H
                            replace H : (if t486 = true then (if t474 = t427 then ((some (([] : List Int) : List Int)).bind fun y487 => (if y487.length + t482.length < 17592186044416 then ((some (y487 ++ t482 : List Int)).bind fun y490 => (if y490.length < 17592186044416 then ((laws_vSame.f kj67 t478 (y490 ++ [t427])).bind fun t496 => (laws_FnFirstTree.j3 kj67 l1 t426 t430 (!t496) t468)) else (none))) else (none))) else (laws_FnFirstTree.j3 kj67 l1 t426 t430 true t468)) else (laws_FnFirstTree.j3 kj67 l1 t426 t430 true t468)) = some r := H
                            have A147 := Aside0.mk A1470
                            clear A1470
                            by_cases c148 : t486 = true
                            ·
                             subst c148
                             have H1 : (if t474 = t427 then ((some (([] : List Int) : List Int)).bind fun y487 => (if y487.length + t482.length < 17592186044416 then ((some (y487 ++ t482 : List Int)).bind fun y490 => (if y490.length < 17592186044416 then ((laws_vSame.f kj67 t478 (y490 ++ [t427])).bind fun t496 => (laws_FnFirstTree.j3 kj67 l1 t426 t430 (!t496) t468)) else (none))) else (none))) else (laws_FnFirstTree.j3 kj67 l1 t426 t430 true t468)) = some r := by rw [if_pos rfl] at H; exact H
                             clear H
                             have H := H1
                             clear H1
                             by_cases c149 : t474 = t427
                             ·
                              rw [if_pos c149] at H
                              have c149b0 : (t474 == t427) = true := beq_iff_eq.mpr c149
                              have c149b1 : (t474 != t427) = false := bne_eq_false_iff_eq.mpr c149
                              clear c149
                              (first | rw [c149b0] | (simp only [i64_w, i32_w]; rw [c149b0]) | skip)
                              obtain ⟨y487, hy487⟩ : ∃ y_ : List Int, y_ = (([] : List Int)) := ⟨_, rfl⟩
                              replace H : (if y487.length + t482.length < 17592186044416 then ((some (y487 ++ t482 : List Int)).bind fun y490 => (if y490.length < 17592186044416 then ((laws_vSame.f kj67 t478 (y490 ++ [t427])).bind fun t496 => (laws_FnFirstTree.j3 kj67 l1 t426 t430 (!t496) t468)) else (none))) else (none)) = some r := by first | (rw [hy487]; with_reducible exact H) | (have H2_ := (Option.bind_some _ _).symm.trans H; rw [hy487]; with_reducible exact H2_) | (have H2_ := (Option.bind_some _ _).symm.trans H; with_reducible exact H2_) | with_reducible exact H | (rw [hy487]; exact H) | exact H
                              have Ny487 := Aside0.mk hy487
                              clear hy487
                              by_cases c150 : y487.length + t482.length < 17592186044416
                              ·
                               rw [if_pos c150] at H
                               have LMc150 := Aside0.mk c150
                               clear c150
                               obtain ⟨y490, hy490⟩ : ∃ y_ : List Int, y_ = (y487 ++ t482) := ⟨_, rfl⟩
                               replace H : (if y490.length < 17592186044416 then ((laws_vSame.f kj67 t478 (y490 ++ [t427])).bind fun t496 => (laws_FnFirstTree.j3 kj67 l1 t426 t430 (!t496) t468)) else (none)) = some r := by first | (rw [hy490]; with_reducible exact H) | (have H2_ := (Option.bind_some _ _).symm.trans H; rw [hy490]; with_reducible exact H2_) | (have H2_ := (Option.bind_some _ _).symm.trans H; with_reducible exact H2_) | with_reducible exact H | (rw [hy490]; exact H) | exact H
                               have Ny490 := Aside0.mk hy490
                               clear hy490
                               by_cases c151 : y490.length < 17592186044416
                               ·
                                rw [if_pos c151] at H
                                have LMc151 := Aside0.mk c151
                                clear c151
                                obtain ⟨y493, hy493⟩ : ∃ y_ : List Int, y_ = (y490 ++ [t427]) := ⟨_, rfl⟩
                                replace H : ((laws_vSame.f kj67 t478 y493).bind fun t496 => (laws_FnFirstTree.j3 kj67 l1 t426 t430 (!t496) t468)) = some r := by first | (rw [hy493]; with_reducible exact H) | (have H2_ := (Option.bind_some _ _).symm.trans H; rw [hy493]; with_reducible exact H2_) | (have H2_ := (Option.bind_some _ _).symm.trans H; with_reducible exact H2_) | with_reducible exact H | (rw [hy493]; exact H) | exact H
                                have Ny493 := Aside0.mk hy493
                                clear hy493
                                replace H := Option.bind_eq_some_iff.mp H
                                obtain ⟨t496, A1520, H⟩ := H
                                replace H : (laws_FnFirstTree.j3 kj67 l1 t426 t430 (!t496) t468) = some r := H
                                have A152 := Aside0.mk A1520
                                clear A1520
                                have H' := Aside0.mk H
                                clear H
                                obtain ⟨Ao153, co153, eo153⟩ := Kd.R_slice HO477.out
                                subst eo153
                                go_wp2_with (first | (go_at_call 11; (with_reducible refine (laws_vSame.calls kj67 _ _ t473 _ _ t426 true _ ?side1 ?side2 ?side3 ?side4 A147.out).mono ?_); (case side1 => exact cC (Kd.R_reads' HO477.out).2.2); (case side2 => exact (Kd.R_reads' HO477.out).2.1); (case side3 => exact cC (Kd.R_reads' HO_5.out).2.2); (case side4 => exact (Kd.R_reads' HO_5.out).2.1); rintro e w' ⟨rfl, ⟨nd, rfl⟩⟩; (try exact dD)) | ((with_reducible refine gate_dst (N := 187) rfl ?_); (try (refine gate_guard (by rfl) ?_; dsimp only)); refine Kd.R_lit (Kd.int .i64) _ 3 ?hg (N := 187) ?hd (xs := ([] : List Int)) (inner := []) (ok := fun _ => True) (okp := fun _ => True) ?hr ?hp (fun _ hk => hk) trivial (Below.refl _ _) (Nat.le_refl _) (by simp) ?_; (case hd => rfl); (case hg => rfl); (case hr => first | (go_simp; done) | (go_simp; rfl)); (case hp => exact (Reps.none _ _)); intro v488 w154 ho155 hb hg_ hnew_; clear hg_ hnew_; (first | rw [← Ny487.out] at ho155 | (simp only [Int.reduceToNat] at ho155; rw [← Ny487.out] at ho155)); have n0_ := Aside0.mk (Kd.R_elder' (rA HO_5) (Kd.R_base ho155) hb); have n1_ := Aside0.mk (Kd.R_elder' (rA HO_7) (Kd.R_base ho155) hb); have n2_ := Aside0.mk (Kd.N_elder' (nA HO_452000) (Kd.R_base ho155) hb); have n3_ := Aside0.mk (Kd.N_elder' (nA HO_458000) (Kd.R_base ho155) hb); have n4_ := Aside0.mk (Kd.N_elder' (nA HO_463000) (Kd.R_base ho155) hb); have n5_ := Aside0.mk (Kd.N_elder' (nA HO470) (Kd.R_base ho155) hb); have n6_ := Aside0.mk (Kd.R_elder' (rA HO477) (Kd.R_base ho155) hb); have n7_ := Aside0.mk (Kd.R_elder' (rA HO481) (Kd.R_base ho155) hb); have n8_ := Aside0.mk (Kd.R_elder' (rA HO485) (Kd.R_base ho155) hb); have n9_ := Aside0.mk (Kd.R_lower (Kd.R_new' (Kd.R_new' (Kd.R_new' (Kd.R_new' (Kd.R_new' ho155 (Kd.R_lt (rA HO_5))) (Kd.R_lt (rA HO_7))) (Kd.R_lt (rA HO477))) (Kd.R_lt (rA HO481))) (Kd.R_lt (rA HO485))) (below_size (kB HB))); have n10_ := Aside0.mk (kK BK451 hb); have n11_ := Aside0.mk (kK BK457 hb); have n12_ := Aside0.mk (kK BK462 hb); have n13_ := Aside0.mk (kK BK472 hb); have n14_ := Aside0.mk (below_step (kB HB) hb); clear HO_5; clear HO_7; clear HO_452000; clear HO_458000; clear HO_463000; clear HO470; clear HO477; clear HO481; clear HO485; clear BK451; clear BK457; clear BK462; clear BK472; clear HB; have HO_5 := n0_; have HO_7 := n1_; have HO_452000 := n2_; have HO_458000 := n3_; have HO_463000 := n4_; have HO470 := n5_; have HO477 := n6_; have HO481 := n7_; have HO485 := n8_; have HO489 := n9_; have BK451 := n10_; have BK457 := n11_; have BK462 := n12_; have BK472 := n13_; have HB := n14_; clear n0_ n1_ n2_ n3_ n4_ n5_ n6_ n7_ n8_ n9_ n10_ n11_ n12_ n13_ n14_; clear hb ho155; obtain ⟨Ao157, co157, eo157⟩ := Kd.R_slice HO485.out; subst eo157) | ((with_reducible refine gate_builtin (b := .append) (xs := #[.tmp 187, .tmp 188]) rfl ?_); (try (refine gate_guard (by rfl) ?_; dsimp only)); at_builtin; refine Kd.R_append_rows (Kd.int .i64) (w0 := w) w.heap.size rfl (.tmp 187) (.tmp 188) 24 3 (.int .i64 0) 8 rfl Try.underlying24 info3 rfl (by decide) (by omega) v488 y487 t482 _ _ _ (fun k_ => some k_ ≠ (.slice Ao10 t426.length co10 : Value).ownBlock ∧ some k_ ≠ (.slice Ao139 t430.length co139 : Value).ownBlock ∧ some k_ ≠ (.slice Ao153 t473.length co153 : Value).ownBlock ∧ some k_ ≠ (v480 : Value).ownBlock ∧ some k_ ≠ (.slice Ao157 t482.length co157 : Value).ownBlock) (fun _ => False) rfl rfl ?aO ?aR (fun _ _ h => h) (fun _ h => h.elim) ?aF ?aB ?aS ?aL ?_; (case aR => exact cC (Kd.R_reads' HO485.out).2.2); (case aB => exact (kB HB)); (case aF => exact (fun k_ hk => ⟨Kd.fresh' (Kd.R_lt (rA HO_5)) k_ hk, Kd.fresh' (Kd.R_lt (rA HO_7)) k_ hk, Kd.fresh' (Kd.R_lt (rA HO477)) k_ hk, Kd.fresh' (Kd.R_lt (rA HO481)) k_ hk, Kd.fresh' (Kd.R_lt (rA HO485)) k_ hk⟩)); (case aO => exact (by (with_reducible repeat (first | apply Kd.R_alloc | apply Kd.R_drewN | apply Kd.R_drew)); exact Kd.R_mono HO489.out (fun _ hk => ⟨hk.1.1.1.1.2, ⟨hk.1.1.1.2, ⟨hk.1.1.2, ⟨hk.1.2, hk.2⟩⟩⟩⟩))); (case aS => exact (below_size (kB HB))); (case aL => have := LMc150.out; omega); intro v491 w156 ho hb hg hat; rw [← Ny490.out] at ho; have n0_ := Aside0.mk (Kd.R_after (ok := (fun k_ => some k_ ≠ (.slice Ao139 t430.length co139 : Value).ownBlock ∧ some k_ ≠ (.slice Ao153 t473.length co153 : Value).ownBlock ∧ some k_ ≠ (v480 : Value).ownBlock ∧ some k_ ≠ (.slice Ao157 t482.length co157 : Value).ownBlock)) (by (with_reducible repeat (first | apply Kd.R_alloc | apply Kd.R_drewN | apply Kd.R_drew)); exact Kd.R_mono HO_5.out (fun _ hk => ⟨⟨hk.1.1.1.1, ⟨hk.1.1.1.2, ⟨hk.1.1.2, hk.1.2⟩⟩⟩, hk.2⟩)) hg hat); have n1_ := Aside0.mk (Kd.R_after (ok := (fun k_ => some k_ ≠ (.slice Ao10 t426.length co10 : Value).ownBlock ∧ some k_ ≠ (.slice Ao153 t473.length co153 : Value).ownBlock ∧ some k_ ≠ (v480 : Value).ownBlock ∧ some k_ ≠ (.slice Ao157 t482.length co157 : Value).ownBlock)) (by (with_reducible repeat (first | apply Kd.R_alloc | apply Kd.R_drewN | apply Kd.R_drew)); exact Kd.R_mono HO_7.out (fun _ hk => ⟨⟨hk.1.1.1.1, ⟨hk.1.1.1.2, ⟨hk.1.1.2, hk.1.2⟩⟩⟩, hk.2⟩)) hg hat); have n2_ := Aside0.mk (Kd.N_afterv (ok := (fun k_ => some k_ ≠ (.slice Ao10 t426.length co10 : Value).ownBlock ∧ some k_ ≠ (.slice Ao139 t430.length co139 : Value).ownBlock ∧ some k_ ≠ (.slice Ao39 t453.length co39 : Value).ownBlock ∧ some k_ ≠ (.slice Ao44 t458.length co44 : Value).ownBlock ∧ some k_ ≠ (.slice Ao134 t468.length co134 : Value).ownBlock ∧ some k_ ≠ (.slice Ao153 t473.length co153 : Value).ownBlock ∧ some k_ ≠ (v480 : Value).ownBlock ∧ some k_ ≠ (.slice Ao157 t482.length co157 : Value).ownBlock ∧ k_ ≠ gb451 ∧ k_ ≠ gb457 ∧ k_ ≠ gb462 ∧ k_ ≠ gb472)) (by (with_reducible repeat (first | apply Kd.N_alloc | apply Kd.N_drewN | apply Kd.N_drew)); exact Kd.N_mono HO_452000.out (fun _ hk => ⟨⟨hk.1.1.1.1.1.1.1, ⟨hk.1.1.1.1.1.1.2.1, ⟨hk.1.1.1.1.1.1.2.2.1, ⟨hk.1.1.1.1.1.1.2.2.2.1, ⟨hk.1.1.1.1.1.2, ⟨hk.1.1.1.2, ⟨hk.1.1.2, ⟨hk.1.2, ⟨hk.1.1.1.1.1.1.2.2.2.2.1, ⟨hk.1.1.1.1.1.1.2.2.2.2.2.1, ⟨hk.1.1.1.1.1.1.2.2.2.2.2.2, hk.1.1.1.1.2⟩⟩⟩⟩⟩⟩⟩⟩⟩⟩⟩, hk.2⟩)) hg hat); have n3_ := Aside0.mk (Kd.N_afterv (ok := (fun k_ => some k_ ≠ (.slice Ao10 t426.length co10 : Value).ownBlock ∧ some k_ ≠ (.slice Ao139 t430.length co139 : Value).ownBlock ∧ some k_ ≠ (.slice Ao33 y448.length co33 : Value).ownBlock ∧ some k_ ≠ (.slice Ao44 t458.length co44 : Value).ownBlock ∧ some k_ ≠ (.slice Ao134 t468.length co134 : Value).ownBlock ∧ some k_ ≠ (.slice Ao153 t473.length co153 : Value).ownBlock ∧ some k_ ≠ (v480 : Value).ownBlock ∧ some k_ ≠ (.slice Ao157 t482.length co157 : Value).ownBlock ∧ k_ ≠ gb451 ∧ k_ ≠ gb457 ∧ k_ ≠ gb462 ∧ k_ ≠ gb472)) (by (with_reducible repeat (first | apply Kd.N_alloc | apply Kd.N_drewN | apply Kd.N_drew)); exact Kd.N_mono HO_458000.out (fun _ hk => ⟨⟨hk.1.1.1.1.1.1.1, ⟨hk.1.1.1.1.1.1.2.1, ⟨hk.1.1.1.1.1.1.2.2.1, ⟨hk.1.1.1.1.1.1.2.2.2.1, ⟨hk.1.1.1.1.1.2, ⟨hk.1.1.1.2, ⟨hk.1.1.2, ⟨hk.1.2, ⟨hk.1.1.1.1.1.1.2.2.2.2.1, ⟨hk.1.1.1.1.1.1.2.2.2.2.2.1, ⟨hk.1.1.1.1.1.1.2.2.2.2.2.2, hk.1.1.1.1.2⟩⟩⟩⟩⟩⟩⟩⟩⟩⟩⟩, hk.2⟩)) hg hat); have n4_ := Aside0.mk (Kd.N_afterv (ok := (fun k_ => some k_ ≠ (.slice Ao10 t426.length co10 : Value).ownBlock ∧ some k_ ≠ (.slice Ao139 t430.length co139 : Value).ownBlock ∧ some k_ ≠ (.slice Ao33 y448.length co33 : Value).ownBlock ∧ some k_ ≠ (.slice Ao39 t453.length co39 : Value).ownBlock ∧ some k_ ≠ (.slice Ao134 t468.length co134 : Value).ownBlock ∧ some k_ ≠ (.slice Ao153 t473.length co153 : Value).ownBlock ∧ some k_ ≠ (v480 : Value).ownBlock ∧ some k_ ≠ (.slice Ao157 t482.length co157 : Value).ownBlock ∧ k_ ≠ gb451 ∧ k_ ≠ gb457 ∧ k_ ≠ gb462 ∧ k_ ≠ gb472)) (by (with_reducible repeat (first | apply Kd.N_alloc | apply Kd.N_drewN | apply Kd.N_drew)); exact Kd.N_mono HO_463000.out (fun _ hk => ⟨⟨hk.1.1.1.1.1.1.1, ⟨hk.1.1.1.1.1.1.2.1, ⟨hk.1.1.1.1.1.1.2.2.1, ⟨hk.1.1.1.1.1.1.2.2.2.1, ⟨hk.1.1.1.1.1.2, ⟨hk.1.1.1.2, ⟨hk.1.1.2, ⟨hk.1.2, ⟨hk.1.1.1.1.1.1.2.2.2.2.1, ⟨hk.1.1.1.1.1.1.2.2.2.2.2.1, ⟨hk.1.1.1.1.1.1.2.2.2.2.2.2, hk.1.1.1.1.2⟩⟩⟩⟩⟩⟩⟩⟩⟩⟩⟩, hk.2⟩)) hg hat); have n5_ := Aside0.mk (blk_grown (g := gb451) (o := .cells #[.slice Ao33 y448.length co33] 33 (0, 0)) (bA BK451) hg (Kd.R_ne HO489.out BK451.out (by decide))); have n6_ := Aside0.mk (blk_grown (g := gb457) (o := .cells #[.slice Ao39 t453.length co39] 33 (0, 0)) (bA BK457) hg (Kd.R_ne HO489.out BK457.out (by decide))); have n7_ := Aside0.mk (blk_grown (g := gb462) (o := .cells #[.slice Ao44 t458.length co44] 33 (0, 0)) (bA BK462) hg (Kd.R_ne HO489.out BK462.out (by decide))); have n8_ := Aside0.mk (Kd.N_afterv (ok := (fun k_ => some k_ ≠ (.slice Ao10 t426.length co10 : Value).ownBlock ∧ some k_ ≠ (.slice Ao139 t430.length co139 : Value).ownBlock ∧ some k_ ≠ (.slice Ao33 y448.length co33 : Value).ownBlock ∧ some k_ ≠ (.slice Ao39 t453.length co39 : Value).ownBlock ∧ some k_ ≠ (.slice Ao44 t458.length co44 : Value).ownBlock ∧ some k_ ≠ (.slice Ao153 t473.length co153 : Value).ownBlock ∧ some k_ ≠ (v480 : Value).ownBlock ∧ some k_ ≠ (.slice Ao157 t482.length co157 : Value).ownBlock ∧ k_ ≠ gb451 ∧ k_ ≠ gb457 ∧ k_ ≠ gb462 ∧ k_ ≠ gb472)) (by (with_reducible repeat (first | apply Kd.N_alloc | apply Kd.N_drewN | apply Kd.N_drew)); exact Kd.N_mono HO470.out (fun _ hk => ⟨⟨hk.1.1.1.1.1.1, ⟨hk.1.1.1.1.1.2.1, ⟨hk.1.1.1.1.1.2.2.1, ⟨hk.1.1.1.1.1.2.2.2.1, ⟨hk.1.1.1.1.1.2.2.2.2.1, ⟨hk.1.1.1.2, ⟨hk.1.1.2, ⟨hk.1.2, ⟨hk.1.1.1.1.1.2.2.2.2.2.1, ⟨hk.1.1.1.1.1.2.2.2.2.2.2.1, ⟨hk.1.1.1.1.1.2.2.2.2.2.2.2, hk.1.1.1.1.2⟩⟩⟩⟩⟩⟩⟩⟩⟩⟩⟩, hk.2⟩)) hg hat); have n9_ := Aside0.mk (blk_grown (g := gb472) (o := .cells #[.slice Ao134 t468.length co134] 33 (0, 0)) (bA BK472) hg (Kd.R_ne HO489.out BK472.out (by decide))); have n10_ := Aside0.mk (Kd.R_after (ok := (fun k_ => some k_ ≠ (.slice Ao10 t426.length co10 : Value).ownBlock ∧ some k_ ≠ (.slice Ao139 t430.length co139 : Value).ownBlock ∧ some k_ ≠ (v480 : Value).ownBlock ∧ some k_ ≠ (.slice Ao157 t482.length co157 : Value).ownBlock)) (by (with_reducible repeat (first | apply Kd.R_alloc | apply Kd.R_drewN | apply Kd.R_drew)); exact Kd.R_mono HO477.out (fun _ hk => ⟨⟨hk.1.1.1.1.2, ⟨hk.1.1.1.2, ⟨hk.1.1.2, hk.1.2⟩⟩⟩, hk.2⟩)) hg hat); have n11_ := Aside0.mk (Kd.R_after (ok := (fun k_ => some k_ ≠ (.slice Ao10 t426.length co10 : Value).ownBlock ∧ some k_ ≠ (.slice Ao139 t430.length co139 : Value).ownBlock ∧ some k_ ≠ (.slice Ao153 t473.length co153 : Value).ownBlock ∧ some k_ ≠ (.slice Ao157 t482.length co157 : Value).ownBlock)) (by (with_reducible repeat (first | apply Kd.R_alloc | apply Kd.R_drewN | apply Kd.R_drew)); exact Kd.R_mono HO481.out (fun _ hk => ⟨⟨hk.1.1.1.1.2, ⟨hk.1.1.1.2, ⟨hk.1.1.2, hk.1.2⟩⟩⟩, hk.2⟩)) hg hat); have n12_ := Aside0.mk (Kd.R_after (ok := (fun k_ => some k_ ≠ (.slice Ao10 t426.length co10 : Value).ownBlock ∧ some k_ ≠ (.slice Ao139 t430.length co139 : Value).ownBlock ∧ some k_ ≠ (.slice Ao153 t473.length co153 : Value).ownBlock ∧ some k_ ≠ (v480 : Value).ownBlock)) (by (with_reducible repeat (first | apply Kd.R_alloc | apply Kd.R_drewN | apply Kd.R_drew)); exact Kd.R_mono HO485.out (fun _ hk => ⟨⟨hk.1.1.1.1.2, ⟨hk.1.1.1.2, ⟨hk.1.1.2, hk.1.2⟩⟩⟩, hk.2⟩)) hg hat); have n13_ := Aside0.mk (hb); have n14_ := Aside0.mk (ho); clear HO_5; clear HO_7; clear HO_452000; clear HO_458000; clear HO_463000; clear BK451; clear BK457; clear BK462; clear HO470; clear BK472; clear HO477; clear HO481; clear HO485; clear HB; clear HO489; have HO_5 := n0_; have HO_7 := n1_; have HO_452000 := n2_; have HO_458000 := n3_; have HO_463000 := n4_; have BK451 := n5_; have BK457 := n6_; have BK462 := n7_; have HO470 := n8_; have BK472 := n9_; have HO477 := n10_; have HO481 := n11_; have HO485 := n12_; have HB := n13_; have HO492 := n14_; clear n0_ n1_ n2_ n3_ n4_ n5_ n6_ n7_ n8_ n9_ n10_ n11_ n12_ n13_ n14_; clear ho hb hg hat) | ((with_reducible refine gate_builtin (b := .append) (xs := #[.tmp 189, .tmp 191]) rfl ?_); (try (refine gate_guard (by rfl) ?_; dsimp only)); at_builtin; refine Kd.R_append (Kd.int .i64) (w0 := w) w.heap.size rfl (.tmp 189) (.tmp 191) 24 3 (.int .i64 0) 8 rfl Try.underlying24 info3 rfl (by decide) (by omega) v491 y490 t427 [.int .i64 t427] (fun k_ => some k_ ≠ (.slice Ao10 t426.length co10 : Value).ownBlock ∧ some k_ ≠ (.slice Ao139 t430.length co139 : Value).ownBlock ∧ some k_ ≠ (.slice Ao153 t473.length co153 : Value).ownBlock ∧ some k_ ≠ (v480 : Value).ownBlock ∧ some k_ ≠ (.slice Ao157 t482.length co157 : Value).ownBlock) (fun _ => False) rfl rfl ?aP (fun _ hk => hk.elim) ?aF ?aO ?aB ?aS ?aL ?_; (case aP => exact rfl); (case aB => exact (kB HB)); (case aF => exact (fun k_ hk => ⟨Kd.fresh' (Kd.R_lt (rA HO_5)) k_ hk, Kd.fresh' (Kd.R_lt (rA HO_7)) k_ hk, Kd.fresh' (Kd.R_lt (rA HO477)) k_ hk, Kd.fresh' (Kd.R_lt (rA HO481)) k_ hk, Kd.fresh' (Kd.R_lt (rA HO485)) k_ hk⟩)); (case aO => exact (rA HO492)); (case aS => exact (below_size (kB HB))); (case aL => have := LMc151.out; omega); intro v494 w158 ho hb hg hat; rw [← Ny493.out] at ho; have n0_ := Aside0.mk (Kd.R_after (ok := (fun k_ => some k_ ≠ (.slice Ao139 t430.length co139 : Value).ownBlock ∧ some k_ ≠ (.slice Ao153 t473.length co153 : Value).ownBlock ∧ some k_ ≠ (v480 : Value).ownBlock ∧ some k_ ≠ (.slice Ao157 t482.length co157 : Value).ownBlock)) (rA HO_5) hg hat); have n1_ := Aside0.mk (Kd.R_after (ok := (fun k_ => some k_ ≠ (.slice Ao10 t426.length co10 : Value).ownBlock ∧ some k_ ≠ (.slice Ao153 t473.length co153 : Value).ownBlock ∧ some k_ ≠ (v480 : Value).ownBlock ∧ some k_ ≠ (.slice Ao157 t482.length co157 : Value).ownBlock)) (rA HO_7) hg hat); have n2_ := Aside0.mk (Kd.N_afterv (ok := (fun k_ => some k_ ≠ (.slice Ao10 t426.length co10 : Value).ownBlock ∧ some k_ ≠ (.slice Ao139 t430.length co139 : Value).ownBlock ∧ some k_ ≠ (.slice Ao39 t453.length co39 : Value).ownBlock ∧ some k_ ≠ (.slice Ao44 t458.length co44 : Value).ownBlock ∧ some k_ ≠ (.slice Ao134 t468.length co134 : Value).ownBlock ∧ some k_ ≠ (.slice Ao153 t473.length co153 : Value).ownBlock ∧ some k_ ≠ (v480 : Value).ownBlock ∧ some k_ ≠ (.slice Ao157 t482.length co157 : Value).ownBlock ∧ k_ ≠ gb451 ∧ k_ ≠ gb457 ∧ k_ ≠ gb462 ∧ k_ ≠ gb472)) (nA HO_452000) hg hat); have n3_ := Aside0.mk (Kd.N_afterv (ok := (fun k_ => some k_ ≠ (.slice Ao10 t426.length co10 : Value).ownBlock ∧ some k_ ≠ (.slice Ao139 t430.length co139 : Value).ownBlock ∧ some k_ ≠ (.slice Ao33 y448.length co33 : Value).ownBlock ∧ some k_ ≠ (.slice Ao44 t458.length co44 : Value).ownBlock ∧ some k_ ≠ (.slice Ao134 t468.length co134 : Value).ownBlock ∧ some k_ ≠ (.slice Ao153 t473.length co153 : Value).ownBlock ∧ some k_ ≠ (v480 : Value).ownBlock ∧ some k_ ≠ (.slice Ao157 t482.length co157 : Value).ownBlock ∧ k_ ≠ gb451 ∧ k_ ≠ gb457 ∧ k_ ≠ gb462 ∧ k_ ≠ gb472)) (nA HO_458000) hg hat); have n4_ := Aside0.mk (Kd.N_afterv (ok := (fun k_ => some k_ ≠ (.slice Ao10 t426.length co10 : Value).ownBlock ∧ some k_ ≠ (.slice Ao139 t430.length co139 : Value).ownBlock ∧ some k_ ≠ (.slice Ao33 y448.length co33 : Value).ownBlock ∧ some k_ ≠ (.slice Ao39 t453.length co39 : Value).ownBlock ∧ some k_ ≠ (.slice Ao134 t468.length co134 : Value).ownBlock ∧ some k_ ≠ (.slice Ao153 t473.length co153 : Value).ownBlock ∧ some k_ ≠ (v480 : Value).ownBlock ∧ some k_ ≠ (.slice Ao157 t482.length co157 : Value).ownBlock ∧ k_ ≠ gb451 ∧ k_ ≠ gb457 ∧ k_ ≠ gb462 ∧ k_ ≠ gb472)) (nA HO_463000) hg hat); have n5_ := Aside0.mk (blk_grown (g := gb451) (o := .cells #[.slice Ao33 y448.length co33] 33 (0, 0)) (bA BK451) hg (Kd.R_ne HO492.out BK451.out (by decide))); have n6_ := Aside0.mk (blk_grown (g := gb457) (o := .cells #[.slice Ao39 t453.length co39] 33 (0, 0)) (bA BK457) hg (Kd.R_ne HO492.out BK457.out (by decide))); have n7_ := Aside0.mk (blk_grown (g := gb462) (o := .cells #[.slice Ao44 t458.length co44] 33 (0, 0)) (bA BK462) hg (Kd.R_ne HO492.out BK462.out (by decide))); have n8_ := Aside0.mk (Kd.N_afterv (ok := (fun k_ => some k_ ≠ (.slice Ao10 t426.length co10 : Value).ownBlock ∧ some k_ ≠ (.slice Ao139 t430.length co139 : Value).ownBlock ∧ some k_ ≠ (.slice Ao33 y448.length co33 : Value).ownBlock ∧ some k_ ≠ (.slice Ao39 t453.length co39 : Value).ownBlock ∧ some k_ ≠ (.slice Ao44 t458.length co44 : Value).ownBlock ∧ some k_ ≠ (.slice Ao153 t473.length co153 : Value).ownBlock ∧ some k_ ≠ (v480 : Value).ownBlock ∧ some k_ ≠ (.slice Ao157 t482.length co157 : Value).ownBlock ∧ k_ ≠ gb451 ∧ k_ ≠ gb457 ∧ k_ ≠ gb462 ∧ k_ ≠ gb472)) (nA HO470) hg hat); have n9_ := Aside0.mk (blk_grown (g := gb472) (o := .cells #[.slice Ao134 t468.length co134] 33 (0, 0)) (bA BK472) hg (Kd.R_ne HO492.out BK472.out (by decide))); have n10_ := Aside0.mk (Kd.R_after (ok := (fun k_ => some k_ ≠ (.slice Ao10 t426.length co10 : Value).ownBlock ∧ some k_ ≠ (.slice Ao139 t430.length co139 : Value).ownBlock ∧ some k_ ≠ (v480 : Value).ownBlock ∧ some k_ ≠ (.slice Ao157 t482.length co157 : Value).ownBlock)) (rA HO477) hg hat); have n11_ := Aside0.mk (Kd.R_after (ok := (fun k_ => some k_ ≠ (.slice Ao10 t426.length co10 : Value).ownBlock ∧ some k_ ≠ (.slice Ao139 t430.length co139 : Value).ownBlock ∧ some k_ ≠ (.slice Ao153 t473.length co153 : Value).ownBlock ∧ some k_ ≠ (.slice Ao157 t482.length co157 : Value).ownBlock)) (rA HO481) hg hat); have n12_ := Aside0.mk (Kd.R_after (ok := (fun k_ => some k_ ≠ (.slice Ao10 t426.length co10 : Value).ownBlock ∧ some k_ ≠ (.slice Ao139 t430.length co139 : Value).ownBlock ∧ some k_ ≠ (.slice Ao153 t473.length co153 : Value).ownBlock ∧ some k_ ≠ (v480 : Value).ownBlock)) (rA HO485) hg hat); have n13_ := Aside0.mk (hb); have n14_ := Aside0.mk (ho); clear HO_5; clear HO_7; clear HO_452000; clear HO_458000; clear HO_463000; clear BK451; clear BK457; clear BK462; clear HO470; clear BK472; clear HO477; clear HO481; clear HO485; clear HB; clear HO492; have HO_5 := n0_; have HO_7 := n1_; have HO_452000 := n2_; have HO_458000 := n3_; have HO_463000 := n4_; have BK451 := n5_; have BK457 := n6_; have BK462 := n7_; have HO470 := n8_; have BK472 := n9_; have HO477 := n10_; have HO481 := n11_; have HO485 := n12_; have HB := n13_; have HO495 := n14_; clear n0_ n1_ n2_ n3_ n4_ n5_ n6_ n7_ n8_ n9_ n10_ n11_ n12_ n13_ n14_; clear ho hb hg hat; obtain ⟨Ao159, co159, eo159⟩ := Kd.R_slice HO481.out; subst eo159; obtain ⟨Ao160, co160, eo160⟩ := Kd.R_slice HO495.out; subst eo160) | (go_at_call 11; (with_reducible refine (laws_vSame.calls kj67 _ _ t478 _ _ y493 t496 _ ?side1 ?side2 ?side3 ?side4 A152.out).mono ?_); (case side1 => exact cC (Kd.R_reads' HO481.out).2.2); (case side2 => exact (Kd.R_reads' HO481.out).2.1); (case side3 => exact cC (Kd.R_reads' HO495.out).2.2); (case side4 => exact (Kd.R_reads' HO495.out).2.1); rintro e w' ⟨rfl, ⟨nd, rfl⟩⟩; (try exact dD)))
                                go_meet
                                case rel => exact ⟨_, (!t496), e2, H', ⟨by have := HJ7.out; have := HJ20.out; have := HJ67.out; first | omega | exact Nat.le_refl _⟩, ⟨by (with_reducible repeat (first | apply Kd.R_alloc | apply Kd.R_drewN | apply Kd.R_drew)); exact Kd.R_mono HO_5.out (fun _ hk => hk.1.1)⟩, ⟨by (with_reducible repeat (first | apply Kd.R_alloc | apply Kd.R_drewN | apply Kd.R_drew)); exact Kd.R_mono HO_7.out (fun _ hk => hk.1.1)⟩, ⟨by (with_reducible repeat (first | apply Kd.N_alloc | apply Kd.N_drewN | apply Kd.N_drew)); exact Kd.N_mono HO_452000.out (fun _ hk => ⟨hk.1.1, ⟨hk.1.2.1, ⟨hk.1.2.2.1, ⟨hk.1.2.2.2.1, ⟨hk.1.2.2.2.2.1, ⟨hk.1.2.2.2.2.2.2.2.2.1, ⟨hk.1.2.2.2.2.2.2.2.2.2.1, ⟨hk.1.2.2.2.2.2.2.2.2.2.2.1, hk.1.2.2.2.2.2.2.2.2.2.2.2⟩⟩⟩⟩⟩⟩⟩⟩)⟩, ⟨by (with_reducible repeat (first | apply Kd.N_alloc | apply Kd.N_drewN | apply Kd.N_drew)); exact Kd.N_mono HO_458000.out (fun _ hk => ⟨hk.1.1, ⟨hk.1.2.1, ⟨hk.1.2.2.1, ⟨hk.1.2.2.2.1, ⟨hk.1.2.2.2.2.1, ⟨hk.1.2.2.2.2.2.2.2.2.1, ⟨hk.1.2.2.2.2.2.2.2.2.2.1, ⟨hk.1.2.2.2.2.2.2.2.2.2.2.1, hk.1.2.2.2.2.2.2.2.2.2.2.2⟩⟩⟩⟩⟩⟩⟩⟩)⟩, ⟨by (with_reducible repeat (first | apply Kd.N_alloc | apply Kd.N_drewN | apply Kd.N_drew)); exact Kd.N_mono HO_463000.out (fun _ hk => ⟨hk.1.1, ⟨hk.1.2.1, ⟨hk.1.2.2.1, ⟨hk.1.2.2.2.1, ⟨hk.1.2.2.2.2.1, ⟨hk.1.2.2.2.2.2.2.2.2.1, ⟨hk.1.2.2.2.2.2.2.2.2.2.1, ⟨hk.1.2.2.2.2.2.2.2.2.2.2.1, hk.1.2.2.2.2.2.2.2.2.2.2.2⟩⟩⟩⟩⟩⟩⟩⟩)⟩, ⟨by (with_reducible repeat (first | apply Kd.N_alloc | apply Kd.N_drewN | apply Kd.N_drew)); exact Kd.N_mono HO470.out (fun _ hk => ⟨hk.1.1, ⟨hk.1.2.1, ⟨hk.1.2.2.1, ⟨hk.1.2.2.2.1, ⟨hk.1.2.2.2.2.1, ⟨hk.1.2.2.2.2.2.2.2.2.1, ⟨hk.1.2.2.2.2.2.2.2.2.2.1, ⟨hk.1.2.2.2.2.2.2.2.2.2.2.1, hk.1.2.2.2.2.2.2.2.2.2.2.2⟩⟩⟩⟩⟩⟩⟩⟩)⟩, ⟨by (with_reducible repeat (first | refine blk_drewN ?_ _ | refine blk_drew ?_ | refine blk_alloc ?_ _)); exact BK451.out⟩, ⟨by (with_reducible repeat (first | refine blk_drewN ?_ _ | refine blk_drew ?_ | refine blk_alloc ?_ _)); exact BK457.out⟩, ⟨by (with_reducible repeat (first | refine blk_drewN ?_ _ | refine blk_drew ?_ | refine blk_alloc ?_ _)); exact BK462.out⟩, ⟨by (with_reducible repeat (first | refine blk_drewN ?_ _ | refine blk_drew ?_ | refine blk_alloc ?_ _)); exact BK472.out⟩, ⟨kB HB⟩⟩
                               ·
                                rw [if_neg c151] at H
                                exact absurd H (by simp)
                              ·
                               rw [if_neg c150] at H
                               exact absurd H (by simp)
                             ·
                              rw [if_neg c149] at H
                              exact absurd (H.trans (congrArg some hrT)) (fun h_ => laws_FnFirstTree.j3_no h_)
                            ·
                             replace c148 := Bool.eq_false_iff.mpr c148
                             subst c148
                             have H1 : (laws_FnFirstTree.j3 kj67 l1 t426 t430 true t468) = some r := by rw [if_neg (show ¬ (false = true) by decide)] at H; exact H
                             exact absurd (H1.trans (congrArg some hrT)) (fun h_ => laws_FnFirstTree.j3_no h_)
                           ·
                            replace c146 := Bool.eq_false_iff.mpr c146
                            subst c146
                            have H1 : (laws_FnFirstTree.j3 kj67 l1 t426 t430 true t468) = some r := by rw [if_neg (show ¬ (false = true) by decide)] at H; exact H
                            exact absurd (H1.trans (congrArg some hrT)) (fun h_ => laws_FnFirstTree.j3_no h_)
                          ·
                           replace c145 := Bool.eq_false_iff.mpr c145
                           subst c145
                           have H1 : (laws_FnFirstTree.j3 kj67 l1 t426 t430 true t468) = some r := by rw [if_neg (show ¬ (false = true) by decide)] at H; exact H
                           exact absurd (H1.trans (congrArg some hrT)) (fun h_ => laws_FnFirstTree.j3_no h_)
                        ·
                         replace c144 := Bool.eq_false_iff.mpr c144
                         subst c144
                         have H1 : (laws_FnFirstTree.j3 kj67 l1 t426 t430 true t468) = some r := by rw [if_neg (show ¬ (false = true) by decide)] at H; exact H
                         exact absurd (H1.trans (congrArg some hrT)) (fun h_ => laws_FnFirstTree.j3_no h_)
                      ·
                       replace c143 := Bool.eq_false_iff.mpr c143
                       subst c143
                       have H1 : (laws_FnFirstTree.j3 kj67 l1 t426 t430 true t468) = some r := by rw [if_neg (show ¬ (false = true) by decide)] at H; exact H
                       exact absurd (H1.trans (congrArg some hrT)) (fun h_ => laws_FnFirstTree.j3_no h_)
                    case rest =>
                     as_aux_lemma =>
                      clear HC131; (try clear c1); (try clear p2); (try clear c4); (try clear c5); (try clear c6); (try clear c7); (try clear c8); (try clear c9); (try clear c10); (try clear c11); (try clear c12); (try clear c13); (try clear c13b0); (try clear c13b1); (try clear c13b2); (try clear c14); (try clear c15); (try clear c17); (try clear c40); (try clear c45); (try clear c46); (try clear c48); (try clear c48b0); (try clear c48b1); (try clear c48b2); (try clear c50); (try clear c51); (try clear c51b0); (try clear c52); (try clear c53); (try clear c55); (try clear c57); (try clear c58); (try clear c60); (try clear c62); (try clear c63); (try clear c65); (try clear c67); (try clear c69); (try clear c72); (try clear c73); (try clear c74); (try clear c75); (try clear c75b0); (try clear c75b1); (try clear c76); (try clear c77); (try clear c79); (try clear c84); (try clear c84b0); (try clear c84b1); (try clear c85); (try clear c86); (try clear c88); (try clear c93); (try clear c94); (try clear c96); (try clear c101); (try clear c102); (try clear c104); (try clear c109); (try clear c110); (try clear c112); (try clear c117); (try clear c118); (try clear c120); (try clear c126); (try clear c135); (try clear c136); (try clear c137); (try clear c143); (try clear c144); (try clear c145); (try clear c146); (try clear c148); (try clear c149); (try clear c149b0); (try clear c149b1); (try clear c150); (try clear c151); (try clear hcz103_0); (try clear hcz105_0); (try clear hcz107_0); (try clear hcz111_0); (try clear hcz113_0); (try clear hcz115_0); (try clear hcz119_0); (try clear hcz121_0); (try clear hcz123_0); (try clear hcz138_0); (try clear hcz35_0); (try clear hcz41_0); (try clear hcz47_0); (try clear hcz54_0); (try clear hcz56_0); (try clear hcz59_0); (try clear hcz61_0); (try clear hcz64_0); (try clear hcz66_0); (try clear hcz78_0); (try clear hcz80_0); (try clear hcz82_0); (try clear hcz87_0); (try clear hcz89_0); (try clear hcz91_0); (try clear hcz95_0); (try clear hcz97_0); (try clear hcz99_0); (try clear hfz103_0); (try clear hfz105_0); (try clear hfz107_0); (try clear hfz111_0); (try clear hfz113_0); (try clear hfz115_0); (try clear hfz119_0); (try clear hfz121_0); (try clear hfz123_0); (try clear hfz138_0); (try clear hfz35_0); (try clear hfz41_0); (try clear hfz47_0); (try clear hfz54_0); (try clear hfz56_0); (try clear hfz59_0); (try clear hfz61_0); (try clear hfz64_0); (try clear hfz66_0); (try clear hfz78_0); (try clear hfz80_0); (try clear hfz82_0); (try clear hfz87_0); (try clear hfz89_0); (try clear hfz91_0); (try clear hfz95_0); (try clear hfz97_0); (try clear hfz99_0); (try clear p2)
                      obtain ⟨kq, x195_130, rfl, HA, HJ130, HO_5, HO_7, HO_452000, HO_458000, HO_463000, HO_473000, BK451, BK457, BK462, BK472, HB⟩ := hcut
                      cases kq with
                      | zero => exact absurd HA.out (by simp [laws_FnFirstTree.j3])
                      | succ kj130 =>
                       have H := HA.out
                       clear HA
                       simp only [laws_FnFirstTree.j3] at H
                       by_cases c163 : x195_130 = true
                       ·
                        subst c163
                        have H1 : (some false) = some r := by rw [if_pos rfl] at H; exact H
                        exact absurd (H1.trans (congrArg some hrT)) (by simp)
                       ·
                        as_aux_lemma =>
                         replace c163 := Bool.eq_false_iff.mpr c163
                         subst c163
                         have H1 : (if 2 < (t430.length : Int) then (if (rd t430 2) ≤ 1000000 then ((impl_ApplyMatrix.f kj130 t468 t426).bind fun bt498 => (if bt498.2 = true then ((laws_vSame.f kj130 bt498.1 t430).bind fun t502 => (if t502 = true then (laws_FnFirstTree.j4 kj130 l1) else (some false))) else (some false))) else (laws_FnFirstTree.j4 kj130 l1)) else (none)) = some r := by rw [if_neg (show ¬ (false = true) by decide)] at H; exact H
                         clear H
                         have H := H1
                         clear H1
                         by_cases c164 : 2 < (t430.length : Int)
                         ·
                          rw [if_pos c164] at H
                          have c164b0 : decide (2 < (t430.length : Int)) = true := decide_eq_true c164
                          have c164b1 : decide (2 < t430.length) = true := decide_eq_true (by omega)
                          clear c164
                          by_cases c165 : (rd t430 2) ≤ 1000000
                          ·
                           rw [if_pos c165] at H
                           have c165b0 : decide ((rd t430 2) ≤ 1000000) = true := decide_eq_true c165
                           clear c165
                           replace H := Option.bind_eq_some_iff.mp H
                           obtain ⟨⟨t498, t501⟩, A1660, H⟩ := H
                           replace H : (if t501 = true then ((laws_vSame.f kj130 t498 t430).bind fun t502 => (if t502 = true then (laws_FnFirstTree.j4 kj130 l1) else (some false))) else (some false)) = some r := H
                           have A166 := Aside0.mk A1660
                           clear A1660
                           by_cases c167 : t501 = true
                           ·
                            subst c167
                            have H1 : ((laws_vSame.f kj130 t498 t430).bind fun t502 => (if t502 = true then (laws_FnFirstTree.j4 kj130 l1) else (some false))) = some r := by rw [if_pos rfl] at H; exact H
                            clear H
                            have H := H1
                            clear H1
                            replace H := Option.bind_eq_some_iff.mp H
                            obtain ⟨t502, A1680, H⟩ := H
                            replace H : (if t502 = true then (laws_FnFirstTree.j4 kj130 l1) else (some false)) = some r := H
                            have A168 := Aside0.mk A1680
                            clear A1680
                            by_cases c169 : t502 = true
                            ·
                             subst c169
                             have H1 : (laws_FnFirstTree.j4 kj130 l1) = some r := by rw [if_pos rfl] at H; exact H
                             clear H
                             have H := H1
                             clear H1
                             have H' := Aside0.mk H
                             clear H
                             have p497 : 0 ≤ (2 : Int) := (by omega)
                             have q497 : 2 < (t430.length : Int) := od
                             obtain ⟨ad497, e497, hx497_0⟩ := Kd.at_int (Kd.R_reads' HO_7.out).2.2 2 p497 q497
                             cases e497
                             (try simp only [show (2 : Int).toNat = 2 from rfl, Nat.reduceMul, Nat.reduceEqDiff, Go.Addr.add, ↓reduceIte] at hx497_0)
                             have qi497 : (2 < t430.length) = True := eq_true (by omega)
                             (try rw [show ((2 : Int)).toNat = 2 from rfl] at hx497_0)
                             replace p497 := eq_true p497
                             replace q497 := eq_true q497
                             have hnb170 := NB472_451.out
                             have hnc170 := NB451_472.out
                             have hnb171 := NB472_457.out
                             have hnc171 := NB457_472.out
                             have hnb172 := NB472_462.out
                             have hnc172 := NB462_472.out
                             have hcz173_0 : wc.cell? ⟨gb472, 0, none⟩ = some (.slice Ao134 t468.length co134) := (blk_cell BK472.out 0).trans rfl
                             have hfz173_0 := blk_frozen BK472.out 0
                             go_wp2_with (first | (go_at_call 16; (with_reducible refine (impl_ApplyMatrix.calls kj130 _ _ t468 _ _ t426 t498 true _ ?side1 ?side2 ?side3 ?side4 A166.out).mono ?_); (case side1 => exact cC (Kd.N_reads' HO_473000.out).2.2); (case side2 => exact (Kd.N_reads' HO_473000.out).2.1); (case side3 => exact cC (Kd.R_reads' HO_5.out).2.2); (case side4 => exact (Kd.R_reads' HO_5.out).2.1); rintro e w174 ⟨v499, rfl, ho0, hb⟩; have n0_ := Aside0.mk (Kd.R_elder' (rA HO_5) (Kd.R_base ho0) hb); have n1_ := Aside0.mk (Kd.R_elder' (rA HO_7) (Kd.R_base ho0) hb); have n2_ := Aside0.mk (Kd.N_elder' (nA HO_452000) (Kd.R_base ho0) hb); have n3_ := Aside0.mk (Kd.N_elder' (nA HO_458000) (Kd.R_base ho0) hb); have n4_ := Aside0.mk (Kd.N_elder' (nA HO_463000) (Kd.R_base ho0) hb); have n5_ := Aside0.mk (Kd.N_elder' (nA HO_473000) (Kd.R_base ho0) hb); have n6_ := Aside0.mk (Kd.R_lower (Kd.R_new' (Kd.R_new' ho0 (Kd.R_lt (rA HO_5))) (Kd.R_lt (rA HO_7))) (below_size (kB HB))); have n7_ := Aside0.mk (kK BK451 hb); have n8_ := Aside0.mk (kK BK457 hb); have n9_ := Aside0.mk (kK BK462 hb); have n10_ := Aside0.mk (kK BK472 hb); have n11_ := Aside0.mk (below_step (kB HB) hb); clear HO_5; clear HO_7; clear HO_452000; clear HO_458000; clear HO_463000; clear HO_473000; clear BK451; clear BK457; clear BK462; clear BK472; clear HB; have HO_5 := n0_; have HO_7 := n1_; have HO_452000 := n2_; have HO_458000 := n3_; have HO_463000 := n4_; have HO_473000 := n5_; have HO500 := n6_; have BK451 := n7_; have BK457 := n8_; have BK462 := n9_; have BK472 := n10_; have HB := n11_; clear n0_ n1_ n2_ n3_ n4_ n5_ n6_ n7_ n8_ n9_ n10_ n11_; (try clear hb); (try clear hb2); (try clear hk); (try clear hi); (try clear ho0); obtain ⟨Ao175, co175, eo175⟩ := Kd.R_slice HO500.out; subst eo175) | (go_at_call 11; (with_reducible refine (laws_vSame.calls kj130 _ _ t498 _ _ t430 true _ ?side1 ?side2 ?side3 ?side4 A168.out).mono ?_); (case side1 => exact cC (Kd.R_reads' HO500.out).2.2); (case side2 => exact (Kd.R_reads' HO500.out).2.1); (case side3 => exact cC (Kd.R_reads' HO_7.out).2.2); (case side4 => exact (Kd.R_reads' HO_7.out).2.1); rintro e w' ⟨rfl, ⟨nd, rfl⟩⟩; (try exact dD)))
                             repeat (go_quiet (first | (go_at_call 16; (with_reducible refine (impl_ApplyMatrix.calls kj130 _ _ t468 _ _ t426 t498 true _ ?side1 ?side2 ?side3 ?side4 A166.out).mono ?_); (case side1 => exact cC (Kd.N_reads' HO_473000.out).2.2); (case side2 => exact (Kd.N_reads' HO_473000.out).2.1); (case side3 => exact cC (Kd.R_reads' HO_5.out).2.2); (case side4 => exact (Kd.R_reads' HO_5.out).2.1); rintro e w174 ⟨v499, rfl, ho0, hb⟩; have n0_ := Aside0.mk (Kd.R_elder' (rA HO_5) (Kd.R_base ho0) hb); have n1_ := Aside0.mk (Kd.R_elder' (rA HO_7) (Kd.R_base ho0) hb); have n2_ := Aside0.mk (Kd.N_elder' (nA HO_452000) (Kd.R_base ho0) hb); have n3_ := Aside0.mk (Kd.N_elder' (nA HO_458000) (Kd.R_base ho0) hb); have n4_ := Aside0.mk (Kd.N_elder' (nA HO_463000) (Kd.R_base ho0) hb); have n5_ := Aside0.mk (Kd.N_elder' (nA HO_473000) (Kd.R_base ho0) hb); have n6_ := Aside0.mk (Kd.R_lower (Kd.R_new' (Kd.R_new' ho0 (Kd.R_lt (rA HO_5))) (Kd.R_lt (rA HO_7))) (below_size (kB HB))); have n7_ := Aside0.mk (kK BK451 hb); have n8_ := Aside0.mk (kK BK457 hb); have n9_ := Aside0.mk (kK BK462 hb); have n10_ := Aside0.mk (kK BK472 hb); have n11_ := Aside0.mk (below_step (kB HB) hb); clear HO_5; clear HO_7; clear HO_452000; clear HO_458000; clear HO_463000; clear HO_473000; clear BK451; clear BK457; clear BK462; clear BK472; clear HB; have HO_5 := n0_; have HO_7 := n1_; have HO_452000 := n2_; have HO_458000 := n3_; have HO_463000 := n4_; have HO_473000 := n5_; have HO500 := n6_; have BK451 := n7_; have BK457 := n8_; have BK462 := n9_; have BK472 := n10_; have HB := n11_; clear n0_ n1_ n2_ n3_ n4_ n5_ n6_ n7_ n8_ n9_ n10_ n11_; (try clear hb); (try clear hb2); (try clear hk); (try clear hi); (try clear ho0); obtain ⟨Ao175, co175, eo175⟩ := Kd.R_slice HO500.out; subst eo175) | (go_at_call 11; (with_reducible refine (laws_vSame.calls kj130 _ _ t498 _ _ t430 true _ ?side1 ?side2 ?side3 ?side4 A168.out).mono ?_); (case side1 => exact cC (Kd.R_reads' HO500.out).2.2); (case side2 => exact (Kd.R_reads' HO500.out).2.1); (case side3 => exact cC (Kd.R_reads' HO_7.out).2.2); (case side4 => exact (Kd.R_reads' HO_7.out).2.1); rintro e w' ⟨rfl, ⟨nd, rfl⟩⟩; (try exact dD))); try go_wp2_with (first | (go_at_call 16; (with_reducible refine (impl_ApplyMatrix.calls kj130 _ _ t468 _ _ t426 t498 true _ ?side1 ?side2 ?side3 ?side4 A166.out).mono ?_); (case side1 => exact cC (Kd.N_reads' HO_473000.out).2.2); (case side2 => exact (Kd.N_reads' HO_473000.out).2.1); (case side3 => exact cC (Kd.R_reads' HO_5.out).2.2); (case side4 => exact (Kd.R_reads' HO_5.out).2.1); rintro e w174 ⟨v499, rfl, ho0, hb⟩; have n0_ := Aside0.mk (Kd.R_elder' (rA HO_5) (Kd.R_base ho0) hb); have n1_ := Aside0.mk (Kd.R_elder' (rA HO_7) (Kd.R_base ho0) hb); have n2_ := Aside0.mk (Kd.N_elder' (nA HO_452000) (Kd.R_base ho0) hb); have n3_ := Aside0.mk (Kd.N_elder' (nA HO_458000) (Kd.R_base ho0) hb); have n4_ := Aside0.mk (Kd.N_elder' (nA HO_463000) (Kd.R_base ho0) hb); have n5_ := Aside0.mk (Kd.N_elder' (nA HO_473000) (Kd.R_base ho0) hb); have n6_ := Aside0.mk (Kd.R_lower (Kd.R_new' (Kd.R_new' ho0 (Kd.R_lt (rA HO_5))) (Kd.R_lt (rA HO_7))) (below_size (kB HB))); have n7_ := Aside0.mk (kK BK451 hb); have n8_ := Aside0.mk (kK BK457 hb); have n9_ := Aside0.mk (kK BK462 hb); have n10_ := Aside0.mk (kK BK472 hb); have n11_ := Aside0.mk (below_step (kB HB) hb); clear HO_5; clear HO_7; clear HO_452000; clear HO_458000; clear HO_463000; clear HO_473000; clear BK451; clear BK457; clear BK462; clear BK472; clear HB; have HO_5 := n0_; have HO_7 := n1_; have HO_452000 := n2_; have HO_458000 := n3_; have HO_463000 := n4_; have HO_473000 := n5_; have HO500 := n6_; have BK451 := n7_; have BK457 := n8_; have BK462 := n9_; have BK472 := n10_; have HB := n11_; clear n0_ n1_ n2_ n3_ n4_ n5_ n6_ n7_ n8_ n9_ n10_ n11_; (try clear hb); (try clear hb2); (try clear hk); (try clear hi); (try clear ho0); obtain ⟨Ao175, co175, eo175⟩ := Kd.R_slice HO500.out; subst eo175) | (go_at_call 11; (with_reducible refine (laws_vSame.calls kj130 _ _ t498 _ _ t430 true _ ?side1 ?side2 ?side3 ?side4 A168.out).mono ?_); (case side1 => exact cC (Kd.R_reads' HO500.out).2.2); (case side2 => exact (Kd.R_reads' HO500.out).2.1); (case side3 => exact cC (Kd.R_reads' HO_7.out).2.2); (case side4 => exact (Kd.R_reads' HO_7.out).2.1); rintro e w' ⟨rfl, ⟨nd, rfl⟩⟩; (try exact dD))))
                             go_meet
                             case rel => exact ⟨_, H', ⟨by have := HJ7.out; have := HJ20.out; have := HJ67.out; have := HJ130.out; first | omega | exact Nat.le_refl _⟩, ⟨by (with_reducible repeat (first | apply Kd.N_alloc | apply Kd.N_drewN | apply Kd.N_drew)); exact Kd.N_mono HO_452000.out (fun _ hk => ⟨hk.1.2.2.1, ⟨hk.1.2.2.2.1, ⟨hk.1.2.2.2.2.2.1, ⟨hk.1.2.2.2.2.2.2.1, hk.1.2.2.2.2.2.2.2.1⟩⟩⟩⟩)⟩, ⟨by (with_reducible repeat (first | apply Kd.N_alloc | apply Kd.N_drewN | apply Kd.N_drew)); exact Kd.N_mono HO_458000.out (fun _ hk => ⟨hk.1.2.2.1, ⟨hk.1.2.2.2.1, ⟨hk.1.2.2.2.2.2.1, ⟨hk.1.2.2.2.2.2.2.1, hk.1.2.2.2.2.2.2.2.1⟩⟩⟩⟩)⟩, ⟨by (with_reducible repeat (first | apply Kd.N_alloc | apply Kd.N_drewN | apply Kd.N_drew)); exact Kd.N_mono HO_463000.out (fun _ hk => ⟨hk.1.2.2.1, ⟨hk.1.2.2.2.1, ⟨hk.1.2.2.2.2.2.1, ⟨hk.1.2.2.2.2.2.2.1, hk.1.2.2.2.2.2.2.2.1⟩⟩⟩⟩)⟩, ⟨by (with_reducible repeat (first | refine blk_drewN ?_ _ | refine blk_drew ?_ | refine blk_alloc ?_ _)); exact BK451.out⟩, ⟨by (with_reducible repeat (first | refine blk_drewN ?_ _ | refine blk_drew ?_ | refine blk_alloc ?_ _)); exact BK457.out⟩, ⟨by (with_reducible repeat (first | refine blk_drewN ?_ _ | refine blk_drew ?_ | refine blk_alloc ?_ _)); exact BK462.out⟩, ⟨kB HB⟩⟩
                            ·
                             replace c169 := Bool.eq_false_iff.mpr c169
                             subst c169
                             have H1 : (some false) = some r := by rw [if_neg (show ¬ (false = true) by decide)] at H; exact H
                             exact absurd (H1.trans (congrArg some hrT)) (by simp)
                           ·
                            replace c167 := Bool.eq_false_iff.mpr c167
                            subst c167
                            have H1 : (some false) = some r := by rw [if_neg (show ¬ (false = true) by decide)] at H; exact H
                            exact absurd (H1.trans (congrArg some hrT)) (by simp)
                          ·
                           rw [if_neg c165] at H
                           have c165b0 : decide ((rd t430 2) ≤ 1000000) = false := decide_eq_false c165
                           clear c165
                           have H' := Aside0.mk H
                           clear H
                           have p497 : 0 ≤ (2 : Int) := (by omega)
                           have q497 : 2 < (t430.length : Int) := od
                           obtain ⟨ad497, e497, hx497_0⟩ := Kd.at_int (Kd.R_reads' HO_7.out).2.2 2 p497 q497
                           cases e497
                           (try simp only [show (2 : Int).toNat = 2 from rfl, Nat.reduceMul, Nat.reduceEqDiff, Go.Addr.add, ↓reduceIte] at hx497_0)
                           have qi497 : (2 < t430.length) = True := eq_true (by omega)
                           (try rw [show ((2 : Int)).toNat = 2 from rfl] at hx497_0)
                           replace p497 := eq_true p497
                           replace q497 := eq_true q497
                           go_wp2
                           repeat (go_quiet (fail); try go_wp2)
                           go_meet
                           case rel => exact ⟨_, H', ⟨by have := HJ7.out; have := HJ20.out; have := HJ67.out; have := HJ130.out; first | omega | exact Nat.le_refl _⟩, ⟨by (with_reducible repeat (first | apply Kd.N_alloc | apply Kd.N_drewN | apply Kd.N_drew)); exact Kd.N_mono HO_452000.out (fun _ hk => ⟨hk.2.2.1, ⟨hk.2.2.2.1, ⟨hk.2.2.2.2.2.1, ⟨hk.2.2.2.2.2.2.1, hk.2.2.2.2.2.2.2.1⟩⟩⟩⟩)⟩, ⟨by (with_reducible repeat (first | apply Kd.N_alloc | apply Kd.N_drewN | apply Kd.N_drew)); exact Kd.N_mono HO_458000.out (fun _ hk => ⟨hk.2.2.1, ⟨hk.2.2.2.1, ⟨hk.2.2.2.2.2.1, ⟨hk.2.2.2.2.2.2.1, hk.2.2.2.2.2.2.2.1⟩⟩⟩⟩)⟩, ⟨by (with_reducible repeat (first | apply Kd.N_alloc | apply Kd.N_drewN | apply Kd.N_drew)); exact Kd.N_mono HO_463000.out (fun _ hk => ⟨hk.2.2.1, ⟨hk.2.2.2.1, ⟨hk.2.2.2.2.2.1, ⟨hk.2.2.2.2.2.2.1, hk.2.2.2.2.2.2.2.1⟩⟩⟩⟩)⟩, ⟨by (with_reducible repeat (first | refine blk_drewN ?_ _ | refine blk_drew ?_ | refine blk_alloc ?_ _)); exact BK451.out⟩, ⟨by (with_reducible repeat (first | refine blk_drewN ?_ _ | refine blk_drew ?_ | refine blk_alloc ?_ _)); exact BK457.out⟩, ⟨by (with_reducible repeat (first | refine blk_drewN ?_ _ | refine blk_drew ?_ | refine blk_alloc ?_ _)); exact BK462.out⟩, ⟨kB HB⟩⟩
                         ·
                          rw [if_neg c164] at H
                          exact absurd H (by simp)
                  ·
                   replace c126 := Bool.eq_false_iff.mpr c126
                   subst c126
                   have H1 : (laws_FnFirstTree.j4 kj67 l1) = some r := by rw [if_neg (show ¬ (false = true) by decide)] at H; exact H
                   clear H
                   have H := H1
                   clear H1
                   have H' := Aside0.mk H
                   clear H
                   go_wp2
                   repeat (go_quiet (fail); try go_wp2)
                   go_meet
                   case rel => exact ⟨_, H', ⟨by have := HJ7.out; have := HJ20.out; have := HJ67.out; first | omega | exact Nat.le_refl _⟩, ⟨by (with_reducible repeat (first | apply Kd.N_alloc | apply Kd.N_drewN | apply Kd.N_drew)); exact Kd.N_mono HO_452000.out (fun _ hk => ⟨hk.2.2.1, ⟨hk.2.2.2.1, ⟨hk.2.2.2.2.1, ⟨hk.2.2.2.2.2.1, hk.2.2.2.2.2.2⟩⟩⟩⟩)⟩, ⟨by (with_reducible repeat (first | apply Kd.N_alloc | apply Kd.N_drewN | apply Kd.N_drew)); exact Kd.N_mono HO_458000.out (fun _ hk => ⟨hk.2.2.1, ⟨hk.2.2.2.1, ⟨hk.2.2.2.2.1, ⟨hk.2.2.2.2.2.1, hk.2.2.2.2.2.2⟩⟩⟩⟩)⟩, ⟨by (with_reducible repeat (first | apply Kd.N_alloc | apply Kd.N_drewN | apply Kd.N_drew)); exact Kd.N_mono HO_463000.out (fun _ hk => ⟨hk.2.2.1, ⟨hk.2.2.2.1, ⟨hk.2.2.2.2.1, ⟨hk.2.2.2.2.2.1, hk.2.2.2.2.2.2⟩⟩⟩⟩)⟩, ⟨by (with_reducible repeat (first | refine blk_drewN ?_ _ | refine blk_drew ?_ | refine blk_alloc ?_ _)); exact BK451.out⟩, ⟨by (with_reducible repeat (first | refine blk_drewN ?_ _ | refine blk_drew ?_ | refine blk_alloc ?_ _)); exact BK457.out⟩, ⟨by (with_reducible repeat (first | refine blk_drewN ?_ _ | refine blk_drew ?_ | refine blk_alloc ?_ _)); exact BK462.out⟩, ⟨kB HB⟩⟩
                case rest =>
                 as_aux_lemma =>
                  clear HC125; (try clear c1); (try clear p2); (try clear c4); (try clear p4); (try clear q4); (try clear hx4); (try clear qi4); (try clear c5); (try clear c6); (try clear c7); (try clear c8); (try clear c9); (try clear c10); (try clear c11); (try clear c12); (try clear c13); (try clear c13b0); (try clear c13b1); (try clear c13b2); (try clear c14); (try clear c15); (try clear c16); (try clear c17); (try clear c18); (try clear c40); (try clear c45); (try clear c46); (try clear c48); (try clear c48b0); (try clear c48b1); (try clear c48b2); (try clear p49); (try clear q49); (try clear hx49); (try clear qi49); (try clear c50); (try clear c51); (try clear c51b0); (try clear c52); (try clear c53); (try clear c55); (try clear c57); (try clear c58); (try clear c60); (try clear c62); (try clear c63); (try clear c65); (try clear c67); (try clear c69); (try clear c72); (try clear c73); (try clear c74); (try clear c75); (try clear c75b0); (try clear c75b1); (try clear c76); (try clear c77); (try clear c79); (try clear c84); (try clear c84b0); (try clear c84b1); (try clear c85); (try clear c86); (try clear c88); (try clear c93); (try clear c94); (try clear c96); (try clear c101); (try clear c102); (try clear c104); (try clear c109); (try clear c110); (try clear c112); (try clear c117); (try clear c118); (try clear c120); (try clear c126); (try clear c135); (try clear c136); (try clear c137); (try clear c143); (try clear c144); (try clear c145); (try clear c146); (try clear c148); (try clear c149); (try clear c149b0); (try clear c149b1); (try clear c150); (try clear c151); (try clear c163); (try clear c164); (try clear c164b0); (try clear c164b1); (try clear c165); (try clear c165b0); (try clear c167); (try clear c169); (try clear c170); (try clear c171); (try clear c172); (try clear c176); (try clear c177); (try clear c178); (try clear c182); (try clear c183); (try clear c184); (try clear hcz103_0); (try clear hcz105_0); (try clear hcz107_0); (try clear hcz111_0); (try clear hcz113_0); (try clear hcz115_0); (try clear hcz119_0); (try clear hcz121_0); (try clear hcz123_0); (try clear hcz138_0); (try clear hcz173_0); (try clear hcz179_0); (try clear hcz185_0); (try clear hcz35_0); (try clear hcz41_0); (try clear hcz47_0); (try clear hcz54_0); (try clear hcz56_0); (try clear hcz59_0); (try clear hcz61_0); (try clear hcz64_0); (try clear hcz66_0); (try clear hcz78_0); (try clear hcz80_0); (try clear hcz82_0); (try clear hcz87_0); (try clear hcz89_0); (try clear hcz91_0); (try clear hcz95_0); (try clear hcz97_0); (try clear hcz99_0); (try clear hfz103_0); (try clear hfz105_0); (try clear hfz107_0); (try clear hfz111_0); (try clear hfz113_0); (try clear hfz115_0); (try clear hfz119_0); (try clear hfz121_0); (try clear hfz123_0); (try clear hfz138_0); (try clear hfz173_0); (try clear hfz179_0); (try clear hfz185_0); (try clear hfz35_0); (try clear hfz41_0); (try clear hfz47_0); (try clear hfz54_0); (try clear hfz56_0); (try clear hfz59_0); (try clear hfz61_0); (try clear hfz64_0); (try clear hfz66_0); (try clear hfz78_0); (try clear hfz80_0); (try clear hfz82_0); (try clear hfz87_0); (try clear hfz89_0); (try clear hfz91_0); (try clear hfz95_0); (try clear hfz97_0); (try clear hfz99_0); (try clear hx497_0); (try clear p2); (try clear p497); (try clear q497)
                  obtain ⟨kq, HA, HJ124, HO_452000, HO_458000, HO_463000, BK451, BK457, BK462, HB⟩ := hcut
                  cases kq with
                  | zero => exact absurd HA.out (by simp [laws_FnFirstTree.j4])
                  | succ kj124 =>
                   have H := HA.out
                   clear HA
                   simp only [laws_FnFirstTree.j4] at H
                   replace H := Option.bind_eq_some_iff.mp H
                   obtain ⟨t503, A1870, H⟩ := H
                   replace H : ((impl_BergParent.f kj124 t503).bind fun bt506 => ((spec_BergParent.f kj124 t503).bind fun bt511 => (if (bt506.2.2 != bt511.2.2) = true then (laws_FnFirstTree.j5 kj124 t503 bt506.1 bt506.2.1 bt506.2.2 true) else ((laws_vSame.f kj124 bt506.1 bt511.1).bind fun t516 => (if t516 = true then (if bt506.2.1 = bt511.2.1 then ((impl_IsRight.f kj124 t503).bind fun t517 => (if t517 = true then (if 2 < (t503.length : Int) then (laws_FnFirstTree.j5 kj124 t503 bt506.1 bt506.2.1 bt506.2.2 (bt506.2.2 != ((rd t503 2) != 5))) else (none)) else (laws_FnFirstTree.j5 kj124 t503 bt506.1 bt506.2.1 bt506.2.2 (bt506.2.2 != false)))) else (laws_FnFirstTree.j5 kj124 t503 bt506.1 bt506.2.1 bt506.2.2 true)) else (laws_FnFirstTree.j5 kj124 t503 bt506.1 bt506.2.1 bt506.2.2 true)))))) = some r := H
                   have A187 := Aside0.mk A1870
                   clear A1870
                   replace H := Option.bind_eq_some_iff.mp H
                   obtain ⟨⟨t506, t507, t508⟩, A1880, H⟩ := H
                   replace H : ((spec_BergParent.f kj124 t503).bind fun bt511 => (if (t508 != bt511.2.2) = true then (laws_FnFirstTree.j5 kj124 t503 t506 t507 t508 true) else ((laws_vSame.f kj124 t506 bt511.1).bind fun t516 => (if t516 = true then (if t507 = bt511.2.1 then ((impl_IsRight.f kj124 t503).bind fun t517 => (if t517 = true then (if 2 < (t503.length : Int) then (laws_FnFirstTree.j5 kj124 t503 t506 t507 t508 (t508 != ((rd t503 2) != 5))) else (none)) else (laws_FnFirstTree.j5 kj124 t503 t506 t507 t508 (t508 != false)))) else (laws_FnFirstTree.j5 kj124 t503 t506 t507 t508 true)) else (laws_FnFirstTree.j5 kj124 t503 t506 t507 t508 true))))) = some r := H
                   have A188 := Aside0.mk A1880
                   clear A1880
                   replace H := Option.bind_eq_some_iff.mp H
                   obtain ⟨⟨t511, t512, t513⟩, A1890, H⟩ := H
                   replace H : (if (t508 != t513) = true then (laws_FnFirstTree.j5 kj124 t503 t506 t507 t508 true) else ((laws_vSame.f kj124 t506 t511).bind fun t516 => (if t516 = true then (if t507 = t512 then ((impl_IsRight.f kj124 t503).bind fun t517 => (if t517 = true then (if 2 < (t503.length : Int) then (laws_FnFirstTree.j5 kj124 t503 t506 t507 t508 (t508 != ((rd t503 2) != 5))) else (none)) else (laws_FnFirstTree.j5 kj124 t503 t506 t507 t508 (t508 != false)))) else (laws_FnFirstTree.j5 kj124 t503 t506 t507 t508 true)) else (laws_FnFirstTree.j5 kj124 t503 t506 t507 t508 true)))) = some r := H
                   have A189 := Aside0.mk A1890
                   clear A1890
                   have HC190 := Aside0.mk H
                   clear H
                   go_upto_region 33 with (first | (go_at_call 32; (with_reducible refine (spec_DrawBergParent.calls kj124 _ _ l1 t503 _ ?side1 ?side2 A187.out).mono ?_); (case side1 => exact cC (Kd.C_below HR1.out HB.out)); (case side2 => exact HC1.out); rintro e w191 ⟨v504, rfl, ho0, hb⟩; have n0_ := Aside0.mk (Kd.N_elder' (nA HO_452000) (Kd.R_base ho0) hb); have n1_ := Aside0.mk (Kd.N_elder' (nA HO_458000) (Kd.R_base ho0) hb); have n2_ := Aside0.mk (Kd.N_elder' (nA HO_463000) (Kd.R_base ho0) hb); have n3_ := Aside0.mk (Kd.R_lower ho0 (below_size (kB HB))); have n4_ := Aside0.mk (kK BK451 hb); have n5_ := Aside0.mk (kK BK457 hb); have n6_ := Aside0.mk (kK BK462 hb); have n7_ := Aside0.mk (below_step (kB HB) hb); clear HO_452000; clear HO_458000; clear HO_463000; clear BK451; clear BK457; clear BK462; clear HB; have HO_452000 := n0_; have HO_458000 := n1_; have HO_463000 := n2_; have HO505 := n3_; have BK451 := n4_; have BK457 := n5_; have BK462 := n6_; have HB := n7_; clear n0_ n1_ n2_ n3_ n4_ n5_ n6_ n7_; (try clear hb); (try clear hb2); (try clear hk); (try clear hi); (try clear ho0); obtain ⟨Ao192, co192, eo192⟩ := Kd.R_slice HO505.out; subst eo192) | (go_at_call 30; (with_reducible refine (impl_BergParent.calls kj124 _ _ t503 t506 t507 t508 _ ?side1 ?side2 A188.out).mono ?_); (case side1 => exact cC (Kd.R_reads' HO505.out).2.2); (case side2 => exact (Kd.R_reads' HO505.out).2.1); rintro e w193 ⟨v509, rfl, ho0, hb⟩; have n0_ := Aside0.mk (Kd.N_elder' (nA HO_452000) (Kd.R_base ho0) hb); have n1_ := Aside0.mk (Kd.N_elder' (nA HO_458000) (Kd.R_base ho0) hb); have n2_ := Aside0.mk (Kd.N_elder' (nA HO_463000) (Kd.R_base ho0) hb); have n3_ := Aside0.mk (Kd.R_elder' (rA HO505) (Kd.R_base ho0) hb); have n4_ := Aside0.mk (Kd.R_lower (Kd.R_new' ho0 (Kd.R_lt (rA HO505))) (below_size (kB HB))); have n5_ := Aside0.mk (kK BK451 hb); have n6_ := Aside0.mk (kK BK457 hb); have n7_ := Aside0.mk (kK BK462 hb); have n8_ := Aside0.mk (below_step (kB HB) hb); clear HO_452000; clear HO_458000; clear HO_463000; clear HO505; clear BK451; clear BK457; clear BK462; clear HB; have HO_452000 := n0_; have HO_458000 := n1_; have HO_463000 := n2_; have HO505 := n3_; have HO510 := n4_; have BK451 := n5_; have BK457 := n6_; have BK462 := n7_; have HB := n8_; clear n0_ n1_ n2_ n3_ n4_ n5_ n6_ n7_ n8_; (try clear hb); (try clear hb2); (try clear hk); (try clear hi); (try clear ho0)) | (go_at_call 33; (with_reducible refine (spec_BergParent.calls kj124 _ _ t503 t511 t512 t513 _ ?side1 ?side2 A189.out).mono ?_); (case side1 => exact cC (Kd.R_reads' HO505.out).2.2); (case side2 => exact (Kd.R_reads' HO505.out).2.1); rintro e w194 ⟨v514, rfl, ho0, hb⟩; have n0_ := Aside0.mk (Kd.N_elder' (nA HO_452000) (Kd.R_base ho0) hb); have n1_ := Aside0.mk (Kd.N_elder' (nA HO_458000) (Kd.R_base ho0) hb); have n2_ := Aside0.mk (Kd.N_elder' (nA HO_463000) (Kd.R_base ho0) hb); have n3_ := Aside0.mk (Kd.R_elder' (rA HO505) (Kd.R_base ho0) hb); have n4_ := Aside0.mk (Kd.R_elder' (rA HO510) (Kd.R_base ho0) hb); have n5_ := Aside0.mk (Kd.R_lower (Kd.R_new' (Kd.R_new' ho0 (Kd.R_lt (rA HO505))) (Kd.R_lt (rA HO510))) (below_size (kB HB))); have n6_ := Aside0.mk (kK BK451 hb); have n7_ := Aside0.mk (kK BK457 hb); have n8_ := Aside0.mk (kK BK462 hb); have n9_ := Aside0.mk (below_step (kB HB) hb); clear HO_452000; clear HO_458000; clear HO_463000; clear HO505; clear HO510; clear BK451; clear BK457; clear BK462; clear HB; have HO_452000 := n0_; have HO_458000 := n1_; have HO_463000 := n2_; have HO505 := n3_; have HO510 := n4_; have HO515 := n5_; have BK451 := n6_; have BK457 := n7_; have BK462 := n8_; have HB := n9_; clear n0_ n1_ n2_ n3_ n4_ n5_ n6_ n7_ n8_ n9_; (try clear hb); (try clear hb2); (try clear hk); (try clear hi); (try clear ho0)))
                   (try simp only [Act.put, List.setIfInBounds_toArray, List.set_cons_zero, List.set_cons_succ])
                   go_cut [253] (fun v253 wc => ∃ (kq : Nat) (x253_189 : Bool), v253 = .bool x253_189 ∧ Aside0 (laws_FnFirstTree.j5 kq t503 t506 t507 t508 x253_189 = some r) ∧ Aside0 (kq ≤ kj124) ∧ Aside0 (Kd.R (Kd.int .i64) 3 wc w.heap.size (fun k_ => some k_ ≠ (v509 : Value).ownBlock) (.slice Ao192 t503.length co192) t503) ∧ Aside0 (Kd.R (Kd.int .i64) 3 wc w.heap.size (fun k_ => some k_ ≠ ((.slice Ao192 t503.length co192) : Value).ownBlock) v509 t506) ∧ Aside0 (Kd.N (Kd.slice 3 (Kd.int .i64)) 24 wc w.heap.size (fun k_ => some k_ ≠ ((.slice Ao192 t503.length co192) : Value).ownBlock ∧ some k_ ≠ (v509 : Value).ownBlock ∧ some k_ ≠ ((.slice Ao39 t453.length co39) : Value).ownBlock ∧ some k_ ≠ ((.slice Ao44 t458.length co44) : Value).ownBlock ∧ k_ ≠ gb451 ∧ k_ ≠ gb457 ∧ k_ ≠ gb462) (.slice Ao33 y448.length co33) y448) ∧ Aside0 (Kd.N (Kd.slice 3 (Kd.int .i64)) 24 wc w.heap.size (fun k_ => some k_ ≠ ((.slice Ao192 t503.length co192) : Value).ownBlock ∧ some k_ ≠ (v509 : Value).ownBlock ∧ some k_ ≠ ((.slice Ao33 y448.length co33) : Value).ownBlock ∧ some k_ ≠ ((.slice Ao44 t458.length co44) : Value).ownBlock ∧ k_ ≠ gb451 ∧ k_ ≠ gb457 ∧ k_ ≠ gb462) (.slice Ao39 t453.length co39) t453) ∧ Aside0 (Kd.N (Kd.slice 3 (Kd.int .i64)) 24 wc w.heap.size (fun k_ => some k_ ≠ ((.slice Ao192 t503.length co192) : Value).ownBlock ∧ some k_ ≠ (v509 : Value).ownBlock ∧ some k_ ≠ ((.slice Ao33 y448.length co33) : Value).ownBlock ∧ some k_ ≠ ((.slice Ao39 t453.length co39) : Value).ownBlock ∧ k_ ≠ gb451 ∧ k_ ≠ gb457 ∧ k_ ≠ gb462) (.slice Ao44 t458.length co44) t458) ∧ Aside0 (wc.heap[gb451]? = some (.cells #[(.slice Ao33 y448.length co33)] 33 (0, 0))) ∧ Aside0 (wc.heap[gb457]? = some (.cells #[(.slice Ao39 t453.length co39)] 33 (0, 0))) ∧ Aside0 (wc.heap[gb462]? = some (.cells #[(.slice Ao44 t458.length co44)] 33 (0, 0))) ∧ Aside0 (Below w.heap.size w wc))
                   case first =>
                    as_aux_lemma =>
                     have H := HC190.out
                     clear HC190
                     by_cases c195 : (t508 != t513) = true
                     ·
                      rw [if_pos c195] at H
                      exact absurd (H.trans (congrArg some hrT)) (fun h_ => laws_FnFirstTree.j5_no h_)
                     ·
                      rw [if_neg c195] at H
                      have c195b0 : (t508 != t513) = false := by simpa using c195
                      (try (have c195b1 : decide (t508 = t513) = true := by simpa using c195))
                      (try (have c195b2 : (t508 == t513) = true := by simpa using c195))
                      clear c195
                      (first | rw [c195b0] | (simp only [i64_w, i32_w]; rw [c195b0]) | skip)
                      replace H := Option.bind_eq_some_iff.mp H
                      obtain ⟨t516, A1960, H⟩ := H
                      replace H : (if t516 = true then (if t507 = t512 then ((impl_IsRight.f kj124 t503).bind fun t517 => (if t517 = true then (if 2 < (t503.length : Int) then (laws_FnFirstTree.j5 kj124 t503 t506 t507 t508 (t508 != ((rd t503 2) != 5))) else (none)) else (laws_FnFirstTree.j5 kj124 t503 t506 t507 t508 (t508 != false)))) else (laws_FnFirstTree.j5 kj124 t503 t506 t507 t508 true)) else (laws_FnFirstTree.j5 kj124 t503 t506 t507 t508 true)) = some r := H
                      have A196 := Aside0.mk A1960
                      clear A1960
                      by_cases c197 : t516 = true
                      ·
                       subst c197
                       have H1 : (if t507 = t512 then ((impl_IsRight.f kj124 t503).bind fun t517 => (if t517 = true then (if 2 < (t503.length : Int) then (laws_FnFirstTree.j5 kj124 t503 t506 t507 t508 (t508 != ((rd t503 2) != 5))) else (none)) else (laws_FnFirstTree.j5 kj124 t503 t506 t507 t508 (t508 != false)))) else (laws_FnFirstTree.j5 kj124 t503 t506 t507 t508 true)) = some r := by rw [if_pos rfl] at H; exact H
                       clear H
                       have H := H1
                       clear H1
                       by_cases c198 : t507 = t512
                       ·
                        rw [if_pos c198] at H
                        have c198b0 : (t507 == t512) = true := beq_iff_eq.mpr c198
                        have c198b1 : (t507 != t512) = false := bne_eq_false_iff_eq.mpr c198
                        clear c198
                        replace H := Option.bind_eq_some_iff.mp H
                        obtain ⟨t517, A1990, H⟩ := H
                        replace H : (if t517 = true then (if 2 < (t503.length : Int) then (laws_FnFirstTree.j5 kj124 t503 t506 t507 t508 (t508 != ((rd t503 2) != 5))) else (none)) else (laws_FnFirstTree.j5 kj124 t503 t506 t507 t508 (t508 != false))) = some r := H
                        have A199 := Aside0.mk A1990
                        clear A1990
                        by_cases c200 : t517 = true
                        ·
                         subst c200
                         have H1 : (if 2 < (t503.length : Int) then (laws_FnFirstTree.j5 kj124 t503 t506 t507 t508 (t508 != ((rd t503 2) != 5))) else (none)) = some r := by rw [if_pos rfl] at H; exact H
                         clear H
                         have H := H1
                         clear H1
                         by_cases c201 : 2 < (t503.length : Int)
                         ·
                          rw [if_pos c201] at H
                          have c201b0 : decide (2 < (t503.length : Int)) = true := decide_eq_true c201
                          have c201b1 : decide (2 < t503.length) = true := decide_eq_true (by omega)
                          clear c201
                          have H' := Aside0.mk H
                          clear H
                          obtain ⟨Ao202, co202, eo202⟩ := Kd.R_slice HO510.out
                          subst eo202
                          obtain ⟨Ao203, co203, eo203⟩ := Kd.R_slice HO515.out
                          subst eo203
                          go_wp2_with (first | (go_at_call 11; (with_reducible refine (laws_vSame.calls kj124 _ _ t506 _ _ t511 true _ ?side1 ?side2 ?side3 ?side4 A196.out).mono ?_); (case side1 => exact cC (Kd.R_reads' HO510.out).2.2); (case side2 => exact (Kd.R_reads' HO510.out).2.1); (case side3 => exact cC (Kd.R_reads' HO515.out).2.2); (case side4 => exact (Kd.R_reads' HO515.out).2.1); rintro e w' ⟨rfl, ⟨nd, rfl⟩⟩; (try exact dD)) | (go_at_call 21; (with_reducible refine (impl_IsRight.calls kj124 _ _ t503 true _ ?side1 ?side2 A199.out).mono ?_); (case side1 => exact cC (Kd.R_reads' HO505.out).2.2); (case side2 => exact (Kd.R_reads' HO505.out).2.1); rintro e w204 ⟨rfl, hb⟩; have n0_ := Aside0.mk (Kd.N_below (nA HO_452000) hb); have n1_ := Aside0.mk (Kd.N_below (nA HO_458000) hb); have n2_ := Aside0.mk (Kd.N_below (nA HO_463000) hb); have n3_ := Aside0.mk (Kd.R_below (rA HO505) hb); have n4_ := Aside0.mk (Kd.R_below (rA HO510) hb); have n5_ := Aside0.mk (Kd.R_below (rA HO515) hb); have n6_ := Aside0.mk (kK BK451 hb); have n7_ := Aside0.mk (kK BK457 hb); have n8_ := Aside0.mk (kK BK462 hb); have n9_ := Aside0.mk (below_step (kB HB) hb); clear HO_452000; clear HO_458000; clear HO_463000; clear HO505; clear HO510; clear HO515; clear BK451; clear BK457; clear BK462; clear HB; have HO_452000 := n0_; have HO_458000 := n1_; have HO_463000 := n2_; have HO505 := n3_; have HO510 := n4_; have HO515 := n5_; have BK451 := n6_; have BK457 := n7_; have BK462 := n8_; have HB := n9_; clear n0_ n1_ n2_ n3_ n4_ n5_ n6_ n7_ n8_ n9_; (try clear hb); (try clear hb2); (try clear hk); (try clear hi); have p518 : 0 ≤ (2 : Int) := (by omega); have q518 : 2 < (t503.length : Int) := od; obtain ⟨ad518, e518, hx518_0⟩ := Kd.at_int (Kd.R_reads' HO505.out).2.2 2 p518 q518; cases e518; (try simp only [show (2 : Int).toNat = 2 from rfl, Nat.reduceMul, Nat.reduceEqDiff, Go.Addr.add, ↓reduceIte] at hx518_0); have qi518 : (2 < t503.length) = True := eq_true (by omega); (try rw [show ((2 : Int)).toNat = 2 from rfl] at hx518_0); replace p518 := eq_true p518; replace q518 := eq_true q518))
                          repeat (go_quiet (first | (go_at_call 11; (with_reducible refine (laws_vSame.calls kj124 _ _ t506 _ _ t511 true _ ?side1 ?side2 ?side3 ?side4 A196.out).mono ?_); (case side1 => exact cC (Kd.R_reads' HO510.out).2.2); (case side2 => exact (Kd.R_reads' HO510.out).2.1); (case side3 => exact cC (Kd.R_reads' HO515.out).2.2); (case side4 => exact (Kd.R_reads' HO515.out).2.1); rintro e w' ⟨rfl, ⟨nd, rfl⟩⟩; (try exact dD)) | (go_at_call 21; (with_reducible refine (impl_IsRight.calls kj124 _ _ t503 true _ ?side1 ?side2 A199.out).mono ?_); (case side1 => exact cC (Kd.R_reads' HO505.out).2.2); (case side2 => exact (Kd.R_reads' HO505.out).2.1); rintro e w204 ⟨rfl, hb⟩; have n0_ := Aside0.mk (Kd.N_below (nA HO_452000) hb); have n1_ := Aside0.mk (Kd.N_below (nA HO_458000) hb); have n2_ := Aside0.mk (Kd.N_below (nA HO_463000) hb); have n3_ := Aside0.mk (Kd.R_below (rA HO505) hb); have n4_ := Aside0.mk (Kd.R_below (rA HO510) hb); have n5_ := Aside0.mk (Kd.R_below (rA HO515) hb); have n6_ := Aside0.mk (kK BK451 hb); have n7_ := Aside0.mk (kK BK457 hb); have n8_ := Aside0.mk (kK BK462 hb); have n9_ := Aside0.mk (below_step (kB HB) hb); clear HO_452000; clear HO_458000; clear HO_463000; clear HO505; clear HO510; clear HO515; clear BK451; clear BK457; clear BK462; clear HB; have HO_452000 := n0_; have HO_458000 := n1_; have HO_463000 := n2_; have HO505 := n3_; have HO510 := n4_; have HO515 := n5_; have BK451 := n6_; have BK457 := n7_; have BK462 := n8_; have HB := n9_; clear n0_ n1_ n2_ n3_ n4_ n5_ n6_ n7_ n8_ n9_; (try clear hb); (try clear hb2); (try clear hk); (try clear hi); have p518 : 0 ≤ (2 : Int) := (by omega); have q518 : 2 < (t503.length : Int) := od; obtain ⟨ad518, e518, hx518_0⟩ := Kd.at_int (Kd.R_reads' HO505.out).2.2 2 p518 q518; cases e518; (try simp only [show (2 : Int).toNat = 2 from rfl, Nat.reduceMul, Nat.reduceEqDiff, Go.Addr.add, ↓reduceIte] at hx518_0); have qi518 : (2 < t503.length) = True := eq_true (by omega); (try rw [show ((2 : Int)).toNat = 2 from rfl] at hx518_0); replace p518 := eq_true p518; replace q518 := eq_true q518)); try go_wp2_with (first | (go_at_call 11; (with_reducible refine (laws_vSame.calls kj124 _ _ t506 _ _ t511 true _ ?side1 ?side2 ?side3 ?side4 A196.out).mono ?_); (case side1 => exact cC (Kd.R_reads' HO510.out).2.2); (case side2 => exact (Kd.R_reads' HO510.out).2.1); (case side3 => exact cC (Kd.R_reads' HO515.out).2.2); (case side4 => exact (Kd.R_reads' HO515.out).2.1); rintro e w' ⟨rfl, ⟨nd, rfl⟩⟩; (try exact dD)) | (go_at_call 21; (with_reducible refine (impl_IsRight.calls kj124 _ _ t503 true _ ?side1 ?side2 A199.out).mono ?_); (case side1 => exact cC (Kd.R_reads' HO505.out).2.2); (case side2 => exact (Kd.R_reads' HO505.out).2.1); rintro e w204 ⟨rfl, hb⟩; have n0_ := Aside0.mk (Kd.N_below (nA HO_452000) hb); have n1_ := Aside0.mk (Kd.N_below (nA HO_458000) hb); have n2_ := Aside0.mk (Kd.N_below (nA HO_463000) hb); have n3_ := Aside0.mk (Kd.R_below (rA HO505) hb); have n4_ := Aside0.mk (Kd.R_below (rA HO510) hb); have n5_ := Aside0.mk (Kd.R_below (rA HO515) hb); have n6_ := Aside0.mk (kK BK451 hb); have n7_ := Aside0.mk (kK BK457 hb); have n8_ := Aside0.mk (kK BK462 hb); have n9_ := Aside0.mk (below_step (kB HB) hb); clear HO_452000; clear HO_458000; clear HO_463000; clear HO505; clear HO510; clear HO515; clear BK451; clear BK457; clear BK462; clear HB; have HO_452000 := n0_; have HO_458000 := n1_; have HO_463000 := n2_; have HO505 := n3_; have HO510 := n4_; have HO515 := n5_; have BK451 := n6_; have BK457 := n7_; have BK462 := n8_; have HB := n9_; clear n0_ n1_ n2_ n3_ n4_ n5_ n6_ n7_ n8_ n9_; (try clear hb); (try clear hb2); (try clear hk); (try clear hi); have p518 : 0 ≤ (2 : Int) := (by omega); have q518 : 2 < (t503.length : Int) := od; obtain ⟨ad518, e518, hx518_0⟩ := Kd.at_int (Kd.R_reads' HO505.out).2.2 2 p518 q518; cases e518; (try simp only [show (2 : Int).toNat = 2 from rfl, Nat.reduceMul, Nat.reduceEqDiff, Go.Addr.add, ↓reduceIte] at hx518_0); have qi518 : (2 < t503.length) = True := eq_true (by omega); (try rw [show ((2 : Int)).toNat = 2 from rfl] at hx518_0); replace p518 := eq_true p518; replace q518 := eq_true q518)))
                          go_meet
                          case rel => exact ⟨_, ((t508 != ((rd t503 2) != 5))), e2, H', ⟨by have := HJ7.out; have := HJ20.out; have := HJ67.out; have := HJ124.out; first | omega | exact Nat.le_refl _⟩, ⟨by (with_reducible repeat (first | apply Kd.R_alloc | apply Kd.R_drewN | apply Kd.R_drew)); exact Kd.R_mono HO505.out (fun _ hk => hk.1.2)⟩, ⟨by (with_reducible repeat (first | apply Kd.R_alloc | apply Kd.R_drewN | apply Kd.R_drew)); exact Kd.R_mono HO510.out (fun _ hk => hk.1.2)⟩, ⟨by (with_reducible repeat (first | apply Kd.N_alloc | apply Kd.N_drewN | apply Kd.N_drew)); exact Kd.N_mono HO_452000.out (fun _ hk => ⟨hk.1.1.2, ⟨hk.1.2, ⟨hk.1.1.1.1, ⟨hk.1.1.1.2.1, ⟨hk.1.1.1.2.2.1, ⟨hk.1.1.1.2.2.2.1, hk.1.1.1.2.2.2.2⟩⟩⟩⟩⟩⟩)⟩, ⟨by (with_reducible repeat (first | apply Kd.N_alloc | apply Kd.N_drewN | apply Kd.N_drew)); exact Kd.N_mono HO_458000.out (fun _ hk => ⟨hk.1.1.2, ⟨hk.1.2, ⟨hk.1.1.1.1, ⟨hk.1.1.1.2.1, ⟨hk.1.1.1.2.2.1, ⟨hk.1.1.1.2.2.2.1, hk.1.1.1.2.2.2.2⟩⟩⟩⟩⟩⟩)⟩, ⟨by (with_reducible repeat (first | apply Kd.N_alloc | apply Kd.N_drewN | apply Kd.N_drew)); exact Kd.N_mono HO_463000.out (fun _ hk => ⟨hk.1.1.2, ⟨hk.1.2, ⟨hk.1.1.1.1, ⟨hk.1.1.1.2.1, ⟨hk.1.1.1.2.2.1, ⟨hk.1.1.1.2.2.2.1, hk.1.1.1.2.2.2.2⟩⟩⟩⟩⟩⟩)⟩, ⟨by (with_reducible repeat (first | refine blk_drewN ?_ _ | refine blk_drew ?_ | refine blk_alloc ?_ _)); exact BK451.out⟩, ⟨by (with_reducible repeat (first | refine blk_drewN ?_ _ | refine blk_drew ?_ | refine blk_alloc ?_ _)); exact BK457.out⟩, ⟨by (with_reducible repeat (first | refine blk_drewN ?_ _ | refine blk_drew ?_ | refine blk_alloc ?_ _)); exact BK462.out⟩, ⟨kB HB⟩⟩
                         ·
                          rw [if_neg c201] at H
                          exact absurd H (by simp)
                        ·
                         replace c200 := Bool.eq_false_iff.mpr c200
                         subst c200
                         have H1 : (laws_FnFirstTree.j5 kj124 t503 t506 t507 t508 (t508 != false)) = some r := by rw [if_neg (show ¬ (false = true) by decide)] at H; exact H
                         clear H
                         have H := H1
                         clear H1
                         have H' := Aside0.mk H
                         clear H
                         obtain ⟨Ao205, co205, eo205⟩ := Kd.R_slice HO510.out
                         subst eo205
                         obtain ⟨Ao206, co206, eo206⟩ := Kd.R_slice HO515.out
                         subst eo206
                         go_wp2_with (first | (go_at_call 11; (with_reducible refine (laws_vSame.calls kj124 _ _ t506 _ _ t511 true _ ?side1 ?side2 ?side3 ?side4 A196.out).mono ?_); (case side1 => exact cC (Kd.R_reads' HO510.out).2.2); (case side2 => exact (Kd.R_reads' HO510.out).2.1); (case side3 => exact cC (Kd.R_reads' HO515.out).2.2); (case side4 => exact (Kd.R_reads' HO515.out).2.1); rintro e w' ⟨rfl, ⟨nd, rfl⟩⟩; (try exact dD)) | (go_at_call 21; (with_reducible refine (impl_IsRight.calls kj124 _ _ t503 false _ ?side1 ?side2 A199.out).mono ?_); (case side1 => exact cC (Kd.R_reads' HO505.out).2.2); (case side2 => exact (Kd.R_reads' HO505.out).2.1); rintro e w207 ⟨rfl, hb⟩; have n0_ := Aside0.mk (Kd.N_below (nA HO_452000) hb); have n1_ := Aside0.mk (Kd.N_below (nA HO_458000) hb); have n2_ := Aside0.mk (Kd.N_below (nA HO_463000) hb); have n3_ := Aside0.mk (Kd.R_below (rA HO505) hb); have n4_ := Aside0.mk (Kd.R_below (rA HO510) hb); have n5_ := Aside0.mk (Kd.R_below (rA HO515) hb); have n6_ := Aside0.mk (kK BK451 hb); have n7_ := Aside0.mk (kK BK457 hb); have n8_ := Aside0.mk (kK BK462 hb); have n9_ := Aside0.mk (below_step (kB HB) hb); clear HO_452000; clear HO_458000; clear HO_463000; clear HO505; clear HO510; clear HO515; clear BK451; clear BK457; clear BK462; clear HB; have HO_452000 := n0_; have HO_458000 := n1_; have HO_463000 := n2_; have HO505 := n3_; have HO510 := n4_; have HO515 := n5_; have BK451 := n6_; have BK457 := n7_; have BK462 := n8_; have HB := n9_; clear n0_ n1_ n2_ n3_ n4_ n5_ n6_ n7_ n8_ n9_; (try clear hb); (try clear hb2); (try clear hk); (try clear hi)))
                         repeat (go_quiet (first | (go_at_call 11; (with_reducible refine (laws_vSame.calls kj124 _ _ t506 _ _ t511 true _ ?side1 ?side2 ?side3 ?side4 A196.out).mono ?_); (case side1 => exact cC (Kd.R_reads' HO510.out).2.2); (case side2 => exact (Kd.R_reads' HO510.out).2.1); (case side3 => exact cC (Kd.R_reads' HO515.out).2.2); (case side4 => exact (Kd.R_reads' HO515.out).2.1); rintro e w' ⟨rfl, ⟨nd, rfl⟩⟩; (try exact dD)) | (go_at_call 21; (with_reducible refine (impl_IsRight.calls kj124 _ _ t503 false _ ?side1 ?side2 A199.out).mono ?_); (case side1 => exact cC (Kd.R_reads' HO505.out).2.2); (case side2 => exact (Kd.R_reads' HO505.out).2.1); rintro e w207 ⟨rfl, hb⟩; have n0_ := Aside0.mk (Kd.N_below (nA HO_452000) hb); have n1_ := Aside0.mk (Kd.N_below (nA HO_458000) hb); have n2_ := Aside0.mk (Kd.N_below (nA HO_463000) hb); have n3_ := Aside0.mk (Kd.R_below (rA HO505) hb); have n4_ := Aside0.mk (Kd.R_below (rA HO510) hb); have n5_ := Aside0.mk (Kd.R_below (rA HO515) hb); have n6_ := Aside0.mk (kK BK451 hb); have n7_ := Aside0.mk (kK BK457 hb); have n8_ := Aside0.mk (kK BK462 hb); have n9_ := Aside0.mk (below_step (kB HB) hb); clear HO_452000; clear HO_458000; clear HO_463000; clear HO505; clear HO510; clear HO515; clear BK451; clear BK457; clear BK462; clear HB; have HO_452000 := n0_; have HO_458000 := n1_; have HO_463000 := n2_; have HO505 := n3_; have HO510 := n4_; have HO515 := n5_; have BK451 := n6_; have BK457 := n7_; have BK462 := n8_; have HB := n9_; clear n0_ n1_ n2_ n3_ n4_ n5_ n6_ n7_ n8_ n9_; (try clear hb); (try clear hb2); (try clear hk); (try clear hi))); try go_wp2_with (first | (go_at_call 11; (with_reducible refine (laws_vSame.calls kj124 _ _ t506 _ _ t511 true _ ?side1 ?side2 ?side3 ?side4 A196.out).mono ?_); (case side1 => exact cC (Kd.R_reads' HO510.out).2.2); (case side2 => exact (Kd.R_reads' HO510.out).2.1); (case side3 => exact cC (Kd.R_reads' HO515.out).2.2); (case side4 => exact (Kd.R_reads' HO515.out).2.1); rintro e w' ⟨rfl, ⟨nd, rfl⟩⟩; (try exact dD)) | (go_at_call 21; (with_reducible refine (impl_IsRight.calls kj124 _ _ t503 false _ ?side1 ?side2 A199.out).mono ?_); (case side1 => exact cC (Kd.R_reads' HO505.out).2.2); (case side2 => exact (Kd.R_reads' HO505.out).2.1); rintro e w207 ⟨rfl, hb⟩; have n0_ := Aside0.mk (Kd.N_below (nA HO_452000) hb); have n1_ := Aside0.mk (Kd.N_below (nA HO_458000) hb); have n2_ := Aside0.mk (Kd.N_below (nA HO_463000) hb); have n3_ := Aside0.mk (Kd.R_below (rA HO505) hb); have n4_ := Aside0.mk (Kd.R_below (rA HO510) hb); have n5_ := Aside0.mk (Kd.R_below (rA HO515) hb); have n6_ := Aside0.mk (kK BK451 hb); have n7_ := Aside0.mk (kK BK457 hb); have n8_ := Aside0.mk (kK BK462 hb); have n9_ := Aside0.mk (below_step (kB HB) hb); clear HO_452000; clear HO_458000; clear HO_463000; clear HO505; clear HO510; clear HO515; clear BK451; clear BK457; clear BK462; clear HB; have HO_452000 := n0_; have HO_458000 := n1_; have HO_463000 := n2_; have HO505 := n3_; have HO510 := n4_; have HO515 := n5_; have BK451 := n6_; have BK457 := n7_; have BK462 := n8_; have HB := n9_; clear n0_ n1_ n2_ n3_ n4_ n5_ n6_ n7_ n8_ n9_; (try clear hb); (try clear hb2); (try clear hk); (try clear hi))))
                         go_meet
                         case rel => exact ⟨_, ((t508 != false)), e2, H', ⟨by have := HJ7.out; have := HJ20.out; have := HJ67.out; have := HJ124.out; first | omega | exact Nat.le_refl _⟩, ⟨by (with_reducible repeat (first | apply Kd.R_alloc | apply Kd.R_drewN | apply Kd.R_drew)); exact Kd.R_mono HO505.out (fun _ hk => hk.1.2)⟩, ⟨by (with_reducible repeat (first | apply Kd.R_alloc | apply Kd.R_drewN | apply Kd.R_drew)); exact Kd.R_mono HO510.out (fun _ hk => hk.1.2)⟩, ⟨by (with_reducible repeat (first | apply Kd.N_alloc | apply Kd.N_drewN | apply Kd.N_drew)); exact Kd.N_mono HO_452000.out (fun _ hk => ⟨hk.1.1.2, ⟨hk.1.2, ⟨hk.1.1.1.1, ⟨hk.1.1.1.2.1, ⟨hk.1.1.1.2.2.1, ⟨hk.1.1.1.2.2.2.1, hk.1.1.1.2.2.2.2⟩⟩⟩⟩⟩⟩)⟩, ⟨by (with_reducible repeat (first | apply Kd.N_alloc | apply Kd.N_drewN | apply Kd.N_drew)); exact Kd.N_mono HO_458000.out (fun _ hk => ⟨hk.1.1.2, ⟨hk.1.2, ⟨hk.1.1.1.1, ⟨hk.1.1.1.2.1, ⟨hk.1.1.1.2.2.1, ⟨hk.1.1.1.2.2.2.1, hk.1.1.1.2.2.2.2⟩⟩⟩⟩⟩⟩)⟩, ⟨by (with_reducible repeat (first | apply Kd.N_alloc | apply Kd.N_drewN | apply Kd.N_drew)); exact Kd.N_mono HO_463000.out (fun _ hk => ⟨hk.1.1.2, ⟨hk.1.2, ⟨hk.1.1.1.1, ⟨hk.1.1.1.2.1, ⟨hk.1.1.1.2.2.1, ⟨hk.1.1.1.2.2.2.1, hk.1.1.1.2.2.2.2⟩⟩⟩⟩⟩⟩)⟩, ⟨by (with_reducible repeat (first | refine blk_drewN ?_ _ | refine blk_drew ?_ | refine blk_alloc ?_ _)); exact BK451.out⟩, ⟨by (with_reducible repeat (first | refine blk_drewN ?_ _ | refine blk_drew ?_ | refine blk_alloc ?_ _)); exact BK457.out⟩, ⟨by (with_reducible repeat (first | refine blk_drewN ?_ _ | refine blk_drew ?_ | refine blk_alloc ?_ _)); exact BK462.out⟩, ⟨kB HB⟩⟩
                       ·
                        rw [if_neg c198] at H
                        exact absurd (H.trans (congrArg some hrT)) (fun h_ => laws_FnFirstTree.j5_no h_)
                      ·
                       replace c197 := Bool.eq_false_iff.mpr c197
                       subst c197
                       have H1 : (laws_FnFirstTree.j5 kj124 t503 t506 t507 t508 true) = some r := by rw [if_neg (show ¬ (false = true) by decide)] at H; exact H
                       exact absurd (H1.trans (congrArg some hrT)) (fun h_ => laws_FnFirstTree.j5_no h_)
                   case rest =>
                    as_aux_lemma =>
                     clear HC190; (try clear c1); (try clear c2); (try clear p2); (try clear c4); (try clear p4); (try clear q4); (try clear hx4); (try clear qi4); (try clear c5); (try clear p5); (try clear q5); (try clear hx5); (try clear qi5); (try clear c6); (try clear c7); (try clear c8); (try clear c9); (try clear c10); (try clear c11); (try clear c12); (try clear c13); (try clear c13b0); (try clear c13b1); (try clear c13b2); (try clear c14); (try clear c15); (try clear c16); (try clear c17); (try clear c18); (try clear c19); (try clear c20); (try clear c40); (try clear c45); (try clear c46); (try clear c48); (try clear c48b0); (try clear c48b1); (try clear c48b2); (try clear p49); (try clear q49); (try clear hx49); (try clear qi49); (try clear c50); (try clear c51); (try clear c51b0); (try clear p51); (try clear q51); (try clear hx51); (try clear qi51); (try clear c52); (try clear c53); (try clear c55); (try clear c57); (try clear c58); (try clear c60); (try clear c62); (try clear c63); (try clear c65); (try clear c67); (try clear c69); (try clear c72); (try clear c73); (try clear c74); (try clear c75); (try clear c75b0); (try clear c75b1); (try clear c76); (try clear c77); (try clear c79); (try clear c84); (try clear c84b0); (try clear c84b1); (try clear c85); (try clear c86); (try clear c88); (try clear c93); (try clear c94); (try clear c96); (try clear c101); (try clear c102); (try clear c104); (try clear c109); (try clear c110); (try clear c112); (try clear c117); (try clear c118); (try clear c120); (try clear c126); (try clear c135); (try clear c136); (try clear c137); (try clear c143); (try clear c144); (try clear c145); (try clear c146); (try clear c148); (try clear c149); (try clear c149b0); (try clear c149b1); (try clear c150); (try clear c151); (try clear c163); (try clear c164); (try clear c164b0); (try clear c164b1); (try clear c165); (try clear c165b0); (try clear c167); (try clear c169); (try clear c170); (try clear c171); (try clear c172); (try clear c176); (try clear c177); (try clear c178); (try clear c182); (try clear c183); (try clear c184); (try clear c195); (try clear c195b0); (try clear c195b1); (try clear c195b2); (try clear c197); (try clear c198); (try clear c198b0); (try clear c198b1); (try clear c200); (try clear c201); (try clear c201b0); (try clear c201b1); (try clear hcz103_0); (try clear hcz105_0); (try clear hcz107_0); (try clear hcz111_0); (try clear hcz113_0); (try clear hcz115_0); (try clear hcz119_0); (try clear hcz121_0); (try clear hcz123_0); (try clear hcz138_0); (try clear hcz173_0); (try clear hcz179_0); (try clear hcz185_0); (try clear hcz35_0); (try clear hcz41_0); (try clear hcz47_0); (try clear hcz54_0); (try clear hcz56_0); (try clear hcz59_0); (try clear hcz61_0); (try clear hcz64_0); (try clear hcz66_0); (try clear hcz78_0); (try clear hcz80_0); (try clear hcz82_0); (try clear hcz87_0); (try clear hcz89_0); (try clear hcz91_0); (try clear hcz95_0); (try clear hcz97_0); (try clear hcz99_0); (try clear hfz103_0); (try clear hfz105_0); (try clear hfz107_0); (try clear hfz111_0); (try clear hfz113_0); (try clear hfz115_0); (try clear hfz119_0); (try clear hfz121_0); (try clear hfz123_0); (try clear hfz138_0); (try clear hfz173_0); (try clear hfz179_0); (try clear hfz185_0); (try clear hfz35_0); (try clear hfz41_0); (try clear hfz47_0); (try clear hfz54_0); (try clear hfz56_0); (try clear hfz59_0); (try clear hfz61_0); (try clear hfz64_0); (try clear hfz66_0); (try clear hfz78_0); (try clear hfz80_0); (try clear hfz82_0); (try clear hfz87_0); (try clear hfz89_0); (try clear hfz91_0); (try clear hfz95_0); (try clear hfz97_0); (try clear hfz99_0); (try clear hx497_0); (try clear hx518_0); (try clear p2); (try clear p4); (try clear p49); (try clear p497); (try clear p518); (try clear q4); (try clear q49); (try clear q497); (try clear q518)
                     obtain ⟨kq, x253_189, rfl, HA, HJ189, HO_32, HO_33, HO_452000, HO_458000, HO_463000, BK451, BK457, BK462, HB⟩ := hcut
                     cases kq with
                     | zero => exact absurd HA.out (by simp [laws_FnFirstTree.j5])
                     | succ kj189 =>
                      have H := HA.out
                      clear HA
                      simp only [laws_FnFirstTree.j5] at H
                      by_cases c212 : x253_189 = true
                      ·
                       subst c212
                       have H1 : (some false) = some r := by rw [if_pos rfl] at H; exact H
                       exact absurd (H1.trans (congrArg some hrT)) (by simp)
                      ·
                       as_aux_lemma =>
                        replace c212 := Bool.eq_false_iff.mpr c212
                        subst c212
                        have H1 : (if t508 = true then ((impl_BergChild.f kj189 t506 t507).bind fun bt519 => (if bt519.2 = true then ((laws_vSame.f kj189 bt519.1 t503).bind fun t523 => (if t523 = true then (if 2 < (t506.length : Int) then (if 2 < (t503.length : Int) then (some (decide ((rd t506 2) < (rd t503 2)))) else (none)) else (none)) else (some false))) else (some false))) else (some true)) = some r := by rw [if_neg (show ¬ (false = true) by decide)] at H; exact H
                        clear H
                        have H := H1
                        clear H1
                        by_cases c213 : t508 = true
                        ·
                         subst c213
                         have H1 : ((impl_BergChild.f kj189 t506 t507).bind fun bt519 => (if bt519.2 = true then ((laws_vSame.f kj189 bt519.1 t503).bind fun t523 => (if t523 = true then (if 2 < (t506.length : Int) then (if 2 < (t503.length : Int) then (some (decide ((rd t506 2) < (rd t503 2)))) else (none)) else (none)) else (some false))) else (some false))) = some r := by rw [if_pos rfl] at H; exact H
                         clear H
                         have H := H1
                         clear H1
                         replace H := Option.bind_eq_some_iff.mp H
                         obtain ⟨⟨t519, t520⟩, A2140, H⟩ := H
                         replace H : (if t520 = true then ((laws_vSame.f kj189 t519 t503).bind fun t523 => (if t523 = true then (if 2 < (t506.length : Int) then (if 2 < (t503.length : Int) then (some (decide ((rd t506 2) < (rd t503 2)))) else (none)) else (none)) else (some false))) else (some false)) = some r := H
                         have A214 := Aside0.mk A2140
                         clear A2140
                         by_cases c215 : t520 = true
                         ·
                          subst c215
                          have H1 : ((laws_vSame.f kj189 t519 t503).bind fun t523 => (if t523 = true then (if 2 < (t506.length : Int) then (if 2 < (t503.length : Int) then (some (decide ((rd t506 2) < (rd t503 2)))) else (none)) else (none)) else (some false))) = some r := by rw [if_pos rfl] at H; exact H
                          clear H
                          have H := H1
                          clear H1
                          replace H := Option.bind_eq_some_iff.mp H
                          obtain ⟨t523, A2160, H⟩ := H
                          replace H : (if t523 = true then (if 2 < (t506.length : Int) then (if 2 < (t503.length : Int) then (some (decide ((rd t506 2) < (rd t503 2)))) else (none)) else (none)) else (some false)) = some r := H
                          have A216 := Aside0.mk A2160
                          clear A2160
                          by_cases c217 : t523 = true
                          ·
                           subst c217
                           have H1 : (if 2 < (t506.length : Int) then (if 2 < (t503.length : Int) then (some (decide ((rd t506 2) < (rd t503 2)))) else (none)) else (none)) = some r := by rw [if_pos rfl] at H; exact H
                           clear H
                           have H := H1
                           clear H1
                           by_cases c218 : 2 < (t506.length : Int)
                           ·
                            rw [if_pos c218] at H
                            have c218b0 : decide (2 < (t506.length : Int)) = true := decide_eq_true c218
                            have c218b1 : decide (2 < t506.length) = true := decide_eq_true (by omega)
                            clear c218
                            by_cases c219 : 2 < (t503.length : Int)
                            ·
                             rw [if_pos c219] at H
                             have c219b0 : decide (2 < (t503.length : Int)) = true := decide_eq_true c219
                             have c219b1 : decide (2 < t503.length) = true := decide_eq_true (by omega)
                             clear c219
                             obtain rfl := Option.some.inj H
                             obtain ⟨Ao220, co220, eo220⟩ := Kd.R_slice HO_33.out
                             subst eo220
                             go_wp2_with (first | (go_at_call 23; (with_reducible refine (impl_BergChild.calls kj189 _ _ t506 t507 t519 true _ ?side1 ?side2 A214.out).mono ?_); (case side1 => exact cC (Kd.R_reads' HO_33.out).2.2); (case side2 => exact (Kd.R_reads' HO_33.out).2.1); rintro e w221 ⟨v521, rfl, ho0, hb⟩; have n0_ := Aside0.mk (Kd.R_elder' (rA HO_32) (Kd.R_base ho0) hb); have n1_ := Aside0.mk (Kd.R_elder' (rA HO_33) (Kd.R_base ho0) hb); have n2_ := Aside0.mk (Kd.N_elder' (nA HO_452000) (Kd.R_base ho0) hb); have n3_ := Aside0.mk (Kd.N_elder' (nA HO_458000) (Kd.R_base ho0) hb); have n4_ := Aside0.mk (Kd.N_elder' (nA HO_463000) (Kd.R_base ho0) hb); have n5_ := Aside0.mk (Kd.R_lower (Kd.R_new' (Kd.R_new' ho0 (Kd.R_lt (rA HO_32))) (Kd.R_lt (rA HO_33))) (below_size (kB HB))); have n6_ := Aside0.mk (kK BK451 hb); have n7_ := Aside0.mk (kK BK457 hb); have n8_ := Aside0.mk (kK BK462 hb); have n9_ := Aside0.mk (below_step (kB HB) hb); clear HO_32; clear HO_33; clear HO_452000; clear HO_458000; clear HO_463000; clear BK451; clear BK457; clear BK462; clear HB; have HO_32 := n0_; have HO_33 := n1_; have HO_452000 := n2_; have HO_458000 := n3_; have HO_463000 := n4_; have HO522 := n5_; have BK451 := n6_; have BK457 := n7_; have BK462 := n8_; have HB := n9_; clear n0_ n1_ n2_ n3_ n4_ n5_ n6_ n7_ n8_ n9_; (try clear hb); (try clear hb2); (try clear hk); (try clear hi); (try clear ho0); obtain ⟨Ao222, co222, eo222⟩ := Kd.R_slice HO522.out; subst eo222) | (go_at_call 11; (with_reducible refine (laws_vSame.calls kj189 _ _ t519 _ _ t503 true _ ?side1 ?side2 ?side3 ?side4 A216.out).mono ?_); (case side1 => exact cC (Kd.R_reads' HO522.out).2.2); (case side2 => exact (Kd.R_reads' HO522.out).2.1); (case side3 => exact cC (Kd.R_reads' HO_32.out).2.2); (case side4 => exact (Kd.R_reads' HO_32.out).2.1); rintro e w' ⟨rfl, ⟨nd, rfl⟩⟩; (try exact dD); have p524 : 0 ≤ (2 : Int) := (by omega); have q524 : 2 < (t506.length : Int) := od; obtain ⟨ad524, e524, hx524_0⟩ := Kd.at_int (Kd.R_reads' HO_33.out).2.2 2 p524 q524; cases e524; (try simp only [show (2 : Int).toNat = 2 from rfl, Nat.reduceMul, Nat.reduceEqDiff, Go.Addr.add, ↓reduceIte] at hx524_0); have qi524 : (2 < t506.length) = True := eq_true (by omega); (try rw [show ((2 : Int)).toNat = 2 from rfl] at hx524_0); replace p524 := eq_true p524; replace q524 := eq_true q524; have p525 : 0 ≤ (2 : Int) := (by omega); have q525 : 2 < (t503.length : Int) := od; obtain ⟨ad525, e525, hx525_0⟩ := Kd.at_int (Kd.R_reads' HO_32.out).2.2 2 p525 q525; cases e525; (try simp only [show (2 : Int).toNat = 2 from rfl, Nat.reduceMul, Nat.reduceEqDiff, Go.Addr.add, ↓reduceIte] at hx525_0); have qi525 : (2 < t503.length) = True := eq_true (by omega); (try rw [show ((2 : Int)).toNat = 2 from rfl] at hx525_0); replace p525 := eq_true p525; replace q525 := eq_true q525))
                             have p524 : 0 ≤ (2 : Int) := (by omega)
                             have q524 : 2 < (t506.length : Int) := od
                             obtain ⟨ad524, e524, hx524_0⟩ := Kd.at_int (Kd.R_reads' HO_33.out).2.2 2 p524 q524
                             cases e524
                             (try simp only [show (2 : Int).toNat = 2 from rfl, Nat.reduceMul, Nat.reduceEqDiff, Go.Addr.add, ↓reduceIte] at hx524_0)
                             have qi524 : (2 < t506.length) = True := eq_true (by omega)
                             (try rw [show ((2 : Int)).toNat = 2 from rfl] at hx524_0)
                             replace p524 := eq_true p524
                             replace q524 := eq_true q524
                             have p525 : 0 ≤ (2 : Int) := (by omega)
                             have q525 : 2 < (t503.length : Int) := od
                             obtain ⟨ad525, e525, hx525_0⟩ := Kd.at_int (Kd.R_reads' HO_32.out).2.2 2 p525 q525
                             cases e525
                             (try simp only [show (2 : Int).toNat = 2 from rfl, Nat.reduceMul, Nat.reduceEqDiff, Go.Addr.add, ↓reduceIte] at hx525_0)
                             have qi525 : (2 < t503.length) = True := eq_true (by omega)
                             (try rw [show ((2 : Int)).toNat = 2 from rfl] at hx525_0)
                             replace p525 := eq_true p525
                             replace q525 := eq_true q525
                             repeat (go_quiet (first | (go_at_call 23; (with_reducible refine (impl_BergChild.calls kj189 _ _ t506 t507 t519 true _ ?side1 ?side2 A214.out).mono ?_); (case side1 => exact cC (Kd.R_reads' HO_33.out).2.2); (case side2 => exact (Kd.R_reads' HO_33.out).2.1); rintro e w221 ⟨v521, rfl, ho0, hb⟩; have n0_ := Aside0.mk (Kd.R_elder' (rA HO_32) (Kd.R_base ho0) hb); have n1_ := Aside0.mk (Kd.R_elder' (rA HO_33) (Kd.R_base ho0) hb); have n2_ := Aside0.mk (Kd.N_elder' (nA HO_452000) (Kd.R_base ho0) hb); have n3_ := Aside0.mk (Kd.N_elder' (nA HO_458000) (Kd.R_base ho0) hb); have n4_ := Aside0.mk (Kd.N_elder' (nA HO_463000) (Kd.R_base ho0) hb); have n5_ := Aside0.mk (Kd.R_lower (Kd.R_new' (Kd.R_new' ho0 (Kd.R_lt (rA HO_32))) (Kd.R_lt (rA HO_33))) (below_size (kB HB))); have n6_ := Aside0.mk (kK BK451 hb); have n7_ := Aside0.mk (kK BK457 hb); have n8_ := Aside0.mk (kK BK462 hb); have n9_ := Aside0.mk (below_step (kB HB) hb); clear HO_32; clear HO_33; clear HO_452000; clear HO_458000; clear HO_463000; clear BK451; clear BK457; clear BK462; clear HB; have HO_32 := n0_; have HO_33 := n1_; have HO_452000 := n2_; have HO_458000 := n3_; have HO_463000 := n4_; have HO522 := n5_; have BK451 := n6_; have BK457 := n7_; have BK462 := n8_; have HB := n9_; clear n0_ n1_ n2_ n3_ n4_ n5_ n6_ n7_ n8_ n9_; (try clear hb); (try clear hb2); (try clear hk); (try clear hi); (try clear ho0); obtain ⟨Ao222, co222, eo222⟩ := Kd.R_slice HO522.out; subst eo222) | (go_at_call 11; (with_reducible refine (laws_vSame.calls kj189 _ _ t519 _ _ t503 true _ ?side1 ?side2 ?side3 ?side4 A216.out).mono ?_); (case side1 => exact cC (Kd.R_reads' HO522.out).2.2); (case side2 => exact (Kd.R_reads' HO522.out).2.1); (case side3 => exact cC (Kd.R_reads' HO_32.out).2.2); (case side4 => exact (Kd.R_reads' HO_32.out).2.1); rintro e w' ⟨rfl, ⟨nd, rfl⟩⟩; (try exact dD))); try go_wp2_with (first | (go_at_call 23; (with_reducible refine (impl_BergChild.calls kj189 _ _ t506 t507 t519 true _ ?side1 ?side2 A214.out).mono ?_); (case side1 => exact cC (Kd.R_reads' HO_33.out).2.2); (case side2 => exact (Kd.R_reads' HO_33.out).2.1); rintro e w221 ⟨v521, rfl, ho0, hb⟩; have n0_ := Aside0.mk (Kd.R_elder' (rA HO_32) (Kd.R_base ho0) hb); have n1_ := Aside0.mk (Kd.R_elder' (rA HO_33) (Kd.R_base ho0) hb); have n2_ := Aside0.mk (Kd.N_elder' (nA HO_452000) (Kd.R_base ho0) hb); have n3_ := Aside0.mk (Kd.N_elder' (nA HO_458000) (Kd.R_base ho0) hb); have n4_ := Aside0.mk (Kd.N_elder' (nA HO_463000) (Kd.R_base ho0) hb); have n5_ := Aside0.mk (Kd.R_lower (Kd.R_new' (Kd.R_new' ho0 (Kd.R_lt (rA HO_32))) (Kd.R_lt (rA HO_33))) (below_size (kB HB))); have n6_ := Aside0.mk (kK BK451 hb); have n7_ := Aside0.mk (kK BK457 hb); have n8_ := Aside0.mk (kK BK462 hb); have n9_ := Aside0.mk (below_step (kB HB) hb); clear HO_32; clear HO_33; clear HO_452000; clear HO_458000; clear HO_463000; clear BK451; clear BK457; clear BK462; clear HB; have HO_32 := n0_; have HO_33 := n1_; have HO_452000 := n2_; have HO_458000 := n3_; have HO_463000 := n4_; have HO522 := n5_; have BK451 := n6_; have BK457 := n7_; have BK462 := n8_; have HB := n9_; clear n0_ n1_ n2_ n3_ n4_ n5_ n6_ n7_ n8_ n9_; (try clear hb); (try clear hb2); (try clear hk); (try clear hi); (try clear ho0); obtain ⟨Ao222, co222, eo222⟩ := Kd.R_slice HO522.out; subst eo222) | (go_at_call 11; (with_reducible refine (laws_vSame.calls kj189 _ _ t519 _ _ t503 true _ ?side1 ?side2 ?side3 ?side4 A216.out).mono ?_); (case side1 => exact cC (Kd.R_reads' HO522.out).2.2); (case side2 => exact (Kd.R_reads' HO522.out).2.1); (case side3 => exact cC (Kd.R_reads' HO_32.out).2.2); (case side4 => exact (Kd.R_reads' HO_32.out).2.1); rintro e w' ⟨rfl, ⟨nd, rfl⟩⟩; (try exact dD); have p524 : 0 ≤ (2 : Int) := (by omega); have q524 : 2 < (t506.length : Int) := od; obtain ⟨ad524, e524, hx524_0⟩ := Kd.at_int (Kd.R_reads' HO_33.out).2.2 2 p524 q524; cases e524; (try simp only [show (2 : Int).toNat = 2 from rfl, Nat.reduceMul, Nat.reduceEqDiff, Go.Addr.add, ↓reduceIte] at hx524_0); have qi524 : (2 < t506.length) = True := eq_true (by omega); (try rw [show ((2 : Int)).toNat = 2 from rfl] at hx524_0); replace p524 := eq_true p524; replace q524 := eq_true q524; have p525 : 0 ≤ (2 : Int) := (by omega); have q525 : 2 < (t503.length : Int) := od; obtain ⟨ad525, e525, hx525_0⟩ := Kd.at_int (Kd.R_reads' HO_32.out).2.2 2 p525 q525; cases e525; (try simp only [show (2 : Int).toNat = 2 from rfl, Nat.reduceMul, Nat.reduceEqDiff, Go.Addr.add, ↓reduceIte] at hx525_0); have qi525 : (2 < t503.length) = True := eq_true (by omega); (try rw [show ((2 : Int)).toNat = 2 from rfl] at hx525_0); replace p525 := eq_true p525; replace q525 := eq_true q525)))
                             go_ret
                             exact ⟨e1, kB HB⟩
                            ·
                             rw [if_neg c219] at H
                             exact absurd H (by simp)
                           ·
                            rw [if_neg c218] at H
                            exact absurd H (by simp)
                          ·
                           replace c217 := Bool.eq_false_iff.mpr c217
                           subst c217
                           have H1 : (some false) = some r := by rw [if_neg (show ¬ (false = true) by decide)] at H; exact H
                           exact absurd (H1.trans (congrArg some hrT)) (by simp)
                         ·
                          replace c215 := Bool.eq_false_iff.mpr c215
                          subst c215
                          have H1 : (some false) = some r := by rw [if_neg (show ¬ (false = true) by decide)] at H; exact H
                          exact absurd (H1.trans (congrArg some hrT)) (by simp)
                        ·
                         replace c213 := Bool.eq_false_iff.mpr c213
                         subst c213
                         have H1 : (some true) = some r := by rw [if_neg (show ¬ (false = true) by decide)] at H; exact H
                         clear H
                         have H := H1
                         clear H1
                         obtain rfl := Option.some.inj H
                         go_wp2
                         repeat (go_quiet (fail); try go_wp2)
                         go_ret
                         exact ⟨e1, kB HB⟩

/-- THE ONE PURE STATEMENT of laws_FnFirstTree: yours. -/
def laws_FnFirstTree.Pure : Prop := ∀ (l0 : List Int) (l1 : List Int), l0.length ≤ maxLen → l0.length * 1 ≤ 140737488351232 → (∀ x ∈ l0, (Lit.int .u8 x).wf = true) → l1.length ≤ maxLen → l1.length * 1 ≤ 140737488351232 → (∀ x ∈ l1, (Lit.int .u8 x).wf = true) → ∃ k, laws_FnFirstTree.f k l0 l1 = some true
theorem laws_FnFirstTree.walk (P : laws_FnFirstTree.Pure) (a0 : Option Addr) (len0 cap0 : Nat) (z0 : List Int) (a1 : Option Addr) (len1 cap1 : Nat) (z1 : List Int) (w : World) (w0 : (a0 = none ∧ len0 = 0 ∧ cap0 = 0 ∧ z0 = []) ∨ ∃ x, a0 = some x ∧ len0 ≤ cap0 ∧ cap0 ≤ maxLen ∧ z0.length = cap0 ∧ (∀ i, i < z0.length → w.cell? (x.add i) = some (.int .u8 (z0.getD i 0))) ∧ ∀ n ∈ z0, (Lit.int .u8 n).wf = true) (y0 : len0 * 1 ≤ 140737488351232) (w1 : (a1 = none ∧ len1 = 0 ∧ cap1 = 0 ∧ z1 = []) ∨ ∃ x, a1 = some x ∧ len1 ≤ cap1 ∧ cap1 ≤ maxLen ∧ z1.length = cap1 ∧ (∀ i, i < z1.length → w.cell? (x.add i) = some (.int .u8 (z1.getD i 0))) ∧ ∀ n ∈ z1, (Lit.int .u8 n).wf = true) (y1 : len1 * 1 ≤ 140737488351232) :
 Calls Try.prog 4 #[.slice a0 len0 cap0, .slice a1 len1 cap1] w fun e w' => e = .returned (.bool true) ∧ Below w.heap.size w w' := by
 obtain ⟨l0, rfl, hr0, hm0, hw0, hc0⟩ := ReadsInt.ofRowC w0
 obtain ⟨l1, rfl, hr1, hm1, hw1, hc1⟩ := ReadsInt.ofRowC w1
 obtain ⟨k, h⟩ := P l0 l1 hm0 y0 hw0 hm1 y1 hw1
 refine (laws_FnFirstTree.calls k _ _ l0 _ _ l1 true w (Kd.C_of_reads (d := (0 : Int)) (h1 := fun _ => rfl) hr0) hc0 (Kd.C_of_reads (d := (0 : Int)) (h1 := fun _ => rfl) hr1) hc1 h rfl).mono ?_
 rintro e w' ⟨rfl, hd⟩
 exact ⟨rfl, hd⟩

end Go.Proofs.Ytnfbkakblnppaaa.P
