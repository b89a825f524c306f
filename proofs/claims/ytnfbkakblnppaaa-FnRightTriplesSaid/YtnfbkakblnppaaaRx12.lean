-- Written by a program of this session (wip/mkprint.py over the kit's print), out of the translation. Not trusted: Lean checks it.
import Derived.Test.YtnfbkakblnppaaaRx0
import Derived.Test.YtnfbkakblnppaaaRx1
import Derived.Test.YtnfbkakblnppaaaRx2
import Derived.Test.YtnfbkakblnppaaaRx3
import Derived.Test.YtnfbkakblnppaaaRx4
import Derived.Test.YtnfbkakblnppaaaRx6
import Derived.Test.YtnfbkakblnppaaaRx8
import Derived.Test.YtnfbkakblnppaaaRx11
namespace Go.Proofs.Ytnfbkakblnppaaa.P
open Go.RowKit Go.Proofs.YtnfbkakblnppaaaW.PrintWords Go.Proofs.YtnfbkakblnppaaaW.PrintLast Go.Proofs.YtnfbkakblnppaaaW.PrintMore
attribute [local go_sem] max2_int min2_int max_two min_two max_three min_three max_four min_four   -- for this text's walks alone
set_option linter.unusedVariables false
set_option linter.unusedSimpArgs false

/-! ### laws_FnRightTriples: function 6 -/
mutual
def laws_FnRightTriples.j0 : Nat → List Int → Int → Int → List Int → Bool → Bool → Option (Bool)
 | 0, _, _, _, _, _, _ => none
 | k + 1, x1, x5, x6, x7, x8, x62 => if x62 = true then (some false) else (if x8 = true then ((impl_PairOfRight.f k x7).bind fun bt384 => ((impl_InnerRadius.f k x7).bind fun bt387 => (if bt384.2.2 = true then (if bt387.2 = true then (if bt384.1 = x5 then (if bt384.2.1 = x6 then (if bt387.1 = (wrap64 (x6 * (wrap64 (x5 - x6)))) then ((impl_IsRight.f k x7).bind fun t389 => (if t389 = true then (if 0 < (x7.length : Int) then (if 1 < (x7.length : Int) then (if 2 < (x7.length : Int) then (if (wrap64 ((wrap64 ((rd x7 0) * (rd x7 0))) + (wrap64 ((rd x7 1) * (rd x7 1))))) = (wrap64 ((rd x7 2) * (rd x7 2))) then (laws_FnRightTriples.j1 k x1) else (some false)) else (none)) else (none)) else (none)) else (some false))) else (some false)) else (some false)) else (some false)) else (some false)) else (some false)))) else (laws_FnRightTriples.j1 k x1))
def laws_FnRightTriples.j1 : Nat → List Int → Option (Bool)
 | 0, _ => none
 | k + 1, x1 => (spec_DrawPairOfRight.f k x1).bind fun t396 => ((impl_PairOfRight.f k t396).bind fun bt399 => ((spec_PairOfRight.f k t396).bind fun bt402 => (if (bt399.2.2 != bt402.2.2) = true then (laws_FnRightTriples.j2 k x1 t396 bt399.1 bt399.2.1 bt399.2.2 true) else (if bt399.1 = bt402.1 then (if bt399.2.1 = bt402.2.1 then ((impl_IsRight.f k t396).bind fun t405 => (laws_FnRightTriples.j2 k x1 t396 bt399.1 bt399.2.1 bt399.2.2 (bt399.2.2 != t405))) else (laws_FnRightTriples.j2 k x1 t396 bt399.1 bt399.2.1 bt399.2.2 true)) else (laws_FnRightTriples.j2 k x1 t396 bt399.1 bt399.2.1 bt399.2.2 true)))))
def laws_FnRightTriples.j2 : Nat → List Int → List Int → Int → Int → Bool → Bool → Option (Bool)
 | 0, _, _, _, _, _, _ => none
 | k + 1, x1, x16, x17, x18, x19, x162 => if x162 = true then (some false) else (if x19 = true then ((impl_RightOfPair.f k x17 x18).bind fun bt406 => (if bt406.2 = true then ((laws_vSame.f k bt406.1 x16).bind fun t410 => (if t410 = true then (laws_FnRightTriples.j3 k x1) else (some false))) else (some false))) else (laws_FnRightTriples.j3 k x1))
def laws_FnRightTriples.j3 : Nat → List Int → Option (Bool)
 | 0, _ => none
 | k + 1, x1 => (spec_DrawRightUpTo.f x1).bind fun t411 => ((impl_RightUpTo.f k t411).bind fun bt412 => ((spec_RightUpTo.f k t411).bind fun bt416 => ((impl_CountRight.f k t411).bind fun bt420 => (if (bt412.2 != bt416.2) = true then (laws_FnRightTriples.j4 k t411 bt412.1 true) else ((laws_vSameLists.f k bt412.1 bt416.1).bind fun t422 => (if t422 = true then (if (bt420.2 != bt412.2) = true then (laws_FnRightTriples.j4 k t411 bt412.1 true) else (laws_FnRightTriples.j4 k t411 bt412.1 (bt420.1 != (bt412.1.length : Int)))) else (laws_FnRightTriples.j4 k t411 bt412.1 true)))))))
def laws_FnRightTriples.j4 : Nat → Int → List (List Int) → Bool → Option (Bool)
 | 0, _, _, _ => none
 | k + 1, x25, x26, x214 => if x214 = true then (some false) else (laws_FnRightTriples.l0 k x25 x26 x26 (x26.length : Int) 0)
def laws_FnRightTriples.l0 : Nat → Int → List (List Int) → List (List Int) → Int → Int → Option (Bool)
 | 0, _, _, _, _, _ => none
 | k + 1, x25, x26, x215, x216, x217 => if x217 < x216 then (if 0 ≤ x217 then (if x217 < (x215.length : Int) then ((impl_IsRight.f k (rd_L2 x215 x217)).bind fun t424 => (if t424 = true then (if 2 < ((rd_L2 x215 x217).length : Int) then (if (rd (rd_L2 x215 x217) 2) > x25 then (some false) else (if x217 > 0 then (if 0 ≤ (wrap64 (x217 - 1)) then (if (wrap64 (x217 - 1)) < (x26.length : Int) then (if 2 < ((rd_L2 x26 (wrap64 (x217 - 1))).length : Int) then (if (rd (rd_L2 x26 (wrap64 (x217 - 1))) 2) > (rd (rd_L2 x215 x217) 2) then (some false) else (if (rd (rd_L2 x26 (wrap64 (x217 - 1))) 2) = (rd (rd_L2 x215 x217) 2) then (if 0 < ((rd_L2 x26 (wrap64 (x217 - 1))).length : Int) then (if 0 < ((rd_L2 x215 x217).length : Int) then (if (rd (rd_L2 x26 (wrap64 (x217 - 1))) 0) ≥ (rd (rd_L2 x215 x217) 0) then (some false) else (laws_FnRightTriples.l0 k x25 x26 x215 x216 (wrap64 (x217 + 1)))) else (none)) else (none)) else (laws_FnRightTriples.l0 k x25 x26 x215 x216 (wrap64 (x217 + 1))))) else (none)) else (none)) else (none)) else (laws_FnRightTriples.l0 k x25 x26 x215 x216 (wrap64 (x217 + 1))))) else (none)) else (some false))) else (none)) else (none)) else (some true)
end
def laws_FnRightTriples.f (k : Nat) (l0 : List Int) (l1 : List Int) : Option (Bool) := (laws_big.f l0 l1).bind fun t372 => (if t372 = true then (some true) else ((spec_DrawRightOfPair.f l0).bind fun bt373 => ((impl_RightOfPair.f k bt373.1 bt373.2).bind fun bt375 => ((spec_RightOfPair.f k bt373.1 bt373.2).bind fun bt379 => (if (bt375.2 != bt379.2) = true then (laws_FnRightTriples.j0 k l1 bt373.1 bt373.2 bt375.1 bt375.2 true) else ((laws_vSame.f k bt375.1 bt379.1).bind fun t383 => (laws_FnRightTriples.j0 k l1 bt373.1 bt373.2 bt375.1 bt375.2 (!t383))))))))
theorem laws_FnRightTriples.mono_l : ∀ k, (∀ y0 y1 y2 y3 y4 y5, LeO (laws_FnRightTriples.j0 k y0 y1 y2 y3 y4 y5) (laws_FnRightTriples.j0 (k + 1) y0 y1 y2 y3 y4 y5)) ∧ (∀ y0, LeO (laws_FnRightTriples.j1 k y0) (laws_FnRightTriples.j1 (k + 1) y0)) ∧ (∀ y0 y1 y2 y3 y4 y5, LeO (laws_FnRightTriples.j2 k y0 y1 y2 y3 y4 y5) (laws_FnRightTriples.j2 (k + 1) y0 y1 y2 y3 y4 y5)) ∧ (∀ y0, LeO (laws_FnRightTriples.j3 k y0) (laws_FnRightTriples.j3 (k + 1) y0)) ∧ (∀ y0 y1 y2, LeO (laws_FnRightTriples.j4 k y0 y1 y2) (laws_FnRightTriples.j4 (k + 1) y0 y1 y2)) ∧ (∀ y0 y1 y2 y3 y4, LeO (laws_FnRightTriples.l0 k y0 y1 y2 y3 y4) (laws_FnRightTriples.l0 (k + 1) y0 y1 y2 y3 y4))
 | 0 => ⟨fun _ _ _ _ _ _ r h => by simp [laws_FnRightTriples.j0] at h, fun _ r h => by simp [laws_FnRightTriples.j1] at h, fun _ _ _ _ _ _ r h => by simp [laws_FnRightTriples.j2] at h, fun _ r h => by simp [laws_FnRightTriples.j3] at h, fun _ _ _ r h => by simp [laws_FnRightTriples.j4] at h, fun _ _ _ _ _ r h => by simp [laws_FnRightTriples.l0] at h⟩
 | k + 1 => by
  obtain ⟨ih0, ih1, ih2, ih3, ih4, ih5⟩ := laws_FnRightTriples.mono_l k
  refine ⟨?_, ?_, ?_, ?_, ?_, ?_⟩
  ·
   intro y0 y1 y2 y3 y4 y5
   unfold laws_FnRightTriples.j0
   repeat' first
   | (with_reducible exact ih0 _ _ _ _ _ _)
   | (with_reducible exact ih1 _)
   | (with_reducible exact ih2 _ _ _ _ _ _)
   | (with_reducible exact ih3 _)
   | (with_reducible exact ih4 _ _ _)
   | (with_reducible exact ih5 _ _ _ _ _)
   | (with_reducible exact impl_CountRight.mono _ _)
   | (with_reducible exact impl_InnerRadius.mono _ _)
   | (with_reducible exact impl_IsRight.mono _ _)
   | (with_reducible exact impl_PairOfRight.mono _ _)
   | (with_reducible exact impl_RightOfPair.mono _ _ _)
   | (with_reducible exact impl_RightUpTo.mono _ _)
   | (with_reducible exact laws_vSame.mono _ _ _)
   | (with_reducible exact laws_vSameLists.mono _ _ _)
   | (with_reducible exact spec_DrawPairOfRight.mono _ _)
   | (with_reducible exact spec_PairOfRight.mono _ _)
   | (with_reducible exact spec_RightOfPair.mono _ _ _)
   | (with_reducible exact spec_RightUpTo.mono _ _)
   | (with_reducible exact LeO.refl _)
   | (with_reducible exact LeO.none _)
   | (with_reducible refine LeO.ite ?_ ?_)
   | (with_reducible refine LeO.bind ?_ (fun _ => ?_))
   | exact ih0 _ _ _ _ _ _
   | exact ih1 _
   | exact ih2 _ _ _ _ _ _
   | exact ih3 _
   | exact ih4 _ _ _
   | exact ih5 _ _ _ _ _
   | exact impl_CountRight.mono _ _
   | exact impl_InnerRadius.mono _ _
   | exact impl_IsRight.mono _ _
   | exact impl_PairOfRight.mono _ _
   | exact impl_RightOfPair.mono _ _ _
   | exact impl_RightUpTo.mono _ _
   | exact laws_vSame.mono _ _ _
   | exact laws_vSameLists.mono _ _ _
   | exact spec_DrawPairOfRight.mono _ _
   | exact spec_PairOfRight.mono _ _
   | exact spec_RightOfPair.mono _ _ _
   | exact spec_RightUpTo.mono _ _
   | exact LeO.none _
   | refine LeO.ite ?_ ?_
   | refine LeO.bind ?_ (fun _ => ?_)
  ·
   intro y0
   unfold laws_FnRightTriples.j1
   repeat' first
   | (with_reducible exact ih0 _ _ _ _ _ _)
   | (with_reducible exact ih1 _)
   | (with_reducible exact ih2 _ _ _ _ _ _)
   | (with_reducible exact ih3 _)
   | (with_reducible exact ih4 _ _ _)
   | (with_reducible exact ih5 _ _ _ _ _)
   | (with_reducible exact impl_CountRight.mono _ _)
   | (with_reducible exact impl_InnerRadius.mono _ _)
   | (with_reducible exact impl_IsRight.mono _ _)
   | (with_reducible exact impl_PairOfRight.mono _ _)
   | (with_reducible exact impl_RightOfPair.mono _ _ _)
   | (with_reducible exact impl_RightUpTo.mono _ _)
   | (with_reducible exact laws_vSame.mono _ _ _)
   | (with_reducible exact laws_vSameLists.mono _ _ _)
   | (with_reducible exact spec_DrawPairOfRight.mono _ _)
   | (with_reducible exact spec_PairOfRight.mono _ _)
   | (with_reducible exact spec_RightOfPair.mono _ _ _)
   | (with_reducible exact spec_RightUpTo.mono _ _)
   | (with_reducible exact LeO.refl _)
   | (with_reducible exact LeO.none _)
   | (with_reducible refine LeO.ite ?_ ?_)
   | (with_reducible refine LeO.bind ?_ (fun _ => ?_))
   | exact ih0 _ _ _ _ _ _
   | exact ih1 _
   | exact ih2 _ _ _ _ _ _
   | exact ih3 _
   | exact ih4 _ _ _
   | exact ih5 _ _ _ _ _
   | exact impl_CountRight.mono _ _
   | exact impl_InnerRadius.mono _ _
   | exact impl_IsRight.mono _ _
   | exact impl_PairOfRight.mono _ _
   | exact impl_RightOfPair.mono _ _ _
   | exact impl_RightUpTo.mono _ _
   | exact laws_vSame.mono _ _ _
   | exact laws_vSameLists.mono _ _ _
   | exact spec_DrawPairOfRight.mono _ _
   | exact spec_PairOfRight.mono _ _
   | exact spec_RightOfPair.mono _ _ _
   | exact spec_RightUpTo.mono _ _
   | exact LeO.none _
   | refine LeO.ite ?_ ?_
   | refine LeO.bind ?_ (fun _ => ?_)
  ·
   intro y0 y1 y2 y3 y4 y5
   unfold laws_FnRightTriples.j2
   repeat' first
   | (with_reducible exact ih0 _ _ _ _ _ _)
   | (with_reducible exact ih1 _)
   | (with_reducible exact ih2 _ _ _ _ _ _)
   | (with_reducible exact ih3 _)
   | (with_reducible exact ih4 _ _ _)
   | (with_reducible exact ih5 _ _ _ _ _)
   | (with_reducible exact impl_CountRight.mono _ _)
   | (with_reducible exact impl_InnerRadius.mono _ _)
   | (with_reducible exact impl_IsRight.mono _ _)
   | (with_reducible exact impl_PairOfRight.mono _ _)
   | (with_reducible exact impl_RightOfPair.mono _ _ _)
   | (with_reducible exact impl_RightUpTo.mono _ _)
   | (with_reducible exact laws_vSame.mono _ _ _)
   | (with_reducible exact laws_vSameLists.mono _ _ _)
   | (with_reducible exact spec_DrawPairOfRight.mono _ _)
   | (with_reducible exact spec_PairOfRight.mono _ _)
   | (with_reducible exact spec_RightOfPair.mono _ _ _)
   | (with_reducible exact spec_RightUpTo.mono _ _)
   | (with_reducible exact LeO.refl _)
   | (with_reducible exact LeO.none _)
   | (with_reducible refine LeO.ite ?_ ?_)
   | (with_reducible refine LeO.bind ?_ (fun _ => ?_))
   | exact ih0 _ _ _ _ _ _
   | exact ih1 _
   | exact ih2 _ _ _ _ _ _
   | exact ih3 _
   | exact ih4 _ _ _
   | exact ih5 _ _ _ _ _
   | exact impl_CountRight.mono _ _
   | exact impl_InnerRadius.mono _ _
   | exact impl_IsRight.mono _ _
   | exact impl_PairOfRight.mono _ _
   | exact impl_RightOfPair.mono _ _ _
   | exact impl_RightUpTo.mono _ _
   | exact laws_vSame.mono _ _ _
   | exact laws_vSameLists.mono _ _ _
   | exact spec_DrawPairOfRight.mono _ _
   | exact spec_PairOfRight.mono _ _
   | exact spec_RightOfPair.mono _ _ _
   | exact spec_RightUpTo.mono _ _
   | exact LeO.none _
   | refine LeO.ite ?_ ?_
   | refine LeO.bind ?_ (fun _ => ?_)
  ·
   intro y0
   unfold laws_FnRightTriples.j3
   repeat' first
   | (with_reducible exact ih0 _ _ _ _ _ _)
   | (with_reducible exact ih1 _)
   | (with_reducible exact ih2 _ _ _ _ _ _)
   | (with_reducible exact ih3 _)
   | (with_reducible exact ih4 _ _ _)
   | (with_reducible exact ih5 _ _ _ _ _)
   | (with_reducible exact impl_CountRight.mono _ _)
   | (with_reducible exact impl_InnerRadius.mono _ _)
   | (with_reducible exact impl_IsRight.mono _ _)
   | (with_reducible exact impl_PairOfRight.mono _ _)
   | (with_reducible exact impl_RightOfPair.mono _ _ _)
   | (with_reducible exact impl_RightUpTo.mono _ _)
   | (with_reducible exact laws_vSame.mono _ _ _)
   | (with_reducible exact laws_vSameLists.mono _ _ _)
   | (with_reducible exact spec_DrawPairOfRight.mono _ _)
   | (with_reducible exact spec_PairOfRight.mono _ _)
   | (with_reducible exact spec_RightOfPair.mono _ _ _)
   | (with_reducible exact spec_RightUpTo.mono _ _)
   | (with_reducible exact LeO.refl _)
   | (with_reducible exact LeO.none _)
   | (with_reducible refine LeO.ite ?_ ?_)
   | (with_reducible refine LeO.bind ?_ (fun _ => ?_))
   | exact ih0 _ _ _ _ _ _
   | exact ih1 _
   | exact ih2 _ _ _ _ _ _
   | exact ih3 _
   | exact ih4 _ _ _
   | exact ih5 _ _ _ _ _
   | exact impl_CountRight.mono _ _
   | exact impl_InnerRadius.mono _ _
   | exact impl_IsRight.mono _ _
   | exact impl_PairOfRight.mono _ _
   | exact impl_RightOfPair.mono _ _ _
   | exact impl_RightUpTo.mono _ _
   | exact laws_vSame.mono _ _ _
   | exact laws_vSameLists.mono _ _ _
   | exact spec_DrawPairOfRight.mono _ _
   | exact spec_PairOfRight.mono _ _
   | exact spec_RightOfPair.mono _ _ _
   | exact spec_RightUpTo.mono _ _
   | exact LeO.none _
   | refine LeO.ite ?_ ?_
   | refine LeO.bind ?_ (fun _ => ?_)
  ·
   intro y0 y1 y2
   unfold laws_FnRightTriples.j4
   repeat' first
   | (with_reducible exact ih0 _ _ _ _ _ _)
   | (with_reducible exact ih1 _)
   | (with_reducible exact ih2 _ _ _ _ _ _)
   | (with_reducible exact ih3 _)
   | (with_reducible exact ih4 _ _ _)
   | (with_reducible exact ih5 _ _ _ _ _)
   | (with_reducible exact impl_CountRight.mono _ _)
   | (with_reducible exact impl_InnerRadius.mono _ _)
   | (with_reducible exact impl_IsRight.mono _ _)
   | (with_reducible exact impl_PairOfRight.mono _ _)
   | (with_reducible exact impl_RightOfPair.mono _ _ _)
   | (with_reducible exact impl_RightUpTo.mono _ _)
   | (with_reducible exact laws_vSame.mono _ _ _)
   | (with_reducible exact laws_vSameLists.mono _ _ _)
   | (with_reducible exact spec_DrawPairOfRight.mono _ _)
   | (with_reducible exact spec_PairOfRight.mono _ _)
   | (with_reducible exact spec_RightOfPair.mono _ _ _)
   | (with_reducible exact spec_RightUpTo.mono _ _)
   | (with_reducible exact LeO.refl _)
   | (with_reducible exact LeO.none _)
   | (with_reducible refine LeO.ite ?_ ?_)
   | (with_reducible refine LeO.bind ?_ (fun _ => ?_))
   | exact ih0 _ _ _ _ _ _
   | exact ih1 _
   | exact ih2 _ _ _ _ _ _
   | exact ih3 _
   | exact ih4 _ _ _
   | exact ih5 _ _ _ _ _
   | exact impl_CountRight.mono _ _
   | exact impl_InnerRadius.mono _ _
   | exact impl_IsRight.mono _ _
   | exact impl_PairOfRight.mono _ _
   | exact impl_RightOfPair.mono _ _ _
   | exact impl_RightUpTo.mono _ _
   | exact laws_vSame.mono _ _ _
   | exact laws_vSameLists.mono _ _ _
   | exact spec_DrawPairOfRight.mono _ _
   | exact spec_PairOfRight.mono _ _
   | exact spec_RightOfPair.mono _ _ _
   | exact spec_RightUpTo.mono _ _
   | exact LeO.none _
   | refine LeO.ite ?_ ?_
   | refine LeO.bind ?_ (fun _ => ?_)
  ·
   intro y0 y1 y2 y3 y4
   unfold laws_FnRightTriples.l0
   repeat' first
   | (with_reducible exact ih0 _ _ _ _ _ _)
   | (with_reducible exact ih1 _)
   | (with_reducible exact ih2 _ _ _ _ _ _)
   | (with_reducible exact ih3 _)
   | (with_reducible exact ih4 _ _ _)
   | (with_reducible exact ih5 _ _ _ _ _)
   | (with_reducible exact impl_CountRight.mono _ _)
   | (with_reducible exact impl_InnerRadius.mono _ _)
   | (with_reducible exact impl_IsRight.mono _ _)
   | (with_reducible exact impl_PairOfRight.mono _ _)
   | (with_reducible exact impl_RightOfPair.mono _ _ _)
   | (with_reducible exact impl_RightUpTo.mono _ _)
   | (with_reducible exact laws_vSame.mono _ _ _)
   | (with_reducible exact laws_vSameLists.mono _ _ _)
   | (with_reducible exact spec_DrawPairOfRight.mono _ _)
   | (with_reducible exact spec_PairOfRight.mono _ _)
   | (with_reducible exact spec_RightOfPair.mono _ _ _)
   | (with_reducible exact spec_RightUpTo.mono _ _)
   | (with_reducible exact LeO.refl _)
   | (with_reducible exact LeO.none _)
   | (with_reducible refine LeO.ite ?_ ?_)
   | (with_reducible refine LeO.bind ?_ (fun _ => ?_))
   | exact ih0 _ _ _ _ _ _
   | exact ih1 _
   | exact ih2 _ _ _ _ _ _
   | exact ih3 _
   | exact ih4 _ _ _
   | exact ih5 _ _ _ _ _
   | exact impl_CountRight.mono _ _
   | exact impl_InnerRadius.mono _ _
   | exact impl_IsRight.mono _ _
   | exact impl_PairOfRight.mono _ _
   | exact impl_RightOfPair.mono _ _ _
   | exact impl_RightUpTo.mono _ _
   | exact laws_vSame.mono _ _ _
   | exact laws_vSameLists.mono _ _ _
   | exact spec_DrawPairOfRight.mono _ _
   | exact spec_PairOfRight.mono _ _
   | exact spec_RightOfPair.mono _ _ _
   | exact spec_RightUpTo.mono _ _
   | exact LeO.none _
   | refine LeO.ite ?_ ?_
   | refine LeO.bind ?_ (fun _ => ?_)
theorem laws_FnRightTriples.mono : ∀ a0 a1 k, LeO (laws_FnRightTriples.f k a0 a1) (laws_FnRightTriples.f (k + 1) a0 a1) := by
 intro a0 a1 k
 obtain ⟨ih0, ih1, ih2, ih3, ih4, ih5⟩ := laws_FnRightTriples.mono_l k
 unfold laws_FnRightTriples.f
 repeat' first
  | (with_reducible exact ih0 _ _ _ _ _ _)
  | (with_reducible exact ih1 _)
  | (with_reducible exact ih2 _ _ _ _ _ _)
  | (with_reducible exact ih3 _)
  | (with_reducible exact ih4 _ _ _)
  | (with_reducible exact ih5 _ _ _ _ _)
  | (with_reducible exact impl_CountRight.mono _ _)
  | (with_reducible exact impl_InnerRadius.mono _ _)
  | (with_reducible exact impl_IsRight.mono _ _)
  | (with_reducible exact impl_PairOfRight.mono _ _)
  | (with_reducible exact impl_RightOfPair.mono _ _ _)
  | (with_reducible exact impl_RightUpTo.mono _ _)
  | (with_reducible exact laws_vSame.mono _ _ _)
  | (with_reducible exact laws_vSameLists.mono _ _ _)
  | (with_reducible exact spec_DrawPairOfRight.mono _ _)
  | (with_reducible exact spec_PairOfRight.mono _ _)
  | (with_reducible exact spec_RightOfPair.mono _ _ _)
  | (with_reducible exact spec_RightUpTo.mono _ _)
  | (with_reducible exact LeO.refl _)
  | (with_reducible exact LeO.none _)
  | (with_reducible refine LeO.ite ?_ ?_)
  | (with_reducible refine LeO.bind ?_ (fun _ => ?_))
  | exact ih0 _ _ _ _ _ _
  | exact ih1 _
  | exact ih2 _ _ _ _ _ _
  | exact ih3 _
  | exact ih4 _ _ _
  | exact ih5 _ _ _ _ _
  | exact impl_CountRight.mono _ _
  | exact impl_InnerRadius.mono _ _
  | exact impl_IsRight.mono _ _
  | exact impl_PairOfRight.mono _ _
  | exact impl_RightOfPair.mono _ _ _
  | exact impl_RightUpTo.mono _ _
  | exact laws_vSame.mono _ _ _
  | exact laws_vSameLists.mono _ _ _
  | exact spec_DrawPairOfRight.mono _ _
  | exact spec_PairOfRight.mono _ _
  | exact spec_RightOfPair.mono _ _ _
  | exact spec_RightUpTo.mono _ _
  | exact LeO.none _
  | refine LeO.ite ?_ ?_
  | refine LeO.bind ?_ (fun _ => ?_)
def laws_FnRightTriples.T11 : Bool × List (List Nat × List Nat) := (true, [([], []), ([0], [0]), ([1], [1]), ([2], [2]), ([3, 2], [2, 3]), ([2, 4], [2, 4]), ([5, 2], [5]), ([6], [6]), ([6], [6]), ([7, 8, 6], [6, 7, 8]), ([6, 9], [6, 9]), ([10, 6], [10]), ([11], [11]), ([11], [11]), ([12, 13, 11], [11, 12, 13]), ([11, 14], [11, 14]), ([15, 11], [15]), ([16], [16]), ([16], [16]), ([16], [16]), ([16], [16]), ([19, 20, 16], [16, 19, 20]), ([18, 21, 16], [16, 18, 21]), ([17, 22, 16], [16, 17, 22]), ([16, 23], [16, 23]), ([24, 16], [24]), ([25], [25]), ([26, 25, 25], [25, 26]), ([27, 25], [25, 27]), ([25, 28], [25, 28]), ([29, 27], [29]), ([30], [30]), ([31, 30], [30, 31]), ([32, 30], [30, 32]), ([30], [30]), ([34, 30], [30, 34]), ([35, 30], [30, 35]), ([33, 36, 30], [30, 33, 36]), ([30], [30]), ([38, 30], [30, 38]), ([39, 30], [30, 39]), ([30], [30]), ([41, 30], [30, 41]), ([42, 30], [30, 42]), ([40, 43, 30], [30, 40, 43]), ([37, 44, 30], [30, 37, 44]), ([30], [30]), ([46, 30], [30, 46]), ([47, 30], [30, 47]), ([30], [30]), ([49, 30], [30, 49]), ([50, 30], [30, 50]), ([48, 51, 30], [30, 48, 51]), ([45, 52, 30], [30, 45, 52]), ([30, 53], [30, 53])])
def laws_FnRightTriples.B11 : List Nat := [0, 1, 3, 7, 15, 31, 63, 127, 127, 511, 1023, 2047, 4095, 4095, 16383, 32767, 65535, 131071, 131071, 131071, 131071, 1703935, 4063231, 8388607, 16777215, 33554431, 67108863, 134217727, 268435455, 536870911, 1073741823, 2147483647, 4294967295, 8589934591, 2147483647, 19327352831, 53687091199, 137438953471, 2147483647, 277025390591, 826781204479, 2147483647, 2201170739199, 6599217250303, 17319455621119, 35184372088831, 2147483647, 70370891661311, 211108380016639, 2147483647, 562952100904959, 1688852007747583, 4433233030676479, 9007199254740991, 18014398509481983]
theorem laws_FnRightTriples.tab11 : rtab .any (opsOf Try.f6 11) = laws_FnRightTriples.T11 := by kernel_rfl
theorem laws_FnRightTriples.bits11 : waitsOk laws_FnRightTriples.T11.2 laws_FnRightTriples.B11 = true := by kernel_rfl
def laws_FnRightTriples.T31 : Bool × List (List Nat × List Nat) := (true, [([], []), ([0], [0]), ([1], [1]), ([2, 1], [2]), ([3], [3]), ([4, 3], [3, 4]), ([5, 3], [3, 5]), ([3], [3]), ([6, 7, 3], [3, 6, 7]), ([3, 8], [3, 8]), ([9, 3], [9]), ([10], [10]), ([11, 10], [10, 11]), ([12, 10, 10], [10, 12]), ([13], [13]), ([13], [13]), ([15, 13], [13, 15]), ([14, 16, 13], [13, 14, 16]), ([17, 13], [13, 17]), ([18, 13], [13, 18]), ([19, 13], [13, 19]), ([13], [13]), ([21, 13], [13, 21]), ([22, 13], [13, 22]), ([20, 23, 13], [13, 20, 23]), ([24, 13, 13], [13, 24]), ([25], [25]), ([25], [25]), ([27, 25], [25, 27]), ([26, 28, 25], [25, 26, 28]), ([29, 25], [25, 29]), ([30, 25], [25, 30]), ([31, 25], [25, 31]), ([25], [25]), ([33, 25], [25, 33]), ([34, 25], [25, 34]), ([32, 35, 25], [25, 32, 35]), ([36, 25, 25], [25, 36]), ([37], [37]), ([37], [37]), ([39, 37], [37, 39]), ([38, 40, 37], [37, 38, 40]), ([41, 37], [37, 41]), ([42, 37], [37, 42]), ([43, 37], [37, 43]), ([37], [37]), ([45, 37], [37, 45]), ([46, 37], [37, 46]), ([44, 47, 37], [37, 44, 47]), ([37, 48, 25], [25, 37, 48]), ([25, 49, 13], [13, 25, 49]), ([13, 50, 10], [10, 13, 50]), ([10, 51], [10, 51])])
def laws_FnRightTriples.B31 : List Nat := [0, 1, 3, 7, 15, 31, 63, 15, 255, 511, 1023, 2047, 4095, 8191, 16383, 16383, 49151, 131071, 262143, 524287, 1048575, 16383, 2113535, 6307839, 16777215, 33554431, 67108863, 67108863, 201326591, 536870911, 1073741823, 2147483647, 4294967295, 67108863, 8657043455, 25836912639, 68719476735, 137438953471, 274877906943, 274877906943, 824633720831, 2199023255551, 4398046511103, 8796093022207, 17592186044415, 274877906943, 35459249995775, 105827994173439, 281474976710655, 562949953421311, 1125899906842623, 2251799813685247, 4503599627370495]
theorem laws_FnRightTriples.tab31 : rtab .any (opsOf Try.f6 31) = laws_FnRightTriples.T31 := by kernel_rfl
theorem laws_FnRightTriples.bits31 : waitsOk laws_FnRightTriples.T31.2 laws_FnRightTriples.B31 = true := by kernel_rfl
theorem laws_FnRightTriples.j0_no : ∀ {k y0 y1 y2 y3 y4}, laws_FnRightTriples.j0 k y0 y1 y2 y3 y4 true = some true → False := by
 intro k y0 y1 y2 y3 y4 h
 cases k <;> simp [laws_FnRightTriples.j0] at h
theorem laws_FnRightTriples.j2_no : ∀ {k y0 y1 y2 y3 y4}, laws_FnRightTriples.j2 k y0 y1 y2 y3 y4 true = some true → False := by
 intro k y0 y1 y2 y3 y4 h
 cases k <;> simp [laws_FnRightTriples.j2] at h
theorem laws_FnRightTriples.j4_no : ∀ {k y0 y1}, laws_FnRightTriples.j4 k y0 y1 true = some true → False := by
 intro k y0 y1 h
 cases k <;> simp [laws_FnRightTriples.j4] at h
set_option maxHeartbeats 8000000 in
set_option maxRecDepth 100000 in
theorem laws_FnRightTriples.calls (k : Nat) (A0 : Option Addr) (c0 : Nat) (l0 : List Int) (A1 : Option Addr) (c1 : Nat) (l1 : List Int) (r : Bool) (w : World) (hr0 : Kd.C (Kd.int .u8) w A0 l0.length l0) (hc0 : l0.length ≤ c0) (hr1 : Kd.C (Kd.int .u8) w A1 l1.length l1) (hc1 : l1.length ≤ c1) (h : laws_FnRightTriples.f k l0 l1 = some r) (hrT : r = true) :
 Calls Try.prog 6 #[.slice A0 l0.length c0, .slice A1 l1.length c1] w fun e w' => e = .returned (.bool r) ∧ Below w.heap.size w w' := by
 have HR0 := Aside0.mk hr0
 have HC0 := Aside0.mk hc0
 clear hr0 hc0
 have HR1 := Aside0.mk hr1
 have HC1 := Aside0.mk hc1
 clear hr1 hc1
 have HB := Aside0.mk (Below.refl w.heap.size w)
 have H : ((laws_big.f l0 l1).bind fun t372 => (if t372 = true then (some true) else ((spec_DrawRightOfPair.f l0).bind fun bt373 => ((impl_RightOfPair.f k bt373.1 bt373.2).bind fun bt375 => ((spec_RightOfPair.f k bt373.1 bt373.2).bind fun bt379 => (if (bt375.2 != bt379.2) = true then (laws_FnRightTriples.j0 k l1 bt373.1 bt373.2 bt375.1 bt375.2 true) else ((laws_vSame.f k bt375.1 bt379.1).bind fun t383 => (laws_FnRightTriples.j0 k l1 bt373.1 bt373.2 bt375.1 bt375.2 (!t383))))))))) = some r := h
 clear h
 replace H := Option.bind_eq_some_iff.mp H
 obtain ⟨t372, A30, H⟩ := H
 replace H : (if t372 = true then (some true) else ((spec_DrawRightOfPair.f l0).bind fun bt373 => ((impl_RightOfPair.f k bt373.1 bt373.2).bind fun bt375 => ((spec_RightOfPair.f k bt373.1 bt373.2).bind fun bt379 => (if (bt375.2 != bt379.2) = true then (laws_FnRightTriples.j0 k l1 bt373.1 bt373.2 bt375.1 bt375.2 true) else ((laws_vSame.f k bt375.1 bt379.1).bind fun t383 => (laws_FnRightTriples.j0 k l1 bt373.1 bt373.2 bt375.1 bt375.2 (!t383)))))))) = some r := H
 have A3 := Aside0.mk A30
 clear A30
 by_cases c4 : t372 = true
 ·
  subst c4
  have H1 : (some true) = some r := by rw [if_pos rfl] at H; exact H
  clear H
  have H := H1
  clear H1
  obtain rfl := Option.some.inj H
  go_enter Try.func6, Try.ntmps6
  go_wp2_with (first | ((with_reducible refine gate_callee (f := 7) rfl ?_); refine gL (some 36) rfl rfl Try.func7 (by kernel_rfl) rfl #[.slice A0 l0.length c0, .slice A1 l1.length c1] rfl ?_; (with_reducible refine (laws_big.calls _ _ l0 _ _ l1 true _ ?side1 ?side2 ?side3 ?side4 A3.out).mono ?_); (case side1 => exact cC HR0.out); (case side2 => exact HC0.out); (case side3 => exact cC HR1.out); (case side4 => exact HC1.out); rintro e w' ⟨rfl, ⟨nd, rfl⟩⟩; refine ⟨_, rfl, ?_⟩))
  go_ret
  exact ⟨e1, bq⟩
 ·
  as_aux_lemma =>
   replace c4 := Bool.eq_false_iff.mpr c4
   subst c4
   have H1 : ((spec_DrawRightOfPair.f l0).bind fun bt373 => ((impl_RightOfPair.f k bt373.1 bt373.2).bind fun bt375 => ((spec_RightOfPair.f k bt373.1 bt373.2).bind fun bt379 => (if (bt375.2 != bt379.2) = true then (laws_FnRightTriples.j0 k l1 bt373.1 bt373.2 bt375.1 bt375.2 true) else ((laws_vSame.f k bt375.1 bt379.1).bind fun t383 => (laws_FnRightTriples.j0 k l1 bt373.1 bt373.2 bt375.1 bt375.2 (!t383))))))) = some r := by rw [if_neg (show ¬ (false = true) by decide)] at H; exact H
   clear H
   have H := H1
   clear H1
   replace H := Option.bind_eq_some_iff.mp H
   obtain ⟨⟨t373, t374⟩, A50, H⟩ := H
   replace H : ((impl_RightOfPair.f k t373 t374).bind fun bt375 => ((spec_RightOfPair.f k t373 t374).bind fun bt379 => (if (bt375.2 != bt379.2) = true then (laws_FnRightTriples.j0 k l1 t373 t374 bt375.1 bt375.2 true) else ((laws_vSame.f k bt375.1 bt379.1).bind fun t383 => (laws_FnRightTriples.j0 k l1 t373 t374 bt375.1 bt375.2 (!t383)))))) = some r := H
   have A5 := Aside0.mk A50
   clear A50
   replace H := Option.bind_eq_some_iff.mp H
   obtain ⟨⟨t375, t376⟩, A60, H⟩ := H
   replace H : ((spec_RightOfPair.f k t373 t374).bind fun bt379 => (if (t376 != bt379.2) = true then (laws_FnRightTriples.j0 k l1 t373 t374 t375 t376 true) else ((laws_vSame.f k t375 bt379.1).bind fun t383 => (laws_FnRightTriples.j0 k l1 t373 t374 t375 t376 (!t383))))) = some r := H
   have A6 := Aside0.mk A60
   clear A60
   replace H := Option.bind_eq_some_iff.mp H
   obtain ⟨⟨t379, t380⟩, A70, H⟩ := H
   replace H : (if (t376 != t380) = true then (laws_FnRightTriples.j0 k l1 t373 t374 t375 t376 true) else ((laws_vSame.f k t375 t379).bind fun t383 => (laws_FnRightTriples.j0 k l1 t373 t374 t375 t376 (!t383)))) = some r := H
   have A7 := Aside0.mk A70
   clear A70
   have HC8 := Aside0.mk H
   clear H
   go_enter Try.func6, Try.ntmps6
   go_upto_region 6 with (first | ((with_reducible refine gate_callee (f := 7) rfl ?_); refine gL (some 36) rfl rfl Try.func7 (by kernel_rfl) rfl #[.slice A0 l0.length c0, .slice A1 l1.length c1] rfl ?_; (with_reducible refine (laws_big.calls _ _ l0 _ _ l1 false _ ?side1 ?side2 ?side3 ?side4 A3.out).mono ?_); (case side1 => exact cC HR0.out); (case side2 => exact HC0.out); (case side3 => exact cC HR1.out); (case side4 => exact HC1.out); rintro e w' ⟨rfl, ⟨nd, rfl⟩⟩; refine ⟨_, rfl, ?_⟩) | ((with_reducible refine gate_callee (f := 49) rfl ?_); refine gL (some 39) rfl rfl Try.func49 (by kernel_rfl) rfl #[.slice A0 l0.length c0] rfl ?_; (with_reducible refine (spec_DrawRightOfPair.calls _ _ l0 t373 t374 _ ?side1 ?side2 A5.out).mono ?_); (case side1 => exact cC HR0.out); (case side2 => exact HC0.out); rintro e w9 ⟨rfl, hb⟩; refine ⟨_, rfl, ?_⟩; have n0_ := Aside0.mk (below_step bq hb); clear HB; have HB := n0_; clear n0_; (try clear hb); (try clear hb2); (try clear hk); (try clear hi)) | ((with_reducible refine gate_callee (f := 50) rfl ?_); refine gL (some 45) rfl rfl Try.func50 (by kernel_rfl) rfl #[.int .i64 t373, .int .i64 t374] rfl ?_; (with_reducible refine (impl_RightOfPair.calls k t373 t374 t375 t376 _ A6.out).mono ?_); rintro e w10 ⟨v377, rfl, ho0, hb⟩; refine ⟨_, rfl, ?_⟩; have n0_ := Aside0.mk (Kd.R_lower ho0 (below_size bq)); have n1_ := Aside0.mk (below_step bq hb); clear HB; have HO378 := n0_; have HB := n1_; clear n0_ n1_; (try clear hb); (try clear hb2); (try clear hk); (try clear hi); (try clear ho0)) | ((with_reducible refine gate_callee (f := 51) rfl ?_); refine gL (some 51) rfl rfl Try.func51 (by kernel_rfl) rfl #[.int .i64 t373, .int .i64 t374] rfl ?_; (with_reducible refine (spec_RightOfPair.calls k t373 t374 t379 t380 _ A7.out).mono ?_); rintro e w11 ⟨v381, rfl, ho0, hb⟩; refine ⟨_, rfl, ?_⟩; have n0_ := Aside0.mk (Kd.R_elder' (rA HO378) (Kd.R_base ho0) hb); have n1_ := Aside0.mk (Kd.R_lower (Kd.R_new' ho0 (Kd.R_lt (rA HO378))) (below_size bq)); have n2_ := Aside0.mk (below_step bq hb); clear HO378; clear HB; have HO378 := n0_; have HO382 := n1_; have HB := n2_; clear n0_ n1_ n2_; (try clear hb); (try clear hb2); (try clear hk); (try clear hi); (try clear ho0)))
   (try simp only [Act.put, List.setIfInBounds_toArray, List.set_cons_zero, List.set_cons_succ])
   go_cut [62] (fun v62 wc => ∃ (kq : Nat) (x62_7 : Bool), v62 = .bool x62_7 ∧ Aside0 (laws_FnRightTriples.j0 kq l1 t373 t374 t375 t376 x62_7 = some r) ∧ Aside0 (kq ≤ k) ∧ Aside0 (Kd.R (Kd.int .i64) 3 wc w.heap.size (fun _ => True) v377 t375) ∧ Aside0 (Below w.heap.size w wc))
   case first =>
    as_aux_lemma =>
     have H := HC8.out
     clear HC8
     by_cases c12 : (t376 != t380) = true
     ·
      rw [if_pos c12] at H
      exact absurd (H.trans (congrArg some hrT)) (fun h_ => laws_FnRightTriples.j0_no h_)
     ·
      rw [if_neg c12] at H
      have c12b0 : (t376 != t380) = false := by simpa using c12
      (try (have c12b1 : decide (t376 = t380) = true := by simpa using c12))
      (try (have c12b2 : (t376 == t380) = true := by simpa using c12))
      clear c12
      (first | rw [c12b0] | (simp only [i64_w, i32_w]; rw [c12b0]) | skip)
      replace H := Option.bind_eq_some_iff.mp H
      obtain ⟨t383, A130, H⟩ := H
      replace H : (laws_FnRightTriples.j0 k l1 t373 t374 t375 t376 (!t383)) = some r := H
      have A13 := Aside0.mk A130
      clear A130
      have H' := Aside0.mk H
      clear H
      obtain ⟨Ao14, co14, eo14⟩ := Kd.R_slice HO378.out
      subst eo14
      obtain ⟨Ao15, co15, eo15⟩ := Kd.R_slice HO382.out
      subst eo15
      go_wp2_with (first | (go_at_call 11; (with_reducible refine (laws_vSame.calls k _ _ t375 _ _ t379 t383 _ ?side1 ?side2 ?side3 ?side4 A13.out).mono ?_); (case side1 => exact cC (Kd.R_reads' HO378.out).2.2); (case side2 => exact (Kd.R_reads' HO378.out).2.1); (case side3 => exact cC (Kd.R_reads' HO382.out).2.2); (case side4 => exact (Kd.R_reads' HO382.out).2.1); rintro e w' ⟨rfl, ⟨nd, rfl⟩⟩))
      go_meet
      case rel => exact ⟨_, (!t383), e2, H', ⟨by first | omega | exact Nat.le_refl _⟩, ⟨by (with_reducible repeat (first | apply Kd.R_alloc | apply Kd.R_drewN | apply Kd.R_drew)); exact Kd.R_mono HO378.out (fun _ hk => trivial)⟩, ⟨bq⟩⟩
   case rest =>
    as_aux_lemma =>
     clear HC8; (try clear c1); (try clear p2); (try clear c4); (try clear c5); (try clear c6); (try clear c7); (try clear c12); (try clear c12b0); (try clear c12b1); (try clear c12b2)
     obtain ⟨kq, x62_7, rfl, HA, HJ7, HO_7, HB⟩ := hcut
     cases kq with
     | zero => exact absurd HA.out (by simp [laws_FnRightTriples.j0])
     | succ kj7 =>
      have H := HA.out
      clear HA
      simp only [laws_FnRightTriples.j0] at H
      by_cases c16 : x62_7 = true
      ·
       subst c16
       have H1 : (some false) = some r := by rw [if_pos rfl] at H; exact H
       exact absurd (H1.trans (congrArg some hrT)) (by simp)
      ·
       as_aux_lemma =>
        replace c16 := Bool.eq_false_iff.mpr c16
        subst c16
        have H1 : (if t376 = true then ((impl_PairOfRight.f kj7 t375).bind fun bt384 => ((impl_InnerRadius.f kj7 t375).bind fun bt387 => (if bt384.2.2 = true then (if bt387.2 = true then (if bt384.1 = t373 then (if bt384.2.1 = t374 then (if bt387.1 = (wrap64 (t374 * (wrap64 (t373 - t374)))) then ((impl_IsRight.f kj7 t375).bind fun t389 => (if t389 = true then (if 0 < (t375.length : Int) then (if 1 < (t375.length : Int) then (if 2 < (t375.length : Int) then (if (wrap64 ((wrap64 ((rd t375 0) * (rd t375 0))) + (wrap64 ((rd t375 1) * (rd t375 1))))) = (wrap64 ((rd t375 2) * (rd t375 2))) then (laws_FnRightTriples.j1 kj7 l1) else (some false)) else (none)) else (none)) else (none)) else (some false))) else (some false)) else (some false)) else (some false)) else (some false)) else (some false)))) else (laws_FnRightTriples.j1 kj7 l1)) = some r := by rw [if_neg (show ¬ (false = true) by decide)] at H; exact H
        clear H
        have H := H1
        clear H1
        have HC17 := Aside0.mk H
        clear H
        go_upto_if 63 with (fail)
        go_cut [] (fun wc => ∃ (kq : Nat), Aside0 (laws_FnRightTriples.j1 kq l1 = some r) ∧ Aside0 (kq ≤ kj7) ∧ Aside0 (Below w.heap.size w wc))
        case first =>
         as_aux_lemma =>
          have H := HC17.out
          clear HC17
          by_cases c18 : t376 = true
          ·
           as_aux_lemma =>
            subst c18
            have H1 : ((impl_PairOfRight.f kj7 t375).bind fun bt384 => ((impl_InnerRadius.f kj7 t375).bind fun bt387 => (if bt384.2.2 = true then (if bt387.2 = true then (if bt384.1 = t373 then (if bt384.2.1 = t374 then (if bt387.1 = (wrap64 (t374 * (wrap64 (t373 - t374)))) then ((impl_IsRight.f kj7 t375).bind fun t389 => (if t389 = true then (if 0 < (t375.length : Int) then (if 1 < (t375.length : Int) then (if 2 < (t375.length : Int) then (if (wrap64 ((wrap64 ((rd t375 0) * (rd t375 0))) + (wrap64 ((rd t375 1) * (rd t375 1))))) = (wrap64 ((rd t375 2) * (rd t375 2))) then (laws_FnRightTriples.j1 kj7 l1) else (some false)) else (none)) else (none)) else (none)) else (some false))) else (some false)) else (some false)) else (some false)) else (some false)) else (some false)))) = some r := by rw [if_pos rfl] at H; exact H
            clear H
            have H := H1
            clear H1
            replace H := Option.bind_eq_some_iff.mp H
            obtain ⟨⟨t384, t385, t386⟩, A190, H⟩ := H
            replace H : ((impl_InnerRadius.f kj7 t375).bind fun bt387 => (if t386 = true then (if bt387.2 = true then (if t384 = t373 then (if t385 = t374 then (if bt387.1 = (wrap64 (t374 * (wrap64 (t373 - t374)))) then ((impl_IsRight.f kj7 t375).bind fun t389 => (if t389 = true then (if 0 < (t375.length : Int) then (if 1 < (t375.length : Int) then (if 2 < (t375.length : Int) then (if (wrap64 ((wrap64 ((rd t375 0) * (rd t375 0))) + (wrap64 ((rd t375 1) * (rd t375 1))))) = (wrap64 ((rd t375 2) * (rd t375 2))) then (laws_FnRightTriples.j1 kj7 l1) else (some false)) else (none)) else (none)) else (none)) else (some false))) else (some false)) else (some false)) else (some false)) else (some false)) else (some false))) = some r := H
            have A19 := Aside0.mk A190
            clear A190
            replace H := Option.bind_eq_some_iff.mp H
            obtain ⟨⟨t387, t388⟩, A200, H⟩ := H
            replace H : (if t386 = true then (if t388 = true then (if t384 = t373 then (if t385 = t374 then (if t387 = (wrap64 (t374 * (wrap64 (t373 - t374)))) then ((impl_IsRight.f kj7 t375).bind fun t389 => (if t389 = true then (if 0 < (t375.length : Int) then (if 1 < (t375.length : Int) then (if 2 < (t375.length : Int) then (if (wrap64 ((wrap64 ((rd t375 0) * (rd t375 0))) + (wrap64 ((rd t375 1) * (rd t375 1))))) = (wrap64 ((rd t375 2) * (rd t375 2))) then (laws_FnRightTriples.j1 kj7 l1) else (some false)) else (none)) else (none)) else (none)) else (some false))) else (some false)) else (some false)) else (some false)) else (some false)) else (some false)) = some r := H
            have A20 := Aside0.mk A200
            clear A200
            by_cases c21 : t386 = true
            ·
             as_aux_lemma =>
              subst c21
              have H1 : (if t388 = true then (if t384 = t373 then (if t385 = t374 then (if t387 = (wrap64 (t374 * (wrap64 (t373 - t374)))) then ((impl_IsRight.f kj7 t375).bind fun t389 => (if t389 = true then (if 0 < (t375.length : Int) then (if 1 < (t375.length : Int) then (if 2 < (t375.length : Int) then (if (wrap64 ((wrap64 ((rd t375 0) * (rd t375 0))) + (wrap64 ((rd t375 1) * (rd t375 1))))) = (wrap64 ((rd t375 2) * (rd t375 2))) then (laws_FnRightTriples.j1 kj7 l1) else (some false)) else (none)) else (none)) else (none)) else (some false))) else (some false)) else (some false)) else (some false)) else (some false)) = some r := by rw [if_pos rfl] at H; exact H
              clear H
              have H := H1
              clear H1
              by_cases c22 : t388 = true
              ·
               as_aux_lemma =>
                subst c22
                have H1 : (if t384 = t373 then (if t385 = t374 then (if t387 = (wrap64 (t374 * (wrap64 (t373 - t374)))) then ((impl_IsRight.f kj7 t375).bind fun t389 => (if t389 = true then (if 0 < (t375.length : Int) then (if 1 < (t375.length : Int) then (if 2 < (t375.length : Int) then (if (wrap64 ((wrap64 ((rd t375 0) * (rd t375 0))) + (wrap64 ((rd t375 1) * (rd t375 1))))) = (wrap64 ((rd t375 2) * (rd t375 2))) then (laws_FnRightTriples.j1 kj7 l1) else (some false)) else (none)) else (none)) else (none)) else (some false))) else (some false)) else (some false)) else (some false)) = some r := by rw [if_pos rfl] at H; exact H
                clear H
                have H := H1
                clear H1
                by_cases c23 : t384 = t373
                ·
                 as_aux_lemma =>
                  rw [if_pos c23] at H
                  have c23b0 : (t384 == t373) = true := beq_iff_eq.mpr c23
                  have c23b1 : (t384 != t373) = false := bne_eq_false_iff_eq.mpr c23
                  clear c23
                  (first | rw [c23b0] | (simp only [i64_w, i32_w]; rw [c23b0]) | skip)
                  by_cases c24 : t385 = t374
                  ·
                   as_aux_lemma =>
                    rw [if_pos c24] at H
                    have c24b0 : (t385 == t374) = true := beq_iff_eq.mpr c24
                    have c24b1 : (t385 != t374) = false := bne_eq_false_iff_eq.mpr c24
                    clear c24
                    by_cases c25 : t387 = (wrap64 (t374 * (wrap64 (t373 - t374))))
                    ·
                     as_aux_lemma =>
                      rw [if_pos c25] at H
                      have c25b0 : (t387 == (wrap64 (t374 * (wrap64 (t373 - t374))))) = true := beq_iff_eq.mpr c25
                      have c25b1 : (t387 != (wrap64 (t374 * (wrap64 (t373 - t374))))) = false := bne_eq_false_iff_eq.mpr c25
                      clear c25
                      replace H := Option.bind_eq_some_iff.mp H
                      obtain ⟨t389, A260, H⟩ := H
                      replace H : (if t389 = true then (if 0 < (t375.length : Int) then (if 1 < (t375.length : Int) then (if 2 < (t375.length : Int) then (if (wrap64 ((wrap64 ((rd t375 0) * (rd t375 0))) + (wrap64 ((rd t375 1) * (rd t375 1))))) = (wrap64 ((rd t375 2) * (rd t375 2))) then (laws_FnRightTriples.j1 kj7 l1) else (some false)) else (none)) else (none)) else (none)) else (some false)) = some r := H
                      have A26 := Aside0.mk A260
                      clear A260
                      by_cases c27 : t389 = true
                      ·
                       as_aux_lemma =>
                        subst c27
                        have H1 : (if 0 < (t375.length : Int) then (if 1 < (t375.length : Int) then (if 2 < (t375.length : Int) then (if (wrap64 ((wrap64 ((rd t375 0) * (rd t375 0))) + (wrap64 ((rd t375 1) * (rd t375 1))))) = (wrap64 ((rd t375 2) * (rd t375 2))) then (laws_FnRightTriples.j1 kj7 l1) else (some false)) else (none)) else (none)) else (none)) = some r := by rw [if_pos rfl] at H; exact H
                        clear H
                        have H := H1
                        clear H1
                        by_cases c28 : 0 < (t375.length : Int)
                        ·
                         as_aux_lemma =>
                          rw [if_pos c28] at H
                          have c28b0 : decide (0 < (t375.length : Int)) = true := decide_eq_true c28
                          have c28b1 : decide (0 < t375.length) = true := decide_eq_true (by omega)
                          clear c28
                          by_cases c29 : 1 < (t375.length : Int)
                          ·
                           as_aux_lemma =>
                            rw [if_pos c29] at H
                            have c29b0 : decide (1 < (t375.length : Int)) = true := decide_eq_true c29
                            have c29b1 : decide (1 < t375.length) = true := decide_eq_true (by omega)
                            clear c29
                            by_cases c30 : 2 < (t375.length : Int)
                            ·
                             as_aux_lemma =>
                              rw [if_pos c30] at H
                              have c30b0 : decide (2 < (t375.length : Int)) = true := decide_eq_true c30
                              have c30b1 : decide (2 < t375.length) = true := decide_eq_true (by omega)
                              clear c30
                              by_cases c31 : (wrap64 ((wrap64 ((rd t375 0) * (rd t375 0))) + (wrap64 ((rd t375 1) * (rd t375 1))))) = (wrap64 ((rd t375 2) * (rd t375 2)))
                              ·
                               as_aux_lemma =>
                                rw [if_pos c31] at H
                                have c31b0 : ((wrap64 ((wrap64 ((rd t375 0) * (rd t375 0))) + (wrap64 ((rd t375 1) * (rd t375 1))))) == (wrap64 ((rd t375 2) * (rd t375 2)))) = true := beq_iff_eq.mpr c31
                                have c31b1 : ((wrap64 ((wrap64 ((rd t375 0) * (rd t375 0))) + (wrap64 ((rd t375 1) * (rd t375 1))))) != (wrap64 ((rd t375 2) * (rd t375 2)))) = false := bne_eq_false_iff_eq.mpr c31
                                clear c31
                                have H' := Aside0.mk H
                                clear H
                                obtain ⟨Ao32, co32, eo32⟩ := Kd.R_slice HO_7.out
                                subst eo32
                                try go_wp2_with (first | ((with_reducible refine gate_callee (f := 52) rfl ?_); refine gL (some 66) rfl rfl Try.func52 (by kernel_rfl) rfl #[.slice Ao32 t375.length co32] rfl ?_; (with_reducible refine (impl_PairOfRight.calls kj7 _ _ t375 t384 t385 true _ ?side1 ?side2 A19.out).mono ?_); (case side1 => exact cC (Kd.R_reads' HO_7.out).2.2); (case side2 => exact (Kd.R_reads' HO_7.out).2.1); rintro e w33 ⟨rfl, hb⟩; refine ⟨_, rfl, ?_⟩; have n0_ := Aside0.mk (Kd.R_below (rA HO_7) hb); have n1_ := Aside0.mk (below_step bq hb); clear HO_7; clear HB; have HO_7 := n0_; have HB := n1_; clear n0_ n1_; (try clear hb); (try clear hb2); (try clear hk); (try clear hi)) | ((with_reducible refine gate_callee (f := 53) rfl ?_); refine gL (some 72) rfl rfl Try.func53 (by kernel_rfl) rfl #[.slice Ao32 t375.length co32] rfl ?_; (with_reducible refine (impl_InnerRadius.calls kj7 _ _ t375 t387 true _ ?side1 ?side2 A20.out).mono ?_); (case side1 => exact cC (Kd.R_reads' HO_7.out).2.2); (case side2 => exact (Kd.R_reads' HO_7.out).2.1); rintro e w34 ⟨rfl, hb⟩; refine ⟨_, rfl, ?_⟩; have n0_ := Aside0.mk (Kd.R_below (rA HO_7) hb); have n1_ := Aside0.mk (below_step bq hb); clear HO_7; clear HB; have HO_7 := n0_; have HB := n1_; clear n0_ n1_; (try clear hb); (try clear hb2); (try clear hk); (try clear hi)))
                                have n0_ := Aside0.mk (Kd.R_drew HO_7.out)
                                have n1_ := Aside0.mk (below_drew1 HB.out)
                                clear HO_7; clear HB
                                have HO_7 := n0_
                                have HB := n1_
                                clear n0_ n1_
                                have p390 : 0 ≤ (0 : Int) := (by omega)
                                have q390 : 0 < (t375.length : Int) := od
                                obtain ⟨ad390, e390, hx390_0⟩ := Kd.at_int (Kd.R_reads' HO_7.out).2.2 0 p390 q390
                                cases e390
                                have qi390 : (0 < t375.length) = True := eq_true (by omega)
                                (try rw [show ((0 : Int)).toNat = 0 from rfl] at hx390_0)
                                (try rw [Addr.add_zero'] at hx390_0)
                                replace p390 := eq_true p390
                                replace q390 := eq_true q390
                                have p391 : 0 ≤ (0 : Int) := (by omega)
                                have q391 : 0 < (t375.length : Int) := od
                                obtain ⟨ad391, e391, hx391_0⟩ := Kd.at_int (Kd.R_reads' HO_7.out).2.2 0 p391 q391
                                obtain rfl : ad390 = ad391 := (by injection e391)
                                have qi391 : (0 < t375.length) = True := eq_true (by omega)
                                (try rw [show ((0 : Int)).toNat = 0 from rfl] at hx391_0)
                                (try rw [Addr.add_zero'] at hx391_0)
                                replace p391 := eq_true p391
                                replace q391 := eq_true q391
                                have p392 : 0 ≤ (1 : Int) := (by omega)
                                have q392 : 1 < (t375.length : Int) := od
                                obtain ⟨ad392, e392, hx392_0⟩ := Kd.at_int (Kd.R_reads' HO_7.out).2.2 1 p392 q392
                                obtain rfl : ad390 = ad392 := (by injection e392)
                                (try simp only [show (1 : Int).toNat = 1 from rfl, Nat.reduceMul, Nat.reduceEqDiff, Go.Addr.add, ↓reduceIte] at hx392_0)
                                have qi392 : (1 < t375.length) = True := eq_true (by omega)
                                (try rw [show ((1 : Int)).toNat = 1 from rfl] at hx392_0)
                                replace p392 := eq_true p392
                                replace q392 := eq_true q392
                                have p393 : 0 ≤ (1 : Int) := (by omega)
                                have q393 : 1 < (t375.length : Int) := od
                                obtain ⟨ad393, e393, hx393_0⟩ := Kd.at_int (Kd.R_reads' HO_7.out).2.2 1 p393 q393
                                obtain rfl : ad390 = ad393 := (by injection e393)
                                (try simp only [show (1 : Int).toNat = 1 from rfl, Nat.reduceMul, Nat.reduceEqDiff, Go.Addr.add, ↓reduceIte] at hx393_0)
                                have qi393 : (1 < t375.length) = True := eq_true (by omega)
                                (try rw [show ((1 : Int)).toNat = 1 from rfl] at hx393_0)
                                replace p393 := eq_true p393
                                replace q393 := eq_true q393
                                have p394 : 0 ≤ (2 : Int) := (by omega)
                                have q394 : 2 < (t375.length : Int) := od
                                obtain ⟨ad394, e394, hx394_0⟩ := Kd.at_int (Kd.R_reads' HO_7.out).2.2 2 p394 q394
                                obtain rfl : ad390 = ad394 := (by injection e394)
                                (try simp only [show (2 : Int).toNat = 2 from rfl, Nat.reduceMul, Nat.reduceEqDiff, Go.Addr.add, ↓reduceIte] at hx394_0)
                                have qi394 : (2 < t375.length) = True := eq_true (by omega)
                                (try rw [show ((2 : Int)).toNat = 2 from rfl] at hx394_0)
                                replace p394 := eq_true p394
                                replace q394 := eq_true q394
                                have p395 : 0 ≤ (2 : Int) := (by omega)
                                have q395 : 2 < (t375.length : Int) := od
                                obtain ⟨ad395, e395, hx395_0⟩ := Kd.at_int (Kd.R_reads' HO_7.out).2.2 2 p395 q395
                                obtain rfl : ad390 = ad395 := (by injection e395)
                                (try simp only [show (2 : Int).toNat = 2 from rfl, Nat.reduceMul, Nat.reduceEqDiff, Go.Addr.add, ↓reduceIte] at hx395_0)
                                have qi395 : (2 < t375.length) = True := eq_true (by omega)
                                (try rw [show ((2 : Int)).toNat = 2 from rfl] at hx395_0)
                                replace p395 := eq_true p395
                                replace q395 := eq_true q395
                                refine start_ (n := 55) (S := fun w' => w'.cell? ad390 = some (.int .i64 (rd t375 0)) ∧ w'.cell? ad390 = some (.int .i64 (rd t375 0)) ∧ w'.cell? ⟨ad390.block, ad390.off + 1, none⟩ = some (.int .i64 (rd t375 1)) ∧ w'.cell? ⟨ad390.block, ad390.off + 1, none⟩ = some (.int .i64 (rd t375 1)) ∧ w'.cell? ⟨ad390.block, ad390.off + 2, none⟩ = some (.int .i64 (rd t375 2)) ∧ w'.cell? ⟨ad390.block, ad390.off + 2, none⟩ = some (.int .i64 (rd t375 2))) (ds := []) #[O,O,O,O,O,O,O,O,O,O,O,O,O,O,O,O,O,O,O,O,O,O,O,O,O,O,O,O,O,O,O,O,O,O,O,O,O,O,O,O,O,O,O,O,O,O,O,O,O,O,O,O,O,O,O] (by kernel_rfl) rfl rfl ⟨hx390_0, hx391_0, hx392_0, hx393_0, hx394_0, hx395_0⟩ (fun hHeld => ?_); refine with_tabW laws_FnRightTriples.tab11 laws_FnRightTriples.bits11 (fun HT_ HW_ => ?_)
                                generalize w34.drew = w35 at HO_7 HB hx390_0 hx391_0 hx392_0 hx393_0 hx394_0 hx395_0 hHeld ⊢
                                refine pS 0 75 (BM 55 1) ?_
                                refine pS 1 76 (BM 55 3) ?_
                                refine pS 2 77 (BM 55 7) ?_
                                refine pS 3 78 (BM 55 15) ?_
                                refine pS 4 79 (BM 55 31) ?_
                                refine pS 5 80 (BM 55 63) ?_
                                refine pS 6 81 (BM 55 127) ?_
                                refine pS 7 82 (BM 55 255) ?_
                                refine pS 8 83 (BM 55 511) ?_
                                refine pS 9 84 (BM 55 1023) ?_
                                refine pS 10 85 (BM 55 2047) ?_
                                refine pS 11 86 (BM 55 4095) ?_
                                refine pS 12 87 (BM 55 8191) ?_
                                refine pS 13 88 (BM 55 16383) ?_
                                refine pS 14 89 (BM 55 32767) ?_
                                refine pS 15 90 (BM 55 65535) ?_
                                refine pS 16 91 (BM 55 131071) ?_
                                refine pS 17 92 (BM 55 262143) ?_
                                refine pS 18 93 (BM 55 524287) ?_
                                refine pS 19 94 (BM 55 1048575) ?_
                                refine pS 20 95 (BM 55 2097151) ?_
                                refine pS 21 96 (BM 55 4194303) ?_
                                refine pS 22 97 (BM 55 8388607) ?_
                                refine pS 23 98 (BM 55 16777215) ?_
                                refine pS 24 99 (BM 55 33554431) ?_
                                refine pS 25 100 (BM 55 67108863) ?_
                                refine pS 26 101 (BM 55 134217727) ?_
                                refine one_ (i := 27) (N := some 102) (BM 55 268435455) rfl rfl (one_of HT_.out (by kernel_rfl)) (by decide) (fun K hK => ?_)
                                refine goes_ Try.func21 (by kernel_rfl) rfl #[.slice (some ad390) t375.length co32] (by rfl) rfl rfl (by (try simp only [List.map_toArray, List.map_cons, List.map_nil]); first | done | rfl | (simp only [List.length_drop, List.length_take]; rfl)) ?_
                                with_reducible refine (impl_IsRight.calls kj7 _ _ t375 true _ ?side1 ?side2 A26.out).mono ?_
                                (case side1 => exact cC (Kd.R_reads' HO_7.out).2.2)
                                (case side2 => exact (Kd.R_reads' HO_7.out).2.1)
                                rintro e w36 ⟨rfl, hb⟩
                                have HS0_ := (hb.cell (World.block_lt_of_cell? _ _ (hHeld.1))).trans (hHeld.1)
                                have HS1_ := (hb.cell (World.block_lt_of_cell? _ _ (hHeld.2.1))).trans (hHeld.2.1)
                                have HS2_ := (hb.cell (World.block_lt_of_cell? _ _ (hHeld.2.2.1))).trans (hHeld.2.2.1)
                                have HS3_ := (hb.cell (World.block_lt_of_cell? _ _ (hHeld.2.2.2.1))).trans (hHeld.2.2.2.1)
                                have HS4_ := (hb.cell (World.block_lt_of_cell? _ _ (hHeld.2.2.2.2.1))).trans (hHeld.2.2.2.2.1)
                                have HS5_ := (hb.cell (World.block_lt_of_cell? _ _ (hHeld.2.2.2.2.2))).trans (hHeld.2.2.2.2.2)
                                refine ⟨_, rfl, ?_⟩
                                have n0_ := Aside0.mk (Kd.R_below (rA HO_7) hb)
                                have n1_ := Aside0.mk (below_step bq hb)
                                clear HO_7; clear HB
                                have HO_7 := n0_
                                have HB := n1_
                                clear n0_ n1_
                                (try clear hb)
                                (try clear hb2)
                                (try clear hk)
                                (try clear hi)
                                refine hK.out _ _ ⟨HS0_, HS1_, HS2_, HS3_, HS4_, HS5_⟩ (fun hHeld => ?_)
                                clear hK K
                                refine norm_ (a' := ?_) ?_ ?_
                                rotate_left
                                ·
                                 show Act.put _ (some 102) _ = _
                                 simp only [AP]
                                 rfl
                                refine pS 28 103 (BM 55 536870911) ?_
                                refine pS 29 104 (BM 55 1073741823) ?_
                                refine pS 30 105 (BM 55 2147483647) ?_
                                refine pS 31 106 (BM 55 4294967295) ?_
                                refine pS 32 107 (BM 55 8589934591) ?_
                                refine pS 34 109 (BM 55 25769803775) ?_
                                refine pS 35 110 (BM 55 60129542143) ?_
                                refine pS 38 113 (BM 55 335007449087) ?_
                                refine pS 39 114 (BM 55 884763262975) ?_
                                refine pS 41 116 (BM 55 3083786518527) ?_
                                refine pS 42 117 (BM 55 7481833029631) ?_
                                refine pS 46 121 (BM 55 77850577207295) ?_
                                refine pS 47 122 (BM 55 218588065562623) ?_
                                refine pS 49 124 (BM 55 781538018983935) ?_
                                refine pS 50 125 (BM 55 1907437925826559) ?_
                                refine take_ (i := 33) (N := some 108) (v := ?_) (a' := ?_) (BM 55 1907446515761151) rfl rfl (take_ofW HT_.out HW_.out (by kernel_rfl)) (fun _ _ _ h => h) (Or.inl ⟨by rfl, ?_⟩) hHeld ?_ ?_
                                rotate_left
                                ·
                                 rintro w' ⟨s0, s1, s2, s3, s4, s5⟩
                                 go_simp
                                 with_reducible rfl
                                rotate_left
                                ·
                                 simp only [AP]
                                 rfl
                                refine take_ (i := 36) (N := some 111) (v := ?_) (a' := ?_) (BM 55 1907515235237887) rfl rfl (take_ofW HT_.out HW_.out (by kernel_rfl)) (fun _ _ _ h => h) (Or.inl ⟨by rfl, ?_⟩) hHeld ?_ ?_
                                rotate_left
                                ·
                                 rintro w' ⟨s0, s1, s2, s3, s4, s5⟩
                                 go_simp
                                 with_reducible rfl
                                rotate_left
                                ·
                                 simp only [AP]
                                 rfl
                                refine pS 37 112 (BM 55 1907652674191359) ?_
                                refine take_ (i := 40) (N := some 115) (v := ?_) (a' := ?_) (BM 55 1908752185819135) rfl rfl (take_ofW HT_.out HW_.out (by kernel_rfl)) (fun _ _ _ h => h) (Or.inl ⟨by rfl, ?_⟩) hHeld ?_ ?_
                                rotate_left
                                ·
                                 rintro w' ⟨s0, s1, s2, s3, s4, s5⟩
                                 go_simp
                                 with_reducible rfl
                                rotate_left
                                ·
                                 simp only [AP]
                                 rfl
                                refine take_ (i := 43) (N := some 118) (v := ?_) (a' := ?_) (BM 55 1917548278841343) rfl rfl (take_ofW HT_.out HW_.out (by kernel_rfl)) (fun _ _ _ h => h) (Or.inl ⟨by rfl, ?_⟩) hHeld ?_ ?_
                                rotate_left
                                ·
                                 rintro w' ⟨s0, s1, s2, s3, s4, s5⟩
                                 go_simp
                                 with_reducible rfl
                                rotate_left
                                ·
                                 simp only [AP]
                                 rfl
                                refine pS 44 119 (BM 55 1935140464885759) ?_
                                refine pS 45 120 (BM 55 1970324836974591) ?_
                                refine take_ (i := 48) (N := some 123) (v := ?_) (a' := ?_) (BM 55 2251799813685247) rfl rfl (take_ofW HT_.out HW_.out (by kernel_rfl)) (fun _ _ _ h => h) (Or.inl ⟨by rfl, ?_⟩) hHeld ?_ ?_
                                rotate_left
                                ·
                                 rintro w' ⟨s0, s1, s2, s3, s4, s5⟩
                                 go_simp
                                 with_reducible rfl
                                rotate_left
                                ·
                                 simp only [AP]
                                 rfl
                                refine take_ (i := 51) (N := some 126) (v := ?_) (a' := ?_) (BM 55 4503599627370495) rfl rfl (take_ofW HT_.out HW_.out (by kernel_rfl)) (fun _ _ _ h => h) (Or.inl ⟨by rfl, ?_⟩) hHeld ?_ ?_
                                rotate_left
                                ·
                                 rintro w' ⟨s0, s1, s2, s3, s4, s5⟩
                                 go_simp
                                 with_reducible rfl
                                rotate_left
                                ·
                                 simp only [AP]
                                 rfl
                                refine pS 52 127 (BM 55 9007199254740991) ?_
                                refine pS 53 128 (BM 55 18014398509481983) ?_
                                refine pS 54 129 (BM 55 36028797018963967) ?_
                                refine done_ (done_of HT_.out (by kernel_rfl)) ?_
                                try go_wp2
                                go_meet
                                case rel => exact ⟨_, H', ⟨by have := HJ7.out; first | omega | exact Nat.le_refl _⟩, ⟨bq⟩⟩
                              ·
                               rw [if_neg c31] at H
                               exact absurd (H.trans (congrArg some hrT)) (by simp)
                            ·
                             rw [if_neg c30] at H
                             exact absurd H (by simp)
                          ·
                           rw [if_neg c29] at H
                           exact absurd H (by simp)
                        ·
                         rw [if_neg c28] at H
                         exact absurd H (by simp)
                      ·
                       replace c27 := Bool.eq_false_iff.mpr c27
                       subst c27
                       have H1 : (some false) = some r := by rw [if_neg (show ¬ (false = true) by decide)] at H; exact H
                       exact absurd (H1.trans (congrArg some hrT)) (by simp)
                    ·
                     rw [if_neg c25] at H
                     exact absurd (H.trans (congrArg some hrT)) (by simp)
                  ·
                   rw [if_neg c24] at H
                   exact absurd (H.trans (congrArg some hrT)) (by simp)
                ·
                 rw [if_neg c23] at H
                 exact absurd (H.trans (congrArg some hrT)) (by simp)
              ·
               replace c22 := Bool.eq_false_iff.mpr c22
               subst c22
               have H1 : (some false) = some r := by rw [if_neg (show ¬ (false = true) by decide)] at H; exact H
               exact absurd (H1.trans (congrArg some hrT)) (by simp)
            ·
             replace c21 := Bool.eq_false_iff.mpr c21
             subst c21
             have H1 : (some false) = some r := by rw [if_neg (show ¬ (false = true) by decide)] at H; exact H
             exact absurd (H1.trans (congrArg some hrT)) (by simp)
          ·
           replace c18 := Bool.eq_false_iff.mpr c18
           subst c18
           have H1 : (laws_FnRightTriples.j1 kj7 l1) = some r := by rw [if_neg (show ¬ (false = true) by decide)] at H; exact H
           clear H
           have H := H1
           clear H1
           have H' := Aside0.mk H
           clear H
           go_wp2
           go_meet
           case rel => exact ⟨_, H', ⟨by have := HJ7.out; first | omega | exact Nat.le_refl _⟩, ⟨bq⟩⟩
        case rest =>
         as_aux_lemma =>
          clear HC17; (try clear c1); (try clear c2); (try clear p2); (try clear c5); (try clear c18); (try clear c21); (try clear c52); (try clear c53)
          obtain ⟨kq, HA, HJ16, HB⟩ := hcut
          cases kq with
          | zero => exact absurd HA.out (by simp [laws_FnRightTriples.j1])
          | succ kj16 =>
           have H := HA.out
           clear HA
           simp only [laws_FnRightTriples.j1] at H
           replace H := Option.bind_eq_some_iff.mp H
           obtain ⟨t396, A670, H⟩ := H
           replace H : ((impl_PairOfRight.f kj16 t396).bind fun bt399 => ((spec_PairOfRight.f kj16 t396).bind fun bt402 => (if (bt399.2.2 != bt402.2.2) = true then (laws_FnRightTriples.j2 kj16 l1 t396 bt399.1 bt399.2.1 bt399.2.2 true) else (if bt399.1 = bt402.1 then (if bt399.2.1 = bt402.2.1 then ((impl_IsRight.f kj16 t396).bind fun t405 => (laws_FnRightTriples.j2 kj16 l1 t396 bt399.1 bt399.2.1 bt399.2.2 (bt399.2.2 != t405))) else (laws_FnRightTriples.j2 kj16 l1 t396 bt399.1 bt399.2.1 bt399.2.2 true)) else (laws_FnRightTriples.j2 kj16 l1 t396 bt399.1 bt399.2.1 bt399.2.2 true))))) = some r := H
           have A67 := Aside0.mk A670
           clear A670
           replace H := Option.bind_eq_some_iff.mp H
           obtain ⟨⟨t399, t400, t401⟩, A680, H⟩ := H
           replace H : ((spec_PairOfRight.f kj16 t396).bind fun bt402 => (if (t401 != bt402.2.2) = true then (laws_FnRightTriples.j2 kj16 l1 t396 t399 t400 t401 true) else (if t399 = bt402.1 then (if t400 = bt402.2.1 then ((impl_IsRight.f kj16 t396).bind fun t405 => (laws_FnRightTriples.j2 kj16 l1 t396 t399 t400 t401 (t401 != t405))) else (laws_FnRightTriples.j2 kj16 l1 t396 t399 t400 t401 true)) else (laws_FnRightTriples.j2 kj16 l1 t396 t399 t400 t401 true)))) = some r := H
           have A68 := Aside0.mk A680
           clear A680
           replace H := Option.bind_eq_some_iff.mp H
           obtain ⟨⟨t402, t403, t404⟩, A690, H⟩ := H
           replace H : (if (t401 != t404) = true then (laws_FnRightTriples.j2 kj16 l1 t396 t399 t400 t401 true) else (if t399 = t402 then (if t400 = t403 then ((impl_IsRight.f kj16 t396).bind fun t405 => (laws_FnRightTriples.j2 kj16 l1 t396 t399 t400 t401 (t401 != t405))) else (laws_FnRightTriples.j2 kj16 l1 t396 t399 t400 t401 true)) else (laws_FnRightTriples.j2 kj16 l1 t396 t399 t400 t401 true))) = some r := H
           have A69 := Aside0.mk A690
           clear A690
           have HC70 := Aside0.mk H
           clear H
           go_upto_region 16 with (first | ((with_reducible refine gate_callee (f := 54) rfl ?_); refine gL (some 131) rfl rfl Try.func54 (by kernel_rfl) rfl #[.slice A1 l1.length c1] rfl ?_; (with_reducible refine (spec_DrawPairOfRight.calls kj16 _ _ l1 t396 _ ?side1 ?side2 A67.out).mono ?_); (case side1 => exact cC (Kd.C_below HR1.out HB.out)); (case side2 => exact HC1.out); rintro e w71 ⟨v397, rfl, ho0, hb⟩; refine ⟨_, rfl, ?_⟩; have n0_ := Aside0.mk (Kd.R_lower ho0 (below_size bq)); have n1_ := Aside0.mk (below_step bq hb); clear HB; have HO398 := n0_; have HB := n1_; clear n0_ n1_; (try clear hb); (try clear hb2); (try clear hk); (try clear hi); (try clear ho0); obtain ⟨Ao72, co72, eo72⟩ := Kd.R_slice HO398.out; subst eo72) | ((with_reducible refine gate_callee (f := 52) rfl ?_); refine gL (some 134) rfl rfl Try.func52 (by kernel_rfl) rfl #[.slice Ao72 t396.length co72] rfl ?_; (with_reducible refine (impl_PairOfRight.calls kj16 _ _ t396 t399 t400 t401 _ ?side1 ?side2 A68.out).mono ?_); (case side1 => exact cC (Kd.R_reads' HO398.out).2.2); (case side2 => exact (Kd.R_reads' HO398.out).2.1); rintro e w73 ⟨rfl, hb⟩; refine ⟨_, rfl, ?_⟩; have n0_ := Aside0.mk (Kd.R_below (rA HO398) hb); have n1_ := Aside0.mk (below_step bq hb); clear HO398; clear HB; have HO398 := n0_; have HB := n1_; clear n0_ n1_; (try clear hb); (try clear hb2); (try clear hk); (try clear hi)) | ((with_reducible refine gate_callee (f := 55) rfl ?_); refine gL (some 140) rfl rfl Try.func55 (by kernel_rfl) rfl #[.slice Ao72 t396.length co72] rfl ?_; (with_reducible refine (spec_PairOfRight.calls kj16 _ _ t396 t402 t403 t404 _ ?side1 ?side2 A69.out).mono ?_); (case side1 => exact cC (Kd.R_reads' HO398.out).2.2); (case side2 => exact (Kd.R_reads' HO398.out).2.1); rintro e w74 ⟨rfl, hb⟩; refine ⟨_, rfl, ?_⟩; have n0_ := Aside0.mk (Kd.R_below (rA HO398) hb); have n1_ := Aside0.mk (below_step bq hb); clear HO398; clear HB; have HO398 := n0_; have HB := n1_; clear n0_ n1_; (try clear hb); (try clear hb2); (try clear hk); (try clear hi)))
           (try simp only [Act.put, List.setIfInBounds_toArray, List.set_cons_zero, List.set_cons_succ])
           go_cut [162] (fun v162 wc => ∃ (kq : Nat) (x162_69 : Bool), v162 = .bool x162_69 ∧ Aside0 (laws_FnRightTriples.j2 kq l1 t396 t399 t400 t401 x162_69 = some r) ∧ Aside0 (kq ≤ kj16) ∧ Aside0 (Kd.R (Kd.int .i64) 3 wc w.heap.size (fun _ => True) (.slice Ao72 t396.length co72) t396) ∧ Aside0 (Below w.heap.size w wc))
           case first =>
            as_aux_lemma =>
             have H := HC70.out
             clear HC70
             by_cases c75 : (t401 != t404) = true
             ·
              rw [if_pos c75] at H
              exact absurd (H.trans (congrArg some hrT)) (fun h_ => laws_FnRightTriples.j2_no h_)
             ·
              rw [if_neg c75] at H
              have c75b0 : (t401 != t404) = false := by simpa using c75
              (try (have c75b1 : decide (t401 = t404) = true := by simpa using c75))
              (try (have c75b2 : (t401 == t404) = true := by simpa using c75))
              clear c75
              (first | rw [c75b0] | (simp only [i64_w, i32_w]; rw [c75b0]) | skip)
              by_cases c76 : t399 = t402
              ·
               rw [if_pos c76] at H
               have c76b0 : (t399 == t402) = true := beq_iff_eq.mpr c76
               have c76b1 : (t399 != t402) = false := bne_eq_false_iff_eq.mpr c76
               clear c76
               by_cases c77 : t400 = t403
               ·
                rw [if_pos c77] at H
                have c77b0 : (t400 == t403) = true := beq_iff_eq.mpr c77
                have c77b1 : (t400 != t403) = false := bne_eq_false_iff_eq.mpr c77
                clear c77
                replace H := Option.bind_eq_some_iff.mp H
                obtain ⟨t405, A780, H⟩ := H
                replace H : (laws_FnRightTriples.j2 kj16 l1 t396 t399 t400 t401 (t401 != t405)) = some r := H
                have A78 := Aside0.mk A780
                clear A780
                have H' := Aside0.mk H
                clear H
                go_wp2_with (first | (go_at_call 21; (with_reducible refine (impl_IsRight.calls kj16 _ _ t396 t405 _ ?side1 ?side2 A78.out).mono ?_); (case side1 => exact cC (Kd.R_reads' HO398.out).2.2); (case side2 => exact (Kd.R_reads' HO398.out).2.1); rintro e w79 ⟨rfl, hb⟩; have n0_ := Aside0.mk (Kd.R_below (rA HO398) hb); have n1_ := Aside0.mk (below_step bq hb); clear HO398; clear HB; have HO398 := n0_; have HB := n1_; clear n0_ n1_; (try clear hb); (try clear hb2); (try clear hk); (try clear hi)))
                go_meet
                case rel => exact ⟨_, ((t401 != t405)), e2, H', ⟨by have := HJ7.out; have := HJ16.out; first | omega | exact Nat.le_refl _⟩, ⟨by (with_reducible repeat (first | apply Kd.R_alloc | apply Kd.R_drewN | apply Kd.R_drew)); exact HO398.out⟩, ⟨bq⟩⟩
               ·
                rw [if_neg c77] at H
                exact absurd (H.trans (congrArg some hrT)) (fun h_ => laws_FnRightTriples.j2_no h_)
              ·
               rw [if_neg c76] at H
               exact absurd (H.trans (congrArg some hrT)) (fun h_ => laws_FnRightTriples.j2_no h_)
           case rest =>
            as_aux_lemma =>
             clear HC70; (try clear c1); (try clear c2); (try clear p2); (try clear c5); (try clear c7); (try clear c18); (try clear c21); (try clear c52); (try clear c53); (try clear c54); (try clear c55); (try clear c75); (try clear c75b0); (try clear c75b1); (try clear c75b2); (try clear c76); (try clear c76b0); (try clear c76b1); (try clear c77); (try clear c77b0); (try clear c77b1); (try clear p2)
             obtain ⟨kq, x162_69, rfl, HA, HJ69, HO_16, HB⟩ := hcut
             cases kq with
             | zero => exact absurd HA.out (by simp [laws_FnRightTriples.j2])
             | succ kj69 =>
              have H := HA.out
              clear HA
              simp only [laws_FnRightTriples.j2] at H
              by_cases c80 : x162_69 = true
              ·
               subst c80
               have H1 : (some false) = some r := by rw [if_pos rfl] at H; exact H
               exact absurd (H1.trans (congrArg some hrT)) (by simp)
              ·
               as_aux_lemma =>
                replace c80 := Bool.eq_false_iff.mpr c80
                subst c80
                have H1 : (if t401 = true then ((impl_RightOfPair.f kj69 t399 t400).bind fun bt406 => (if bt406.2 = true then ((laws_vSame.f kj69 bt406.1 t396).bind fun t410 => (if t410 = true then (laws_FnRightTriples.j3 kj69 l1) else (some false))) else (some false))) else (laws_FnRightTriples.j3 kj69 l1)) = some r := by rw [if_neg (show ¬ (false = true) by decide)] at H; exact H
                clear H
                have H := H1
                clear H1
                have HC81 := Aside0.mk H
                clear H
                go_upto_if 163 with (fail)
                go_cut [] (fun wc => ∃ (kq : Nat), Aside0 (laws_FnRightTriples.j3 kq l1 = some r) ∧ Aside0 (kq ≤ kj69) ∧ Aside0 (Below w.heap.size w wc))
                case first =>
                 as_aux_lemma =>
                  have H := HC81.out
                  clear HC81
                  by_cases c82 : t401 = true
                  ·
                   subst c82
                   have H1 : ((impl_RightOfPair.f kj69 t399 t400).bind fun bt406 => (if bt406.2 = true then ((laws_vSame.f kj69 bt406.1 t396).bind fun t410 => (if t410 = true then (laws_FnRightTriples.j3 kj69 l1) else (some false))) else (some false))) = some r := by rw [if_pos rfl] at H; exact H
                   clear H
                   have H := H1
                   clear H1
                   replace H := Option.bind_eq_some_iff.mp H
                   obtain ⟨⟨t406, t407⟩, A830, H⟩ := H
                   replace H : (if t407 = true then ((laws_vSame.f kj69 t406 t396).bind fun t410 => (if t410 = true then (laws_FnRightTriples.j3 kj69 l1) else (some false))) else (some false)) = some r := H
                   have A83 := Aside0.mk A830
                   clear A830
                   by_cases c84 : t407 = true
                   ·
                    subst c84
                    have H1 : ((laws_vSame.f kj69 t406 t396).bind fun t410 => (if t410 = true then (laws_FnRightTriples.j3 kj69 l1) else (some false))) = some r := by rw [if_pos rfl] at H; exact H
                    clear H
                    have H := H1
                    clear H1
                    replace H := Option.bind_eq_some_iff.mp H
                    obtain ⟨t410, A850, H⟩ := H
                    replace H : (if t410 = true then (laws_FnRightTriples.j3 kj69 l1) else (some false)) = some r := H
                    have A85 := Aside0.mk A850
                    clear A850
                    by_cases c86 : t410 = true
                    ·
                     subst c86
                     have H1 : (laws_FnRightTriples.j3 kj69 l1) = some r := by rw [if_pos rfl] at H; exact H
                     clear H
                     have H := H1
                     clear H1
                     have H' := Aside0.mk H
                     clear H
                     go_wp2_with (first | ((with_reducible refine gate_callee (f := 50) rfl ?_); refine gL (some 167) rfl rfl Try.func50 (by kernel_rfl) rfl #[.int .i64 t399, .int .i64 t400] rfl ?_; (with_reducible refine (impl_RightOfPair.calls kj69 t399 t400 t406 true _ A83.out).mono ?_); rintro e w87 ⟨v408, rfl, ho0, hb⟩; refine ⟨_, rfl, ?_⟩; have n0_ := Aside0.mk (Kd.R_elder' (rA HO_16) (Kd.R_base ho0) hb); have n1_ := Aside0.mk (Kd.R_lower (Kd.R_new' ho0 (Kd.R_lt (rA HO_16))) (below_size bq)); have n2_ := Aside0.mk (below_step bq hb); clear HO_16; clear HB; have HO_16 := n0_; have HO409 := n1_; have HB := n2_; clear n0_ n1_ n2_; (try clear hb); (try clear hb2); (try clear hk); (try clear hi); (try clear ho0); obtain ⟨Ao88, co88, eo88⟩ := Kd.R_slice HO409.out; subst eo88) | (go_at_call 11; (with_reducible refine (laws_vSame.calls kj69 _ _ t406 _ _ t396 true _ ?side1 ?side2 ?side3 ?side4 A85.out).mono ?_); (case side1 => exact cC (Kd.R_reads' HO409.out).2.2); (case side2 => exact (Kd.R_reads' HO409.out).2.1); (case side3 => exact cC (Kd.R_reads' HO_16.out).2.2); (case side4 => exact (Kd.R_reads' HO_16.out).2.1); rintro e w' ⟨rfl, ⟨nd, rfl⟩⟩))
                     go_meet
                     case rel => exact ⟨_, H', ⟨by have := HJ7.out; have := HJ16.out; have := HJ69.out; first | omega | exact Nat.le_refl _⟩, ⟨bq⟩⟩
                    ·
                     replace c86 := Bool.eq_false_iff.mpr c86
                     subst c86
                     have H1 : (some false) = some r := by rw [if_neg (show ¬ (false = true) by decide)] at H; exact H
                     exact absurd (H1.trans (congrArg some hrT)) (by simp)
                   ·
                    replace c84 := Bool.eq_false_iff.mpr c84
                    subst c84
                    have H1 : (some false) = some r := by rw [if_neg (show ¬ (false = true) by decide)] at H; exact H
                    exact absurd (H1.trans (congrArg some hrT)) (by simp)
                  ·
                   replace c82 := Bool.eq_false_iff.mpr c82
                   subst c82
                   have H1 : (laws_FnRightTriples.j3 kj69 l1) = some r := by rw [if_neg (show ¬ (false = true) by decide)] at H; exact H
                   clear H
                   have H := H1
                   clear H1
                   have H' := Aside0.mk H
                   clear H
                   go_wp2
                   go_meet
                   case rel => exact ⟨_, H', ⟨by have := HJ7.out; have := HJ16.out; have := HJ69.out; first | omega | exact Nat.le_refl _⟩, ⟨bq⟩⟩
                case rest =>
                 as_aux_lemma =>
                  clear HC81; (try clear c1); (try clear c2); (try clear p2); (try clear c5); (try clear c7); (try clear c8); (try clear c18); (try clear c21); (try clear c50); (try clear c52); (try clear c53); (try clear c54); (try clear c55); (try clear c75); (try clear c75b0); (try clear c75b1); (try clear c75b2); (try clear c76); (try clear c76b0); (try clear c76b1); (try clear c77); (try clear c77b0); (try clear c77b1); (try clear c80); (try clear c82); (try clear c84); (try clear c86); (try clear p2)
                  obtain ⟨kq, HA, HJ80, HB⟩ := hcut
                  cases kq with
                  | zero => exact absurd HA.out (by simp [laws_FnRightTriples.j3])
                  | succ kj80 =>
                   have H := HA.out
                   clear HA
                   simp only [laws_FnRightTriples.j3] at H
                   replace H := Option.bind_eq_some_iff.mp H
                   obtain ⟨t411, A920, H⟩ := H
                   replace H : ((impl_RightUpTo.f kj80 t411).bind fun bt412 => ((spec_RightUpTo.f kj80 t411).bind fun bt416 => ((impl_CountRight.f kj80 t411).bind fun bt420 => (if (bt412.2 != bt416.2) = true then (laws_FnRightTriples.j4 kj80 t411 bt412.1 true) else ((laws_vSameLists.f kj80 bt412.1 bt416.1).bind fun t422 => (if t422 = true then (if (bt420.2 != bt412.2) = true then (laws_FnRightTriples.j4 kj80 t411 bt412.1 true) else (laws_FnRightTriples.j4 kj80 t411 bt412.1 (bt420.1 != (bt412.1.length : Int)))) else (laws_FnRightTriples.j4 kj80 t411 bt412.1 true))))))) = some r := H
                   have A92 := Aside0.mk A920
                   clear A920
                   replace H := Option.bind_eq_some_iff.mp H
                   obtain ⟨⟨t412, t413⟩, A930, H⟩ := H
                   replace H : ((spec_RightUpTo.f kj80 t411).bind fun bt416 => ((impl_CountRight.f kj80 t411).bind fun bt420 => (if (t413 != bt416.2) = true then (laws_FnRightTriples.j4 kj80 t411 t412 true) else ((laws_vSameLists.f kj80 t412 bt416.1).bind fun t422 => (if t422 = true then (if (bt420.2 != t413) = true then (laws_FnRightTriples.j4 kj80 t411 t412 true) else (laws_FnRightTriples.j4 kj80 t411 t412 (bt420.1 != (t412.length : Int)))) else (laws_FnRightTriples.j4 kj80 t411 t412 true)))))) = some r := H
                   have A93 := Aside0.mk A930
                   clear A930
                   replace H := Option.bind_eq_some_iff.mp H
                   obtain ⟨⟨t416, t419⟩, A940, H⟩ := H
                   replace H : ((impl_CountRight.f kj80 t411).bind fun bt420 => (if (t413 != t419) = true then (laws_FnRightTriples.j4 kj80 t411 t412 true) else ((laws_vSameLists.f kj80 t412 t416).bind fun t422 => (if t422 = true then (if (bt420.2 != t413) = true then (laws_FnRightTriples.j4 kj80 t411 t412 true) else (laws_FnRightTriples.j4 kj80 t411 t412 (bt420.1 != (t412.length : Int)))) else (laws_FnRightTriples.j4 kj80 t411 t412 true))))) = some r := H
                   have A94 := Aside0.mk A940
                   clear A940
                   replace H := Option.bind_eq_some_iff.mp H
                   obtain ⟨⟨t420, t421⟩, A950, H⟩ := H
                   replace H : (if (t413 != t419) = true then (laws_FnRightTriples.j4 kj80 t411 t412 true) else ((laws_vSameLists.f kj80 t412 t416).bind fun t422 => (if t422 = true then (if (t421 != t413) = true then (laws_FnRightTriples.j4 kj80 t411 t412 true) else (laws_FnRightTriples.j4 kj80 t411 t412 (t420 != (t412.length : Int)))) else (laws_FnRightTriples.j4 kj80 t411 t412 true)))) = some r := H
                   have A95 := Aside0.mk A950
                   clear A950
                   have HC96 := Aside0.mk H
                   clear H
                   go_upto_region 26 with (first | ((with_reducible refine gate_callee (f := 56) rfl ?_); refine gL (some 179) rfl rfl Try.func56 (by kernel_rfl) rfl #[.slice A1 l1.length c1] rfl ?_; (with_reducible refine (spec_DrawRightUpTo.calls _ _ l1 t411 _ ?side1 ?side2 A92.out).mono ?_); (case side1 => exact cC (Kd.C_below HR1.out HB.out)); (case side2 => exact HC1.out); rintro e w97 ⟨rfl, hb⟩; refine ⟨_, rfl, ?_⟩; have n0_ := Aside0.mk (below_step bq hb); clear HB; have HB := n0_; clear n0_; (try clear hb); (try clear hb2); (try clear hk); (try clear hi)) | ((with_reducible refine gate_callee (f := 57) rfl ?_); refine gL (some 182) rfl rfl Try.func57 (by kernel_rfl) rfl #[.int .i64 t411] rfl ?_; (with_reducible refine (impl_RightUpTo.calls kj80 t411 t412 t413 _ A93.out).mono ?_); rintro e w98 ⟨v414, rfl, ho0, hb⟩; refine ⟨_, rfl, ?_⟩; have n0_ := Aside0.mk (Kd.N_lower (Kd.N_mono (ok' := fun k_ => True) (Kd.S_N (Kd.S_bound ho0)) (fun k_ hk_ => trivial)) (below_size bq)); have n1_ := Aside0.mk (below_step bq hb); clear HB; have HO415 := n0_; have HB := n1_; clear n0_ n1_; (try clear hb); (try clear hb2); (try clear hk); (try clear hi); (try clear ho0)) | ((with_reducible refine gate_callee (f := 58) rfl ?_); refine gL (some 187) rfl rfl Try.func58 (by kernel_rfl) rfl #[.int .i64 t411] rfl ?_; (with_reducible refine (spec_RightUpTo.calls kj80 t411 t416 t419 _ A94.out).mono ?_); rintro e w99 ⟨v417, rfl, ho0, hb⟩; refine ⟨_, rfl, ?_⟩; have n0_ := Aside0.mk (Kd.N_elder' (nA HO415) (Kd.N_base ho0) hb); have n1_ := Aside0.mk (Kd.N_lower (Kd.N_mono (ok' := fun k_ => some k_ ≠ (v414 : Value).ownBlock) ho0 (fun k_ hk_ => (Kd.fresh' (Kd.N_lt (nA HO415)) k_ hk_))) (below_size bq)); have n2_ := Aside0.mk (below_step bq hb); clear HO415; clear HB; have HO415 := n0_; have HO418 := n1_; have HB := n2_; clear n0_ n1_ n2_; (try clear hb); (try clear hb2); (try clear hk); (try clear hi); (try clear ho0)) | ((with_reducible refine gate_callee (f := 59) rfl ?_); refine gL (some 192) rfl rfl Try.func59 (by kernel_rfl) rfl #[.int .i64 t411] rfl ?_; (with_reducible refine (impl_CountRight.calls kj80 t411 t420 t421 _ A95.out).mono ?_); rintro e w100 ⟨rfl, hb⟩; refine ⟨_, rfl, ?_⟩; have n0_ := Aside0.mk (Kd.N_below (nA HO415) hb); have n1_ := Aside0.mk (Kd.N_below (nA HO418) hb); have n2_ := Aside0.mk (below_step bq hb); clear HO415; clear HO418; clear HB; have HO415 := n0_; have HO418 := n1_; have HB := n2_; clear n0_ n1_ n2_; (try clear hb); (try clear hb2); (try clear hk); (try clear hi)))
                   (try simp only [Act.put, List.setIfInBounds_toArray, List.set_cons_zero, List.set_cons_succ])
                   go_cut [214] (fun v214 wc => ∃ (kq : Nat) (x214_95 : Bool), v214 = .bool x214_95 ∧ Aside0 (laws_FnRightTriples.j4 kq t411 t412 x214_95 = some r) ∧ Aside0 (kq ≤ kj80) ∧ Aside0 (Kd.N (Kd.slice 3 (Kd.int .i64)) 24 wc w.heap.size (fun _ => True) v414 t412) ∧ Aside0 (Below w.heap.size w wc))
                   case first =>
                    as_aux_lemma =>
                     have H := HC96.out
                     clear HC96
                     by_cases c101 : (t413 != t419) = true
                     ·
                      rw [if_pos c101] at H
                      exact absurd (H.trans (congrArg some hrT)) (fun h_ => laws_FnRightTriples.j4_no h_)
                     ·
                      rw [if_neg c101] at H
                      have c101b0 : (t413 != t419) = false := by simpa using c101
                      (try (have c101b1 : decide (t413 = t419) = true := by simpa using c101))
                      (try (have c101b2 : (t413 == t419) = true := by simpa using c101))
                      clear c101
                      (first | rw [c101b0] | (simp only [i64_w, i32_w]; rw [c101b0]) | skip)
                      replace H := Option.bind_eq_some_iff.mp H
                      obtain ⟨t422, A1020, H⟩ := H
                      replace H : (if t422 = true then (if (t421 != t413) = true then (laws_FnRightTriples.j4 kj80 t411 t412 true) else (laws_FnRightTriples.j4 kj80 t411 t412 (t420 != (t412.length : Int)))) else (laws_FnRightTriples.j4 kj80 t411 t412 true)) = some r := H
                      have A102 := Aside0.mk A1020
                      clear A1020
                      by_cases c103 : t422 = true
                      ·
                       subst c103
                       have H1 : (if (t421 != t413) = true then (laws_FnRightTriples.j4 kj80 t411 t412 true) else (laws_FnRightTriples.j4 kj80 t411 t412 (t420 != (t412.length : Int)))) = some r := by rw [if_pos rfl] at H; exact H
                       clear H
                       have H := H1
                       clear H1
                       by_cases c104 : (t421 != t413) = true
                       ·
                        rw [if_pos c104] at H
                        exact absurd (H.trans (congrArg some hrT)) (fun h_ => laws_FnRightTriples.j4_no h_)
                       ·
                        rw [if_neg c104] at H
                        have c104b0 : (t421 != t413) = false := by simpa using c104
                        (try (have c104b1 : decide (t421 = t413) = true := by simpa using c104))
                        (try (have c104b2 : (t421 == t413) = true := by simpa using c104))
                        clear c104
                        have H' := Aside0.mk H
                        clear H
                        obtain ⟨Ao107, co107, eo107⟩ := Kd.N_slice HO415.out
                        subst eo107
                        obtain ⟨Ao108, co108, eo108⟩ := Kd.N_slice HO418.out
                        subst eo108
                        go_wp2_with (first | (go_at_call 15; (with_reducible refine (laws_vSameLists.calls kj80 _ _ t412 _ _ t416 true _ ?side1 ?side2 ?side3 ?side4 A102.out).mono ?_); (case side1 => exact cC (Kd.N_reads' HO415.out).2.2); (case side2 => exact (Kd.N_reads' HO415.out).2.1); (case side3 => exact cC (Kd.N_reads' HO418.out).2.2); (case side4 => exact (Kd.N_reads' HO418.out).2.1); rintro e w' ⟨rfl, ⟨nd, rfl⟩⟩))
                        go_meet
                        case rel => exact ⟨_, ((t420 != (t412.length : Int))), e2, H', ⟨by have := HJ7.out; have := HJ16.out; have := HJ69.out; have := HJ80.out; first | omega | exact Nat.le_refl _⟩, ⟨by (with_reducible repeat (first | apply Kd.N_alloc | apply Kd.N_drewN | apply Kd.N_drew)); exact Kd.N_mono HO415.out (fun _ hk => trivial)⟩, ⟨bq⟩⟩
                      ·
                       replace c103 := Bool.eq_false_iff.mpr c103
                       subst c103
                       have H1 : (laws_FnRightTriples.j4 kj80 t411 t412 true) = some r := by rw [if_neg (show ¬ (false = true) by decide)] at H; exact H
                       exact absurd (H1.trans (congrArg some hrT)) (fun h_ => laws_FnRightTriples.j4_no h_)
                   case rest =>
                    as_aux_lemma =>
                     clear HC96; (try clear c1); (try clear c2); (try clear p2); (try clear c5); (try clear c7); (try clear c8); (try clear c10); (try clear c18); (try clear c21); (try clear c50); (try clear c52); (try clear c53); (try clear c54); (try clear c55); (try clear c56); (try clear c57); (try clear c58); (try clear c59); (try clear c75); (try clear c75b0); (try clear c75b1); (try clear c75b2); (try clear c76); (try clear c76b0); (try clear c76b1); (try clear c77); (try clear c77b0); (try clear c77b1); (try clear c80); (try clear c82); (try clear c84); (try clear c86); (try clear c101); (try clear c101b0); (try clear c101b1); (try clear c101b2); (try clear c103); (try clear c104); (try clear c104b0); (try clear c104b1); (try clear c104b2); (try clear p2)
                     obtain ⟨kq, x214_95, rfl, HA, HJ95, HO_26, HB⟩ := hcut
                     cases kq with
                     | zero => exact absurd HA.out (by simp [laws_FnRightTriples.j4])
                     | succ kj95 =>
                      have H := HA.out
                      clear HA
                      simp only [laws_FnRightTriples.j4] at H
                      by_cases c111 : x214_95 = true
                      ·
                       subst c111
                       have H1 : (some false) = some r := by rw [if_pos rfl] at H; exact H
                       exact absurd (H1.trans (congrArg some hrT)) (by simp)
                      ·
                       as_aux_lemma =>
                        replace c111 := Bool.eq_false_iff.mpr c111
                        subst c111
                        have H1 : (laws_FnRightTriples.l0 kj95 t411 t412 t412 (t412.length : Int) 0) = some r := by rw [if_neg (show ¬ (false = true) by decide)] at H; exact H
                        clear H
                        have H := H1
                        clear H1
                        have H' := Aside0.mk H
                        clear H
                        obtain ⟨Ao112, co112, eo112⟩ := Kd.N_slice HO_26.out
                        subst eo112
                        go_wp2
                        go_loopg [217] kj95 (fun kq v217 w' => ∃ (x217_6 : Int), v217 = .int .i64 x217_6 ∧ Aside0 (laws_FnRightTriples.l0 kq t411 t412 t412 (t412.length : Int) x217_6 = some r) ∧ Aside0 (kq ≤ kj95) ∧ Aside0 (Kd.N (Kd.slice 3 (Kd.int .i64)) 24 w' w.heap.size (fun _ => True) (.slice Ao112 t412.length co112) t412) ∧ Aside0 (Kd.N (Kd.slice 3 (Kd.int .i64)) 24 w' w.heap.size (fun _ => True) (.slice Ao112 t412.length co112) t412) ∧ Aside0 (Below w.heap.size w w'))
                        case atStart => exact ⟨(0), e2, H', ⟨Nat.le_refl _⟩, ⟨by (with_reducible repeat (first | apply Kd.N_alloc | apply Kd.N_drewN | apply Kd.N_drew)); exact HO_26.out⟩, ⟨by (with_reducible repeat (first | apply Kd.N_alloc | apply Kd.N_drewN | apply Kd.N_drew)); exact HO_26.out⟩, ⟨bq⟩⟩
                        case round =>
                         as_aux_lemma =>
                          clear H'; (try clear c1); (try clear c2); (try clear p2); (try clear c5); (try clear c7); (try clear c8); (try clear c10); (try clear c11); (try clear c18); (try clear c21); (try clear c50); (try clear c52); (try clear c53); (try clear c54); (try clear c55); (try clear c56); (try clear c57); (try clear c58); (try clear c59); (try clear c75); (try clear c75b0); (try clear c75b1); (try clear c75b2); (try clear c76); (try clear c76b0); (try clear c76b1); (try clear c77); (try clear c77b0); (try clear c77b1); (try clear c80); (try clear c82); (try clear c84); (try clear c86); (try clear c101); (try clear c101b0); (try clear c101b1); (try clear c101b2); (try clear c103); (try clear c104); (try clear c104b0); (try clear c104b1); (try clear c104b2); (try clear c111); (try clear p2)
                          obtain ⟨x217_6, rfl, HA, HK6, HO_26, HO_215, HB⟩ := hrel
                          cases gk with
                          | zero => exact absurd HA.out (by simp [laws_FnRightTriples.l0])
                          | succ k6 =>
                           have H := HA.out
                           clear HA
                           simp only [laws_FnRightTriples.l0] at H
                           by_cases c113 : x217_6 < (t412.length : Int)
                           ·
                            as_aux_lemma =>
                             rw [if_pos c113] at H
                             have c113b0 : decide (x217_6 < (t412.length : Int)) = true := decide_eq_true c113
                             clear c113
                             by_cases c114 : 0 ≤ x217_6
                             ·
                              as_aux_lemma =>
                               rw [if_pos c114] at H
                               have c114b0 : decide (0 ≤ x217_6) = true := decide_eq_true c114
                               clear c114
                               by_cases c115 : x217_6 < (t412.length : Int)
                               ·
                                as_aux_lemma =>
                                 rw [if_pos c115] at H
                                 have c115b0 : decide (x217_6 < (t412.length : Int)) = true := decide_eq_true c115
                                 clear c115
                                 replace H := Option.bind_eq_some_iff.mp H
                                 obtain ⟨t424, A1160, H⟩ := H
                                 replace H : (if t424 = true then (if 2 < ((rd_L2 t412 x217_6).length : Int) then (if (rd (rd_L2 t412 x217_6) 2) > t411 then (some false) else (if x217_6 > 0 then (if 0 ≤ (wrap64 (x217_6 - 1)) then (if (wrap64 (x217_6 - 1)) < (t412.length : Int) then (if 2 < ((rd_L2 t412 (wrap64 (x217_6 - 1))).length : Int) then (if (rd (rd_L2 t412 (wrap64 (x217_6 - 1))) 2) > (rd (rd_L2 t412 x217_6) 2) then (some false) else (if (rd (rd_L2 t412 (wrap64 (x217_6 - 1))) 2) = (rd (rd_L2 t412 x217_6) 2) then (if 0 < ((rd_L2 t412 (wrap64 (x217_6 - 1))).length : Int) then (if 0 < ((rd_L2 t412 x217_6).length : Int) then (if (rd (rd_L2 t412 (wrap64 (x217_6 - 1))) 0) ≥ (rd (rd_L2 t412 x217_6) 0) then (some false) else (laws_FnRightTriples.l0 k6 t411 t412 t412 (t412.length : Int) (wrap64 (x217_6 + 1)))) else (none)) else (none)) else (laws_FnRightTriples.l0 k6 t411 t412 t412 (t412.length : Int) (wrap64 (x217_6 + 1))))) else (none)) else (none)) else (none)) else (laws_FnRightTriples.l0 k6 t411 t412 t412 (t412.length : Int) (wrap64 (x217_6 + 1))))) else (none)) else (some false)) = some r := H
                                 have A116 := Aside0.mk A1160
                                 clear A1160
                                 by_cases c117 : t424 = true
                                 ·
                                  as_aux_lemma =>
                                   subst c117
                                   have H1 : (if 2 < ((rd_L2 t412 x217_6).length : Int) then (if (rd (rd_L2 t412 x217_6) 2) > t411 then (some false) else (if x217_6 > 0 then (if 0 ≤ (wrap64 (x217_6 - 1)) then (if (wrap64 (x217_6 - 1)) < (t412.length : Int) then (if 2 < ((rd_L2 t412 (wrap64 (x217_6 - 1))).length : Int) then (if (rd (rd_L2 t412 (wrap64 (x217_6 - 1))) 2) > (rd (rd_L2 t412 x217_6) 2) then (some false) else (if (rd (rd_L2 t412 (wrap64 (x217_6 - 1))) 2) = (rd (rd_L2 t412 x217_6) 2) then (if 0 < ((rd_L2 t412 (wrap64 (x217_6 - 1))).length : Int) then (if 0 < ((rd_L2 t412 x217_6).length : Int) then (if (rd (rd_L2 t412 (wrap64 (x217_6 - 1))) 0) ≥ (rd (rd_L2 t412 x217_6) 0) then (some false) else (laws_FnRightTriples.l0 k6 t411 t412 t412 (t412.length : Int) (wrap64 (x217_6 + 1)))) else (none)) else (none)) else (laws_FnRightTriples.l0 k6 t411 t412 t412 (t412.length : Int) (wrap64 (x217_6 + 1))))) else (none)) else (none)) else (none)) else (laws_FnRightTriples.l0 k6 t411 t412 t412 (t412.length : Int) (wrap64 (x217_6 + 1))))) else (none)) = some r := by rw [if_pos rfl] at H; exact H
                                   clear H
                                   have H := H1
                                   clear H1
                                   by_cases c118 : 2 < ((rd_L2 t412 x217_6).length : Int)
                                   ·
                                    as_aux_lemma =>
                                     rw [if_pos c118] at H
                                     have c118b0 : decide (2 < ((rd_L2 t412 x217_6).length : Int)) = true := decide_eq_true c118
                                     have c118b1 : decide (2 < (rd_L2 t412 x217_6).length) = true := decide_eq_true (by omega)
                                     clear c118
                                     by_cases c119 : (rd (rd_L2 t412 x217_6) 2) > t411
                                     ·
                                      rw [if_pos c119] at H
                                      exact absurd (H.trans (congrArg some hrT)) (by simp)
                                     ·
                                      as_aux_lemma =>
                                       rw [if_neg c119] at H
                                       have c119b0 : decide (t411 < (rd (rd_L2 t412 x217_6) 2)) = false := decide_eq_false c119
                                       clear c119
                                       by_cases c122 : x217_6 > 0
                                       ·
                                        as_aux_lemma =>
                                         rw [if_pos c122] at H
                                         have c122b0 : decide (0 < x217_6) = true := decide_eq_true c122
                                         clear c122
                                         obtain ⟨ji123, hji123⟩ : ∃ j_ : Int, (wrap64 (x217_6 - 1)) = j_ := ⟨_, rfl⟩
                                         replace H : (if 0 ≤ (ji123) then (if (ji123) < (t412.length : Int) then (if 2 < ((rd_L2 t412 (ji123)).length : Int) then (if (rd (rd_L2 t412 (ji123)) 2) > (rd (rd_L2 t412 x217_6) 2) then (some false) else (if (rd (rd_L2 t412 (ji123)) 2) = (rd (rd_L2 t412 x217_6) 2) then (if 0 < ((rd_L2 t412 (ji123)).length : Int) then (if 0 < ((rd_L2 t412 x217_6).length : Int) then (if (rd (rd_L2 t412 (ji123)) 0) ≥ (rd (rd_L2 t412 x217_6) 0) then (some false) else (laws_FnRightTriples.l0 k6 t411 t412 t412 (t412.length : Int) (wrap64 (x217_6 + 1)))) else (none)) else (none)) else (laws_FnRightTriples.l0 k6 t411 t412 t412 (t412.length : Int) (wrap64 (x217_6 + 1))))) else (none)) else (none)) else (none)) = some r := by first | (rw [hji123] at H; exact H) | (simp only [hji123] at H ⊢; exact H)
                                         (try rw [hji123] at A116)
                                         have hji123w : (IntKind.i64.wrap (x217_6 - 1)) = ji123 := (i64_w _).trans hji123
                                         by_cases c124 : 0 ≤ (ji123)
                                         ·
                                          as_aux_lemma =>
                                           rw [if_pos c124] at H
                                           have c124b0 : decide (0 ≤ (ji123)) = true := decide_eq_true c124
                                           clear c124
                                           by_cases c125 : (ji123) < (t412.length : Int)
                                           ·
                                            as_aux_lemma =>
                                             rw [if_pos c125] at H
                                             have c125b0 : decide ((ji123) < (t412.length : Int)) = true := decide_eq_true c125
                                             clear c125
                                             by_cases c126 : 2 < ((rd_L2 t412 (ji123)).length : Int)
                                             ·
                                              as_aux_lemma =>
                                               rw [if_pos c126] at H
                                               have c126b0 : decide (2 < ((rd_L2 t412 (ji123)).length : Int)) = true := decide_eq_true c126
                                               have c126b1 : decide (2 < (rd_L2 t412 (ji123)).length) = true := decide_eq_true (by omega)
                                               clear c126
                                               by_cases c127 : (rd (rd_L2 t412 (ji123)) 2) > (rd (rd_L2 t412 x217_6) 2)
                                               ·
                                                rw [if_pos c127] at H
                                                exact absurd (H.trans (congrArg some hrT)) (by simp)
                                               ·
                                                as_aux_lemma =>
                                                 rw [if_neg c127] at H
                                                 have c127b0 : decide ((rd (rd_L2 t412 x217_6) 2) < (rd (rd_L2 t412 (ji123)) 2)) = false := decide_eq_false c127
                                                 clear c127
                                                 by_cases c130 : (rd (rd_L2 t412 (ji123)) 2) = (rd (rd_L2 t412 x217_6) 2)
                                                 ·
                                                  as_aux_lemma =>
                                                   rw [if_pos c130] at H
                                                   have c130b0 : ((rd (rd_L2 t412 (ji123)) 2) == (rd (rd_L2 t412 x217_6) 2)) = true := beq_iff_eq.mpr c130
                                                   have c130b1 : ((rd (rd_L2 t412 (ji123)) 2) != (rd (rd_L2 t412 x217_6) 2)) = false := bne_eq_false_iff_eq.mpr c130
                                                   clear c130
                                                   by_cases c131 : 0 < ((rd_L2 t412 (ji123)).length : Int)
                                                   ·
                                                    as_aux_lemma =>
                                                     rw [if_pos c131] at H
                                                     have c131b0 : decide (0 < ((rd_L2 t412 (ji123)).length : Int)) = true := decide_eq_true c131
                                                     have c131b1 : decide (0 < (rd_L2 t412 (ji123)).length) = true := decide_eq_true (by omega)
                                                     clear c131
                                                     by_cases c132 : 0 < ((rd_L2 t412 x217_6).length : Int)
                                                     ·
                                                      as_aux_lemma =>
                                                       rw [if_pos c132] at H
                                                       have c132b0 : decide (0 < ((rd_L2 t412 x217_6).length : Int)) = true := decide_eq_true c132
                                                       have c132b1 : decide (0 < (rd_L2 t412 x217_6).length) = true := decide_eq_true (by omega)
                                                       clear c132
                                                       by_cases c133 : (rd (rd_L2 t412 (ji123)) 0) ≥ (rd (rd_L2 t412 x217_6) 0)
                                                       ·
                                                        rw [if_pos c133] at H
                                                        exact absurd (H.trans (congrArg some hrT)) (by simp)
                                                       ·
                                                        as_aux_lemma =>
                                                         rw [if_neg c133] at H
                                                         have c133b0 : decide ((rd (rd_L2 t412 x217_6) 0) ≤ (rd (rd_L2 t412 (ji123)) 0)) = false := decide_eq_false c133
                                                         clear c133
                                                         have H' := Aside0.mk H
                                                         clear H
                                                         have p423 : 0 ≤ (x217_6 : Int) := od
                                                         have q423 : x217_6 < (t412.length : Int) := od
                                                         obtain ⟨ad423, A423_0, c423_0, e423, hx423_0, hl423_0, hi423_0⟩ := at_L2 (Kd.N_reads' HO_215.out).2.2 x217_6 p423 q423
                                                         cases e423
                                                         obtain ⟨ce423, hce423, hMe423, hcc423⟩ := Kd.N_get HO_215.out [] x217_6 p423 (by first | exact q423 | exact od | (have e_ := (Kd.N_reads' HO_215.out).1; omega))
                                                         obtain ⟨ua423_0, uc423_0, rfl, ul423_0, ge423_0⟩ := Kd.FK_slice_open hMe423
                                                         have hv423_0 := hcc423 0 _ rfl
                                                         rw [Nat.add_zero, show ((Kd.slice 3 (Kd.int .i64))).sz = 1 from rfl, Nat.mul_one] at hv423_0
                                                         replace hv423_0 := Option.some.inj (hv423_0.symm.trans hx423_0)
                                                         injection hv423_0 with hva_ hvn_ hvc_
                                                         rw [hva_] at ge423_0
                                                         rw [hvc_] at ul423_0
                                                         have HL423_0 := Aside0.mk (show Kd.V (Kd.int .i64) 3 _ w.heap.size _ _ (rd_L2 t412 x217_6) from Kd.V_mk ul423_0 ge423_0)
                                                         clear hva_ hvn_ hvc_ ge423_0 ul423_0
                                                         clear hcc423 hce423
                                                         have HR423_0 := Aside0.mk hi423_0
                                                         have HC423_0 := Aside0.mk hl423_0
                                                         clear hi423_0 hl423_0
                                                         replace p423 := eq_true p423
                                                         replace q423 := eq_true q423
                                                         try go_wp2
                                                         have n0_ := Aside0.mk (Kd.N_drew HO_26.out)
                                                         have n1_ := Aside0.mk (Kd.N_drew HO_215.out)
                                                         have n2_ := Aside0.mk (Kd.V_drew HL423_0.out)
                                                         have n3_ := Aside0.mk (Kd.C_drew HR423_0.out)
                                                         have n4_ := Aside0.mk (below_drew1 HB.out)
                                                         clear HO_26; clear HO_215; clear HL423_0; clear HR423_0; clear HB
                                                         have HO_26 := n0_
                                                         have HO_215 := n1_
                                                         have HL423_0 := n2_
                                                         have HR423_0 := n3_
                                                         have HB := n4_
                                                         clear n0_ n1_ n2_ n3_ n4_
                                                         have p426 : 0 ≤ ((ji123) : Int) := od
                                                         have q426 : (ji123) < (t412.length : Int) := od
                                                         obtain ⟨ad426, A426_0, c426_0, e426, hx426_0, hl426_0, hi426_0⟩ := at_L2 (Kd.N_reads' HO_26.out).2.2 (ji123) p426 q426
                                                         obtain rfl : ad423 = ad426 := (by injection e426)
                                                         obtain ⟨ce426, hce426, hMe426, hcc426⟩ := Kd.N_get HO_26.out [] (ji123) p426 (by first | exact q426 | exact od | (have e_ := (Kd.N_reads' HO_26.out).1; omega))
                                                         obtain ⟨ua426_0, uc426_0, rfl, ul426_0, ge426_0⟩ := Kd.FK_slice_open hMe426
                                                         have hv426_0 := hcc426 0 _ rfl
                                                         rw [Nat.add_zero, show ((Kd.slice 3 (Kd.int .i64))).sz = 1 from rfl, Nat.mul_one] at hv426_0
                                                         replace hv426_0 := Option.some.inj (hv426_0.symm.trans hx426_0)
                                                         injection hv426_0 with hva_ hvn_ hvc_
                                                         rw [hva_] at ge426_0
                                                         rw [hvc_] at ul426_0
                                                         have HL426_0 := Aside0.mk (show Kd.V (Kd.int .i64) 3 _ w.heap.size _ _ (rd_L2 t412 (ji123)) from Kd.V_mk ul426_0 ge426_0)
                                                         clear hva_ hvn_ hvc_ ge426_0 ul426_0
                                                         clear hcc426 hce426
                                                         have HR426_0 := Aside0.mk hi426_0
                                                         have HC426_0 := Aside0.mk hl426_0
                                                         clear hi426_0 hl426_0
                                                         replace p426 := eq_true p426
                                                         replace q426 := eq_true q426
                                                         have p429 : 0 ≤ ((ji123) : Int) := od
                                                         have q429 : (ji123) < (t412.length : Int) := od
                                                         obtain ⟨ad429, A429_0, c429_0, e429, hx429_0, hl429_0, hi429_0⟩ := at_L2 (Kd.N_reads' HO_26.out).2.2 (ji123) p429 q429
                                                         obtain rfl : ad423 = ad429 := (by injection e429)
                                                         obtain ⟨ce429, hce429, hMe429, hcc429⟩ := Kd.N_get HO_26.out [] (ji123) p429 (by first | exact q429 | exact od | (have e_ := (Kd.N_reads' HO_26.out).1; omega))
                                                         obtain ⟨ua429_0, uc429_0, rfl, ul429_0, ge429_0⟩ := Kd.FK_slice_open hMe429
                                                         have hv429_0 := hcc429 0 _ rfl
                                                         rw [Nat.add_zero, show ((Kd.slice 3 (Kd.int .i64))).sz = 1 from rfl, Nat.mul_one] at hv429_0
                                                         replace hv429_0 := Option.some.inj (hv429_0.symm.trans hx429_0)
                                                         injection hv429_0 with hva_ hvn_ hvc_
                                                         rw [hva_] at ge429_0
                                                         rw [hvc_] at ul429_0
                                                         have HL429_0 := Aside0.mk (show Kd.V (Kd.int .i64) 3 _ w.heap.size _ _ (rd_L2 t412 (ji123)) from Kd.V_mk ul429_0 ge429_0)
                                                         clear hva_ hvn_ hvc_ ge429_0 ul429_0
                                                         clear hcc429 hce429
                                                         have HR429_0 := Aside0.mk hi429_0
                                                         have HC429_0 := Aside0.mk hl429_0
                                                         clear hi429_0 hl429_0
                                                         replace p429 := eq_true p429
                                                         replace q429 := eq_true q429
                                                         have ea_ := Option.some.inj (hx426_0.symm.trans hx429_0)
                                                         injection ea_ with ea_ en_ ec_
                                                         subst ea_
                                                         subst ec_
                                                         clear en_
                                                         have p432 : 0 ≤ ((ji123) : Int) := od
                                                         have q432 : (ji123) < (t412.length : Int) := od
                                                         obtain ⟨ad432, A432_0, c432_0, e432, hx432_0, hl432_0, hi432_0⟩ := at_L2 (Kd.N_reads' HO_26.out).2.2 (ji123) p432 q432
                                                         obtain rfl : ad423 = ad432 := (by injection e432)
                                                         obtain ⟨ce432, hce432, hMe432, hcc432⟩ := Kd.N_get HO_26.out [] (ji123) p432 (by first | exact q432 | exact od | (have e_ := (Kd.N_reads' HO_26.out).1; omega))
                                                         obtain ⟨ua432_0, uc432_0, rfl, ul432_0, ge432_0⟩ := Kd.FK_slice_open hMe432
                                                         have hv432_0 := hcc432 0 _ rfl
                                                         rw [Nat.add_zero, show ((Kd.slice 3 (Kd.int .i64))).sz = 1 from rfl, Nat.mul_one] at hv432_0
                                                         replace hv432_0 := Option.some.inj (hv432_0.symm.trans hx432_0)
                                                         injection hv432_0 with hva_ hvn_ hvc_
                                                         rw [hva_] at ge432_0
                                                         rw [hvc_] at ul432_0
                                                         have HL432_0 := Aside0.mk (show Kd.V (Kd.int .i64) 3 _ w.heap.size _ _ (rd_L2 t412 (ji123)) from Kd.V_mk ul432_0 ge432_0)
                                                         clear hva_ hvn_ hvc_ ge432_0 ul432_0
                                                         clear hcc432 hce432
                                                         have HR432_0 := Aside0.mk hi432_0
                                                         have HC432_0 := Aside0.mk hl432_0
                                                         clear hi432_0 hl432_0
                                                         replace p432 := eq_true p432
                                                         replace q432 := eq_true q432
                                                         have ea_ := Option.some.inj (hx426_0.symm.trans hx432_0)
                                                         injection ea_ with ea_ en_ ec_
                                                         subst ea_
                                                         subst ec_
                                                         clear en_
                                                         have p425 : 0 ≤ (2 : Int) := (by omega)
                                                         have q425 : 2 < ((rd_L2 t412 x217_6).length : Int) := od
                                                         obtain ⟨ad425, e425, hx425_0⟩ := Kd.at_int (by repeat (first | (with_reducible exact HR423_0.out) | (with_reducible refine Kd.C_alloc ?_ _) | (with_reducible refine Kd.C_drewN ?_ _) | (with_reducible refine Kd.C_drew ?_) | exact HR423_0.out)) 2 p425 q425
                                                         cases e425
                                                         (try simp only [show (2 : Int).toNat = 2 from rfl, Nat.reduceMul, Nat.reduceEqDiff, Go.Addr.add, ↓reduceIte] at hx425_0)
                                                         have qi425 : (2 < (rd_L2 t412 x217_6).length) = True := eq_true (by omega)
                                                         (try rw [show ((2 : Int)).toNat = 2 from rfl] at hx425_0)
                                                         replace p425 := eq_true p425
                                                         replace q425 := eq_true q425
                                                         have p427 : 0 ≤ (2 : Int) := (by omega)
                                                         have q427 : 2 < ((rd_L2 t412 (ji123)).length : Int) := od
                                                         obtain ⟨ad427, e427, hx427_0⟩ := Kd.at_int (by repeat (first | (with_reducible exact HR426_0.out) | (with_reducible refine Kd.C_alloc ?_ _) | (with_reducible refine Kd.C_drewN ?_ _) | (with_reducible refine Kd.C_drew ?_) | exact HR426_0.out)) 2 p427 q427
                                                         cases e427
                                                         (try simp only [show (2 : Int).toNat = 2 from rfl, Nat.reduceMul, Nat.reduceEqDiff, Go.Addr.add, ↓reduceIte] at hx427_0)
                                                         have qi427 : (2 < (rd_L2 t412 (ji123)).length) = True := eq_true (by omega)
                                                         (try rw [show ((2 : Int)).toNat = 2 from rfl] at hx427_0)
                                                         replace p427 := eq_true p427
                                                         replace q427 := eq_true q427
                                                         have p428 : 0 ≤ (2 : Int) := (by omega)
                                                         have q428 : 2 < ((rd_L2 t412 x217_6).length : Int) := od
                                                         obtain ⟨ad428, e428, hx428_0⟩ := Kd.at_int (by repeat (first | (with_reducible exact HR423_0.out) | (with_reducible refine Kd.C_alloc ?_ _) | (with_reducible refine Kd.C_drewN ?_ _) | (with_reducible refine Kd.C_drew ?_) | exact HR423_0.out)) 2 p428 q428
                                                         obtain rfl : ad425 = ad428 := (by injection e428)
                                                         (try simp only [show (2 : Int).toNat = 2 from rfl, Nat.reduceMul, Nat.reduceEqDiff, Go.Addr.add, ↓reduceIte] at hx428_0)
                                                         have qi428 : (2 < (rd_L2 t412 x217_6).length) = True := eq_true (by omega)
                                                         (try rw [show ((2 : Int)).toNat = 2 from rfl] at hx428_0)
                                                         replace p428 := eq_true p428
                                                         replace q428 := eq_true q428
                                                         have p430 : 0 ≤ (2 : Int) := (by omega)
                                                         have q430 : 2 < ((rd_L2 t412 (ji123)).length : Int) := od
                                                         obtain ⟨ad430, e430, hx430_0⟩ := Kd.at_int (by repeat (first | (with_reducible exact HR429_0.out) | (with_reducible refine Kd.C_alloc ?_ _) | (with_reducible refine Kd.C_drewN ?_ _) | (with_reducible refine Kd.C_drew ?_) | exact HR429_0.out)) 2 p430 q430
                                                         cases e430
                                                         (try simp only [show (2 : Int).toNat = 2 from rfl, Nat.reduceMul, Nat.reduceEqDiff, Go.Addr.add, ↓reduceIte] at hx430_0)
                                                         have qi430 : (2 < (rd_L2 t412 (ji123)).length) = True := eq_true (by omega)
                                                         (try rw [show ((2 : Int)).toNat = 2 from rfl] at hx430_0)
                                                         replace p430 := eq_true p430
                                                         replace q430 := eq_true q430
                                                         have p431 : 0 ≤ (2 : Int) := (by omega)
                                                         have q431 : 2 < ((rd_L2 t412 x217_6).length : Int) := od
                                                         obtain ⟨ad431, e431, hx431_0⟩ := Kd.at_int (by repeat (first | (with_reducible exact HR423_0.out) | (with_reducible refine Kd.C_alloc ?_ _) | (with_reducible refine Kd.C_drewN ?_ _) | (with_reducible refine Kd.C_drew ?_) | exact HR423_0.out)) 2 p431 q431
                                                         obtain rfl : ad425 = ad431 := (by injection e431)
                                                         (try simp only [show (2 : Int).toNat = 2 from rfl, Nat.reduceMul, Nat.reduceEqDiff, Go.Addr.add, ↓reduceIte] at hx431_0)
                                                         have qi431 : (2 < (rd_L2 t412 x217_6).length) = True := eq_true (by omega)
                                                         (try rw [show ((2 : Int)).toNat = 2 from rfl] at hx431_0)
                                                         replace p431 := eq_true p431
                                                         replace q431 := eq_true q431
                                                         have p433 : 0 ≤ (0 : Int) := (by omega)
                                                         have q433 : 0 < ((rd_L2 t412 (ji123)).length : Int) := od
                                                         obtain ⟨ad433, e433, hx433_0⟩ := Kd.at_int (by repeat (first | (with_reducible exact HR432_0.out) | (with_reducible refine Kd.C_alloc ?_ _) | (with_reducible refine Kd.C_drewN ?_ _) | (with_reducible refine Kd.C_drew ?_) | exact HR432_0.out)) 0 p433 q433
                                                         cases e433
                                                         have qi433 : (0 < (rd_L2 t412 (ji123)).length) = True := eq_true (by omega)
                                                         (try rw [show ((0 : Int)).toNat = 0 from rfl] at hx433_0)
                                                         (try rw [Addr.add_zero'] at hx433_0)
                                                         replace p433 := eq_true p433
                                                         replace q433 := eq_true q433
                                                         have p434 : 0 ≤ (0 : Int) := (by omega)
                                                         have q434 : 0 < ((rd_L2 t412 x217_6).length : Int) := od
                                                         obtain ⟨ad434, e434, hx434_0⟩ := Kd.at_int (by repeat (first | (with_reducible exact HR423_0.out) | (with_reducible refine Kd.C_alloc ?_ _) | (with_reducible refine Kd.C_drewN ?_ _) | (with_reducible refine Kd.C_drew ?_) | exact HR423_0.out)) 0 p434 q434
                                                         obtain rfl : ad425 = ad434 := (by injection e434)
                                                         have qi434 : (0 < (rd_L2 t412 x217_6).length) = True := eq_true (by omega)
                                                         (try rw [show ((0 : Int)).toNat = 0 from rfl] at hx434_0)
                                                         (try rw [Addr.add_zero'] at hx434_0)
                                                         replace p434 := eq_true p434
                                                         replace q434 := eq_true q434
                                                         refine start_ (n := 53) (S := fun w' => w'.cell? ⟨ad425.block, ad425.off + 2, none⟩ = some (.int .i64 (rd (rd_L2 t412 x217_6) 2)) ∧ w'.cell? (ad423.add ((ji123)).toNat) = some (.slice (some ad427) (rd_L2 t412 (ji123)).length c426_0) ∧ w'.cell? ⟨ad427.block, ad427.off + 2, none⟩ = some (.int .i64 (rd (rd_L2 t412 (ji123)) 2)) ∧ w'.cell? ⟨ad425.block, ad425.off + 2, none⟩ = some (.int .i64 (rd (rd_L2 t412 x217_6) 2)) ∧ w'.cell? (ad423.add ((ji123)).toNat) = some (.slice (some ad427) (rd_L2 t412 (ji123)).length c426_0) ∧ w'.cell? ⟨ad427.block, ad427.off + 2, none⟩ = some (.int .i64 (rd (rd_L2 t412 (ji123)) 2)) ∧ w'.cell? ⟨ad425.block, ad425.off + 2, none⟩ = some (.int .i64 (rd (rd_L2 t412 x217_6) 2)) ∧ w'.cell? (ad423.add ((ji123)).toNat) = some (.slice (some ad427) (rd_L2 t412 (ji123)).length c426_0) ∧ w'.cell? ad427 = some (.int .i64 (rd (rd_L2 t412 (ji123)) 0)) ∧ w'.cell? ad425 = some (.int .i64 (rd (rd_L2 t412 x217_6) 0))) (ds := []) #[O,O,O,O,O,O,O,O,O,O,O,O,O,O,O,O,O,O,O,O,O,O,O,O,O,O,O,O,O,O,O,O,O,O,O,O,O,O,O,O,O,O,O,O,O,O,O,O,O,O,O,O,O] (by kernel_rfl) rfl rfl ⟨hx425_0, hx426_0, hx427_0, hx428_0, hx429_0, hx430_0, hx431_0, hx432_0, hx433_0, hx434_0⟩ (fun hHeld => ?_); refine with_tabW laws_FnRightTriples.tab31 laws_FnRightTriples.bits31 (fun HT_ HW_ => ?_)
                                                         generalize wr.drew = w136 at HO_26 HO_215 HL423_0 HR423_0 HB HL426_0 HL429_0 HL432_0 HR426_0 HR429_0 HR432_0 hx426_0 hx429_0 hx432_0 hHeld ⊢
                                                         refine pS 0 222 (BM 53 1) ?_
                                                         refine one_ (i := 1) (N := some 223) (BM 53 3) rfl rfl (one_of HT_.out (by kernel_rfl)) (by decide) (fun K hK => ?_)
                                                         refine goes_ Try.func21 (by kernel_rfl) rfl #[.slice (some ad425) (rd_L2 t412 x217_6).length c423_0] (by rfl) rfl rfl (by (try simp only [List.map_toArray, List.map_cons, List.map_nil]); first | done | rfl | (simp only [List.length_drop, List.length_take]; rfl)) ?_
                                                         with_reducible refine (impl_IsRight.calls k6 _ _ (rd_L2 t412 x217_6) true _ ?side1 ?side2 A116.out).mono ?_
                                                         (case side1 => repeat (first | exact (by repeat (first | (with_reducible exact HR423_0.out) | (with_reducible refine Kd.C_alloc ?_ _) | (with_reducible refine Kd.C_drewN ?_ _) | (with_reducible refine Kd.C_drew ?_) | exact HR423_0.out)) | (with_reducible refine Kd.C_alloc ?_ _) | (with_reducible refine Kd.C_drewN ?_ _) | (with_reducible refine Kd.C_drew ?_)))
                                                         (case side2 => exact HC423_0.out)
                                                         rintro e w137 ⟨rfl, hb⟩
                                                         have HS0_ := (hb.cell (World.block_lt_of_cell? _ _ (hHeld.1))).trans (hHeld.1)
                                                         have HS1_ := (hb.cell (World.block_lt_of_cell? _ _ (hHeld.2.1))).trans (hHeld.2.1)
                                                         have HS2_ := (hb.cell (World.block_lt_of_cell? _ _ (hHeld.2.2.1))).trans (hHeld.2.2.1)
                                                         have HS3_ := (hb.cell (World.block_lt_of_cell? _ _ (hHeld.2.2.2.1))).trans (hHeld.2.2.2.1)
                                                         have HS4_ := (hb.cell (World.block_lt_of_cell? _ _ (hHeld.2.2.2.2.1))).trans (hHeld.2.2.2.2.1)
                                                         have HS5_ := (hb.cell (World.block_lt_of_cell? _ _ (hHeld.2.2.2.2.2.1))).trans (hHeld.2.2.2.2.2.1)
                                                         have HS6_ := (hb.cell (World.block_lt_of_cell? _ _ (hHeld.2.2.2.2.2.2.1))).trans (hHeld.2.2.2.2.2.2.1)
                                                         have HS7_ := (hb.cell (World.block_lt_of_cell? _ _ (hHeld.2.2.2.2.2.2.2.1))).trans (hHeld.2.2.2.2.2.2.2.1)
                                                         have HS8_ := (hb.cell (World.block_lt_of_cell? _ _ (hHeld.2.2.2.2.2.2.2.2.1))).trans (hHeld.2.2.2.2.2.2.2.2.1)
                                                         have HS9_ := (hb.cell (World.block_lt_of_cell? _ _ (hHeld.2.2.2.2.2.2.2.2.2))).trans (hHeld.2.2.2.2.2.2.2.2.2)
                                                         refine ⟨_, rfl, ?_⟩
                                                         have n0_ := Aside0.mk (Kd.N_below (nA HO_26) hb)
                                                         have n1_ := Aside0.mk (Kd.N_below (nA HO_215) hb)
                                                         have n2_ := Aside0.mk (Kd.V_below (by (with_reducible repeat (first | apply Kd.V_alloc | apply Kd.V_drewN | apply Kd.V_drew)); exact HL423_0.out) hb)
                                                         have n3_ := Aside0.mk ((by with_reducible first | exact Kd.C_below HR423_0.out hb | exact Kd.C_below (Kd.C_drewN HR423_0.out _) hb | exact Kd.C_below (Kd.C_alloc HR423_0.out _) hb | exact Kd.C_below (Kd.C_drewN (Kd.C_drewN HR423_0.out _) _) hb))
                                                         have n4_ := Aside0.mk (below_step bq hb)
                                                         clear HO_26; clear HO_215; clear HL423_0; clear HR423_0; clear HB
                                                         have HO_26 := n0_
                                                         have HO_215 := n1_
                                                         have HL423_0 := n2_
                                                         have HR423_0 := n3_
                                                         have HB := n4_
                                                         clear n0_ n1_ n2_ n3_ n4_
                                                         (try clear hb)
                                                         (try clear hb2)
                                                         (try clear hk)
                                                         (try clear hi)
                                                         refine hK.out _ _ ⟨HS0_, HS1_, HS2_, HS3_, HS4_, HS5_, HS6_, HS7_, HS8_, HS9_⟩ (fun hHeld => ?_)
                                                         clear hK K
                                                         refine norm_ (a' := ?_) ?_ ?_
                                                         rotate_left
                                                         ·
                                                          show Act.put _ (some 223) _ = _
                                                          simp only [AP]
                                                          rfl
                                                         refine pS 2 224 (BM 53 7) ?_
                                                         refine pS 3 225 (BM 53 15) ?_
                                                         refine pS 4 226 (BM 53 31) ?_
                                                         refine pS 5 227 (BM 53 63) ?_
                                                         refine pS 7 229 (BM 53 191) ?_
                                                         refine take_ (i := 6) (N := some 228) (v := ?_) (a' := ?_) (BM 53 255) rfl rfl (take_ofW HT_.out HW_.out (by kernel_rfl)) (fun _ _ _ h => h) (Or.inl ⟨by rfl, ?_⟩) hHeld ?_ ?_
                                                         rotate_left
                                                         ·
                                                          rintro w' ⟨s0, s1, s2, s3, s4, s5, s6, s7, s8, s9⟩
                                                          go_simp
                                                          with_reducible rfl
                                                         rotate_left
                                                         ·
                                                          simp only [AP]
                                                          rfl
                                                         refine pS 8 230 (BM 53 511) ?_
                                                         refine pS 9 231 (BM 53 1023) ?_
                                                         refine pS 10 232 (BM 53 2047) ?_
                                                         refine pS 11 233 (BM 53 4095) ?_
                                                         refine pS 12 234 (BM 53 8191) ?_
                                                         refine pS 13 235 (BM 53 16383) ?_
                                                         refine pS 14 236 (BM 53 32767) ?_
                                                         refine pS 15 237 (BM 53 65535) ?_
                                                         refine pS 16 238 (BM 53 131071) ?_
                                                         refine pS 17 239 (BM 53 262143) ?_
                                                         refine pS 21 243 (BM 53 2359295) ?_
                                                         refine pS 22 244 (BM 53 6553599) ?_
                                                         refine take_ (i := 18) (N := some 240) (v := ?_) (a' := ?_) (BM 53 6815743) rfl rfl (take_ofW HT_.out HW_.out (by kernel_rfl)) (fun _ _ _ h => h) (Or.inl ⟨by rfl, ?_⟩) hHeld ?_ ?_
                                                         rotate_left
                                                         ·
                                                          rintro w' ⟨s0, s1, s2, s3, s4, s5, s6, s7, s8, s9⟩
                                                          go_simp
                                                          with_reducible rfl
                                                         rotate_left
                                                         ·
                                                          simp only [AP]
                                                          rfl
                                                         refine pS 19 241 (BM 53 7340031) ?_
                                                         refine take_ (i := 20) (N := some 242) (v := ?_) (a' := ?_) (BM 53 8388607) rfl rfl (take_ofW HT_.out HW_.out (by kernel_rfl)) (fun _ _ _ h => h) (Or.inl ⟨by rfl, ?_⟩) hHeld ?_ ?_
                                                         rotate_left
                                                         ·
                                                          rintro w' ⟨s0, s1, s2, s3, s4, s5, s6, s7, s8, s9⟩
                                                          go_simp
                                                          with_reducible rfl
                                                         rotate_left
                                                         ·
                                                          simp only [AP]
                                                          rfl
                                                         refine take_ (i := 23) (N := some 245) (v := ?_) (a' := ?_) (BM 53 16777215) rfl rfl (take_ofW HT_.out HW_.out (by kernel_rfl)) (fun _ _ _ h => h) (Or.inl ⟨by rfl, ?_⟩) hHeld ?_ ?_
                                                         rotate_left
                                                         ·
                                                          rintro w' ⟨s0, s1, s2, s3, s4, s5, s6, s7, s8, s9⟩
                                                          go_simp
                                                          with_reducible rfl
                                                         rotate_left
                                                         ·
                                                          simp only [AP]
                                                          rfl
                                                         refine pS 24 246 (BM 53 33554431) ?_
                                                         refine pS 25 247 (BM 53 67108863) ?_
                                                         refine pS 26 248 (BM 53 134217727) ?_
                                                         refine pS 27 249 (BM 53 268435455) ?_
                                                         refine pS 28 250 (BM 53 536870911) ?_
                                                         refine pS 29 251 (BM 53 1073741823) ?_
                                                         refine pS 33 255 (BM 53 9663676415) ?_
                                                         refine pS 34 256 (BM 53 26843545599) ?_
                                                         refine take_ (i := 30) (N := some 252) (v := ?_) (a' := ?_) (BM 53 27917287423) rfl rfl (take_ofW HT_.out HW_.out (by kernel_rfl)) (fun _ _ _ h => h) (Or.inl ⟨by rfl, ?_⟩) hHeld ?_ ?_
                                                         rotate_left
                                                         ·
                                                          rintro w' ⟨s0, s1, s2, s3, s4, s5, s6, s7, s8, s9⟩
                                                          go_simp
                                                          with_reducible rfl
                                                         rotate_left
                                                         ·
                                                          simp only [AP]
                                                          rfl
                                                         refine pS 31 253 (BM 53 30064771071) ?_
                                                         refine take_ (i := 32) (N := some 254) (v := ?_) (a' := ?_) (BM 53 34359738367) rfl rfl (take_ofW HT_.out HW_.out (by kernel_rfl)) (fun _ _ _ h => h) (Or.inl ⟨by rfl, ?_⟩) hHeld ?_ ?_
                                                         rotate_left
                                                         ·
                                                          rintro w' ⟨s0, s1, s2, s3, s4, s5, s6, s7, s8, s9⟩
                                                          go_simp
                                                          with_reducible rfl
                                                         rotate_left
                                                         ·
                                                          simp only [AP]
                                                          rfl
                                                         refine take_ (i := 35) (N := some 257) (v := ?_) (a' := ?_) (BM 53 68719476735) rfl rfl (take_ofW HT_.out HW_.out (by kernel_rfl)) (fun _ _ _ h => h) (Or.inl ⟨by rfl, ?_⟩) hHeld ?_ ?_
                                                         rotate_left
                                                         ·
                                                          rintro w' ⟨s0, s1, s2, s3, s4, s5, s6, s7, s8, s9⟩
                                                          go_simp
                                                          with_reducible rfl
                                                         rotate_left
                                                         ·
                                                          simp only [AP]
                                                          rfl
                                                         refine pS 36 258 (BM 53 137438953471) ?_
                                                         refine pS 37 259 (BM 53 274877906943) ?_
                                                         refine pS 38 260 (BM 53 549755813887) ?_
                                                         refine pS 39 261 (BM 53 1099511627775) ?_
                                                         refine pS 40 262 (BM 53 2199023255551) ?_
                                                         refine pS 41 263 (BM 53 4398046511103) ?_
                                                         refine pS 45 267 (BM 53 39582418599935) ?_
                                                         refine pS 46 268 (BM 53 109951162777599) ?_
                                                         refine take_ (i := 42) (N := some 264) (v := ?_) (a' := ?_) (BM 53 114349209288703) rfl rfl (take_ofW HT_.out HW_.out (by kernel_rfl)) (fun _ _ _ h => h) (Or.inl ⟨by rfl, ?_⟩) hHeld ?_ ?_
                                                         rotate_left
                                                         ·
                                                          rintro w' ⟨s0, s1, s2, s3, s4, s5, s6, s7, s8, s9⟩
                                                          go_simp
                                                          with_reducible rfl
                                                         rotate_left
                                                         ·
                                                          simp only [AP]
                                                          rfl
                                                         refine pS 43 265 (BM 53 123145302310911) ?_
                                                         refine take_ (i := 44) (N := some 266) (v := ?_) (a' := ?_) (BM 53 140737488355327) rfl rfl (take_ofW HT_.out HW_.out (by kernel_rfl)) (fun _ _ _ h => h) (Or.inl ⟨by rfl, ?_⟩) hHeld ?_ ?_
                                                         rotate_left
                                                         ·
                                                          rintro w' ⟨s0, s1, s2, s3, s4, s5, s6, s7, s8, s9⟩
                                                          go_simp
                                                          with_reducible rfl
                                                         rotate_left
                                                         ·
                                                          simp only [AP]
                                                          rfl
                                                         refine take_ (i := 47) (N := some 269) (v := ?_) (a' := ?_) (BM 53 281474976710655) rfl rfl (take_ofW HT_.out HW_.out (by kernel_rfl)) (fun _ _ _ h => h) (Or.inl ⟨by rfl, ?_⟩) hHeld ?_ ?_
                                                         rotate_left
                                                         ·
                                                          rintro w' ⟨s0, s1, s2, s3, s4, s5, s6, s7, s8, s9⟩
                                                          go_simp
                                                          with_reducible rfl
                                                         rotate_left
                                                         ·
                                                          simp only [AP]
                                                          rfl
                                                         refine pS 48 270 (BM 53 562949953421311) ?_
                                                         refine pS 49 271 (BM 53 1125899906842623) ?_
                                                         refine pS 50 272 (BM 53 2251799813685247) ?_
                                                         refine pS 51 273 (BM 53 4503599627370495) ?_
                                                         refine pS 52 274 (BM 53 9007199254740991) ?_
                                                         refine done_ (done_of HT_.out (by kernel_rfl)) ?_
                                                         try go_wp2
                                                         go_roundg k6
                                                         case measure => have := HJ7.out; have := HJ16.out; have := HJ69.out; have := HJ80.out; have := HJ95.out; have := HK6.out; omega
                                                         case rel => exact ⟨(wrap64 (x217_6 + 1)), e2, H', ⟨by have := HJ7.out; have := HJ16.out; have := HJ69.out; have := HJ80.out; have := HJ95.out; have := HK6.out; omega⟩, ⟨by (with_reducible repeat (first | apply Kd.N_alloc | apply Kd.N_drewN | apply Kd.N_drew)); exact HO_26.out⟩, ⟨by (with_reducible repeat (first | apply Kd.N_alloc | apply Kd.N_drewN | apply Kd.N_drew)); exact HO_215.out⟩, ⟨bq⟩⟩
                                                     ·
                                                      rw [if_neg c132] at H
                                                      exact absurd H (by simp)
                                                   ·
                                                    rw [if_neg c131] at H
                                                    exact absurd H (by simp)
                                                 ·
                                                  as_aux_lemma =>
                                                   rw [if_neg c130] at H
                                                   have c130b0 : ((rd (rd_L2 t412 (ji123)) 2) == (rd (rd_L2 t412 x217_6) 2)) = false := beq_eq_false_iff_ne.mpr c130
                                                   have c130b1 : ((rd (rd_L2 t412 (ji123)) 2) != (rd (rd_L2 t412 x217_6) 2)) = true := bne_iff_ne.mpr c130
                                                   have H' := Aside0.mk H
                                                   clear H
                                                   have p423 : 0 ≤ (x217_6 : Int) := od
                                                   have q423 : x217_6 < (t412.length : Int) := od
                                                   obtain ⟨ad423, A423_0, c423_0, e423, hx423_0, hl423_0, hi423_0⟩ := at_L2 (Kd.N_reads' HO_215.out).2.2 x217_6 p423 q423
                                                   cases e423
                                                   obtain ⟨ce423, hce423, hMe423, hcc423⟩ := Kd.N_get HO_215.out [] x217_6 p423 (by first | exact q423 | exact od | (have e_ := (Kd.N_reads' HO_215.out).1; omega))
                                                   obtain ⟨ua423_0, uc423_0, rfl, ul423_0, ge423_0⟩ := Kd.FK_slice_open hMe423
                                                   have hv423_0 := hcc423 0 _ rfl
                                                   rw [Nat.add_zero, show ((Kd.slice 3 (Kd.int .i64))).sz = 1 from rfl, Nat.mul_one] at hv423_0
                                                   replace hv423_0 := Option.some.inj (hv423_0.symm.trans hx423_0)
                                                   injection hv423_0 with hva_ hvn_ hvc_
                                                   rw [hva_] at ge423_0
                                                   rw [hvc_] at ul423_0
                                                   have HL423_0 := Aside0.mk (show Kd.V (Kd.int .i64) 3 _ w.heap.size _ _ (rd_L2 t412 x217_6) from Kd.V_mk ul423_0 ge423_0)
                                                   clear hva_ hvn_ hvc_ ge423_0 ul423_0
                                                   clear hcc423 hce423
                                                   have HR423_0 := Aside0.mk hi423_0
                                                   have HC423_0 := Aside0.mk hl423_0
                                                   clear hi423_0 hl423_0
                                                   replace p423 := eq_true p423
                                                   replace q423 := eq_true q423
                                                   try go_wp2
                                                   have n0_ := Aside0.mk (Kd.N_drew HO_26.out)
                                                   have n1_ := Aside0.mk (Kd.N_drew HO_215.out)
                                                   have n2_ := Aside0.mk (Kd.V_drew HL423_0.out)
                                                   have n3_ := Aside0.mk (Kd.C_drew HR423_0.out)
                                                   have n4_ := Aside0.mk (below_drew1 HB.out)
                                                   clear HO_26; clear HO_215; clear HL423_0; clear HR423_0; clear HB
                                                   have HO_26 := n0_
                                                   have HO_215 := n1_
                                                   have HL423_0 := n2_
                                                   have HR423_0 := n3_
                                                   have HB := n4_
                                                   clear n0_ n1_ n2_ n3_ n4_
                                                   have p426 : 0 ≤ ((ji123) : Int) := od
                                                   have q426 : (ji123) < (t412.length : Int) := od
                                                   obtain ⟨ad426, A426_0, c426_0, e426, hx426_0, hl426_0, hi426_0⟩ := at_L2 (Kd.N_reads' HO_26.out).2.2 (ji123) p426 q426
                                                   obtain rfl : ad423 = ad426 := (by injection e426)
                                                   obtain ⟨ce426, hce426, hMe426, hcc426⟩ := Kd.N_get HO_26.out [] (ji123) p426 (by first | exact q426 | exact od | (have e_ := (Kd.N_reads' HO_26.out).1; omega))
                                                   obtain ⟨ua426_0, uc426_0, rfl, ul426_0, ge426_0⟩ := Kd.FK_slice_open hMe426
                                                   have hv426_0 := hcc426 0 _ rfl
                                                   rw [Nat.add_zero, show ((Kd.slice 3 (Kd.int .i64))).sz = 1 from rfl, Nat.mul_one] at hv426_0
                                                   replace hv426_0 := Option.some.inj (hv426_0.symm.trans hx426_0)
                                                   injection hv426_0 with hva_ hvn_ hvc_
                                                   rw [hva_] at ge426_0
                                                   rw [hvc_] at ul426_0
                                                   have HL426_0 := Aside0.mk (show Kd.V (Kd.int .i64) 3 _ w.heap.size _ _ (rd_L2 t412 (ji123)) from Kd.V_mk ul426_0 ge426_0)
                                                   clear hva_ hvn_ hvc_ ge426_0 ul426_0
                                                   clear hcc426 hce426
                                                   have HR426_0 := Aside0.mk hi426_0
                                                   have HC426_0 := Aside0.mk hl426_0
                                                   clear hi426_0 hl426_0
                                                   replace p426 := eq_true p426
                                                   replace q426 := eq_true q426
                                                   have p429 : 0 ≤ ((ji123) : Int) := od
                                                   have q429 : (ji123) < (t412.length : Int) := od
                                                   obtain ⟨ad429, A429_0, c429_0, e429, hx429_0, hl429_0, hi429_0⟩ := at_L2 (Kd.N_reads' HO_26.out).2.2 (ji123) p429 q429
                                                   obtain rfl : ad423 = ad429 := (by injection e429)
                                                   obtain ⟨ce429, hce429, hMe429, hcc429⟩ := Kd.N_get HO_26.out [] (ji123) p429 (by first | exact q429 | exact od | (have e_ := (Kd.N_reads' HO_26.out).1; omega))
                                                   obtain ⟨ua429_0, uc429_0, rfl, ul429_0, ge429_0⟩ := Kd.FK_slice_open hMe429
                                                   have hv429_0 := hcc429 0 _ rfl
                                                   rw [Nat.add_zero, show ((Kd.slice 3 (Kd.int .i64))).sz = 1 from rfl, Nat.mul_one] at hv429_0
                                                   replace hv429_0 := Option.some.inj (hv429_0.symm.trans hx429_0)
                                                   injection hv429_0 with hva_ hvn_ hvc_
                                                   rw [hva_] at ge429_0
                                                   rw [hvc_] at ul429_0
                                                   have HL429_0 := Aside0.mk (show Kd.V (Kd.int .i64) 3 _ w.heap.size _ _ (rd_L2 t412 (ji123)) from Kd.V_mk ul429_0 ge429_0)
                                                   clear hva_ hvn_ hvc_ ge429_0 ul429_0
                                                   clear hcc429 hce429
                                                   have HR429_0 := Aside0.mk hi429_0
                                                   have HC429_0 := Aside0.mk hl429_0
                                                   clear hi429_0 hl429_0
                                                   replace p429 := eq_true p429
                                                   replace q429 := eq_true q429
                                                   have ea_ := Option.some.inj (hx426_0.symm.trans hx429_0)
                                                   injection ea_ with ea_ en_ ec_
                                                   subst ea_
                                                   subst ec_
                                                   clear en_
                                                   have p425 : 0 ≤ (2 : Int) := (by omega)
                                                   have q425 : 2 < ((rd_L2 t412 x217_6).length : Int) := od
                                                   obtain ⟨ad425, e425, hx425_0⟩ := Kd.at_int (by repeat (first | (with_reducible exact HR423_0.out) | (with_reducible refine Kd.C_alloc ?_ _) | (with_reducible refine Kd.C_drewN ?_ _) | (with_reducible refine Kd.C_drew ?_) | exact HR423_0.out)) 2 p425 q425
                                                   cases e425
                                                   (try simp only [show (2 : Int).toNat = 2 from rfl, Nat.reduceMul, Nat.reduceEqDiff, Go.Addr.add, ↓reduceIte] at hx425_0)
                                                   have qi425 : (2 < (rd_L2 t412 x217_6).length) = True := eq_true (by omega)
                                                   (try rw [show ((2 : Int)).toNat = 2 from rfl] at hx425_0)
                                                   replace p425 := eq_true p425
                                                   replace q425 := eq_true q425
                                                   have p427 : 0 ≤ (2 : Int) := (by omega)
                                                   have q427 : 2 < ((rd_L2 t412 (ji123)).length : Int) := od
                                                   obtain ⟨ad427, e427, hx427_0⟩ := Kd.at_int (by repeat (first | (with_reducible exact HR426_0.out) | (with_reducible refine Kd.C_alloc ?_ _) | (with_reducible refine Kd.C_drewN ?_ _) | (with_reducible refine Kd.C_drew ?_) | exact HR426_0.out)) 2 p427 q427
                                                   cases e427
                                                   (try simp only [show (2 : Int).toNat = 2 from rfl, Nat.reduceMul, Nat.reduceEqDiff, Go.Addr.add, ↓reduceIte] at hx427_0)
                                                   have qi427 : (2 < (rd_L2 t412 (ji123)).length) = True := eq_true (by omega)
                                                   (try rw [show ((2 : Int)).toNat = 2 from rfl] at hx427_0)
                                                   replace p427 := eq_true p427
                                                   replace q427 := eq_true q427
                                                   have p428 : 0 ≤ (2 : Int) := (by omega)
                                                   have q428 : 2 < ((rd_L2 t412 x217_6).length : Int) := od
                                                   obtain ⟨ad428, e428, hx428_0⟩ := Kd.at_int (by repeat (first | (with_reducible exact HR423_0.out) | (with_reducible refine Kd.C_alloc ?_ _) | (with_reducible refine Kd.C_drewN ?_ _) | (with_reducible refine Kd.C_drew ?_) | exact HR423_0.out)) 2 p428 q428
                                                   obtain rfl : ad425 = ad428 := (by injection e428)
                                                   (try simp only [show (2 : Int).toNat = 2 from rfl, Nat.reduceMul, Nat.reduceEqDiff, Go.Addr.add, ↓reduceIte] at hx428_0)
                                                   have qi428 : (2 < (rd_L2 t412 x217_6).length) = True := eq_true (by omega)
                                                   (try rw [show ((2 : Int)).toNat = 2 from rfl] at hx428_0)
                                                   replace p428 := eq_true p428
                                                   replace q428 := eq_true q428
                                                   have p430 : 0 ≤ (2 : Int) := (by omega)
                                                   have q430 : 2 < ((rd_L2 t412 (ji123)).length : Int) := od
                                                   obtain ⟨ad430, e430, hx430_0⟩ := Kd.at_int (by repeat (first | (with_reducible exact HR429_0.out) | (with_reducible refine Kd.C_alloc ?_ _) | (with_reducible refine Kd.C_drewN ?_ _) | (with_reducible refine Kd.C_drew ?_) | exact HR429_0.out)) 2 p430 q430
                                                   cases e430
                                                   (try simp only [show (2 : Int).toNat = 2 from rfl, Nat.reduceMul, Nat.reduceEqDiff, Go.Addr.add, ↓reduceIte] at hx430_0)
                                                   have qi430 : (2 < (rd_L2 t412 (ji123)).length) = True := eq_true (by omega)
                                                   (try rw [show ((2 : Int)).toNat = 2 from rfl] at hx430_0)
                                                   replace p430 := eq_true p430
                                                   replace q430 := eq_true q430
                                                   have p431 : 0 ≤ (2 : Int) := (by omega)
                                                   have q431 : 2 < ((rd_L2 t412 x217_6).length : Int) := od
                                                   obtain ⟨ad431, e431, hx431_0⟩ := Kd.at_int (by repeat (first | (with_reducible exact HR423_0.out) | (with_reducible refine Kd.C_alloc ?_ _) | (with_reducible refine Kd.C_drewN ?_ _) | (with_reducible refine Kd.C_drew ?_) | exact HR423_0.out)) 2 p431 q431
                                                   obtain rfl : ad425 = ad431 := (by injection e431)
                                                   (try simp only [show (2 : Int).toNat = 2 from rfl, Nat.reduceMul, Nat.reduceEqDiff, Go.Addr.add, ↓reduceIte] at hx431_0)
                                                   have qi431 : (2 < (rd_L2 t412 x217_6).length) = True := eq_true (by omega)
                                                   (try rw [show ((2 : Int)).toNat = 2 from rfl] at hx431_0)
                                                   replace p431 := eq_true p431
                                                   replace q431 := eq_true q431
                                                   refine start_ (n := 53) (S := fun w' => w'.cell? ⟨ad425.block, ad425.off + 2, none⟩ = some (.int .i64 (rd (rd_L2 t412 x217_6) 2)) ∧ w'.cell? (ad423.add ((ji123)).toNat) = some (.slice (some ad427) (rd_L2 t412 (ji123)).length c426_0) ∧ w'.cell? ⟨ad427.block, ad427.off + 2, none⟩ = some (.int .i64 (rd (rd_L2 t412 (ji123)) 2)) ∧ w'.cell? ⟨ad425.block, ad425.off + 2, none⟩ = some (.int .i64 (rd (rd_L2 t412 x217_6) 2)) ∧ w'.cell? (ad423.add ((ji123)).toNat) = some (.slice (some ad427) (rd_L2 t412 (ji123)).length c426_0) ∧ w'.cell? ⟨ad427.block, ad427.off + 2, none⟩ = some (.int .i64 (rd (rd_L2 t412 (ji123)) 2)) ∧ w'.cell? ⟨ad425.block, ad425.off + 2, none⟩ = some (.int .i64 (rd (rd_L2 t412 x217_6) 2))) (ds := []) #[O,O,O,O,O,O,O,O,O,O,O,O,O,O,O,O,O,O,O,O,O,O,O,O,O,O,O,O,O,O,O,O,O,O,O,O,O,O,O,O,O,O,O,O,O,O,O,O,O,O,O,O,O] (by kernel_rfl) rfl rfl ⟨hx425_0, hx426_0, hx427_0, hx428_0, hx429_0, hx430_0, hx431_0⟩ (fun hHeld => ?_); refine with_tabW laws_FnRightTriples.tab31 laws_FnRightTriples.bits31 (fun HT_ HW_ => ?_)
                                                   generalize wr.drew = w138 at HO_26 HO_215 HL423_0 HR423_0 HB HL426_0 HL429_0 HR426_0 HR429_0 hx426_0 hx429_0 hHeld ⊢
                                                   refine pS 0 222 (BM 53 1) ?_
                                                   refine one_ (i := 1) (N := some 223) (BM 53 3) rfl rfl (one_of HT_.out (by kernel_rfl)) (by decide) (fun K hK => ?_)
                                                   refine goes_ Try.func21 (by kernel_rfl) rfl #[.slice (some ad425) (rd_L2 t412 x217_6).length c423_0] (by rfl) rfl rfl (by (try simp only [List.map_toArray, List.map_cons, List.map_nil]); first | done | rfl | (simp only [List.length_drop, List.length_take]; rfl)) ?_
                                                   with_reducible refine (impl_IsRight.calls k6 _ _ (rd_L2 t412 x217_6) true _ ?side1 ?side2 A116.out).mono ?_
                                                   (case side1 => repeat (first | exact (by repeat (first | (with_reducible exact HR423_0.out) | (with_reducible refine Kd.C_alloc ?_ _) | (with_reducible refine Kd.C_drewN ?_ _) | (with_reducible refine Kd.C_drew ?_) | exact HR423_0.out)) | (with_reducible refine Kd.C_alloc ?_ _) | (with_reducible refine Kd.C_drewN ?_ _) | (with_reducible refine Kd.C_drew ?_)))
                                                   (case side2 => exact HC423_0.out)
                                                   rintro e w139 ⟨rfl, hb⟩
                                                   have HS0_ := (hb.cell (World.block_lt_of_cell? _ _ (hHeld.1))).trans (hHeld.1)
                                                   have HS1_ := (hb.cell (World.block_lt_of_cell? _ _ (hHeld.2.1))).trans (hHeld.2.1)
                                                   have HS2_ := (hb.cell (World.block_lt_of_cell? _ _ (hHeld.2.2.1))).trans (hHeld.2.2.1)
                                                   have HS3_ := (hb.cell (World.block_lt_of_cell? _ _ (hHeld.2.2.2.1))).trans (hHeld.2.2.2.1)
                                                   have HS4_ := (hb.cell (World.block_lt_of_cell? _ _ (hHeld.2.2.2.2.1))).trans (hHeld.2.2.2.2.1)
                                                   have HS5_ := (hb.cell (World.block_lt_of_cell? _ _ (hHeld.2.2.2.2.2.1))).trans (hHeld.2.2.2.2.2.1)
                                                   have HS6_ := (hb.cell (World.block_lt_of_cell? _ _ (hHeld.2.2.2.2.2.2))).trans (hHeld.2.2.2.2.2.2)
                                                   refine ⟨_, rfl, ?_⟩
                                                   have n0_ := Aside0.mk (Kd.N_below (nA HO_26) hb)
                                                   have n1_ := Aside0.mk (Kd.N_below (nA HO_215) hb)
                                                   have n2_ := Aside0.mk (Kd.V_below (by (with_reducible repeat (first | apply Kd.V_alloc | apply Kd.V_drewN | apply Kd.V_drew)); exact HL423_0.out) hb)
                                                   have n3_ := Aside0.mk ((by with_reducible first | exact Kd.C_below HR423_0.out hb | exact Kd.C_below (Kd.C_drewN HR423_0.out _) hb | exact Kd.C_below (Kd.C_alloc HR423_0.out _) hb | exact Kd.C_below (Kd.C_drewN (Kd.C_drewN HR423_0.out _) _) hb))
                                                   have n4_ := Aside0.mk (below_step bq hb)
                                                   clear HO_26; clear HO_215; clear HL423_0; clear HR423_0; clear HB
                                                   have HO_26 := n0_
                                                   have HO_215 := n1_
                                                   have HL423_0 := n2_
                                                   have HR423_0 := n3_
                                                   have HB := n4_
                                                   clear n0_ n1_ n2_ n3_ n4_
                                                   (try clear hb)
                                                   (try clear hb2)
                                                   (try clear hk)
                                                   (try clear hi)
                                                   refine hK.out _ _ ⟨HS0_, HS1_, HS2_, HS3_, HS4_, HS5_, HS6_⟩ (fun hHeld => ?_)
                                                   clear hK K
                                                   refine norm_ (a' := ?_) ?_ ?_
                                                   rotate_left
                                                   ·
                                                    show Act.put _ (some 223) _ = _
                                                    simp only [AP]
                                                    rfl
                                                   refine pS 2 224 (BM 53 7) ?_
                                                   refine pS 3 225 (BM 53 15) ?_
                                                   refine pS 4 226 (BM 53 31) ?_
                                                   refine pS 5 227 (BM 53 63) ?_
                                                   refine pS 7 229 (BM 53 191) ?_
                                                   refine take_ (i := 6) (N := some 228) (v := ?_) (a' := ?_) (BM 53 255) rfl rfl (take_ofW HT_.out HW_.out (by kernel_rfl)) (fun _ _ _ h => h) (Or.inl ⟨by rfl, ?_⟩) hHeld ?_ ?_
                                                   rotate_left
                                                   ·
                                                    rintro w' ⟨s0, s1, s2, s3, s4, s5, s6⟩
                                                    go_simp
                                                    with_reducible rfl
                                                   rotate_left
                                                   ·
                                                    simp only [AP]
                                                    rfl
                                                   refine pS 8 230 (BM 53 511) ?_
                                                   refine pS 9 231 (BM 53 1023) ?_
                                                   refine pS 10 232 (BM 53 2047) ?_
                                                   refine pS 11 233 (BM 53 4095) ?_
                                                   refine pS 12 234 (BM 53 8191) ?_
                                                   refine pS 13 235 (BM 53 16383) ?_
                                                   refine pS 14 236 (BM 53 32767) ?_
                                                   refine pS 15 237 (BM 53 65535) ?_
                                                   refine pS 16 238 (BM 53 131071) ?_
                                                   refine pS 17 239 (BM 53 262143) ?_
                                                   refine pS 21 243 (BM 53 2359295) ?_
                                                   refine pS 22 244 (BM 53 6553599) ?_
                                                   refine take_ (i := 18) (N := some 240) (v := ?_) (a' := ?_) (BM 53 6815743) rfl rfl (take_ofW HT_.out HW_.out (by kernel_rfl)) (fun _ _ _ h => h) (Or.inl ⟨by rfl, ?_⟩) hHeld ?_ ?_
                                                   rotate_left
                                                   ·
                                                    rintro w' ⟨s0, s1, s2, s3, s4, s5, s6⟩
                                                    go_simp
                                                    with_reducible rfl
                                                   rotate_left
                                                   ·
                                                    simp only [AP]
                                                    rfl
                                                   refine pS 19 241 (BM 53 7340031) ?_
                                                   refine take_ (i := 20) (N := some 242) (v := ?_) (a' := ?_) (BM 53 8388607) rfl rfl (take_ofW HT_.out HW_.out (by kernel_rfl)) (fun _ _ _ h => h) (Or.inl ⟨by rfl, ?_⟩) hHeld ?_ ?_
                                                   rotate_left
                                                   ·
                                                    rintro w' ⟨s0, s1, s2, s3, s4, s5, s6⟩
                                                    go_simp
                                                    with_reducible rfl
                                                   rotate_left
                                                   ·
                                                    simp only [AP]
                                                    rfl
                                                   refine take_ (i := 23) (N := some 245) (v := ?_) (a' := ?_) (BM 53 16777215) rfl rfl (take_ofW HT_.out HW_.out (by kernel_rfl)) (fun _ _ _ h => h) (Or.inl ⟨by rfl, ?_⟩) hHeld ?_ ?_
                                                   rotate_left
                                                   ·
                                                    rintro w' ⟨s0, s1, s2, s3, s4, s5, s6⟩
                                                    go_simp
                                                    with_reducible rfl
                                                   rotate_left
                                                   ·
                                                    simp only [AP]
                                                    rfl
                                                   refine pS 24 246 (BM 53 33554431) ?_
                                                   refine pS 25 247 (BM 53 67108863) ?_
                                                   refine pS 26 248 (BM 53 134217727) ?_
                                                   refine pS 27 249 (BM 53 268435455) ?_
                                                   refine pS 28 250 (BM 53 536870911) ?_
                                                   refine pS 29 251 (BM 53 1073741823) ?_
                                                   refine pS 33 255 (BM 53 9663676415) ?_
                                                   refine pS 34 256 (BM 53 26843545599) ?_
                                                   refine take_ (i := 30) (N := some 252) (v := ?_) (a' := ?_) (BM 53 27917287423) rfl rfl (take_ofW HT_.out HW_.out (by kernel_rfl)) (fun _ _ _ h => h) (Or.inl ⟨by rfl, ?_⟩) hHeld ?_ ?_
                                                   rotate_left
                                                   ·
                                                    rintro w' ⟨s0, s1, s2, s3, s4, s5, s6⟩
                                                    go_simp
                                                    with_reducible rfl
                                                   rotate_left
                                                   ·
                                                    simp only [AP]
                                                    rfl
                                                   refine pS 31 253 (BM 53 30064771071) ?_
                                                   refine take_ (i := 32) (N := some 254) (v := ?_) (a' := ?_) (BM 53 34359738367) rfl rfl (take_ofW HT_.out HW_.out (by kernel_rfl)) (fun _ _ _ h => h) (Or.inl ⟨by rfl, ?_⟩) hHeld ?_ ?_
                                                   rotate_left
                                                   ·
                                                    rintro w' ⟨s0, s1, s2, s3, s4, s5, s6⟩
                                                    go_simp
                                                    with_reducible rfl
                                                   rotate_left
                                                   ·
                                                    simp only [AP]
                                                    rfl
                                                   refine take_ (i := 35) (N := some 257) (v := ?_) (a' := ?_) (BM 53 68719476735) rfl rfl (take_ofW HT_.out HW_.out (by kernel_rfl)) (fun _ _ _ h => h) (Or.inl ⟨by rfl, ?_⟩) hHeld ?_ ?_
                                                   rotate_left
                                                   ·
                                                    rintro w' ⟨s0, s1, s2, s3, s4, s5, s6⟩
                                                    go_simp
                                                    with_reducible rfl
                                                   rotate_left
                                                   ·
                                                    simp only [AP]
                                                    rfl
                                                   refine pS 36 258 (BM 53 137438953471) ?_
                                                   refine pS 37 259 (BM 53 274877906943) ?_
                                                   refine pU 38 260 (BM 53 549755813887) ?_
                                                   refine pU 39 261 (BM 53 1099511627775) ?_
                                                   refine pU 40 262 (BM 53 2199023255551) ?_
                                                   refine pU 41 263 (BM 53 4398046511103) ?_
                                                   refine pU 42 264 (BM 53 8796093022207) ?_
                                                   refine pU 43 265 (BM 53 17592186044415) ?_
                                                   refine pU 44 266 (BM 53 35184372088831) ?_
                                                   refine pU 45 267 (BM 53 70368744177663) ?_
                                                   refine pU 46 268 (BM 53 140737488355327) ?_
                                                   refine pU 47 269 (BM 53 281474976710655) ?_
                                                   refine pU 48 270 (BM 53 562949953421311) ?_
                                                   refine pS 49 271 (BM 53 1125899906842623) ?_
                                                   refine pS 50 272 (BM 53 2251799813685247) ?_
                                                   refine pS 51 273 (BM 53 4503599627370495) ?_
                                                   refine pS 52 274 (BM 53 9007199254740991) ?_
                                                   refine done_ (done_of HT_.out (by kernel_rfl)) ?_
                                                   try go_wp2
                                                   go_roundg k6
                                                   case measure => have := HJ7.out; have := HJ16.out; have := HJ69.out; have := HJ80.out; have := HJ95.out; have := HK6.out; omega
                                                   case rel => exact ⟨(wrap64 (x217_6 + 1)), e2, H', ⟨by have := HJ7.out; have := HJ16.out; have := HJ69.out; have := HJ80.out; have := HJ95.out; have := HK6.out; omega⟩, ⟨by (with_reducible repeat (first | apply Kd.N_alloc | apply Kd.N_drewN | apply Kd.N_drew)); exact HO_26.out⟩, ⟨by (with_reducible repeat (first | apply Kd.N_alloc | apply Kd.N_drewN | apply Kd.N_drew)); exact HO_215.out⟩, ⟨bq⟩⟩
                                             ·
                                              rw [if_neg c126] at H
                                              exact absurd H (by simp)
                                           ·
                                            rw [if_neg c125] at H
                                            exact absurd H (by simp)
                                         ·
                                          rw [if_neg c124] at H
                                          exact absurd H (by simp)
                                       ·
                                        as_aux_lemma =>
                                         rw [if_neg c122] at H
                                         have c122b0 : decide (0 < x217_6) = false := decide_eq_false c122
                                         clear c122
                                         have H' := Aside0.mk H
                                         clear H
                                         have p423 : 0 ≤ (x217_6 : Int) := od
                                         have q423 : x217_6 < (t412.length : Int) := od
                                         obtain ⟨ad423, A423_0, c423_0, e423, hx423_0, hl423_0, hi423_0⟩ := at_L2 (Kd.N_reads' HO_215.out).2.2 x217_6 p423 q423
                                         cases e423
                                         obtain ⟨ce423, hce423, hMe423, hcc423⟩ := Kd.N_get HO_215.out [] x217_6 p423 (by first | exact q423 | exact od | (have e_ := (Kd.N_reads' HO_215.out).1; omega))
                                         obtain ⟨ua423_0, uc423_0, rfl, ul423_0, ge423_0⟩ := Kd.FK_slice_open hMe423
                                         have hv423_0 := hcc423 0 _ rfl
                                         rw [Nat.add_zero, show ((Kd.slice 3 (Kd.int .i64))).sz = 1 from rfl, Nat.mul_one] at hv423_0
                                         replace hv423_0 := Option.some.inj (hv423_0.symm.trans hx423_0)
                                         injection hv423_0 with hva_ hvn_ hvc_
                                         rw [hva_] at ge423_0
                                         rw [hvc_] at ul423_0
                                         have HL423_0 := Aside0.mk (show Kd.V (Kd.int .i64) 3 _ w.heap.size _ _ (rd_L2 t412 x217_6) from Kd.V_mk ul423_0 ge423_0)
                                         clear hva_ hvn_ hvc_ ge423_0 ul423_0
                                         clear hcc423 hce423
                                         have HR423_0 := Aside0.mk hi423_0
                                         have HC423_0 := Aside0.mk hl423_0
                                         clear hi423_0 hl423_0
                                         replace p423 := eq_true p423
                                         replace q423 := eq_true q423
                                         try go_wp2
                                         have n0_ := Aside0.mk (Kd.N_drew HO_26.out)
                                         have n1_ := Aside0.mk (Kd.N_drew HO_215.out)
                                         have n2_ := Aside0.mk (Kd.V_drew HL423_0.out)
                                         have n3_ := Aside0.mk (Kd.C_drew HR423_0.out)
                                         have n4_ := Aside0.mk (below_drew1 HB.out)
                                         clear HO_26; clear HO_215; clear HL423_0; clear HR423_0; clear HB
                                         have HO_26 := n0_
                                         have HO_215 := n1_
                                         have HL423_0 := n2_
                                         have HR423_0 := n3_
                                         have HB := n4_
                                         clear n0_ n1_ n2_ n3_ n4_
                                         have p425 : 0 ≤ (2 : Int) := (by omega)
                                         have q425 : 2 < ((rd_L2 t412 x217_6).length : Int) := od
                                         obtain ⟨ad425, e425, hx425_0⟩ := Kd.at_int (by repeat (first | (with_reducible exact HR423_0.out) | (with_reducible refine Kd.C_alloc ?_ _) | (with_reducible refine Kd.C_drewN ?_ _) | (with_reducible refine Kd.C_drew ?_) | exact HR423_0.out)) 2 p425 q425
                                         cases e425
                                         (try simp only [show (2 : Int).toNat = 2 from rfl, Nat.reduceMul, Nat.reduceEqDiff, Go.Addr.add, ↓reduceIte] at hx425_0)
                                         have qi425 : (2 < (rd_L2 t412 x217_6).length) = True := eq_true (by omega)
                                         (try rw [show ((2 : Int)).toNat = 2 from rfl] at hx425_0)
                                         replace p425 := eq_true p425
                                         replace q425 := eq_true q425
                                         refine start_ (n := 53) (S := fun w' => w'.cell? ⟨ad425.block, ad425.off + 2, none⟩ = some (.int .i64 (rd (rd_L2 t412 x217_6) 2))) (ds := []) #[O,O,O,O,O,O,O,O,O,O,O,O,O,O,O,O,O,O,O,O,O,O,O,O,O,O,O,O,O,O,O,O,O,O,O,O,O,O,O,O,O,O,O,O,O,O,O,O,O,O,O,O,O] (by kernel_rfl) rfl rfl (hx425_0) (fun hHeld => ?_); refine with_tabW laws_FnRightTriples.tab31 laws_FnRightTriples.bits31 (fun HT_ HW_ => ?_)
                                         generalize wr.drew = w140 at HO_26 HO_215 HL423_0 HR423_0 HB hHeld ⊢
                                         refine pS 0 222 (BM 53 1) ?_
                                         refine one_ (i := 1) (N := some 223) (BM 53 3) rfl rfl (one_of HT_.out (by kernel_rfl)) (by decide) (fun K hK => ?_)
                                         refine goes_ Try.func21 (by kernel_rfl) rfl #[.slice (some ad425) (rd_L2 t412 x217_6).length c423_0] (by rfl) rfl rfl (by (try simp only [List.map_toArray, List.map_cons, List.map_nil]); first | done | rfl | (simp only [List.length_drop, List.length_take]; rfl)) ?_
                                         with_reducible refine (impl_IsRight.calls k6 _ _ (rd_L2 t412 x217_6) true _ ?side1 ?side2 A116.out).mono ?_
                                         (case side1 => repeat (first | exact (by repeat (first | (with_reducible exact HR423_0.out) | (with_reducible refine Kd.C_alloc ?_ _) | (with_reducible refine Kd.C_drewN ?_ _) | (with_reducible refine Kd.C_drew ?_) | exact HR423_0.out)) | (with_reducible refine Kd.C_alloc ?_ _) | (with_reducible refine Kd.C_drewN ?_ _) | (with_reducible refine Kd.C_drew ?_)))
                                         (case side2 => exact HC423_0.out)
                                         rintro e w141 ⟨rfl, hb⟩
                                         have HS0_ := (hb.cell (World.block_lt_of_cell? _ _ (hHeld))).trans (hHeld)
                                         refine ⟨_, rfl, ?_⟩
                                         have n0_ := Aside0.mk (Kd.N_below (nA HO_26) hb)
                                         have n1_ := Aside0.mk (Kd.N_below (nA HO_215) hb)
                                         have n2_ := Aside0.mk (Kd.V_below (by (with_reducible repeat (first | apply Kd.V_alloc | apply Kd.V_drewN | apply Kd.V_drew)); exact HL423_0.out) hb)
                                         have n3_ := Aside0.mk ((by with_reducible first | exact Kd.C_below HR423_0.out hb | exact Kd.C_below (Kd.C_drewN HR423_0.out _) hb | exact Kd.C_below (Kd.C_alloc HR423_0.out _) hb | exact Kd.C_below (Kd.C_drewN (Kd.C_drewN HR423_0.out _) _) hb))
                                         have n4_ := Aside0.mk (below_step bq hb)
                                         clear HO_26; clear HO_215; clear HL423_0; clear HR423_0; clear HB
                                         have HO_26 := n0_
                                         have HO_215 := n1_
                                         have HL423_0 := n2_
                                         have HR423_0 := n3_
                                         have HB := n4_
                                         clear n0_ n1_ n2_ n3_ n4_
                                         (try clear hb)
                                         (try clear hb2)
                                         (try clear hk)
                                         (try clear hi)
                                         refine hK.out _ _ (HS0_) (fun hHeld => ?_)
                                         clear hK K
                                         refine norm_ (a' := ?_) ?_ ?_
                                         rotate_left
                                         ·
                                          show Act.put _ (some 223) _ = _
                                          simp only [AP]
                                          rfl
                                         refine pS 2 224 (BM 53 7) ?_
                                         refine pS 3 225 (BM 53 15) ?_
                                         refine pS 4 226 (BM 53 31) ?_
                                         refine pS 5 227 (BM 53 63) ?_
                                         refine pS 7 229 (BM 53 191) ?_
                                         refine take_ (i := 6) (N := some 228) (v := ?_) (a' := ?_) (BM 53 255) rfl rfl (take_ofW HT_.out HW_.out (by kernel_rfl)) (fun _ _ _ h => h) (Or.inl ⟨by rfl, ?_⟩) hHeld ?_ ?_
                                         rotate_left
                                         ·
                                          intro w' s0
                                          go_simp
                                          with_reducible rfl
                                         rotate_left
                                         ·
                                          simp only [AP]
                                          rfl
                                         refine pS 8 230 (BM 53 511) ?_
                                         refine pS 9 231 (BM 53 1023) ?_
                                         refine pS 10 232 (BM 53 2047) ?_
                                         refine pS 11 233 (BM 53 4095) ?_
                                         refine pS 12 234 (BM 53 8191) ?_
                                         refine pS 13 235 (BM 53 16383) ?_
                                         refine pU 14 236 (BM 53 32767) ?_
                                         refine pU 15 237 (BM 53 65535) ?_
                                         refine pU 16 238 (BM 53 131071) ?_
                                         refine pU 17 239 (BM 53 262143) ?_
                                         refine pU 18 240 (BM 53 524287) ?_
                                         refine pU 19 241 (BM 53 1048575) ?_
                                         refine pU 20 242 (BM 53 2097151) ?_
                                         refine pU 21 243 (BM 53 4194303) ?_
                                         refine pU 22 244 (BM 53 8388607) ?_
                                         refine pU 23 245 (BM 53 16777215) ?_
                                         refine pU 24 246 (BM 53 33554431) ?_
                                         refine pU 25 247 (BM 53 67108863) ?_
                                         refine pU 26 248 (BM 53 134217727) ?_
                                         refine pU 27 249 (BM 53 268435455) ?_
                                         refine pU 28 250 (BM 53 536870911) ?_
                                         refine pU 29 251 (BM 53 1073741823) ?_
                                         refine pU 30 252 (BM 53 2147483647) ?_
                                         refine pU 31 253 (BM 53 4294967295) ?_
                                         refine pU 32 254 (BM 53 8589934591) ?_
                                         refine pU 33 255 (BM 53 17179869183) ?_
                                         refine pU 34 256 (BM 53 34359738367) ?_
                                         refine pU 35 257 (BM 53 68719476735) ?_
                                         refine pU 36 258 (BM 53 137438953471) ?_
                                         refine pU 37 259 (BM 53 274877906943) ?_
                                         refine pU 38 260 (BM 53 549755813887) ?_
                                         refine pU 39 261 (BM 53 1099511627775) ?_
                                         refine pU 40 262 (BM 53 2199023255551) ?_
                                         refine pU 41 263 (BM 53 4398046511103) ?_
                                         refine pU 42 264 (BM 53 8796093022207) ?_
                                         refine pU 43 265 (BM 53 17592186044415) ?_
                                         refine pU 44 266 (BM 53 35184372088831) ?_
                                         refine pU 45 267 (BM 53 70368744177663) ?_
                                         refine pU 46 268 (BM 53 140737488355327) ?_
                                         refine pU 47 269 (BM 53 281474976710655) ?_
                                         refine pU 48 270 (BM 53 562949953421311) ?_
                                         refine pU 49 271 (BM 53 1125899906842623) ?_
                                         refine pU 50 272 (BM 53 2251799813685247) ?_
                                         refine pS 51 273 (BM 53 4503599627370495) ?_
                                         refine pS 52 274 (BM 53 9007199254740991) ?_
                                         refine done_ (done_of HT_.out (by kernel_rfl)) ?_
                                         try go_wp2
                                         go_roundg k6
                                         case measure => have := HJ7.out; have := HJ16.out; have := HJ69.out; have := HJ80.out; have := HJ95.out; have := HK6.out; omega
                                         case rel => exact ⟨(wrap64 (x217_6 + 1)), e2, H', ⟨by have := HJ7.out; have := HJ16.out; have := HJ69.out; have := HJ80.out; have := HJ95.out; have := HK6.out; omega⟩, ⟨by (with_reducible repeat (first | apply Kd.N_alloc | apply Kd.N_drewN | apply Kd.N_drew)); exact HO_26.out⟩, ⟨by (with_reducible repeat (first | apply Kd.N_alloc | apply Kd.N_drewN | apply Kd.N_drew)); exact HO_215.out⟩, ⟨bq⟩⟩
                                   ·
                                    rw [if_neg c118] at H
                                    exact absurd H (by simp)
                                 ·
                                  replace c117 := Bool.eq_false_iff.mpr c117
                                  subst c117
                                  have H1 : (some false) = some r := by rw [if_neg (show ¬ (false = true) by decide)] at H; exact H
                                  exact absurd (H1.trans (congrArg some hrT)) (by simp)
                               ·
                                rw [if_neg c115] at H
                                exact absurd H (by simp)
                             ·
                              rw [if_neg c114] at H
                              exact absurd H (by simp)
                           ·
                            rw [if_neg c113] at H
                            have c113b0 : decide (x217_6 < (t412.length : Int)) = false := decide_eq_false c113
                            clear c113
                            obtain rfl := Option.some.inj H
                            go_wp2
                            go_ret
                            exact ⟨e1, bq⟩

/-- THE ONE PURE STATEMENT of laws_FnRightTriples: yours. -/
def laws_FnRightTriples.Pure : Prop := ∀ (l0 : List Int) (l1 : List Int), l0.length ≤ maxLen → l0.length * 1 ≤ 140737488351232 → (∀ x ∈ l0, (Lit.int .u8 x).wf = true) → l1.length ≤ maxLen → l1.length * 1 ≤ 140737488351232 → (∀ x ∈ l1, (Lit.int .u8 x).wf = true) → ∃ k, laws_FnRightTriples.f k l0 l1 = some true
theorem laws_FnRightTriples.walk (P : laws_FnRightTriples.Pure) (a0 : Option Addr) (len0 cap0 : Nat) (z0 : List Int) (a1 : Option Addr) (len1 cap1 : Nat) (z1 : List Int) (w : World) (w0 : (a0 = none ∧ len0 = 0 ∧ cap0 = 0 ∧ z0 = []) ∨ ∃ x, a0 = some x ∧ len0 ≤ cap0 ∧ cap0 ≤ maxLen ∧ z0.length = cap0 ∧ (∀ i, i < z0.length → w.cell? (x.add i) = some (.int .u8 (z0.getD i 0))) ∧ ∀ n ∈ z0, (Lit.int .u8 n).wf = true) (y0 : len0 * 1 ≤ 140737488351232) (w1 : (a1 = none ∧ len1 = 0 ∧ cap1 = 0 ∧ z1 = []) ∨ ∃ x, a1 = some x ∧ len1 ≤ cap1 ∧ cap1 ≤ maxLen ∧ z1.length = cap1 ∧ (∀ i, i < z1.length → w.cell? (x.add i) = some (.int .u8 (z1.getD i 0))) ∧ ∀ n ∈ z1, (Lit.int .u8 n).wf = true) (y1 : len1 * 1 ≤ 140737488351232) :
 Calls Try.prog 6 #[.slice a0 len0 cap0, .slice a1 len1 cap1] w fun e w' => e = .returned (.bool true) ∧ Below w.heap.size w w' := by
 obtain ⟨l0, rfl, hr0, hm0, hw0, hc0⟩ := ReadsInt.ofRowC w0
 obtain ⟨l1, rfl, hr1, hm1, hw1, hc1⟩ := ReadsInt.ofRowC w1
 obtain ⟨k, h⟩ := P l0 l1 hm0 y0 hw0 hm1 y1 hw1
 refine (laws_FnRightTriples.calls k _ _ l0 _ _ l1 true w (Kd.C_of_reads (d := (0 : Int)) (h1 := fun _ => rfl) hr0) hc0 (Kd.C_of_reads (d := (0 : Int)) (h1 := fun _ => rfl) hr1) hc1 h rfl).mono ?_
 rintro e w' ⟨rfl, hd⟩
 exact ⟨rfl, hd⟩

end Go.Proofs.Ytnfbkakblnppaaa.P
