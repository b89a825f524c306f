-- Written by a program of this session (wip/mkprint.py over the kit's print), out of the translation. Not trusted: Lean checks it.
import Derived.Test.YtnaginnhccldhaaBx0
import Derived.Test.YtnaginnhccldhaaBx1
import Derived.Test.YtnaginnhccldhaaBx2
import Derived.Test.YtnaginnhccldhaaBx4
import Derived.Test.YtnaginnhccldhaaBx5
import Derived.Test.YtnaginnhccldhaaBx6
import Derived.Test.YtnaginnhccldhaaBx7
import Derived.Test.YtnaginnhccldhaaBx15
import Derived.Test.YtnaginnhccldhaaBx16
namespace Go.Proofs.Ytnaginnhccldhaa.P
open Go.RowKit Go.Proofs.YtnaginnhccldhaaW.PrintWords Go.Proofs.YtnaginnhccldhaaW.PrintLast Go.Proofs.YtnaginnhccldhaaW.PrintMore
attribute [local go_sem] max2_int min2_int max_two min_two max_three min_three max_four min_four   -- for this text's walks alone
set_option linter.unusedVariables false
set_option linter.unusedSimpArgs false

/-! ### laws_FnFallingQuads: function 4 -/
mutual
def laws_FnFallingQuads.j0 : Nat → List Int → List Int → List (List Int) → Bool → List Int → Int → Bool → Bool → Option (Bool)
 | 0, _, _, _, _, _, _, _, _ => none
 | k + 1, x1, x5, x6, x7, x10, x18, x19, x149 => if x149 = true then (some false) else (if x7 = true then (if 0 < (x6.length : Int) then ((laws_dSame.f k (rd_L2 x6 0) x5).bind fun t582 => (if t582 = true then (if (x10.length : Int) = (wrap64 ((x6.length : Int) - 1)) then (if (x19 != (decide ((x10.length : Int) > 0))) = true then (laws_FnFallingQuads.j1 k x1 x5 x6 x10 true) else (if x19 = true then (if 0 < (x10.length : Int) then (laws_FnFallingQuads.j1 k x1 x5 x6 x10 (x18 != (rd x10 0))) else (none)) else (laws_FnFallingQuads.j1 k x1 x5 x6 x10 false))) else (laws_FnFallingQuads.j1 k x1 x5 x6 x10 true)) else (laws_FnFallingQuads.j1 k x1 x5 x6 x10 true))) else (none)) else (laws_FnFallingQuads.j5 k x1))
def laws_FnFallingQuads.j5 : Nat → List Int → Option (Bool)
 | 0, _ => none
 | k + 1, x1 => (spec_DrawSwapAt.f k x1).bind fun bt616 => ((impl_SwapAt.f k bt616.1 bt616.2).bind fun bt620 => ((spec_SwapAt.f k bt616.1 bt616.2).bind fun bt624 => (if (bt620.2 != bt624.2) = true then (laws_FnFallingQuads.j6 k x1 bt616.1 bt616.2 bt620.1 bt620.2 true) else ((laws_dSame.f k bt620.1 bt624.1).bind fun t628 => (laws_FnFallingQuads.j6 k x1 bt616.1 bt616.2 bt620.1 bt620.2 (!t628))))))
def laws_FnFallingQuads.j6 : Nat → List Int → List Int → Int → List Int → Bool → Bool → Option (Bool)
 | 0, _, _, _, _, _, _ => none
 | k + 1, x1, x34, x35, x36, x37, x313 => if x313 = true then (some false) else (if x37 = true then ((impl_SwapAt.f k x36 x35).bind fun bt629 => ((impl_RootQuad.f k x34).bind fun bt633 => ((impl_RootQuad.f k x36).bind fun bt637 => ((impl_IsQuad.f k x36).bind fun t641 => (if t641 = true then (if bt629.2 = true then ((laws_dSame.f k bt629.1 x34).bind fun t642 => (if t642 = true then (if bt633.2 = true then (if bt637.2 = true then ((laws_dSame.f k bt633.1 bt637.1).bind fun t643 => (if t643 = true then (laws_FnFallingQuads.j7 k x1) else (some false))) else (laws_FnFallingQuads.j7 k x1)) else (laws_FnFallingQuads.j7 k x1)) else (some false))) else (some false)) else (some false)))))) else (laws_FnFallingQuads.j7 k x1))
def laws_FnFallingQuads.j7 : Nat → List Int → Option (Bool)
 | 0, _ => none
 | k + 1, x1 => (spec_DrawIsRoot.f k x1).bind fun t644 => ((impl_IsRoot.f k t644).bind fun bt647 => ((spec_IsRoot.f k t644).bind fun bt649 => (if (bt647.2 != bt649.2) = true then (laws_FnFallingQuads.j8 k t644 bt647.1 true) else (if (bt647.1 != bt649.1) = true then (laws_FnFallingQuads.j8 k t644 bt647.1 true) else ((impl_IsQuad.f k t644).bind fun t651 => (laws_FnFallingQuads.j8 k t644 bt647.1 (bt647.2 != t651)))))))
def laws_FnFallingQuads.j8 : Nat → List Int → Bool → Bool → Option (Bool)
 | 0, _, _, _ => none
 | k + 1, x46, x47, x381 => if x381 = true then (some false) else (if x47 = true then (laws_FnFallingQuads.l2 k x46 0) else (some true))
def laws_FnFallingQuads.l2 : Nat → List Int → Int → Option (Bool)
 | 0, _, _ => none
 | k + 1, x46, x51 => if x51 < 4 then ((impl_SwapAt.f k x46 x51).bind fun bt652 => (if bt652.2 = true then ((laws_dSum.f k bt652.1).bind fun t656 => ((laws_dSum.f k x46).bind fun t657 => (if t656 < t657 then (some false) else (laws_FnFallingQuads.l2 k x46 (wrap64 (x51 + 1)))))) else (laws_FnFallingQuads.l2 k x46 (wrap64 (x51 + 1))))) else (some true)
def laws_FnFallingQuads.j1 : Nat → List Int → List Int → List (List Int) → List Int → Bool → Option (Bool)
 | 0, _, _, _, _, _ => none
 | k + 1, x1, x5, x6, x10, x181 => if x181 = true then (some false) else (laws_FnFallingQuads.l0 k x1 x5 x6 x10 1)
def laws_FnFallingQuads.l0 : Nat → List Int → List Int → List (List Int) → List Int → Int → Option (Bool)
 | 0, _, _, _, _, _ => none
 | k + 1, x1, x5, x6, x10, x22 => if x22 < (x6.length : Int) then (if 0 ≤ (wrap64 (x22 - 1)) then (if (wrap64 (x22 - 1)) < (x6.length : Int) then (if (wrap64 (x22 - 1)) < (x10.length : Int) then ((impl_SwapAt.f k (rd_L2 x6 (wrap64 (x22 - 1))) (rd x10 (wrap64 (x22 - 1)))).bind fun bt586 => (if bt586.2 = true then (if 0 ≤ x22 then ((laws_dSame.f k bt586.1 (rd_L2 x6 x22)).bind fun t591 => (if t591 = true then ((laws_dSum.f k (rd_L2 x6 x22)).bind fun t593 => ((laws_dSum.f k (rd_L2 x6 (wrap64 (x22 - 1)))).bind fun t595 => (if t593 ≥ t595 then (some false) else (laws_FnFallingQuads.l0 k x1 x5 x6 x10 (wrap64 (x22 + 1)))))) else (some false))) else (none)) else (some false))) else (none)) else (none)) else (none)) else (if 0 ≤ (wrap64 ((x6.length : Int) - 1)) then (if (wrap64 ((x6.length : Int) - 1)) < (x6.length : Int) then ((sameRow.f (rd_L2 x6 (wrap64 ((x6.length : Int) - 1)))).bind fun t597 => ((impl_IsRoot.f k t597).bind fun bt600 => ((impl_FollowSwaps.f k x5 x10).bind fun bt602 => (if bt600.2 = true then (if bt600.1 = true then (if bt602.2 = true then ((laws_dSame.f k bt602.1 t597).bind fun t606 => (laws_FnFallingQuads.j3 k x1 x5 x10 t597 (!t606))) else (laws_FnFallingQuads.j3 k x1 x5 x10 t597 true)) else (laws_FnFallingQuads.j3 k x1 x5 x10 t597 true)) else (laws_FnFallingQuads.j3 k x1 x5 x10 t597 true))))) else (none)) else (none))
def laws_FnFallingQuads.j3 : Nat → List Int → List Int → List Int → List Int → Bool → Option (Bool)
 | 0, _, _, _, _, _ => none
 | k + 1, x1, x5, x10, x25, x259 => if x259 = true then (some false) else (laws_FnFallingQuads.l1 k x1 x5 x10 x25 ([] : List Int) (wrap64 ((x10.length : Int) - 1)))
def laws_FnFallingQuads.l1 : Nat → List Int → List Int → List Int → List Int → List Int → Int → Option (Bool)
 | 0, _, _, _, _, _, _ => none
 | k + 1, x1, x5, x10, x25, x30, x31 => if x31 ≥ 0 then (if 0 ≤ x31 then (if x31 < (x10.length : Int) then (if x30.length < 17592186044416 then (laws_FnFallingQuads.l1 k x1 x5 x10 x25 (x30 ++ [rd x10 x31]) (wrap64 (x31 - 1))) else (none)) else (none)) else (none)) else ((impl_FollowSwaps.f k x25 x30).bind fun bt611 => (if bt611.2 = true then ((laws_dSame.f k bt611.1 x5).bind fun t615 => (if t615 = true then (laws_FnFallingQuads.j5 k x1) else (some false))) else (some false)))
end
def laws_FnFallingQuads.f (k : Nat) (l0 : List Int) (l1 : List Int) : Option (Bool) := (laws_big.f l0 l1).bind fun t546 => (if t546 = true then (some true) else ((spec_DrawDownPath.f k l0).bind fun t547 => ((impl_DownPath.f k t547).bind fun bt550 => ((spec_DownPath.f k t547).bind fun bt554 => ((impl_DownWord.f k t547).bind fun bt558 => ((spec_DownWord.f k t547).bind fun bt562 => ((impl_RootQuad.f k t547).bind fun bt566 => ((spec_RootQuad.f k t547).bind fun bt570 => ((impl_DownSwap.f k t547).bind fun bt574 => ((spec_DownSwap.f k t547).bind fun bt576 => (if (bt550.2 != bt554.2) = true then (laws_FnFallingQuads.j0 k l1 t547 bt550.1 bt550.2 bt558.1 bt574.1 bt574.2 true) else ((laws_dLists.f k bt550.1 bt554.1).bind fun t578 => (if t578 = true then (if (bt558.2 != bt562.2) = true then (laws_FnFallingQuads.j0 k l1 t547 bt550.1 bt550.2 bt558.1 bt574.1 bt574.2 true) else ((laws_dSame.f k bt558.1 bt562.1).bind fun t579 => (if t579 = true then (if (bt566.2 != bt570.2) = true then (laws_FnFallingQuads.j0 k l1 t547 bt550.1 bt550.2 bt558.1 bt574.1 bt574.2 true) else ((laws_dSame.f k bt566.1 bt570.1).bind fun t580 => (if t580 = true then (if (bt574.2 != bt576.2) = true then (laws_FnFallingQuads.j0 k l1 t547 bt550.1 bt550.2 bt558.1 bt574.1 bt574.2 true) else (if bt574.1 = bt576.1 then (if (bt558.2 != bt550.2) = true then (laws_FnFallingQuads.j0 k l1 t547 bt550.1 bt550.2 bt558.1 bt574.1 bt574.2 true) else (laws_FnFallingQuads.j0 k l1 t547 bt550.1 bt550.2 bt558.1 bt574.1 bt574.2 (bt566.2 != bt550.2))) else (laws_FnFallingQuads.j0 k l1 t547 bt550.1 bt550.2 bt558.1 bt574.1 bt574.2 true))) else (laws_FnFallingQuads.j0 k l1 t547 bt550.1 bt550.2 bt558.1 bt574.1 bt574.2 true)))) else (laws_FnFallingQuads.j0 k l1 t547 bt550.1 bt550.2 bt558.1 bt574.1 bt574.2 true)))) else (laws_FnFallingQuads.j0 k l1 t547 bt550.1 bt550.2 bt558.1 bt574.1 bt574.2 true))))))))))))))
theorem laws_FnFallingQuads.mono_l : ∀ k, (∀ y0 y1 y2 y3 y4 y5 y6 y7, LeO (laws_FnFallingQuads.j0 k y0 y1 y2 y3 y4 y5 y6 y7) (laws_FnFallingQuads.j0 (k + 1) y0 y1 y2 y3 y4 y5 y6 y7)) ∧ (∀ y0, LeO (laws_FnFallingQuads.j5 k y0) (laws_FnFallingQuads.j5 (k + 1) y0)) ∧ (∀ y0 y1 y2 y3 y4 y5, LeO (laws_FnFallingQuads.j6 k y0 y1 y2 y3 y4 y5) (laws_FnFallingQuads.j6 (k + 1) y0 y1 y2 y3 y4 y5)) ∧ (∀ y0, LeO (laws_FnFallingQuads.j7 k y0) (laws_FnFallingQuads.j7 (k + 1) y0)) ∧ (∀ y0 y1 y2, LeO (laws_FnFallingQuads.j8 k y0 y1 y2) (laws_FnFallingQuads.j8 (k + 1) y0 y1 y2)) ∧ (∀ y0 y1, LeO (laws_FnFallingQuads.l2 k y0 y1) (laws_FnFallingQuads.l2 (k + 1) y0 y1)) ∧ (∀ y0 y1 y2 y3 y4, LeO (laws_FnFallingQuads.j1 k y0 y1 y2 y3 y4) (laws_FnFallingQuads.j1 (k + 1) y0 y1 y2 y3 y4)) ∧ (∀ y0 y1 y2 y3 y4, LeO (laws_FnFallingQuads.l0 k y0 y1 y2 y3 y4) (laws_FnFallingQuads.l0 (k + 1) y0 y1 y2 y3 y4)) ∧ (∀ y0 y1 y2 y3 y4, LeO (laws_FnFallingQuads.j3 k y0 y1 y2 y3 y4) (laws_FnFallingQuads.j3 (k + 1) y0 y1 y2 y3 y4)) ∧ (∀ y0 y1 y2 y3 y4 y5, LeO (laws_FnFallingQuads.l1 k y0 y1 y2 y3 y4 y5) (laws_FnFallingQuads.l1 (k + 1) y0 y1 y2 y3 y4 y5))
 | 0 => ⟨fun _ _ _ _ _ _ _ _ r h => by simp [laws_FnFallingQuads.j0] at h, fun _ r h => by simp [laws_FnFallingQuads.j5] at h, fun _ _ _ _ _ _ r h => by simp [laws_FnFallingQuads.j6] at h, fun _ r h => by simp [laws_FnFallingQuads.j7] at h, fun _ _ _ r h => by simp [laws_FnFallingQuads.j8] at h, fun _ _ r h => by simp [laws_FnFallingQuads.l2] at h, fun _ _ _ _ _ r h => by simp [laws_FnFallingQuads.j1] at h, fun _ _ _ _ _ r h => by simp [laws_FnFallingQuads.l0] at h, fun _ _ _ _ _ r h => by simp [laws_FnFallingQuads.j3] at h, fun _ _ _ _ _ _ r h => by simp [laws_FnFallingQuads.l1] at h⟩
 | k + 1 => by
  obtain ⟨ih0, ih1, ih2, ih3, ih4, ih5, ih6, ih7, ih8, ih9⟩ := laws_FnFallingQuads.mono_l k
  refine ⟨?_, ?_, ?_, ?_, ?_, ?_, ?_, ?_, ?_, ?_⟩
  ·
   intro y0 y1 y2 y3 y4 y5 y6 y7
   unfold laws_FnFallingQuads.j0
   repeat' first
   | (with_reducible exact ih0 _ _ _ _ _ _ _ _)
   | (with_reducible exact ih1 _)
   | (with_reducible exact ih2 _ _ _ _ _ _)
   | (with_reducible exact ih3 _)
   | (with_reducible exact ih4 _ _ _)
   | (with_reducible exact ih5 _ _)
   | (with_reducible exact ih6 _ _ _ _ _)
   | (with_reducible exact ih7 _ _ _ _ _)
   | (with_reducible exact ih8 _ _ _ _ _)
   | (with_reducible exact ih9 _ _ _ _ _ _)
   | (with_reducible exact impl_DownPath.mono _ _)
   | (with_reducible exact impl_DownSwap.mono _ _)
   | (with_reducible exact impl_DownWord.mono _ _)
   | (with_reducible exact impl_FollowSwaps.mono _ _ _)
   | (with_reducible exact impl_IsQuad.mono _ _)
   | (with_reducible exact impl_IsRoot.mono _ _)
   | (with_reducible exact impl_RootQuad.mono _ _)
   | (with_reducible exact impl_SwapAt.mono _ _ _)
   | (with_reducible exact laws_dLists.mono _ _ _)
   | (with_reducible exact laws_dSame.mono _ _ _)
   | (with_reducible exact laws_dSum.mono _ _)
   | (with_reducible exact spec_DownPath.mono _ _)
   | (with_reducible exact spec_DownSwap.mono _ _)
   | (with_reducible exact spec_DownWord.mono _ _)
   | (with_reducible exact spec_DrawDownPath.mono _ _)
   | (with_reducible exact spec_DrawIsRoot.mono _ _)
   | (with_reducible exact spec_DrawSwapAt.mono _ _)
   | (with_reducible exact spec_IsRoot.mono _ _)
   | (with_reducible exact spec_RootQuad.mono _ _)
   | (with_reducible exact spec_SwapAt.mono _ _ _)
   | (with_reducible exact LeO.refl _)
   | (with_reducible exact LeO.none _)
   | (with_reducible refine LeO.ite ?_ ?_)
   | (with_reducible refine LeO.bind ?_ (fun _ => ?_))
   | exact ih0 _ _ _ _ _ _ _ _
   | exact ih1 _
   | exact ih2 _ _ _ _ _ _
   | exact ih3 _
   | exact ih4 _ _ _
   | exact ih5 _ _
   | exact ih6 _ _ _ _ _
   | exact ih7 _ _ _ _ _
   | exact ih8 _ _ _ _ _
   | exact ih9 _ _ _ _ _ _
   | exact impl_DownPath.mono _ _
   | exact impl_DownSwap.mono _ _
   | exact impl_DownWord.mono _ _
   | exact impl_FollowSwaps.mono _ _ _
   | exact impl_IsQuad.mono _ _
   | exact impl_IsRoot.mono _ _
   | exact impl_RootQuad.mono _ _
   | exact impl_SwapAt.mono _ _ _
   | exact laws_dLists.mono _ _ _
   | exact laws_dSame.mono _ _ _
   | exact laws_dSum.mono _ _
   | exact spec_DownPath.mono _ _
   | exact spec_DownSwap.mono _ _
   | exact spec_DownWord.mono _ _
   | exact spec_DrawDownPath.mono _ _
   | exact spec_DrawIsRoot.mono _ _
   | exact spec_DrawSwapAt.mono _ _
   | exact spec_IsRoot.mono _ _
   | exact spec_RootQuad.mono _ _
   | exact spec_SwapAt.mono _ _ _
   | exact LeO.none _
   | refine LeO.ite ?_ ?_
   | refine LeO.bind ?_ (fun _ => ?_)
  ·
   intro y0
   unfold laws_FnFallingQuads.j5
   repeat' first
   | (with_reducible exact ih0 _ _ _ _ _ _ _ _)
   | (with_reducible exact ih1 _)
   | (with_reducible exact ih2 _ _ _ _ _ _)
   | (with_reducible exact ih3 _)
   | (with_reducible exact ih4 _ _ _)
   | (with_reducible exact ih5 _ _)
   | (with_reducible exact ih6 _ _ _ _ _)
   | (with_reducible exact ih7 _ _ _ _ _)
   | (with_reducible exact ih8 _ _ _ _ _)
   | (with_reducible exact ih9 _ _ _ _ _ _)
   | (with_reducible exact impl_DownPath.mono _ _)
   | (with_reducible exact impl_DownSwap.mono _ _)
   | (with_reducible exact impl_DownWord.mono _ _)
   | (with_reducible exact impl_FollowSwaps.mono _ _ _)
   | (with_reducible exact impl_IsQuad.mono _ _)
   | (with_reducible exact impl_IsRoot.mono _ _)
   | (with_reducible exact impl_RootQuad.mono _ _)
   | (with_reducible exact impl_SwapAt.mono _ _ _)
   | (with_reducible exact laws_dLists.mono _ _ _)
   | (with_reducible exact laws_dSame.mono _ _ _)
   | (with_reducible exact laws_dSum.mono _ _)
   | (with_reducible exact spec_DownPath.mono _ _)
   | (with_reducible exact spec_DownSwap.mono _ _)
   | (with_reducible exact spec_DownWord.mono _ _)
   | (with_reducible exact spec_DrawDownPath.mono _ _)
   | (with_reducible exact spec_DrawIsRoot.mono _ _)
   | (with_reducible exact spec_DrawSwapAt.mono _ _)
   | (with_reducible exact spec_IsRoot.mono _ _)
   | (with_reducible exact spec_RootQuad.mono _ _)
   | (with_reducible exact spec_SwapAt.mono _ _ _)
   | (with_reducible exact LeO.refl _)
   | (with_reducible exact LeO.none _)
   | (with_reducible refine LeO.ite ?_ ?_)
   | (with_reducible refine LeO.bind ?_ (fun _ => ?_))
   | exact ih0 _ _ _ _ _ _ _ _
   | exact ih1 _
   | exact ih2 _ _ _ _ _ _
   | exact ih3 _
   | exact ih4 _ _ _
   | exact ih5 _ _
   | exact ih6 _ _ _ _ _
   | exact ih7 _ _ _ _ _
   | exact ih8 _ _ _ _ _
   | exact ih9 _ _ _ _ _ _
   | exact impl_DownPath.mono _ _
   | exact impl_DownSwap.mono _ _
   | exact impl_DownWord.mono _ _
   | exact impl_FollowSwaps.mono _ _ _
   | exact impl_IsQuad.mono _ _
   | exact impl_IsRoot.mono _ _
   | exact impl_RootQuad.mono _ _
   | exact impl_SwapAt.mono _ _ _
   | exact laws_dLists.mono _ _ _
   | exact laws_dSame.mono _ _ _
   | exact laws_dSum.mono _ _
   | exact spec_DownPath.mono _ _
   | exact spec_DownSwap.mono _ _
   | exact spec_DownWord.mono _ _
   | exact spec_DrawDownPath.mono _ _
   | exact spec_DrawIsRoot.mono _ _
   | exact spec_DrawSwapAt.mono _ _
   | exact spec_IsRoot.mono _ _
   | exact spec_RootQuad.mono _ _
   | exact spec_SwapAt.mono _ _ _
   | exact LeO.none _
   | refine LeO.ite ?_ ?_
   | refine LeO.bind ?_ (fun _ => ?_)
  ·
   intro y0 y1 y2 y3 y4 y5
   unfold laws_FnFallingQuads.j6
   repeat' first
   | (with_reducible exact ih0 _ _ _ _ _ _ _ _)
   | (with_reducible exact ih1 _)
   | (with_reducible exact ih2 _ _ _ _ _ _)
   | (with_reducible exact ih3 _)
   | (with_reducible exact ih4 _ _ _)
   | (with_reducible exact ih5 _ _)
   | (with_reducible exact ih6 _ _ _ _ _)
   | (with_reducible exact ih7 _ _ _ _ _)
   | (with_reducible exact ih8 _ _ _ _ _)
   | (with_reducible exact ih9 _ _ _ _ _ _)
   | (with_reducible exact impl_DownPath.mono _ _)
   | (with_reducible exact impl_DownSwap.mono _ _)
   | (with_reducible exact impl_DownWord.mono _ _)
   | (with_reducible exact impl_FollowSwaps.mono _ _ _)
   | (with_reducible exact impl_IsQuad.mono _ _)
   | (with_reducible exact impl_IsRoot.mono _ _)
   | (with_reducible exact impl_RootQuad.mono _ _)
   | (with_reducible exact impl_SwapAt.mono _ _ _)
   | (with_reducible exact laws_dLists.mono _ _ _)
   | (with_reducible exact laws_dSame.mono _ _ _)
   | (with_reducible exact laws_dSum.mono _ _)
   | (with_reducible exact spec_DownPath.mono _ _)
   | (with_reducible exact spec_DownSwap.mono _ _)
   | (with_reducible exact spec_DownWord.mono _ _)
   | (with_reducible exact spec_DrawDownPath.mono _ _)
   | (with_reducible exact spec_DrawIsRoot.mono _ _)
   | (with_reducible exact spec_DrawSwapAt.mono _ _)
   | (with_reducible exact spec_IsRoot.mono _ _)
   | (with_reducible exact spec_RootQuad.mono _ _)
   | (with_reducible exact spec_SwapAt.mono _ _ _)
   | (with_reducible exact LeO.refl _)
   | (with_reducible exact LeO.none _)
   | (with_reducible refine LeO.ite ?_ ?_)
   | (with_reducible refine LeO.bind ?_ (fun _ => ?_))
   | exact ih0 _ _ _ _ _ _ _ _
   | exact ih1 _
   | exact ih2 _ _ _ _ _ _
   | exact ih3 _
   | exact ih4 _ _ _
   | exact ih5 _ _
   | exact ih6 _ _ _ _ _
   | exact ih7 _ _ _ _ _
   | exact ih8 _ _ _ _ _
   | exact ih9 _ _ _ _ _ _
   | exact impl_DownPath.mono _ _
   | exact impl_DownSwap.mono _ _
   | exact impl_DownWord.mono _ _
   | exact impl_FollowSwaps.mono _ _ _
   | exact impl_IsQuad.mono _ _
   | exact impl_IsRoot.mono _ _
   | exact impl_RootQuad.mono _ _
   | exact impl_SwapAt.mono _ _ _
   | exact laws_dLists.mono _ _ _
   | exact laws_dSame.mono _ _ _
   | exact laws_dSum.mono _ _
   | exact spec_DownPath.mono _ _
   | exact spec_DownSwap.mono _ _
   | exact spec_DownWord.mono _ _
   | exact spec_DrawDownPath.mono _ _
   | exact spec_DrawIsRoot.mono _ _
   | exact spec_DrawSwapAt.mono _ _
   | exact spec_IsRoot.mono _ _
   | exact spec_RootQuad.mono _ _
   | exact spec_SwapAt.mono _ _ _
   | exact LeO.none _
   | refine LeO.ite ?_ ?_
   | refine LeO.bind ?_ (fun _ => ?_)
  ·
   intro y0
   unfold laws_FnFallingQuads.j7
   repeat' first
   | (with_reducible exact ih0 _ _ _ _ _ _ _ _)
   | (with_reducible exact ih1 _)
   | (with_reducible exact ih2 _ _ _ _ _ _)
   | (with_reducible exact ih3 _)
   | (with_reducible exact ih4 _ _ _)
   | (with_reducible exact ih5 _ _)
   | (with_reducible exact ih6 _ _ _ _ _)
   | (with_reducible exact ih7 _ _ _ _ _)
   | (with_reducible exact ih8 _ _ _ _ _)
   | (with_reducible exact ih9 _ _ _ _ _ _)
   | (with_reducible exact impl_DownPath.mono _ _)
   | (with_reducible exact impl_DownSwap.mono _ _)
   | (with_reducible exact impl_DownWord.mono _ _)
   | (with_reducible exact impl_FollowSwaps.mono _ _ _)
   | (with_reducible exact impl_IsQuad.mono _ _)
   | (with_reducible exact impl_IsRoot.mono _ _)
   | (with_reducible exact impl_RootQuad.mono _ _)
   | (with_reducible exact impl_SwapAt.mono _ _ _)
   | (with_reducible exact laws_dLists.mono _ _ _)
   | (with_reducible exact laws_dSame.mono _ _ _)
   | (with_reducible exact laws_dSum.mono _ _)
   | (with_reducible exact spec_DownPath.mono _ _)
   | (with_reducible exact spec_DownSwap.mono _ _)
   | (with_reducible exact spec_DownWord.mono _ _)
   | (with_reducible exact spec_DrawDownPath.mono _ _)
   | (with_reducible exact spec_DrawIsRoot.mono _ _)
   | (with_reducible exact spec_DrawSwapAt.mono _ _)
   | (with_reducible exact spec_IsRoot.mono _ _)
   | (with_reducible exact spec_RootQuad.mono _ _)
   | (with_reducible exact spec_SwapAt.mono _ _ _)
   | (with_reducible exact LeO.refl _)
   | (with_reducible exact LeO.none _)
   | (with_reducible refine LeO.ite ?_ ?_)
   | (with_reducible refine LeO.bind ?_ (fun _ => ?_))
   | exact ih0 _ _ _ _ _ _ _ _
   | exact ih1 _
   | exact ih2 _ _ _ _ _ _
   | exact ih3 _
   | exact ih4 _ _ _
   | exact ih5 _ _
   | exact ih6 _ _ _ _ _
   | exact ih7 _ _ _ _ _
   | exact ih8 _ _ _ _ _
   | exact ih9 _ _ _ _ _ _
   | exact impl_DownPath.mono _ _
   | exact impl_DownSwap.mono _ _
   | exact impl_DownWord.mono _ _
   | exact impl_FollowSwaps.mono _ _ _
   | exact impl_IsQuad.mono _ _
   | exact impl_IsRoot.mono _ _
   | exact impl_RootQuad.mono _ _
   | exact impl_SwapAt.mono _ _ _
   | exact laws_dLists.mono _ _ _
   | exact laws_dSame.mono _ _ _
   | exact laws_dSum.mono _ _
   | exact spec_DownPath.mono _ _
   | exact spec_DownSwap.mono _ _
   | exact spec_DownWord.mono _ _
   | exact spec_DrawDownPath.mono _ _
   | exact spec_DrawIsRoot.mono _ _
   | exact spec_DrawSwapAt.mono _ _
   | exact spec_IsRoot.mono _ _
   | exact spec_RootQuad.mono _ _
   | exact spec_SwapAt.mono _ _ _
   | exact LeO.none _
   | refine LeO.ite ?_ ?_
   | refine LeO.bind ?_ (fun _ => ?_)
  ·
   intro y0 y1 y2
   unfold laws_FnFallingQuads.j8
   repeat' first
   | (with_reducible exact ih0 _ _ _ _ _ _ _ _)
   | (with_reducible exact ih1 _)
   | (with_reducible exact ih2 _ _ _ _ _ _)
   | (with_reducible exact ih3 _)
   | (with_reducible exact ih4 _ _ _)
   | (with_reducible exact ih5 _ _)
   | (with_reducible exact ih6 _ _ _ _ _)
   | (with_reducible exact ih7 _ _ _ _ _)
   | (with_reducible exact ih8 _ _ _ _ _)
   | (with_reducible exact ih9 _ _ _ _ _ _)
   | (with_reducible exact impl_DownPath.mono _ _)
   | (with_reducible exact impl_DownSwap.mono _ _)
   | (with_reducible exact impl_DownWord.mono _ _)
   | (with_reducible exact impl_FollowSwaps.mono _ _ _)
   | (with_reducible exact impl_IsQuad.mono _ _)
   | (with_reducible exact impl_IsRoot.mono _ _)
   | (with_reducible exact impl_RootQuad.mono _ _)
   | (with_reducible exact impl_SwapAt.mono _ _ _)
   | (with_reducible exact laws_dLists.mono _ _ _)
   | (with_reducible exact laws_dSame.mono _ _ _)
   | (with_reducible exact laws_dSum.mono _ _)
   | (with_reducible exact spec_DownPath.mono _ _)
   | (with_reducible exact spec_DownSwap.mono _ _)
   | (with_reducible exact spec_DownWord.mono _ _)
   | (with_reducible exact spec_DrawDownPath.mono _ _)
   | (with_reducible exact spec_DrawIsRoot.mono _ _)
   | (with_reducible exact spec_DrawSwapAt.mono _ _)
   | (with_reducible exact spec_IsRoot.mono _ _)
   | (with_reducible exact spec_RootQuad.mono _ _)
   | (with_reducible exact spec_SwapAt.mono _ _ _)
   | (with_reducible exact LeO.refl _)
   | (with_reducible exact LeO.none _)
   | (with_reducible refine LeO.ite ?_ ?_)
   | (with_reducible refine LeO.bind ?_ (fun _ => ?_))
   | exact ih0 _ _ _ _ _ _ _ _
   | exact ih1 _
   | exact ih2 _ _ _ _ _ _
   | exact ih3 _
   | exact ih4 _ _ _
   | exact ih5 _ _
   | exact ih6 _ _ _ _ _
   | exact ih7 _ _ _ _ _
   | exact ih8 _ _ _ _ _
   | exact ih9 _ _ _ _ _ _
   | exact impl_DownPath.mono _ _
   | exact impl_DownSwap.mono _ _
   | exact impl_DownWord.mono _ _
   | exact impl_FollowSwaps.mono _ _ _
   | exact impl_IsQuad.mono _ _
   | exact impl_IsRoot.mono _ _
   | exact impl_RootQuad.mono _ _
   | exact impl_SwapAt.mono _ _ _
   | exact laws_dLists.mono _ _ _
   | exact laws_dSame.mono _ _ _
   | exact laws_dSum.mono _ _
   | exact spec_DownPath.mono _ _
   | exact spec_DownSwap.mono _ _
   | exact spec_DownWord.mono _ _
   | exact spec_DrawDownPath.mono _ _
   | exact spec_DrawIsRoot.mono _ _
   | exact spec_DrawSwapAt.mono _ _
   | exact spec_IsRoot.mono _ _
   | exact spec_RootQuad.mono _ _
   | exact spec_SwapAt.mono _ _ _
   | exact LeO.none _
   | refine LeO.ite ?_ ?_
   | refine LeO.bind ?_ (fun _ => ?_)
  ·
   intro y0 y1
   unfold laws_FnFallingQuads.l2
   repeat' first
   | (with_reducible exact ih0 _ _ _ _ _ _ _ _)
   | (with_reducible exact ih1 _)
   | (with_reducible exact ih2 _ _ _ _ _ _)
   | (with_reducible exact ih3 _)
   | (with_reducible exact ih4 _ _ _)
   | (with_reducible exact ih5 _ _)
   | (with_reducible exact ih6 _ _ _ _ _)
   | (with_reducible exact ih7 _ _ _ _ _)
   | (with_reducible exact ih8 _ _ _ _ _)
   | (with_reducible exact ih9 _ _ _ _ _ _)
   | (with_reducible exact impl_DownPath.mono _ _)
   | (with_reducible exact impl_DownSwap.mono _ _)
   | (with_reducible exact impl_DownWord.mono _ _)
   | (with_reducible exact impl_FollowSwaps.mono _ _ _)
   | (with_reducible exact impl_IsQuad.mono _ _)
   | (with_reducible exact impl_IsRoot.mono _ _)
   | (with_reducible exact impl_RootQuad.mono _ _)
   | (with_reducible exact impl_SwapAt.mono _ _ _)
   | (with_reducible exact laws_dLists.mono _ _ _)
   | (with_reducible exact laws_dSame.mono _ _ _)
   | (with_reducible exact laws_dSum.mono _ _)
   | (with_reducible exact spec_DownPath.mono _ _)
   | (with_reducible exact spec_DownSwap.mono _ _)
   | (with_reducible exact spec_DownWord.mono _ _)
   | (with_reducible exact spec_DrawDownPath.mono _ _)
   | (with_reducible exact spec_DrawIsRoot.mono _ _)
   | (with_reducible exact spec_DrawSwapAt.mono _ _)
   | (with_reducible exact spec_IsRoot.mono _ _)
   | (with_reducible exact spec_RootQuad.mono _ _)
   | (with_reducible exact spec_SwapAt.mono _ _ _)
   | (with_reducible exact LeO.refl _)
   | (with_reducible exact LeO.none _)
   | (with_reducible refine LeO.ite ?_ ?_)
   | (with_reducible refine LeO.bind ?_ (fun _ => ?_))
   | exact ih0 _ _ _ _ _ _ _ _
   | exact ih1 _
   | exact ih2 _ _ _ _ _ _
   | exact ih3 _
   | exact ih4 _ _ _
   | exact ih5 _ _
   | exact ih6 _ _ _ _ _
   | exact ih7 _ _ _ _ _
   | exact ih8 _ _ _ _ _
   | exact ih9 _ _ _ _ _ _
   | exact impl_DownPath.mono _ _
   | exact impl_DownSwap.mono _ _
   | exact impl_DownWord.mono _ _
   | exact impl_FollowSwaps.mono _ _ _
   | exact impl_IsQuad.mono _ _
   | exact impl_IsRoot.mono _ _
   | exact impl_RootQuad.mono _ _
   | exact impl_SwapAt.mono _ _ _
   | exact laws_dLists.mono _ _ _
   | exact laws_dSame.mono _ _ _
   | exact laws_dSum.mono _ _
   | exact spec_DownPath.mono _ _
   | exact spec_DownSwap.mono _ _
   | exact spec_DownWord.mono _ _
   | exact spec_DrawDownPath.mono _ _
   | exact spec_DrawIsRoot.mono _ _
   | exact spec_DrawSwapAt.mono _ _
   | exact spec_IsRoot.mono _ _
   | exact spec_RootQuad.mono _ _
   | exact spec_SwapAt.mono _ _ _
   | exact LeO.none _
   | refine LeO.ite ?_ ?_
   | refine LeO.bind ?_ (fun _ => ?_)
  ·
   intro y0 y1 y2 y3 y4
   unfold laws_FnFallingQuads.j1
   repeat' first
   | (with_reducible exact ih0 _ _ _ _ _ _ _ _)
   | (with_reducible exact ih1 _)
   | (with_reducible exact ih2 _ _ _ _ _ _)
   | (with_reducible exact ih3 _)
   | (with_reducible exact ih4 _ _ _)
   | (with_reducible exact ih5 _ _)
   | (with_reducible exact ih6 _ _ _ _ _)
   | (with_reducible exact ih7 _ _ _ _ _)
   | (with_reducible exact ih8 _ _ _ _ _)
   | (with_reducible exact ih9 _ _ _ _ _ _)
   | (with_reducible exact impl_DownPath.mono _ _)
   | (with_reducible exact impl_DownSwap.mono _ _)
   | (with_reducible exact impl_DownWord.mono _ _)
   | (with_reducible exact impl_FollowSwaps.mono _ _ _)
   | (with_reducible exact impl_IsQuad.mono _ _)
   | (with_reducible exact impl_IsRoot.mono _ _)
   | (with_reducible exact impl_RootQuad.mono _ _)
   | (with_reducible exact impl_SwapAt.mono _ _ _)
   | (with_reducible exact laws_dLists.mono _ _ _)
   | (with_reducible exact laws_dSame.mono _ _ _)
   | (with_reducible exact laws_dSum.mono _ _)
   | (with_reducible exact spec_DownPath.mono _ _)
   | (with_reducible exact spec_DownSwap.mono _ _)
   | (with_reducible exact spec_DownWord.mono _ _)
   | (with_reducible exact spec_DrawDownPath.mono _ _)
   | (with_reducible exact spec_DrawIsRoot.mono _ _)
   | (with_reducible exact spec_DrawSwapAt.mono _ _)
   | (with_reducible exact spec_IsRoot.mono _ _)
   | (with_reducible exact spec_RootQuad.mono _ _)
   | (with_reducible exact spec_SwapAt.mono _ _ _)
   | (with_reducible exact LeO.refl _)
   | (with_reducible exact LeO.none _)
   | (with_reducible refine LeO.ite ?_ ?_)
   | (with_reducible refine LeO.bind ?_ (fun _ => ?_))
   | exact ih0 _ _ _ _ _ _ _ _
   | exact ih1 _
   | exact ih2 _ _ _ _ _ _
   | exact ih3 _
   | exact ih4 _ _ _
   | exact ih5 _ _
   | exact ih6 _ _ _ _ _
   | exact ih7 _ _ _ _ _
   | exact ih8 _ _ _ _ _
   | exact ih9 _ _ _ _ _ _
   | exact impl_DownPath.mono _ _
   | exact impl_DownSwap.mono _ _
   | exact impl_DownWord.mono _ _
   | exact impl_FollowSwaps.mono _ _ _
   | exact impl_IsQuad.mono _ _
   | exact impl_IsRoot.mono _ _
   | exact impl_RootQuad.mono _ _
   | exact impl_SwapAt.mono _ _ _
   | exact laws_dLists.mono _ _ _
   | exact laws_dSame.mono _ _ _
   | exact laws_dSum.mono _ _
   | exact spec_DownPath.mono _ _
   | exact spec_DownSwap.mono _ _
   | exact spec_DownWord.mono _ _
   | exact spec_DrawDownPath.mono _ _
   | exact spec_DrawIsRoot.mono _ _
   | exact spec_DrawSwapAt.mono _ _
   | exact spec_IsRoot.mono _ _
   | exact spec_RootQuad.mono _ _
   | exact spec_SwapAt.mono _ _ _
   | exact LeO.none _
   | refine LeO.ite ?_ ?_
   | refine LeO.bind ?_ (fun _ => ?_)
  ·
   intro y0 y1 y2 y3 y4
   unfold laws_FnFallingQuads.l0
   repeat' first
   | (with_reducible exact ih0 _ _ _ _ _ _ _ _)
   | (with_reducible exact ih1 _)
   | (with_reducible exact ih2 _ _ _ _ _ _)
   | (with_reducible exact ih3 _)
   | (with_reducible exact ih4 _ _ _)
   | (with_reducible exact ih5 _ _)
   | (with_reducible exact ih6 _ _ _ _ _)
   | (with_reducible exact ih7 _ _ _ _ _)
   | (with_reducible exact ih8 _ _ _ _ _)
   | (with_reducible exact ih9 _ _ _ _ _ _)
   | (with_reducible exact impl_DownPath.mono _ _)
   | (with_reducible exact impl_DownSwap.mono _ _)
   | (with_reducible exact impl_DownWord.mono _ _)
   | (with_reducible exact impl_FollowSwaps.mono _ _ _)
   | (with_reducible exact impl_IsQuad.mono _ _)
   | (with_reducible exact impl_IsRoot.mono _ _)
   | (with_reducible exact impl_RootQuad.mono _ _)
   | (with_reducible exact impl_SwapAt.mono _ _ _)
   | (with_reducible exact laws_dLists.mono _ _ _)
   | (with_reducible exact laws_dSame.mono _ _ _)
   | (with_reducible exact laws_dSum.mono _ _)
   | (with_reducible exact spec_DownPath.mono _ _)
   | (with_reducible exact spec_DownSwap.mono _ _)
   | (with_reducible exact spec_DownWord.mono _ _)
   | (with_reducible exact spec_DrawDownPath.mono _ _)
   | (with_reducible exact spec_DrawIsRoot.mono _ _)
   | (with_reducible exact spec_DrawSwapAt.mono _ _)
   | (with_reducible exact spec_IsRoot.mono _ _)
   | (with_reducible exact spec_RootQuad.mono _ _)
   | (with_reducible exact spec_SwapAt.mono _ _ _)
   | (with_reducible exact LeO.refl _)
   | (with_reducible exact LeO.none _)
   | (with_reducible refine LeO.ite ?_ ?_)
   | (with_reducible refine LeO.bind ?_ (fun _ => ?_))
   | exact ih0 _ _ _ _ _ _ _ _
   | exact ih1 _
   | exact ih2 _ _ _ _ _ _
   | exact ih3 _
   | exact ih4 _ _ _
   | exact ih5 _ _
   | exact ih6 _ _ _ _ _
   | exact ih7 _ _ _ _ _
   | exact ih8 _ _ _ _ _
   | exact ih9 _ _ _ _ _ _
   | exact impl_DownPath.mono _ _
   | exact impl_DownSwap.mono _ _
   | exact impl_DownWord.mono _ _
   | exact impl_FollowSwaps.mono _ _ _
   | exact impl_IsQuad.mono _ _
   | exact impl_IsRoot.mono _ _
   | exact impl_RootQuad.mono _ _
   | exact impl_SwapAt.mono _ _ _
   | exact laws_dLists.mono _ _ _
   | exact laws_dSame.mono _ _ _
   | exact laws_dSum.mono _ _
   | exact spec_DownPath.mono _ _
   | exact spec_DownSwap.mono _ _
   | exact spec_DownWord.mono _ _
   | exact spec_DrawDownPath.mono _ _
   | exact spec_DrawIsRoot.mono _ _
   | exact spec_DrawSwapAt.mono _ _
   | exact spec_IsRoot.mono _ _
   | exact spec_RootQuad.mono _ _
   | exact spec_SwapAt.mono _ _ _
   | exact LeO.none _
   | refine LeO.ite ?_ ?_
   | refine LeO.bind ?_ (fun _ => ?_)
  ·
   intro y0 y1 y2 y3 y4
   unfold laws_FnFallingQuads.j3
   repeat' first
   | (with_reducible exact ih0 _ _ _ _ _ _ _ _)
   | (with_reducible exact ih1 _)
   | (with_reducible exact ih2 _ _ _ _ _ _)
   | (with_reducible exact ih3 _)
   | (with_reducible exact ih4 _ _ _)
   | (with_reducible exact ih5 _ _)
   | (with_reducible exact ih6 _ _ _ _ _)
   | (with_reducible exact ih7 _ _ _ _ _)
   | (with_reducible exact ih8 _ _ _ _ _)
   | (with_reducible exact ih9 _ _ _ _ _ _)
   | (with_reducible exact impl_DownPath.mono _ _)
   | (with_reducible exact impl_DownSwap.mono _ _)
   | (with_reducible exact impl_DownWord.mono _ _)
   | (with_reducible exact impl_FollowSwaps.mono _ _ _)
   | (with_reducible exact impl_IsQuad.mono _ _)
   | (with_reducible exact impl_IsRoot.mono _ _)
   | (with_reducible exact impl_RootQuad.mono _ _)
   | (with_reducible exact impl_SwapAt.mono _ _ _)
   | (with_reducible exact laws_dLists.mono _ _ _)
   | (with_reducible exact laws_dSame.mono _ _ _)
   | (with_reducible exact laws_dSum.mono _ _)
   | (with_reducible exact spec_DownPath.mono _ _)
   | (with_reducible exact spec_DownSwap.mono _ _)
   | (with_reducible exact spec_DownWord.mono _ _)
   | (with_reducible exact spec_DrawDownPath.mono _ _)
   | (with_reducible exact spec_DrawIsRoot.mono _ _)
   | (with_reducible exact spec_DrawSwapAt.mono _ _)
   | (with_reducible exact spec_IsRoot.mono _ _)
   | (with_reducible exact spec_RootQuad.mono _ _)
   | (with_reducible exact spec_SwapAt.mono _ _ _)
   | (with_reducible exact LeO.refl _)
   | (with_reducible exact LeO.none _)
   | (with_reducible refine LeO.ite ?_ ?_)
   | (with_reducible refine LeO.bind ?_ (fun _ => ?_))
   | exact ih0 _ _ _ _ _ _ _ _
   | exact ih1 _
   | exact ih2 _ _ _ _ _ _
   | exact ih3 _
   | exact ih4 _ _ _
   | exact ih5 _ _
   | exact ih6 _ _ _ _ _
   | exact ih7 _ _ _ _ _
   | exact ih8 _ _ _ _ _
   | exact ih9 _ _ _ _ _ _
   | exact impl_DownPath.mono _ _
   | exact impl_DownSwap.mono _ _
   | exact impl_DownWord.mono _ _
   | exact impl_FollowSwaps.mono _ _ _
   | exact impl_IsQuad.mono _ _
   | exact impl_IsRoot.mono _ _
   | exact impl_RootQuad.mono _ _
   | exact impl_SwapAt.mono _ _ _
   | exact laws_dLists.mono _ _ _
   | exact laws_dSame.mono _ _ _
   | exact laws_dSum.mono _ _
   | exact spec_DownPath.mono _ _
   | exact spec_DownSwap.mono _ _
   | exact spec_DownWord.mono _ _
   | exact spec_DrawDownPath.mono _ _
   | exact spec_DrawIsRoot.mono _ _
   | exact spec_DrawSwapAt.mono _ _
   | exact spec_IsRoot.mono _ _
   | exact spec_RootQuad.mono _ _
   | exact spec_SwapAt.mono _ _ _
   | exact LeO.none _
   | refine LeO.ite ?_ ?_
   | refine LeO.bind ?_ (fun _ => ?_)
  ·
   intro y0 y1 y2 y3 y4 y5
   unfold laws_FnFallingQuads.l1
   repeat' first
   | (with_reducible exact ih0 _ _ _ _ _ _ _ _)
   | (with_reducible exact ih1 _)
   | (with_reducible exact ih2 _ _ _ _ _ _)
   | (with_reducible exact ih3 _)
   | (with_reducible exact ih4 _ _ _)
   | (with_reducible exact ih5 _ _)
   | (with_reducible exact ih6 _ _ _ _ _)
   | (with_reducible exact ih7 _ _ _ _ _)
   | (with_reducible exact ih8 _ _ _ _ _)
   | (with_reducible exact ih9 _ _ _ _ _ _)
   | (with_reducible exact impl_DownPath.mono _ _)
   | (with_reducible exact impl_DownSwap.mono _ _)
   | (with_reducible exact impl_DownWord.mono _ _)
   | (with_reducible exact impl_FollowSwaps.mono _ _ _)
   | (with_reducible exact impl_IsQuad.mono _ _)
   | (with_reducible exact impl_IsRoot.mono _ _)
   | (with_reducible exact impl_RootQuad.mono _ _)
   | (with_reducible exact impl_SwapAt.mono _ _ _)
   | (with_reducible exact laws_dLists.mono _ _ _)
   | (with_reducible exact laws_dSame.mono _ _ _)
   | (with_reducible exact laws_dSum.mono _ _)
   | (with_reducible exact spec_DownPath.mono _ _)
   | (with_reducible exact spec_DownSwap.mono _ _)
   | (with_reducible exact spec_DownWord.mono _ _)
   | (with_reducible exact spec_DrawDownPath.mono _ _)
   | (with_reducible exact spec_DrawIsRoot.mono _ _)
   | (with_reducible exact spec_DrawSwapAt.mono _ _)
   | (with_reducible exact spec_IsRoot.mono _ _)
   | (with_reducible exact spec_RootQuad.mono _ _)
   | (with_reducible exact spec_SwapAt.mono _ _ _)
   | (with_reducible exact LeO.refl _)
   | (with_reducible exact LeO.none _)
   | (with_reducible refine LeO.ite ?_ ?_)
   | (with_reducible refine LeO.bind ?_ (fun _ => ?_))
   | exact ih0 _ _ _ _ _ _ _ _
   | exact ih1 _
   | exact ih2 _ _ _ _ _ _
   | exact ih3 _
   | exact ih4 _ _ _
   | exact ih5 _ _
   | exact ih6 _ _ _ _ _
   | exact ih7 _ _ _ _ _
   | exact ih8 _ _ _ _ _
   | exact ih9 _ _ _ _ _ _
   | exact impl_DownPath.mono _ _
   | exact impl_DownSwap.mono _ _
   | exact impl_DownWord.mono _ _
   | exact impl_FollowSwaps.mono _ _ _
   | exact impl_IsQuad.mono _ _
   | exact impl_IsRoot.mono _ _
   | exact impl_RootQuad.mono _ _
   | exact impl_SwapAt.mono _ _ _
   | exact laws_dLists.mono _ _ _
   | exact laws_dSame.mono _ _ _
   | exact laws_dSum.mono _ _
   | exact spec_DownPath.mono _ _
   | exact spec_DownSwap.mono _ _
   | exact spec_DownWord.mono _ _
   | exact spec_DrawDownPath.mono _ _
   | exact spec_DrawIsRoot.mono _ _
   | exact spec_DrawSwapAt.mono _ _
   | exact spec_IsRoot.mono _ _
   | exact spec_RootQuad.mono _ _
   | exact spec_SwapAt.mono _ _ _
   | exact LeO.none _
   | refine LeO.ite ?_ ?_
   | refine LeO.bind ?_ (fun _ => ?_)
theorem laws_FnFallingQuads.mono : ∀ a0 a1 k, LeO (laws_FnFallingQuads.f k a0 a1) (laws_FnFallingQuads.f (k + 1) a0 a1) := by
 intro a0 a1 k
 obtain ⟨ih0, ih1, ih2, ih3, ih4, ih5, ih6, ih7, ih8, ih9⟩ := laws_FnFallingQuads.mono_l k
 unfold laws_FnFallingQuads.f
 repeat' first
  | (with_reducible exact ih0 _ _ _ _ _ _ _ _)
  | (with_reducible exact ih1 _)
  | (with_reducible exact ih2 _ _ _ _ _ _)
  | (with_reducible exact ih3 _)
  | (with_reducible exact ih4 _ _ _)
  | (with_reducible exact ih5 _ _)
  | (with_reducible exact ih6 _ _ _ _ _)
  | (with_reducible exact ih7 _ _ _ _ _)
  | (with_reducible exact ih8 _ _ _ _ _)
  | (with_reducible exact ih9 _ _ _ _ _ _)
  | (with_reducible exact impl_DownPath.mono _ _)
  | (with_reducible exact impl_DownSwap.mono _ _)
  | (with_reducible exact impl_DownWord.mono _ _)
  | (with_reducible exact impl_FollowSwaps.mono _ _ _)
  | (with_reducible exact impl_IsQuad.mono _ _)
  | (with_reducible exact impl_IsRoot.mono _ _)
  | (with_reducible exact impl_RootQuad.mono _ _)
  | (with_reducible exact impl_SwapAt.mono _ _ _)
  | (with_reducible exact laws_dLists.mono _ _ _)
  | (with_reducible exact laws_dSame.mono _ _ _)
  | (with_reducible exact laws_dSum.mono _ _)
  | (with_reducible exact spec_DownPath.mono _ _)
  | (with_reducible exact spec_DownSwap.mono _ _)
  | (with_reducible exact spec_DownWord.mono _ _)
  | (with_reducible exact spec_DrawDownPath.mono _ _)
  | (with_reducible exact spec_DrawIsRoot.mono _ _)
  | (with_reducible exact spec_DrawSwapAt.mono _ _)
  | (with_reducible exact spec_IsRoot.mono _ _)
  | (with_reducible exact spec_RootQuad.mono _ _)
  | (with_reducible exact spec_SwapAt.mono _ _ _)
  | (with_reducible exact LeO.refl _)
  | (with_reducible exact LeO.none _)
  | (with_reducible refine LeO.ite ?_ ?_)
  | (with_reducible refine LeO.bind ?_ (fun _ => ?_))
  | exact ih0 _ _ _ _ _ _ _ _
  | exact ih1 _
  | exact ih2 _ _ _ _ _ _
  | exact ih3 _
  | exact ih4 _ _ _
  | exact ih5 _ _
  | exact ih6 _ _ _ _ _
  | exact ih7 _ _ _ _ _
  | exact ih8 _ _ _ _ _
  | exact ih9 _ _ _ _ _ _
  | exact impl_DownPath.mono _ _
  | exact impl_DownSwap.mono _ _
  | exact impl_DownWord.mono _ _
  | exact impl_FollowSwaps.mono _ _ _
  | exact impl_IsQuad.mono _ _
  | exact impl_IsRoot.mono _ _
  | exact impl_RootQuad.mono _ _
  | exact impl_SwapAt.mono _ _ _
  | exact laws_dLists.mono _ _ _
  | exact laws_dSame.mono _ _ _
  | exact laws_dSum.mono _ _
  | exact spec_DownPath.mono _ _
  | exact spec_DownSwap.mono _ _
  | exact spec_DownWord.mono _ _
  | exact spec_DrawDownPath.mono _ _
  | exact spec_DrawIsRoot.mono _ _
  | exact spec_DrawSwapAt.mono _ _
  | exact spec_IsRoot.mono _ _
  | exact spec_RootQuad.mono _ _
  | exact spec_SwapAt.mono _ _ _
  | exact LeO.none _
  | refine LeO.ite ?_ ?_
  | refine LeO.bind ?_ (fun _ => ?_)
def laws_FnFallingQuads.T20 : Bool × List (List Nat × List Nat) := (true, [([], []), ([], []), ([1], [1]), ([0, 2], [0, 2]), ([3], [3]), ([], []), ([], []), ([6], [6]), ([5, 7], [5, 7]), ([8], [8]), ([4, 9], [4, 9]), ([10], [10]), ([11], [11]), ([11], [11]), ([12, 10, 0, 1, 2, 3, 4, 5, 6, 7, 8, 9, 10, 11, 12], [12]), ([13, 14, 0, 1, 2, 3, 4, 5, 6, 7, 8, 9, 10, 11, 12, 13, 14], [13])])
def laws_FnFallingQuads.B20 : List Nat := [0, 0, 2, 7, 15, 0, 0, 64, 224, 480, 1023, 2047, 4095, 4095, 8191, 32767]
theorem laws_FnFallingQuads.tab20 : rtab .any (opsOf Try.f4 20) = laws_FnFallingQuads.T20 := by kernel_rfl
theorem laws_FnFallingQuads.bits20 : waitsOk laws_FnFallingQuads.T20.2 laws_FnFallingQuads.B20 = true := by kernel_rfl
def laws_FnFallingQuads.T21 : Bool × List (List Nat × List Nat) := (true, [([], []), ([0], [0]), ([1], [1]), ([2], [2]), ([2], [2]), ([2], [2]), ([4, 5, 2], [2, 4, 5]), ([6, 2], [2, 6]), ([3, 7, 2, 2], [2, 3, 7]), ([8, 2], [2, 8]), ([2, 9], [2, 9]), ([10, 8], [10]), ([11], [11]), ([11], [11]), ([12, 13, 11], [11, 12, 13]), ([14, 11], [11, 14]), ([15, 11, 11], [11, 15]), ([11], [11]), ([11], [11]), ([18, 11], [11, 18]), ([17, 19, 11], [11, 17, 19]), ([20, 11], [11, 20]), ([21, 16, 11], [11, 21]), ([16, 22, 11], [11, 16, 22]), ([11, 23], [11, 23])])
def laws_FnFallingQuads.B21 : List Nat := [0, 1, 3, 7, 7, 7, 55, 119, 255, 511, 1023, 2047, 4095, 4095, 16383, 32767, 65535, 4095, 4095, 266239, 921599, 1970175, 4194303, 8388607, 16777215]
theorem laws_FnFallingQuads.tab21 : rtab .any (opsOf Try.f4 21) = laws_FnFallingQuads.T21 := by kernel_rfl
theorem laws_FnFallingQuads.bits21 : waitsOk laws_FnFallingQuads.T21.2 laws_FnFallingQuads.B21 = true := by kernel_rfl
theorem laws_FnFallingQuads.j0_no : ∀ {k y0 y1 y2 y3 y4 y5 y6}, laws_FnFallingQuads.j0 k y0 y1 y2 y3 y4 y5 y6 true = some true → False := by
 intro k y0 y1 y2 y3 y4 y5 y6 h
 cases k <;> simp [laws_FnFallingQuads.j0] at h
theorem laws_FnFallingQuads.j6_no : ∀ {k y0 y1 y2 y3 y4}, laws_FnFallingQuads.j6 k y0 y1 y2 y3 y4 true = some true → False := by
 intro k y0 y1 y2 y3 y4 h
 cases k <;> simp [laws_FnFallingQuads.j6] at h
theorem laws_FnFallingQuads.j8_no : ∀ {k y0 y1}, laws_FnFallingQuads.j8 k y0 y1 true = some true → False := by
 intro k y0 y1 h
 cases k <;> simp [laws_FnFallingQuads.j8] at h
theorem laws_FnFallingQuads.j1_no : ∀ {k y0 y1 y2 y3}, laws_FnFallingQuads.j1 k y0 y1 y2 y3 true = some true → False := by
 intro k y0 y1 y2 y3 h
 cases k <;> simp [laws_FnFallingQuads.j1] at h
theorem laws_FnFallingQuads.j3_no : ∀ {k y0 y1 y2 y3}, laws_FnFallingQuads.j3 k y0 y1 y2 y3 true = some true → False := by
 intro k y0 y1 y2 y3 h
 cases k <;> simp [laws_FnFallingQuads.j3] at h
set_option maxHeartbeats 8000000 in
set_option maxRecDepth 100000 in
theorem laws_FnFallingQuads.calls (k : Nat) (A0 : Option Addr) (c0 : Nat) (l0 : List Int) (A1 : Option Addr) (c1 : Nat) (l1 : List Int) (r : Bool) (w : World) (hr0 : Kd.C (Kd.int .u8) w A0 l0.length l0) (hc0 : l0.length ≤ c0) (hr1 : Kd.C (Kd.int .u8) w A1 l1.length l1) (hc1 : l1.length ≤ c1) (h : laws_FnFallingQuads.f k l0 l1 = some r) (hrT : r = true) :
 Calls Try.prog 4 #[.slice A0 l0.length c0, .slice A1 l1.length c1] w fun e w' => e = .returned (.bool r) ∧ Below w.heap.size w w' := by
 have HR0 := Aside0.mk hr0
 have HC0 := Aside0.mk hc0
 clear hr0 hc0
 have HR1 := Aside0.mk hr1
 have HC1 := Aside0.mk hc1
 clear hr1 hc1
 have HB := Aside0.mk (Below.refl w.heap.size w)
 have H : ((laws_big.f l0 l1).bind fun t546 => (if t546 = true then (some true) else ((spec_DrawDownPath.f k l0).bind fun t547 => ((impl_DownPath.f k t547).bind fun bt550 => ((spec_DownPath.f k t547).bind fun bt554 => ((impl_DownWord.f k t547).bind fun bt558 => ((spec_DownWord.f k t547).bind fun bt562 => ((impl_RootQuad.f k t547).bind fun bt566 => ((spec_RootQuad.f k t547).bind fun bt570 => ((impl_DownSwap.f k t547).bind fun bt574 => ((spec_DownSwap.f k t547).bind fun bt576 => (if (bt550.2 != bt554.2) = true then (laws_FnFallingQuads.j0 k l1 t547 bt550.1 bt550.2 bt558.1 bt574.1 bt574.2 true) else ((laws_dLists.f k bt550.1 bt554.1).bind fun t578 => (if t578 = true then (if (bt558.2 != bt562.2) = true then (laws_FnFallingQuads.j0 k l1 t547 bt550.1 bt550.2 bt558.1 bt574.1 bt574.2 true) else ((laws_dSame.f k bt558.1 bt562.1).bind fun t579 => (if t579 = true then (if (bt566.2 != bt570.2) = true then (laws_FnFallingQuads.j0 k l1 t547 bt550.1 bt550.2 bt558.1 bt574.1 bt574.2 true) else ((laws_dSame.f k bt566.1 bt570.1).bind fun t580 => (if t580 = true then (if (bt574.2 != bt576.2) = true then (laws_FnFallingQuads.j0 k l1 t547 bt550.1 bt550.2 bt558.1 bt574.1 bt574.2 true) else (if bt574.1 = bt576.1 then (if (bt558.2 != bt550.2) = true then (laws_FnFallingQuads.j0 k l1 t547 bt550.1 bt550.2 bt558.1 bt574.1 bt574.2 true) else (laws_FnFallingQuads.j0 k l1 t547 bt550.1 bt550.2 bt558.1 bt574.1 bt574.2 (bt566.2 != bt550.2))) else (laws_FnFallingQuads.j0 k l1 t547 bt550.1 bt550.2 bt558.1 bt574.1 bt574.2 true))) else (laws_FnFallingQuads.j0 k l1 t547 bt550.1 bt550.2 bt558.1 bt574.1 bt574.2 true)))) else (laws_FnFallingQuads.j0 k l1 t547 bt550.1 bt550.2 bt558.1 bt574.1 bt574.2 true)))) else (laws_FnFallingQuads.j0 k l1 t547 bt550.1 bt550.2 bt558.1 bt574.1 bt574.2 true))))))))))))))) = some r := h
 clear h
 replace H := Option.bind_eq_some_iff.mp H
 obtain ⟨t546, A30, H⟩ := H
 replace H : (if t546 = true then (some true) else ((spec_DrawDownPath.f k l0).bind fun t547 => ((impl_DownPath.f k t547).bind fun bt550 => ((spec_DownPath.f k t547).bind fun bt554 => ((impl_DownWord.f k t547).bind fun bt558 => ((spec_DownWord.f k t547).bind fun bt562 => ((impl_RootQuad.f k t547).bind fun bt566 => ((spec_RootQuad.f k t547).bind fun bt570 => ((impl_DownSwap.f k t547).bind fun bt574 => ((spec_DownSwap.f k t547).bind fun bt576 => (if (bt550.2 != bt554.2) = true then (laws_FnFallingQuads.j0 k l1 t547 bt550.1 bt550.2 bt558.1 bt574.1 bt574.2 true) else ((laws_dLists.f k bt550.1 bt554.1).bind fun t578 => (if t578 = true then (if (bt558.2 != bt562.2) = true then (laws_FnFallingQuads.j0 k l1 t547 bt550.1 bt550.2 bt558.1 bt574.1 bt574.2 true) else ((laws_dSame.f k bt558.1 bt562.1).bind fun t579 => (if t579 = true then (if (bt566.2 != bt570.2) = true then (laws_FnFallingQuads.j0 k l1 t547 bt550.1 bt550.2 bt558.1 bt574.1 bt574.2 true) else ((laws_dSame.f k bt566.1 bt570.1).bind fun t580 => (if t580 = true then (if (bt574.2 != bt576.2) = true then (laws_FnFallingQuads.j0 k l1 t547 bt550.1 bt550.2 bt558.1 bt574.1 bt574.2 true) else (if bt574.1 = bt576.1 then (if (bt558.2 != bt550.2) = true then (laws_FnFallingQuads.j0 k l1 t547 bt550.1 bt550.2 bt558.1 bt574.1 bt574.2 true) else (laws_FnFallingQuads.j0 k l1 t547 bt550.1 bt550.2 bt558.1 bt574.1 bt574.2 (bt566.2 != bt550.2))) else (laws_FnFallingQuads.j0 k l1 t547 bt550.1 bt550.2 bt558.1 bt574.1 bt574.2 true))) else (laws_FnFallingQuads.j0 k l1 t547 bt550.1 bt550.2 bt558.1 bt574.1 bt574.2 true)))) else (laws_FnFallingQuads.j0 k l1 t547 bt550.1 bt550.2 bt558.1 bt574.1 bt574.2 true)))) else (laws_FnFallingQuads.j0 k l1 t547 bt550.1 bt550.2 bt558.1 bt574.1 bt574.2 true)))))))))))))) = some r := H
 have A3 := Aside0.mk A30
 clear A30
 by_cases c4 : t546 = true
 ·
  subst c4
  have H1 : (some true) = some r := by rw [if_pos rfl] at H; exact H
  clear H
  have H := H1
  clear H1
  obtain rfl := Option.some.inj H
  go_enter Try.func4, Try.ntmps4
  go_wp2_with (first | ((with_reducible refine gate_callee (f := 6) rfl ?_); refine gL (some 56) rfl rfl Try.func6 (by kernel_rfl) rfl #[.slice A0 l0.length c0, .slice A1 l1.length c1] rfl ?_; (with_reducible refine (laws_big.calls _ _ l0 _ _ l1 true _ ?side1 ?side2 ?side3 ?side4 A3.out).mono ?_); (case side1 => exact cC HR0.out); (case side2 => exact HC0.out); (case side3 => exact cC HR1.out); (case side4 => exact HC1.out); rintro e w' ⟨rfl, ⟨nd, rfl⟩⟩; refine ⟨_, rfl, ?_⟩))
  go_ret
  exact ⟨e1, bq⟩
 ·
  as_aux_lemma =>
   replace c4 := Bool.eq_false_iff.mpr c4
   subst c4
   have H1 : ((spec_DrawDownPath.f k l0).bind fun t547 => ((impl_DownPath.f k t547).bind fun bt550 => ((spec_DownPath.f k t547).bind fun bt554 => ((impl_DownWord.f k t547).bind fun bt558 => ((spec_DownWord.f k t547).bind fun bt562 => ((impl_RootQuad.f k t547).bind fun bt566 => ((spec_RootQuad.f k t547).bind fun bt570 => ((impl_DownSwap.f k t547).bind fun bt574 => ((spec_DownSwap.f k t547).bind fun bt576 => (if (bt550.2 != bt554.2) = true then (laws_FnFallingQuads.j0 k l1 t547 bt550.1 bt550.2 bt558.1 bt574.1 bt574.2 true) else ((laws_dLists.f k bt550.1 bt554.1).bind fun t578 => (if t578 = true then (if (bt558.2 != bt562.2) = true then (laws_FnFallingQuads.j0 k l1 t547 bt550.1 bt550.2 bt558.1 bt574.1 bt574.2 true) else ((laws_dSame.f k bt558.1 bt562.1).bind fun t579 => (if t579 = true then (if (bt566.2 != bt570.2) = true then (laws_FnFallingQuads.j0 k l1 t547 bt550.1 bt550.2 bt558.1 bt574.1 bt574.2 true) else ((laws_dSame.f k bt566.1 bt570.1).bind fun t580 => (if t580 = true then (if (bt574.2 != bt576.2) = true then (laws_FnFallingQuads.j0 k l1 t547 bt550.1 bt550.2 bt558.1 bt574.1 bt574.2 true) else (if bt574.1 = bt576.1 then (if (bt558.2 != bt550.2) = true then (laws_FnFallingQuads.j0 k l1 t547 bt550.1 bt550.2 bt558.1 bt574.1 bt574.2 true) else (laws_FnFallingQuads.j0 k l1 t547 bt550.1 bt550.2 bt558.1 bt574.1 bt574.2 (bt566.2 != bt550.2))) else (laws_FnFallingQuads.j0 k l1 t547 bt550.1 bt550.2 bt558.1 bt574.1 bt574.2 true))) else (laws_FnFallingQuads.j0 k l1 t547 bt550.1 bt550.2 bt558.1 bt574.1 bt574.2 true)))) else (laws_FnFallingQuads.j0 k l1 t547 bt550.1 bt550.2 bt558.1 bt574.1 bt574.2 true)))) else (laws_FnFallingQuads.j0 k l1 t547 bt550.1 bt550.2 bt558.1 bt574.1 bt574.2 true))))))))))))) = some r := by rw [if_neg (show ¬ (false = true) by decide)] at H; exact H
   clear H
   have H := H1
   clear H1
   replace H := Option.bind_eq_some_iff.mp H
   obtain ⟨t547, A50, H⟩ := H
   replace H : ((impl_DownPath.f k t547).bind fun bt550 => ((spec_DownPath.f k t547).bind fun bt554 => ((impl_DownWord.f k t547).bind fun bt558 => ((spec_DownWord.f k t547).bind fun bt562 => ((impl_RootQuad.f k t547).bind fun bt566 => ((spec_RootQuad.f k t547).bind fun bt570 => ((impl_DownSwap.f k t547).bind fun bt574 => ((spec_DownSwap.f k t547).bind fun bt576 => (if (bt550.2 != bt554.2) = true then (laws_FnFallingQuads.j0 k l1 t547 bt550.1 bt550.2 bt558.1 bt574.1 bt574.2 true) else ((laws_dLists.f k bt550.1 bt554.1).bind fun t578 => (if t578 = true then (if (bt558.2 != bt562.2) = true then (laws_FnFallingQuads.j0 k l1 t547 bt550.1 bt550.2 bt558.1 bt574.1 bt574.2 true) else ((laws_dSame.f k bt558.1 bt562.1).bind fun t579 => (if t579 = true then (if (bt566.2 != bt570.2) = true then (laws_FnFallingQuads.j0 k l1 t547 bt550.1 bt550.2 bt558.1 bt574.1 bt574.2 true) else ((laws_dSame.f k bt566.1 bt570.1).bind fun t580 => (if t580 = true then (if (bt574.2 != bt576.2) = true then (laws_FnFallingQuads.j0 k l1 t547 bt550.1 bt550.2 bt558.1 bt574.1 bt574.2 true) else (if bt574.1 = bt576.1 then (if (bt558.2 != bt550.2) = true then (laws_FnFallingQuads.j0 k l1 t547 bt550.1 bt550.2 bt558.1 bt574.1 bt574.2 true) else (laws_FnFallingQuads.j0 k l1 t547 bt550.1 bt550.2 bt558.1 bt574.1 bt574.2 (bt566.2 != bt550.2))) else (laws_FnFallingQuads.j0 k l1 t547 bt550.1 bt550.2 bt558.1 bt574.1 bt574.2 true))) else (laws_FnFallingQuads.j0 k l1 t547 bt550.1 bt550.2 bt558.1 bt574.1 bt574.2 true)))) else (laws_FnFallingQuads.j0 k l1 t547 bt550.1 bt550.2 bt558.1 bt574.1 bt574.2 true)))) else (laws_FnFallingQuads.j0 k l1 t547 bt550.1 bt550.2 bt558.1 bt574.1 bt574.2 true)))))))))))) = some r := H
   have A5 := Aside0.mk A50
   clear A50
   replace H := Option.bind_eq_some_iff.mp H
   obtain ⟨⟨t550, t553⟩, A60, H⟩ := H
   replace H : ((spec_DownPath.f k t547).bind fun bt554 => ((impl_DownWord.f k t547).bind fun bt558 => ((spec_DownWord.f k t547).bind fun bt562 => ((impl_RootQuad.f k t547).bind fun bt566 => ((spec_RootQuad.f k t547).bind fun bt570 => ((impl_DownSwap.f k t547).bind fun bt574 => ((spec_DownSwap.f k t547).bind fun bt576 => (if (t553 != bt554.2) = true then (laws_FnFallingQuads.j0 k l1 t547 t550 t553 bt558.1 bt574.1 bt574.2 true) else ((laws_dLists.f k t550 bt554.1).bind fun t578 => (if t578 = true then (if (bt558.2 != bt562.2) = true then (laws_FnFallingQuads.j0 k l1 t547 t550 t553 bt558.1 bt574.1 bt574.2 true) else ((laws_dSame.f k bt558.1 bt562.1).bind fun t579 => (if t579 = true then (if (bt566.2 != bt570.2) = true then (laws_FnFallingQuads.j0 k l1 t547 t550 t553 bt558.1 bt574.1 bt574.2 true) else ((laws_dSame.f k bt566.1 bt570.1).bind fun t580 => (if t580 = true then (if (bt574.2 != bt576.2) = true then (laws_FnFallingQuads.j0 k l1 t547 t550 t553 bt558.1 bt574.1 bt574.2 true) else (if bt574.1 = bt576.1 then (if (bt558.2 != t553) = true then (laws_FnFallingQuads.j0 k l1 t547 t550 t553 bt558.1 bt574.1 bt574.2 true) else (laws_FnFallingQuads.j0 k l1 t547 t550 t553 bt558.1 bt574.1 bt574.2 (bt566.2 != t553))) else (laws_FnFallingQuads.j0 k l1 t547 t550 t553 bt558.1 bt574.1 bt574.2 true))) else (laws_FnFallingQuads.j0 k l1 t547 t550 t553 bt558.1 bt574.1 bt574.2 true)))) else (laws_FnFallingQuads.j0 k l1 t547 t550 t553 bt558.1 bt574.1 bt574.2 true)))) else (laws_FnFallingQuads.j0 k l1 t547 t550 t553 bt558.1 bt574.1 bt574.2 true))))))))))) = some r := H
   have A6 := Aside0.mk A60
   clear A60
   replace H := Option.bind_eq_some_iff.mp H
   obtain ⟨⟨t554, t557⟩, A70, H⟩ := H
   replace H : ((impl_DownWord.f k t547).bind fun bt558 => ((spec_DownWord.f k t547).bind fun bt562 => ((impl_RootQuad.f k t547).bind fun bt566 => ((spec_RootQuad.f k t547).bind fun bt570 => ((impl_DownSwap.f k t547).bind fun bt574 => ((spec_DownSwap.f k t547).bind fun bt576 => (if (t553 != t557) = true then (laws_FnFallingQuads.j0 k l1 t547 t550 t553 bt558.1 bt574.1 bt574.2 true) else ((laws_dLists.f k t550 t554).bind fun t578 => (if t578 = true then (if (bt558.2 != bt562.2) = true then (laws_FnFallingQuads.j0 k l1 t547 t550 t553 bt558.1 bt574.1 bt574.2 true) else ((laws_dSame.f k bt558.1 bt562.1).bind fun t579 => (if t579 = true then (if (bt566.2 != bt570.2) = true then (laws_FnFallingQuads.j0 k l1 t547 t550 t553 bt558.1 bt574.1 bt574.2 true) else ((laws_dSame.f k bt566.1 bt570.1).bind fun t580 => (if t580 = true then (if (bt574.2 != bt576.2) = true then (laws_FnFallingQuads.j0 k l1 t547 t550 t553 bt558.1 bt574.1 bt574.2 true) else (if bt574.1 = bt576.1 then (if (bt558.2 != t553) = true then (laws_FnFallingQuads.j0 k l1 t547 t550 t553 bt558.1 bt574.1 bt574.2 true) else (laws_FnFallingQuads.j0 k l1 t547 t550 t553 bt558.1 bt574.1 bt574.2 (bt566.2 != t553))) else (laws_FnFallingQuads.j0 k l1 t547 t550 t553 bt558.1 bt574.1 bt574.2 true))) else (laws_FnFallingQuads.j0 k l1 t547 t550 t553 bt558.1 bt574.1 bt574.2 true)))) else (laws_FnFallingQuads.j0 k l1 t547 t550 t553 bt558.1 bt574.1 bt574.2 true)))) else (laws_FnFallingQuads.j0 k l1 t547 t550 t553 bt558.1 bt574.1 bt574.2 true)))))))))) = some r := H
   have A7 := Aside0.mk A70
   clear A70
   replace H := Option.bind_eq_some_iff.mp H
   obtain ⟨⟨t558, t559⟩, A80, H⟩ := H
   replace H : ((spec_DownWord.f k t547).bind fun bt562 => ((impl_RootQuad.f k t547).bind fun bt566 => ((spec_RootQuad.f k t547).bind fun bt570 => ((impl_DownSwap.f k t547).bind fun bt574 => ((spec_DownSwap.f k t547).bind fun bt576 => (if (t553 != t557) = true then (laws_FnFallingQuads.j0 k l1 t547 t550 t553 t558 bt574.1 bt574.2 true) else ((laws_dLists.f k t550 t554).bind fun t578 => (if t578 = true then (if (t559 != bt562.2) = true then (laws_FnFallingQuads.j0 k l1 t547 t550 t553 t558 bt574.1 bt574.2 true) else ((laws_dSame.f k t558 bt562.1).bind fun t579 => (if t579 = true then (if (bt566.2 != bt570.2) = true then (laws_FnFallingQuads.j0 k l1 t547 t550 t553 t558 bt574.1 bt574.2 true) else ((laws_dSame.f k bt566.1 bt570.1).bind fun t580 => (if t580 = true then (if (bt574.2 != bt576.2) = true then (laws_FnFallingQuads.j0 k l1 t547 t550 t553 t558 bt574.1 bt574.2 true) else (if bt574.1 = bt576.1 then (if (t559 != t553) = true then (laws_FnFallingQuads.j0 k l1 t547 t550 t553 t558 bt574.1 bt574.2 true) else (laws_FnFallingQuads.j0 k l1 t547 t550 t553 t558 bt574.1 bt574.2 (bt566.2 != t553))) else (laws_FnFallingQuads.j0 k l1 t547 t550 t553 t558 bt574.1 bt574.2 true))) else (laws_FnFallingQuads.j0 k l1 t547 t550 t553 t558 bt574.1 bt574.2 true)))) else (laws_FnFallingQuads.j0 k l1 t547 t550 t553 t558 bt574.1 bt574.2 true)))) else (laws_FnFallingQuads.j0 k l1 t547 t550 t553 t558 bt574.1 bt574.2 true))))))))) = some r := H
   have A8 := Aside0.mk A80
   clear A80
   replace H := Option.bind_eq_some_iff.mp H
   obtain ⟨⟨t562, t563⟩, A90, H⟩ := H
   replace H : ((impl_RootQuad.f k t547).bind fun bt566 => ((spec_RootQuad.f k t547).bind fun bt570 => ((impl_DownSwap.f k t547).bind fun bt574 => ((spec_DownSwap.f k t547).bind fun bt576 => (if (t553 != t557) = true then (laws_FnFallingQuads.j0 k l1 t547 t550 t553 t558 bt574.1 bt574.2 true) else ((laws_dLists.f k t550 t554).bind fun t578 => (if t578 = true then (if (t559 != t563) = true then (laws_FnFallingQuads.j0 k l1 t547 t550 t553 t558 bt574.1 bt574.2 true) else ((laws_dSame.f k t558 t562).bind fun t579 => (if t579 = true then (if (bt566.2 != bt570.2) = true then (laws_FnFallingQuads.j0 k l1 t547 t550 t553 t558 bt574.1 bt574.2 true) else ((laws_dSame.f k bt566.1 bt570.1).bind fun t580 => (if t580 = true then (if (bt574.2 != bt576.2) = true then (laws_FnFallingQuads.j0 k l1 t547 t550 t553 t558 bt574.1 bt574.2 true) else (if bt574.1 = bt576.1 then (if (t559 != t553) = true then (laws_FnFallingQuads.j0 k l1 t547 t550 t553 t558 bt574.1 bt574.2 true) else (laws_FnFallingQuads.j0 k l1 t547 t550 t553 t558 bt574.1 bt574.2 (bt566.2 != t553))) else (laws_FnFallingQuads.j0 k l1 t547 t550 t553 t558 bt574.1 bt574.2 true))) else (laws_FnFallingQuads.j0 k l1 t547 t550 t553 t558 bt574.1 bt574.2 true)))) else (laws_FnFallingQuads.j0 k l1 t547 t550 t553 t558 bt574.1 bt574.2 true)))) else (laws_FnFallingQuads.j0 k l1 t547 t550 t553 t558 bt574.1 bt574.2 true)))))))) = some r := H
   have A9 := Aside0.mk A90
   clear A90
   replace H := Option.bind_eq_some_iff.mp H
   obtain ⟨⟨t566, t567⟩, A100, H⟩ := H
   replace H : ((spec_RootQuad.f k t547).bind fun bt570 => ((impl_DownSwap.f k t547).bind fun bt574 => ((spec_DownSwap.f k t547).bind fun bt576 => (if (t553 != t557) = true then (laws_FnFallingQuads.j0 k l1 t547 t550 t553 t558 bt574.1 bt574.2 true) else ((laws_dLists.f k t550 t554).bind fun t578 => (if t578 = true then (if (t559 != t563) = true then (laws_FnFallingQuads.j0 k l1 t547 t550 t553 t558 bt574.1 bt574.2 true) else ((laws_dSame.f k t558 t562).bind fun t579 => (if t579 = true then (if (t567 != bt570.2) = true then (laws_FnFallingQuads.j0 k l1 t547 t550 t553 t558 bt574.1 bt574.2 true) else ((laws_dSame.f k t566 bt570.1).bind fun t580 => (if t580 = true then (if (bt574.2 != bt576.2) = true then (laws_FnFallingQuads.j0 k l1 t547 t550 t553 t558 bt574.1 bt574.2 true) else (if bt574.1 = bt576.1 then (if (t559 != t553) = true then (laws_FnFallingQuads.j0 k l1 t547 t550 t553 t558 bt574.1 bt574.2 true) else (laws_FnFallingQuads.j0 k l1 t547 t550 t553 t558 bt574.1 bt574.2 (t567 != t553))) else (laws_FnFallingQuads.j0 k l1 t547 t550 t553 t558 bt574.1 bt574.2 true))) else (laws_FnFallingQuads.j0 k l1 t547 t550 t553 t558 bt574.1 bt574.2 true)))) else (laws_FnFallingQuads.j0 k l1 t547 t550 t553 t558 bt574.1 bt574.2 true)))) else (laws_FnFallingQuads.j0 k l1 t547 t550 t553 t558 bt574.1 bt574.2 true))))))) = some r := H
   have A10 := Aside0.mk A100
   clear A100
   replace H := Option.bind_eq_some_iff.mp H
   obtain ⟨⟨t570, t571⟩, A110, H⟩ := H
   replace H : ((impl_DownSwap.f k t547).bind fun bt574 => ((spec_DownSwap.f k t547).bind fun bt576 => (if (t553 != t557) = true then (laws_FnFallingQuads.j0 k l1 t547 t550 t553 t558 bt574.1 bt574.2 true) else ((laws_dLists.f k t550 t554).bind fun t578 => (if t578 = true then (if (t559 != t563) = true then (laws_FnFallingQuads.j0 k l1 t547 t550 t553 t558 bt574.1 bt574.2 true) else ((laws_dSame.f k t558 t562).bind fun t579 => (if t579 = true then (if (t567 != t571) = true then (laws_FnFallingQuads.j0 k l1 t547 t550 t553 t558 bt574.1 bt574.2 true) else ((laws_dSame.f k t566 t570).bind fun t580 => (if t580 = true then (if (bt574.2 != bt576.2) = true then (laws_FnFallingQuads.j0 k l1 t547 t550 t553 t558 bt574.1 bt574.2 true) else (if bt574.1 = bt576.1 then (if (t559 != t553) = true then (laws_FnFallingQuads.j0 k l1 t547 t550 t553 t558 bt574.1 bt574.2 true) else (laws_FnFallingQuads.j0 k l1 t547 t550 t553 t558 bt574.1 bt574.2 (t567 != t553))) else (laws_FnFallingQuads.j0 k l1 t547 t550 t553 t558 bt574.1 bt574.2 true))) else (laws_FnFallingQuads.j0 k l1 t547 t550 t553 t558 bt574.1 bt574.2 true)))) else (laws_FnFallingQuads.j0 k l1 t547 t550 t553 t558 bt574.1 bt574.2 true)))) else (laws_FnFallingQuads.j0 k l1 t547 t550 t553 t558 bt574.1 bt574.2 true)))))) = some r := H
   have A11 := Aside0.mk A110
   clear A110
   replace H := Option.bind_eq_some_iff.mp H
   obtain ⟨⟨t574, t575⟩, A120, H⟩ := H
   replace H : ((spec_DownSwap.f k t547).bind fun bt576 => (if (t553 != t557) = true then (laws_FnFallingQuads.j0 k l1 t547 t550 t553 t558 t574 t575 true) else ((laws_dLists.f k t550 t554).bind fun t578 => (if t578 = true then (if (t559 != t563) = true then (laws_FnFallingQuads.j0 k l1 t547 t550 t553 t558 t574 t575 true) else ((laws_dSame.f k t558 t562).bind fun t579 => (if t579 = true then (if (t567 != t571) = true then (laws_FnFallingQuads.j0 k l1 t547 t550 t553 t558 t574 t575 true) else ((laws_dSame.f k t566 t570).bind fun t580 => (if t580 = true then (if (t575 != bt576.2) = true then (laws_FnFallingQuads.j0 k l1 t547 t550 t553 t558 t574 t575 true) else (if t574 = bt576.1 then (if (t559 != t553) = true then (laws_FnFallingQuads.j0 k l1 t547 t550 t553 t558 t574 t575 true) else (laws_FnFallingQuads.j0 k l1 t547 t550 t553 t558 t574 t575 (t567 != t553))) else (laws_FnFallingQuads.j0 k l1 t547 t550 t553 t558 t574 t575 true))) else (laws_FnFallingQuads.j0 k l1 t547 t550 t553 t558 t574 t575 true)))) else (laws_FnFallingQuads.j0 k l1 t547 t550 t553 t558 t574 t575 true)))) else (laws_FnFallingQuads.j0 k l1 t547 t550 t553 t558 t574 t575 true))))) = some r := H
   have A12 := Aside0.mk A120
   clear A120
   replace H := Option.bind_eq_some_iff.mp H
   obtain ⟨⟨t576, t577⟩, A130, H⟩ := H
   replace H : (if (t553 != t557) = true then (laws_FnFallingQuads.j0 k l1 t547 t550 t553 t558 t574 t575 true) else ((laws_dLists.f k t550 t554).bind fun t578 => (if t578 = true then (if (t559 != t563) = true then (laws_FnFallingQuads.j0 k l1 t547 t550 t553 t558 t574 t575 true) else ((laws_dSame.f k t558 t562).bind fun t579 => (if t579 = true then (if (t567 != t571) = true then (laws_FnFallingQuads.j0 k l1 t547 t550 t553 t558 t574 t575 true) else ((laws_dSame.f k t566 t570).bind fun t580 => (if t580 = true then (if (t575 != t577) = true then (laws_FnFallingQuads.j0 k l1 t547 t550 t553 t558 t574 t575 true) else (if t574 = t576 then (if (t559 != t553) = true then (laws_FnFallingQuads.j0 k l1 t547 t550 t553 t558 t574 t575 true) else (laws_FnFallingQuads.j0 k l1 t547 t550 t553 t558 t574 t575 (t567 != t553))) else (laws_FnFallingQuads.j0 k l1 t547 t550 t553 t558 t574 t575 true))) else (laws_FnFallingQuads.j0 k l1 t547 t550 t553 t558 t574 t575 true)))) else (laws_FnFallingQuads.j0 k l1 t547 t550 t553 t558 t574 t575 true)))) else (laws_FnFallingQuads.j0 k l1 t547 t550 t553 t558 t574 t575 true)))) = some r := H
   have A13 := Aside0.mk A130
   clear A130
   have HC14 := Aside0.mk H
   clear H
   go_enter Try.func4, Try.ntmps4
   go_upto_region 12 with (first | ((with_reducible refine gate_callee (f := 6) rfl ?_); refine gL (some 56) rfl rfl Try.func6 (by kernel_rfl) rfl #[.slice A0 l0.length c0, .slice A1 l1.length c1] rfl ?_; (with_reducible refine (laws_big.calls _ _ l0 _ _ l1 false _ ?side1 ?side2 ?side3 ?side4 A3.out).mono ?_); (case side1 => exact cC HR0.out); (case side2 => exact HC0.out); (case side3 => exact cC HR1.out); (case side4 => exact HC1.out); rintro e w' ⟨rfl, ⟨nd, rfl⟩⟩; refine ⟨_, rfl, ?_⟩) | ((with_reducible refine gate_callee (f := 26) rfl ?_); refine gL (some 58) rfl rfl Try.func26 (by kernel_rfl) rfl #[.slice A0 l0.length c0] rfl ?_; (with_reducible refine (spec_DrawDownPath.calls k _ _ l0 t547 _ ?side1 ?side2 A5.out).mono ?_); (case side1 => exact cC HR0.out); (case side2 => exact HC0.out); rintro e w15 ⟨v548, rfl, ho0, hb⟩; refine ⟨_, rfl, ?_⟩; have n0_ := Aside0.mk (Kd.V_lower (Kd.V_mono (ok' := fun k_ => True) ho0 (fun k_ hk_ => trivial)) (below_size bq)); have n1_ := Aside0.mk (below_step bq hb); clear HB; have HO549 := n0_; have HB := n1_; clear n0_ n1_; (try clear hb); (try clear hb2); (try clear hk); (try clear hi); (try clear ho0); obtain ⟨Ao16, co16, eo16⟩ := Kd.V_slice HO549.out; subst eo16) | ((with_reducible refine gate_callee (f := 27) rfl ?_); refine gL (some 61) rfl rfl Try.func27 (by kernel_rfl) rfl #[.slice Ao16 t547.length co16] rfl ?_; (with_reducible refine (impl_DownPath.calls k (fun k_ => True) _ _ t547 t550 t553 _ ?side1 A6.out).mono ?_); (case side1 => exact HO549.out); rintro e w17 ⟨v551, rfl, ho0, hb⟩; refine ⟨_, rfl, ?_⟩; have n0_ := Aside0.mk (Kd.V_elder' (by (with_reducible repeat (first | apply Kd.V_alloc | apply Kd.V_drewN | apply Kd.V_drew)); exact HO549.out) (Kd.N_base ho0) hb); have n1_ := Aside0.mk (Kd.N_lower (Kd.N_mono (ok' := fun k_ => True) ho0 (fun k_ hk_ => trivial)) (below_size bq)); have n2_ := Aside0.mk (below_step bq hb); clear HO549; clear HB; have HO549 := n0_; have HO552 := n1_; have HB := n2_; clear n0_ n1_ n2_; (try clear hb); (try clear hb2); (try clear hk); (try clear hi); (try clear ho0)) | ((with_reducible refine gate_callee (f := 28) rfl ?_); refine gL (some 66) rfl rfl Try.func28 (by kernel_rfl) rfl #[.slice Ao16 t547.length co16] rfl ?_; (with_reducible refine (spec_DownPath.calls k (fun k_ => (True ∧ some k_ ≠ (v551 : Value).ownBlock)) _ _ t547 t554 t557 _ ?side1 A7.out).mono ?_); (case side1 => exact HO549.out); rintro e w18 ⟨v555, rfl, ho0, hb⟩; refine ⟨_, rfl, ?_⟩; have n0_ := Aside0.mk (Kd.V_elder' (by (with_reducible repeat (first | apply Kd.V_alloc | apply Kd.V_drewN | apply Kd.V_drew)); exact HO549.out) (Kd.N_base ho0) hb); have n1_ := Aside0.mk (Kd.N_elder' (nA HO552) (Kd.N_base ho0) hb); have n2_ := Aside0.mk (Kd.N_lower (Kd.N_mono (ok' := fun k_ => some k_ ≠ (v551 : Value).ownBlock) ho0 (fun k_ hk_ => Or.elim hk_ (fun hs_ => hs_.2) (fun hn_ => (Kd.fresh' (Kd.N_lt (nA HO552)) k_ hn_)))) (below_size bq)); have n3_ := Aside0.mk (below_step bq hb); clear HO549; clear HO552; clear HB; have HO549 := n0_; have HO552 := n1_; have HO556 := n2_; have HB := n3_; clear n0_ n1_ n2_ n3_; (try clear hb); (try clear hb2); (try clear hk); (try clear hi); (try clear ho0)) | ((with_reducible refine gate_callee (f := 29) rfl ?_); refine gL (some 71) rfl rfl Try.func29 (by kernel_rfl) rfl #[.slice Ao16 t547.length co16] rfl ?_; (with_reducible refine (impl_DownWord.calls k _ _ t547 t558 t559 _ ?side1 ?side2 A8.out).mono ?_); (case side1 => repeat (first | exact (Kd.V_reads' HO549.out).2.2 | (with_reducible refine Kd.C_alloc ?_ _) | (with_reducible refine Kd.C_drewN ?_ _) | (with_reducible refine Kd.C_drew ?_))); (case side2 => exact (Kd.V_reads' HO549.out).2.1); rintro e w19 ⟨v560, rfl, ho0, hb⟩; refine ⟨_, rfl, ?_⟩; have n0_ := Aside0.mk (Kd.V_elder' (by (with_reducible repeat (first | apply Kd.V_alloc | apply Kd.V_drewN | apply Kd.V_drew)); exact HO549.out) (Kd.R_base ho0) hb); have n1_ := Aside0.mk (Kd.N_elder' (nA HO552) (Kd.R_base ho0) hb); have n2_ := Aside0.mk (Kd.N_elder' (nA HO556) (Kd.R_base ho0) hb); have n3_ := Aside0.mk (Kd.R_lower ho0 (below_size bq)); have n4_ := Aside0.mk (below_step bq hb); clear HO549; clear HO552; clear HO556; clear HB; have HO549 := n0_; have HO552 := n1_; have HO556 := n2_; have HO561 := n3_; have HB := n4_; clear n0_ n1_ n2_ n3_ n4_; (try clear hb); (try clear hb2); (try clear hk); (try clear hi); (try clear ho0)) | ((with_reducible refine gate_callee (f := 30) rfl ?_); refine gL (some 76) rfl rfl Try.func30 (by kernel_rfl) rfl #[.slice Ao16 t547.length co16] rfl ?_; (with_reducible refine (spec_DownWord.calls k _ _ t547 t562 t563 _ ?side1 ?side2 A9.out).mono ?_); (case side1 => repeat (first | exact (Kd.V_reads' HO549.out).2.2 | (with_reducible refine Kd.C_alloc ?_ _) | (with_reducible refine Kd.C_drewN ?_ _) | (with_reducible refine Kd.C_drew ?_))); (case side2 => exact (Kd.V_reads' HO549.out).2.1); rintro e w20 ⟨v564, rfl, ho0, hb⟩; refine ⟨_, rfl, ?_⟩; have n0_ := Aside0.mk (Kd.V_elder' (by (with_reducible repeat (first | apply Kd.V_alloc | apply Kd.V_drewN | apply Kd.V_drew)); exact HO549.out) (Kd.R_base ho0) hb); have n1_ := Aside0.mk (Kd.N_elder' (nA HO552) (Kd.R_base ho0) hb); have n2_ := Aside0.mk (Kd.N_elder' (nA HO556) (Kd.R_base ho0) hb); have n3_ := Aside0.mk (Kd.R_elder' (rA HO561) (Kd.R_base ho0) hb); have n4_ := Aside0.mk (Kd.R_lower (Kd.R_new' ho0 (Kd.R_lt (rA HO561))) (below_size bq)); have n5_ := Aside0.mk (below_step bq hb); clear HO549; clear HO552; clear HO556; clear HO561; clear HB; have HO549 := n0_; have HO552 := n1_; have HO556 := n2_; have HO561 := n3_; have HO565 := n4_; have HB := n5_; clear n0_ n1_ n2_ n3_ n4_ n5_; (try clear hb); (try clear hb2); (try clear hk); (try clear hi); (try clear ho0)) | ((with_reducible refine gate_callee (f := 31) rfl ?_); refine gL (some 81) rfl rfl Try.func31 (by kernel_rfl) rfl #[.slice Ao16 t547.length co16] rfl ?_; (with_reducible refine (impl_RootQuad.calls k _ _ t547 t566 t567 _ ?side1 ?side2 A10.out).mono ?_); (case side1 => repeat (first | exact (Kd.V_reads' HO549.out).2.2 | (with_reducible refine Kd.C_alloc ?_ _) | (with_reducible refine Kd.C_drewN ?_ _) | (with_reducible refine Kd.C_drew ?_))); (case side2 => exact (Kd.V_reads' HO549.out).2.1); rintro e w21 ⟨v568, rfl, ho0, hb⟩; refine ⟨_, rfl, ?_⟩; have n0_ := Aside0.mk (Kd.V_elder' (by (with_reducible repeat (first | apply Kd.V_alloc | apply Kd.V_drewN | apply Kd.V_drew)); exact HO549.out) (Kd.R_base ho0) hb); have n1_ := Aside0.mk (Kd.N_elder' (nA HO552) (Kd.R_base ho0) hb); have n2_ := Aside0.mk (Kd.N_elder' (nA HO556) (Kd.R_base ho0) hb); have n3_ := Aside0.mk (Kd.R_elder' (rA HO561) (Kd.R_base ho0) hb); have n4_ := Aside0.mk (Kd.R_elder' (rA HO565) (Kd.R_base ho0) hb); have n5_ := Aside0.mk (Kd.R_lower (Kd.R_new' (Kd.R_new' ho0 (Kd.R_lt (rA HO561))) (Kd.R_lt (rA HO565))) (below_size bq)); have n6_ := Aside0.mk (below_step bq hb); clear HO549; clear HO552; clear HO556; clear HO561; clear HO565; clear HB; have HO549 := n0_; have HO552 := n1_; have HO556 := n2_; have HO561 := n3_; have HO565 := n4_; have HO569 := n5_; have HB := n6_; clear n0_ n1_ n2_ n3_ n4_ n5_ n6_; (try clear hb); (try clear hb2); (try clear hk); (try clear hi); (try clear ho0)) | ((with_reducible refine gate_callee (f := 32) rfl ?_); refine gL (some 86) rfl rfl Try.func32 (by kernel_rfl) rfl #[.slice Ao16 t547.length co16] rfl ?_; (with_reducible refine (spec_RootQuad.calls k _ _ t547 t570 t571 _ ?side1 ?side2 A11.out).mono ?_); (case side1 => repeat (first | exact (Kd.V_reads' HO549.out).2.2 | (with_reducible refine Kd.C_alloc ?_ _) | (with_reducible refine Kd.C_drewN ?_ _) | (with_reducible refine Kd.C_drew ?_))); (case side2 => exact (Kd.V_reads' HO549.out).2.1); rintro e w22 ⟨v572, rfl, ho0, hb⟩; refine ⟨_, rfl, ?_⟩; have n0_ := Aside0.mk (Kd.V_elder' (by (with_reducible repeat (first | apply Kd.V_alloc | apply Kd.V_drewN | apply Kd.V_drew)); exact HO549.out) (Kd.R_base ho0) hb); have n1_ := Aside0.mk (Kd.N_elder' (nA HO552) (Kd.R_base ho0) hb); have n2_ := Aside0.mk (Kd.N_elder' (nA HO556) (Kd.R_base ho0) hb); have n3_ := Aside0.mk (Kd.R_elder' (rA HO561) (Kd.R_base ho0) hb); have n4_ := Aside0.mk (Kd.R_elder' (rA HO565) (Kd.R_base ho0) hb); have n5_ := Aside0.mk (Kd.R_elder' (rA HO569) (Kd.R_base ho0) hb); have n6_ := Aside0.mk (Kd.R_lower (Kd.R_new' (Kd.R_new' (Kd.R_new' ho0 (Kd.R_lt (rA HO561))) (Kd.R_lt (rA HO565))) (Kd.R_lt (rA HO569))) (below_size bq)); have n7_ := Aside0.mk (below_step bq hb); clear HO549; clear HO552; clear HO556; clear HO561; clear HO565; clear HO569; clear HB; have HO549 := n0_; have HO552 := n1_; have HO556 := n2_; have HO561 := n3_; have HO565 := n4_; have HO569 := n5_; have HO573 := n6_; have HB := n7_; clear n0_ n1_ n2_ n3_ n4_ n5_ n6_ n7_; (try clear hb); (try clear hb2); (try clear hk); (try clear hi); (try clear ho0)) | ((with_reducible refine gate_callee (f := 33) rfl ?_); refine gL (some 91) rfl rfl Try.func33 (by kernel_rfl) rfl #[.slice Ao16 t547.length co16] rfl ?_; (with_reducible refine (impl_DownSwap.calls k _ _ t547 t574 t575 _ ?side1 ?side2 A12.out).mono ?_); (case side1 => repeat (first | exact (Kd.V_reads' HO549.out).2.2 | (with_reducible refine Kd.C_alloc ?_ _) | (with_reducible refine Kd.C_drewN ?_ _) | (with_reducible refine Kd.C_drew ?_))); (case side2 => exact (Kd.V_reads' HO549.out).2.1); rintro e w23 ⟨rfl, hb⟩; refine ⟨_, rfl, ?_⟩; have n0_ := Aside0.mk (Kd.V_below (by (with_reducible repeat (first | apply Kd.V_alloc | apply Kd.V_drewN | apply Kd.V_drew)); exact HO549.out) hb); have n1_ := Aside0.mk (Kd.N_below (nA HO552) hb); have n2_ := Aside0.mk (Kd.N_below (nA HO556) hb); have n3_ := Aside0.mk (Kd.R_below (rA HO561) hb); have n4_ := Aside0.mk (Kd.R_below (rA HO565) hb); have n5_ := Aside0.mk (Kd.R_below (rA HO569) hb); have n6_ := Aside0.mk (Kd.R_below (rA HO573) hb); have n7_ := Aside0.mk (below_step bq hb); clear HO549; clear HO552; clear HO556; clear HO561; clear HO565; clear HO569; clear HO573; clear HB; have HO549 := n0_; have HO552 := n1_; have HO556 := n2_; have HO561 := n3_; have HO565 := n4_; have HO569 := n5_; have HO573 := n6_; have HB := n7_; clear n0_ n1_ n2_ n3_ n4_ n5_ n6_ n7_; (try clear hb); (try clear hb2); (try clear hk); (try clear hi)) | ((with_reducible refine gate_callee (f := 34) rfl ?_); refine gL (some 96) rfl rfl Try.func34 (by kernel_rfl) rfl #[.slice Ao16 t547.length co16] rfl ?_; (with_reducible refine (spec_DownSwap.calls k _ _ t547 t576 t577 _ ?side1 ?side2 A13.out).mono ?_); (case side1 => repeat (first | exact (Kd.V_reads' HO549.out).2.2 | (with_reducible refine Kd.C_alloc ?_ _) | (with_reducible refine Kd.C_drewN ?_ _) | (with_reducible refine Kd.C_drew ?_))); (case side2 => exact (Kd.V_reads' HO549.out).2.1); rintro e w24 ⟨rfl, hb⟩; refine ⟨_, rfl, ?_⟩; have n0_ := Aside0.mk (Kd.V_below (by (with_reducible repeat (first | apply Kd.V_alloc | apply Kd.V_drewN | apply Kd.V_drew)); exact HO549.out) hb); have n1_ := Aside0.mk (Kd.N_below (nA HO552) hb); have n2_ := Aside0.mk (Kd.N_below (nA HO556) hb); have n3_ := Aside0.mk (Kd.R_below (rA HO561) hb); have n4_ := Aside0.mk (Kd.R_below (rA HO565) hb); have n5_ := Aside0.mk (Kd.R_below (rA HO569) hb); have n6_ := Aside0.mk (Kd.R_below (rA HO573) hb); have n7_ := Aside0.mk (below_step bq hb); clear HO549; clear HO552; clear HO556; clear HO561; clear HO565; clear HO569; clear HO573; clear HB; have HO549 := n0_; have HO552 := n1_; have HO556 := n2_; have HO561 := n3_; have HO565 := n4_; have HO569 := n5_; have HO573 := n6_; have HB := n7_; clear n0_ n1_ n2_ n3_ n4_ n5_ n6_ n7_; (try clear hb); (try clear hb2); (try clear hk); (try clear hi)))
   (try simp only [Act.put, List.setIfInBounds_toArray, List.set_cons_zero, List.set_cons_succ])
   go_cut [149] (fun v149 wc => ∃ (kq : Nat) (x149_13 : Bool), v149 = .bool x149_13 ∧ Aside0 (laws_FnFallingQuads.j0 kq l1 t547 t550 t553 t558 t574 t575 x149_13 = some r) ∧ Aside0 (kq ≤ k) ∧ Aside0 (Kd.V (Kd.int .i64) 3 wc w.heap.size (fun k_ => some k_ ≠ (v551 : Value).ownBlock ∧ some k_ ≠ (v560 : Value).ownBlock) (.slice Ao16 t547.length co16) t547) ∧ Aside0 (Kd.N (Kd.slice 3 (Kd.int .i64)) 35 wc w.heap.size (fun k_ => some k_ ≠ (v560 : Value).ownBlock) v551 t550) ∧ Aside0 (Kd.R (Kd.int .i64) 3 wc w.heap.size (fun _ => True) v560 t558) ∧ Aside0 (Below w.heap.size w wc))
   case first =>
    as_aux_lemma =>
     have H := HC14.out
     clear HC14
     by_cases c25 : (t553 != t557) = true
     ·
      rw [if_pos c25] at H
      exact absurd (H.trans (congrArg some hrT)) (fun h_ => laws_FnFallingQuads.j0_no h_)
     ·
      as_aux_lemma =>
       rw [if_neg c25] at H
       have c25b0 : (t553 != t557) = false := by simpa using c25
       (try (have c25b1 : decide (t553 = t557) = true := by simpa using c25))
       (try (have c25b2 : (t553 == t557) = true := by simpa using c25))
       clear c25
       (first | rw [c25b0] | (simp only [i64_w, i32_w]; rw [c25b0]) | skip)
       replace H := Option.bind_eq_some_iff.mp H
       obtain ⟨t578, A260, H⟩ := H
       replace H : (if t578 = true then (if (t559 != t563) = true then (laws_FnFallingQuads.j0 k l1 t547 t550 t553 t558 t574 t575 true) else ((laws_dSame.f k t558 t562).bind fun t579 => (if t579 = true then (if (t567 != t571) = true then (laws_FnFallingQuads.j0 k l1 t547 t550 t553 t558 t574 t575 true) else ((laws_dSame.f k t566 t570).bind fun t580 => (if t580 = true then (if (t575 != t577) = true then (laws_FnFallingQuads.j0 k l1 t547 t550 t553 t558 t574 t575 true) else (if t574 = t576 then (if (t559 != t553) = true then (laws_FnFallingQuads.j0 k l1 t547 t550 t553 t558 t574 t575 true) else (laws_FnFallingQuads.j0 k l1 t547 t550 t553 t558 t574 t575 (t567 != t553))) else (laws_FnFallingQuads.j0 k l1 t547 t550 t553 t558 t574 t575 true))) else (laws_FnFallingQuads.j0 k l1 t547 t550 t553 t558 t574 t575 true)))) else (laws_FnFallingQuads.j0 k l1 t547 t550 t553 t558 t574 t575 true)))) else (laws_FnFallingQuads.j0 k l1 t547 t550 t553 t558 t574 t575 true)) = some r := H
       have A26 := Aside0.mk A260
       clear A260
       by_cases c27 : t578 = true
       ·
        as_aux_lemma =>
         subst c27
         have H1 : (if (t559 != t563) = true then (laws_FnFallingQuads.j0 k l1 t547 t550 t553 t558 t574 t575 true) else ((laws_dSame.f k t558 t562).bind fun t579 => (if t579 = true then (if (t567 != t571) = true then (laws_FnFallingQuads.j0 k l1 t547 t550 t553 t558 t574 t575 true) else ((laws_dSame.f k t566 t570).bind fun t580 => (if t580 = true then (if (t575 != t577) = true then (laws_FnFallingQuads.j0 k l1 t547 t550 t553 t558 t574 t575 true) else (if t574 = t576 then (if (t559 != t553) = true then (laws_FnFallingQuads.j0 k l1 t547 t550 t553 t558 t574 t575 true) else (laws_FnFallingQuads.j0 k l1 t547 t550 t553 t558 t574 t575 (t567 != t553))) else (laws_FnFallingQuads.j0 k l1 t547 t550 t553 t558 t574 t575 true))) else (laws_FnFallingQuads.j0 k l1 t547 t550 t553 t558 t574 t575 true)))) else (laws_FnFallingQuads.j0 k l1 t547 t550 t553 t558 t574 t575 true)))) = some r := by rw [if_pos rfl] at H; exact H
         clear H
         have H := H1
         clear H1
         by_cases c28 : (t559 != t563) = true
         ·
          rw [if_pos c28] at H
          exact absurd (H.trans (congrArg some hrT)) (fun h_ => laws_FnFallingQuads.j0_no h_)
         ·
          rw [if_neg c28] at H
          have c28b0 : (t559 != t563) = false := by simpa using c28
          (try (have c28b1 : decide (t559 = t563) = true := by simpa using c28))
          (try (have c28b2 : (t559 == t563) = true := by simpa using c28))
          clear c28
          replace H := Option.bind_eq_some_iff.mp H
          obtain ⟨t579, A310, H⟩ := H
          replace H : (if t579 = true then (if (t567 != t571) = true then (laws_FnFallingQuads.j0 k l1 t547 t550 t553 t558 t574 t575 true) else ((laws_dSame.f k t566 t570).bind fun t580 => (if t580 = true then (if (t575 != t577) = true then (laws_FnFallingQuads.j0 k l1 t547 t550 t553 t558 t574 t575 true) else (if t574 = t576 then (if (t559 != t553) = true then (laws_FnFallingQuads.j0 k l1 t547 t550 t553 t558 t574 t575 true) else (laws_FnFallingQuads.j0 k l1 t547 t550 t553 t558 t574 t575 (t567 != t553))) else (laws_FnFallingQuads.j0 k l1 t547 t550 t553 t558 t574 t575 true))) else (laws_FnFallingQuads.j0 k l1 t547 t550 t553 t558 t574 t575 true)))) else (laws_FnFallingQuads.j0 k l1 t547 t550 t553 t558 t574 t575 true)) = some r := H
          have A31 := Aside0.mk A310
          clear A310
          by_cases c32 : t579 = true
          ·
           subst c32
           have H1 : (if (t567 != t571) = true then (laws_FnFallingQuads.j0 k l1 t547 t550 t553 t558 t574 t575 true) else ((laws_dSame.f k t566 t570).bind fun t580 => (if t580 = true then (if (t575 != t577) = true then (laws_FnFallingQuads.j0 k l1 t547 t550 t553 t558 t574 t575 true) else (if t574 = t576 then (if (t559 != t553) = true then (laws_FnFallingQuads.j0 k l1 t547 t550 t553 t558 t574 t575 true) else (laws_FnFallingQuads.j0 k l1 t547 t550 t553 t558 t574 t575 (t567 != t553))) else (laws_FnFallingQuads.j0 k l1 t547 t550 t553 t558 t574 t575 true))) else (laws_FnFallingQuads.j0 k l1 t547 t550 t553 t558 t574 t575 true)))) = some r := by rw [if_pos rfl] at H; exact H
           clear H
           have H := H1
           clear H1
           by_cases c33 : (t567 != t571) = true
           ·
            rw [if_pos c33] at H
            exact absurd (H.trans (congrArg some hrT)) (fun h_ => laws_FnFallingQuads.j0_no h_)
           ·
            rw [if_neg c33] at H
            have c33b0 : (t567 != t571) = false := by simpa using c33
            (try (have c33b1 : decide (t567 = t571) = true := by simpa using c33))
            (try (have c33b2 : (t567 == t571) = true := by simpa using c33))
            clear c33
            replace H := Option.bind_eq_some_iff.mp H
            obtain ⟨t580, A380, H⟩ := H
            replace H : (if t580 = true then (if (t575 != t577) = true then (laws_FnFallingQuads.j0 k l1 t547 t550 t553 t558 t574 t575 true) else (if t574 = t576 then (if (t559 != t553) = true then (laws_FnFallingQuads.j0 k l1 t547 t550 t553 t558 t574 t575 true) else (laws_FnFallingQuads.j0 k l1 t547 t550 t553 t558 t574 t575 (t567 != t553))) else (laws_FnFallingQuads.j0 k l1 t547 t550 t553 t558 t574 t575 true))) else (laws_FnFallingQuads.j0 k l1 t547 t550 t553 t558 t574 t575 true)) = some r := H
            have A38 := Aside0.mk A380
            clear A380
            by_cases c39 : t580 = true
            ·
             subst c39
             have H1 : (if (t575 != t577) = true then (laws_FnFallingQuads.j0 k l1 t547 t550 t553 t558 t574 t575 true) else (if t574 = t576 then (if (t559 != t553) = true then (laws_FnFallingQuads.j0 k l1 t547 t550 t553 t558 t574 t575 true) else (laws_FnFallingQuads.j0 k l1 t547 t550 t553 t558 t574 t575 (t567 != t553))) else (laws_FnFallingQuads.j0 k l1 t547 t550 t553 t558 t574 t575 true))) = some r := by rw [if_pos rfl] at H; exact H
             clear H
             have H := H1
             clear H1
             by_cases c40 : (t575 != t577) = true
             ·
              rw [if_pos c40] at H
              exact absurd (H.trans (congrArg some hrT)) (fun h_ => laws_FnFallingQuads.j0_no h_)
             ·
              rw [if_neg c40] at H
              have c40b0 : (t575 != t577) = false := by simpa using c40
              (try (have c40b1 : decide (t575 = t577) = true := by simpa using c40))
              (try (have c40b2 : (t575 == t577) = true := by simpa using c40))
              clear c40
              by_cases c47 : t574 = t576
              ·
               rw [if_pos c47] at H
               have c47b0 : (t574 == t576) = true := beq_iff_eq.mpr c47
               have c47b1 : (t574 != t576) = false := bne_eq_false_iff_eq.mpr c47
               clear c47
               by_cases c48 : (t559 != t553) = true
               ·
                rw [if_pos c48] at H
                exact absurd (H.trans (congrArg some hrT)) (fun h_ => laws_FnFallingQuads.j0_no h_)
               ·
                rw [if_neg c48] at H
                have c48b0 : (t559 != t553) = false := by simpa using c48
                (try (have c48b1 : decide (t559 = t553) = true := by simpa using c48))
                (try (have c48b2 : (t559 == t553) = true := by simpa using c48))
                clear c48
                have H' := Aside0.mk H
                clear H
                obtain ⟨Ao55, co55, eo55⟩ := Kd.N_slice HO552.out
                subst eo55
                obtain ⟨Ao56, co56, eo56⟩ := Kd.N_slice HO556.out
                subst eo56
                go_wp2_with (first | (go_at_call 35; (with_reducible refine (laws_dLists.calls k _ _ t550 _ _ t554 true _ ?side1 ?side2 ?side3 ?side4 A26.out).mono ?_); (case side1 => exact cC (Kd.N_reads' HO552.out).2.2); (case side2 => exact (Kd.N_reads' HO552.out).2.1); (case side3 => exact cC (Kd.N_reads' HO556.out).2.2); (case side4 => exact (Kd.N_reads' HO556.out).2.1); rintro e w' ⟨rfl, ⟨nd, rfl⟩⟩; obtain ⟨Ao57, co57, eo57⟩ := Kd.R_slice HO561.out; subst eo57; obtain ⟨Ao58, co58, eo58⟩ := Kd.R_slice HO565.out; subst eo58) | (go_at_call 19; (with_reducible refine (laws_dSame.calls k _ _ t558 _ _ t562 true _ ?side1 ?side2 ?side3 ?side4 A31.out).mono ?_); (case side1 => exact cC (Kd.R_reads' HO561.out).2.2); (case side2 => exact (Kd.R_reads' HO561.out).2.1); (case side3 => exact cC (Kd.R_reads' HO565.out).2.2); (case side4 => exact (Kd.R_reads' HO565.out).2.1); rintro e w' ⟨rfl, ⟨nd, rfl⟩⟩; obtain ⟨Ao59, co59, eo59⟩ := Kd.R_slice HO569.out; subst eo59; obtain ⟨Ao60, co60, eo60⟩ := Kd.R_slice HO573.out; subst eo60) | (go_at_call 19; (with_reducible refine (laws_dSame.calls k _ _ t566 _ _ t570 true _ ?side1 ?side2 ?side3 ?side4 A38.out).mono ?_); (case side1 => exact cC (Kd.R_reads' HO569.out).2.2); (case side2 => exact (Kd.R_reads' HO569.out).2.1); (case side3 => exact cC (Kd.R_reads' HO573.out).2.2); (case side4 => exact (Kd.R_reads' HO573.out).2.1); rintro e w' ⟨rfl, ⟨nd, rfl⟩⟩))
                go_meet
                case rel => exact ⟨_, ((t567 != t553)), e2, H', ⟨by first | omega | exact Nat.le_refl _⟩, ⟨by (with_reducible repeat (first | apply Kd.V_alloc | apply Kd.V_drewN | apply Kd.V_drew)); exact Kd.V_mono HO549.out (fun _ hk => ⟨hk.1.1.1.1.1.2, hk.1.1.1.2⟩)⟩, ⟨by (with_reducible repeat (first | apply Kd.N_alloc | apply Kd.N_drewN | apply Kd.N_drew)); exact Kd.N_mono HO552.out (fun _ hk => hk.1.1.1.2)⟩, ⟨by (with_reducible repeat (first | apply Kd.R_alloc | apply Kd.R_drewN | apply Kd.R_drew)); exact Kd.R_mono HO561.out (fun _ hk => trivial)⟩, ⟨bq⟩⟩
              ·
               rw [if_neg c47] at H
               exact absurd (H.trans (congrArg some hrT)) (fun h_ => laws_FnFallingQuads.j0_no h_)
            ·
             replace c39 := Bool.eq_false_iff.mpr c39
             subst c39
             have H1 : (laws_FnFallingQuads.j0 k l1 t547 t550 t553 t558 t574 t575 true) = some r := by rw [if_neg (show ¬ (false = true) by decide)] at H; exact H
             exact absurd (H1.trans (congrArg some hrT)) (fun h_ => laws_FnFallingQuads.j0_no h_)
          ·
           replace c32 := Bool.eq_false_iff.mpr c32
           subst c32
           have H1 : (laws_FnFallingQuads.j0 k l1 t547 t550 t553 t558 t574 t575 true) = some r := by rw [if_neg (show ¬ (false = true) by decide)] at H; exact H
           exact absurd (H1.trans (congrArg some hrT)) (fun h_ => laws_FnFallingQuads.j0_no h_)
       ·
        replace c27 := Bool.eq_false_iff.mpr c27
        subst c27
        have H1 : (laws_FnFallingQuads.j0 k l1 t547 t550 t553 t558 t574 t575 true) = some r := by rw [if_neg (show ¬ (false = true) by decide)] at H; exact H
        exact absurd (H1.trans (congrArg some hrT)) (fun h_ => laws_FnFallingQuads.j0_no h_)
   case rest =>
    as_aux_lemma =>
     clear HC14; (try clear c1); (try clear c2); (try clear p2); (try clear c3); (try clear c4); (try clear c6); (try clear c25); (try clear c25b0); (try clear c25b1); (try clear c25b2); (try clear c26); (try clear c27); (try clear c28); (try clear c28b0); (try clear c28b1); (try clear c28b2); (try clear c29); (try clear c30); (try clear c31); (try clear c32); (try clear c33); (try clear c33b0); (try clear c33b1); (try clear c33b2); (try clear c34); (try clear c39); (try clear c40); (try clear c40b0); (try clear c40b1); (try clear c40b2); (try clear c47); (try clear c47b0); (try clear c47b1); (try clear c48); (try clear c48b0); (try clear c48b1); (try clear c48b2)
     obtain ⟨kq, x149_13, rfl, HA, HJ13, HO_5, HO_6, HO_10, HB⟩ := hcut
     cases kq with
     | zero => exact absurd HA.out (by simp [laws_FnFallingQuads.j0])
     | succ kj13 =>
      have H := HA.out
      clear HA
      simp only [laws_FnFallingQuads.j0] at H
      by_cases c79 : x149_13 = true
      ·
       subst c79
       have H1 : (some false) = some r := by rw [if_pos rfl] at H; exact H
       exact absurd (H1.trans (congrArg some hrT)) (by simp)
      ·
       as_aux_lemma =>
        replace c79 := Bool.eq_false_iff.mpr c79
        subst c79
        have H1 : (if t553 = true then (if 0 < (t550.length : Int) then ((laws_dSame.f kj13 (rd_L2 t550 0) t547).bind fun t582 => (if t582 = true then (if (t558.length : Int) = (wrap64 ((t550.length : Int) - 1)) then (if (t575 != (decide ((t558.length : Int) > 0))) = true then (laws_FnFallingQuads.j1 kj13 l1 t547 t550 t558 true) else (if t575 = true then (if 0 < (t558.length : Int) then (laws_FnFallingQuads.j1 kj13 l1 t547 t550 t558 (t574 != (rd t558 0))) else (none)) else (laws_FnFallingQuads.j1 kj13 l1 t547 t550 t558 false))) else (laws_FnFallingQuads.j1 kj13 l1 t547 t550 t558 true)) else (laws_FnFallingQuads.j1 kj13 l1 t547 t550 t558 true))) else (none)) else (laws_FnFallingQuads.j5 kj13 l1)) = some r := by rw [if_neg (show ¬ (false = true) by decide)] at H; exact H
        clear H
        have H := H1
        clear H1
        have HC80 := Aside0.mk H
        clear H
        go_upto_if 150 with (fail)
        go_cut [] (fun wc => ∃ (kq : Nat), Aside0 (laws_FnFallingQuads.j5 kq l1 = some r) ∧ Aside0 (kq ≤ kj13) ∧ Aside0 (Below w.heap.size w wc))
        case first =>
         as_aux_lemma =>
          have H := HC80.out
          clear HC80
          by_cases c81 : t553 = true
          ·
           as_aux_lemma =>
            subst c81
            have H1 : (if 0 < (t550.length : Int) then ((laws_dSame.f kj13 (rd_L2 t550 0) t547).bind fun t582 => (if t582 = true then (if (t558.length : Int) = (wrap64 ((t550.length : Int) - 1)) then (if (t575 != (decide ((t558.length : Int) > 0))) = true then (laws_FnFallingQuads.j1 kj13 l1 t547 t550 t558 true) else (if t575 = true then (if 0 < (t558.length : Int) then (laws_FnFallingQuads.j1 kj13 l1 t547 t550 t558 (t574 != (rd t558 0))) else (none)) else (laws_FnFallingQuads.j1 kj13 l1 t547 t550 t558 false))) else (laws_FnFallingQuads.j1 kj13 l1 t547 t550 t558 true)) else (laws_FnFallingQuads.j1 kj13 l1 t547 t550 t558 true))) else (none)) = some r := by rw [if_pos rfl] at H; exact H
            clear H
            have H := H1
            clear H1
            have HC82 := Aside0.mk H
            clear H
            go_upto_region 15 with (fail)
            go_cut [181] (fun v181 wc => ∃ (kq : Nat) (x181_81 : Bool), v181 = .bool x181_81 ∧ Aside0 (laws_FnFallingQuads.j1 kq l1 t547 t550 t558 x181_81 = some r) ∧ Aside0 (kq ≤ kj13) ∧ Aside0 (Kd.V (Kd.int .i64) 3 wc w.heap.size (fun k_ => some k_ ≠ (v551 : Value).ownBlock ∧ some k_ ≠ (v560 : Value).ownBlock) (.slice Ao16 t547.length co16) t547) ∧ Aside0 (Kd.N (Kd.slice 3 (Kd.int .i64)) 35 wc w.heap.size (fun k_ => some k_ ≠ (v560 : Value).ownBlock) v551 t550) ∧ Aside0 (Kd.R (Kd.int .i64) 3 wc w.heap.size (fun _ => True) v560 t558) ∧ Aside0 (Below w.heap.size w wc))
            case first =>
             as_aux_lemma =>
              have H := HC82.out
              clear HC82
              by_cases c83 : 0 < (t550.length : Int)
              ·
               as_aux_lemma =>
                rw [if_pos c83] at H
                have c83b0 : decide (0 < (t550.length : Int)) = true := decide_eq_true c83
                have c83b1 : decide (0 < t550.length) = true := decide_eq_true (by omega)
                clear c83
                (first | rw [c83b0] | (simp only [i64_w, i32_w]; rw [c83b0]) | skip)
                replace H := Option.bind_eq_some_iff.mp H
                obtain ⟨t582, A840, H⟩ := H
                replace H : (if t582 = true then (if (t558.length : Int) = (wrap64 ((t550.length : Int) - 1)) then (if (t575 != (decide ((t558.length : Int) > 0))) = true then (laws_FnFallingQuads.j1 kj13 l1 t547 t550 t558 true) else (if t575 = true then (if 0 < (t558.length : Int) then (laws_FnFallingQuads.j1 kj13 l1 t547 t550 t558 (t574 != (rd t558 0))) else (none)) else (laws_FnFallingQuads.j1 kj13 l1 t547 t550 t558 false))) else (laws_FnFallingQuads.j1 kj13 l1 t547 t550 t558 true)) else (laws_FnFallingQuads.j1 kj13 l1 t547 t550 t558 true)) = some r := H
                have A84 := Aside0.mk A840
                clear A840
                by_cases c85 : t582 = true
                ·
                 as_aux_lemma =>
                  subst c85
                  have H1 : (if (t558.length : Int) = (wrap64 ((t550.length : Int) - 1)) then (if (t575 != (decide ((t558.length : Int) > 0))) = true then (laws_FnFallingQuads.j1 kj13 l1 t547 t550 t558 true) else (if t575 = true then (if 0 < (t558.length : Int) then (laws_FnFallingQuads.j1 kj13 l1 t547 t550 t558 (t574 != (rd t558 0))) else (none)) else (laws_FnFallingQuads.j1 kj13 l1 t547 t550 t558 false))) else (laws_FnFallingQuads.j1 kj13 l1 t547 t550 t558 true)) = some r := by rw [if_pos rfl] at H; exact H
                  clear H
                  have H := H1
                  clear H1
                  by_cases c86 : (t558.length : Int) = (wrap64 ((t550.length : Int) - 1))
                  ·
                   as_aux_lemma =>
                    rw [if_pos c86] at H
                    have c86b0 : ((t558.length : Int) == (wrap64 ((t550.length : Int) - 1))) = true := beq_iff_eq.mpr c86
                    have c86b1 : ((t558.length : Int) != (wrap64 ((t550.length : Int) - 1))) = false := bne_eq_false_iff_eq.mpr c86
                    clear c86
                    by_cases c87 : (t575 != (decide ((t558.length : Int) > 0))) = true
                    ·
                     rw [if_pos c87] at H
                     exact absurd (H.trans (congrArg some hrT)) (fun h_ => laws_FnFallingQuads.j1_no h_)
                    ·
                     rw [if_neg c87] at H
                     have c87b0 : (t575 != (decide ((t558.length : Int) > 0))) = false := by simpa using c87
                     (try (have c87b1 : decide (t575 = (decide ((t558.length : Int) > 0))) = true := by simpa using c87))
                     (try (have c87b2 : (t575 == (decide ((t558.length : Int) > 0))) = true := by simpa using c87))
                     clear c87
                     by_cases c90 : t575 = true
                     ·
                      subst c90
                      have H1 : (if 0 < (t558.length : Int) then (laws_FnFallingQuads.j1 kj13 l1 t547 t550 t558 (t574 != (rd t558 0))) else (none)) = some r := by rw [if_pos rfl] at H; exact H
                      clear H
                      have H := H1
                      clear H1
                      by_cases c91 : 0 < (t558.length : Int)
                      ·
                       rw [if_pos c91] at H
                       have c91b0 : decide (0 < (t558.length : Int)) = true := decide_eq_true c91
                       have c91b1 : decide (0 < t558.length) = true := decide_eq_true (by omega)
                       clear c91
                       have H' := Aside0.mk H
                       clear H
                       obtain ⟨Ao92, co92, eo92⟩ := Kd.N_slice HO_6.out
                       subst eo92
                       have p581 : 0 ≤ (0 : Int) := (by omega)
                       have q581 : 0 < (t550.length : Int) := od
                       obtain ⟨ad581, A581_0, c581_0, e581, hx581_0, hl581_0, hi581_0⟩ := at_L2 (Kd.N_reads' HO_6.out).2.2 0 p581 q581
                       cases e581
                       obtain ⟨ce581, hce581, hMe581, hcc581⟩ := Kd.N_get HO_6.out [] 0 p581 (by first | exact q581 | exact od | (have e_ := (Kd.N_reads' HO_6.out).1; omega))
                       obtain ⟨ua581_0, uc581_0, rfl, ul581_0, ge581_0⟩ := Kd.FK_slice_open hMe581
                       have hv581_0 := hcc581 0 _ rfl
                       rw [Nat.add_zero, show ((Kd.slice 3 (Kd.int .i64))).sz = 1 from rfl, Nat.mul_one] at hv581_0
                       replace hv581_0 := Option.some.inj (hv581_0.symm.trans hx581_0)
                       injection hv581_0 with hva_ hvn_ hvc_
                       rw [hva_] at ge581_0
                       rw [hvc_] at ul581_0
                       have HL581_0 := Aside0.mk (show Kd.V (Kd.int .i64) 3 _ w.heap.size _ _ (rd_L2 t550 0) from Kd.V_mk ul581_0 ge581_0)
                       clear hva_ hvn_ hvc_ ge581_0 ul581_0
                       clear hcc581 hce581
                       have qi581 : (0 < t550.length) = True := eq_true (by omega)
                       (try rw [show ((0 : Int)).toNat = 0 from rfl] at hx581_0)
                       (try rw [Addr.add_zero'] at hx581_0)
                       have HR581_0 := Aside0.mk hi581_0
                       have HC581_0 := Aside0.mk hl581_0
                       clear hi581_0 hl581_0
                       replace p581 := eq_true p581
                       replace q581 := eq_true q581
                       go_wp2_with (first | ((with_reducible refine gate_callee (f := 19) rfl ?_); refine gL (some 155) rfl rfl Try.func19 (by kernel_rfl) rfl #[.slice A581_0 (rd_L2 t550 0).length c581_0, .slice Ao16 t547.length co16] rfl ?_; (with_reducible refine (laws_dSame.calls kj13 _ _ (rd_L2 t550 0) _ _ t547 true _ ?side1 ?side2 ?side3 ?side4 A84.out).mono ?_); (case side1 => repeat (first | exact (by repeat (first | (with_reducible exact HR581_0.out) | (with_reducible refine Kd.C_alloc ?_ _) | (with_reducible refine Kd.C_drewN ?_ _) | (with_reducible refine Kd.C_drew ?_) | exact HR581_0.out)) | (with_reducible refine Kd.C_alloc ?_ _) | (with_reducible refine Kd.C_drewN ?_ _) | (with_reducible refine Kd.C_drew ?_))); (case side2 => exact HC581_0.out); (case side3 => repeat (first | exact (Kd.V_reads' HO_5.out).2.2 | (with_reducible refine Kd.C_alloc ?_ _) | (with_reducible refine Kd.C_drewN ?_ _) | (with_reducible refine Kd.C_drew ?_))); (case side4 => exact (Kd.V_reads' HO_5.out).2.1); rintro e w' ⟨rfl, ⟨nd, rfl⟩⟩; refine ⟨_, rfl, ?_⟩; obtain ⟨Ao93, co93, eo93⟩ := Kd.R_slice HO_10.out; subst eo93; have p583 : 0 ≤ (0 : Int) := (by omega); have q583 : 0 < (t558.length : Int) := od; obtain ⟨ad583, e583, hx583_0⟩ := Kd.at_int (Kd.R_reads' HO_10.out).2.2 0 p583 q583; cases e583; have qi583 : (0 < t558.length) = True := eq_true (by omega); (try rw [show ((0 : Int)).toNat = 0 from rfl] at hx583_0); (try rw [Addr.add_zero'] at hx583_0); replace p583 := eq_true p583; replace q583 := eq_true q583))
                       go_meet
                       case rel => exact ⟨_, ((t574 != (rd t558 0))), e2, H', ⟨by have := HJ13.out; first | omega | exact Nat.le_refl _⟩, ⟨by (with_reducible repeat (first | apply Kd.V_alloc | apply Kd.V_drewN | apply Kd.V_drew)); exact HO_5.out⟩, ⟨by (with_reducible repeat (first | apply Kd.N_alloc | apply Kd.N_drewN | apply Kd.N_drew)); exact HO_6.out⟩, ⟨by (with_reducible repeat (first | apply Kd.R_alloc | apply Kd.R_drewN | apply Kd.R_drew)); exact HO_10.out⟩, ⟨bq⟩⟩
                      ·
                       rw [if_neg c91] at H
                       exact absurd H (by simp)
                     ·
                      replace c90 := Bool.eq_false_iff.mpr c90
                      subst c90
                      have z1_ : decide (0 < (t558.length : Int)) = false := decide_eq_false (fun h_ => absurd c87b0 (by rw [decide_eq_true (show (t558.length : Int) > 0 by omega)]; decide))
                      have z2_ : decide (0 < t558.length) = false := decide_eq_false (fun h_ => absurd z1_ (by rw [decide_eq_true (show 0 < (t558.length : Int) by omega)]; decide))
                      (try clear c87b1); (try clear c87b2); (try clear c87b0)
                      have H1 : (laws_FnFallingQuads.j1 kj13 l1 t547 t550 t558 false) = some r := by rw [if_neg (show ¬ (false = true) by decide)] at H; exact H
                      clear H
                      have H := H1
                      clear H1
                      have H' := Aside0.mk H
                      clear H
                      obtain ⟨Ao94, co94, eo94⟩ := Kd.N_slice HO_6.out
                      subst eo94
                      have p581 : 0 ≤ (0 : Int) := (by omega)
                      have q581 : 0 < (t550.length : Int) := od
                      obtain ⟨ad581, A581_0, c581_0, e581, hx581_0, hl581_0, hi581_0⟩ := at_L2 (Kd.N_reads' HO_6.out).2.2 0 p581 q581
                      cases e581
                      obtain ⟨ce581, hce581, hMe581, hcc581⟩ := Kd.N_get HO_6.out [] 0 p581 (by first | exact q581 | exact od | (have e_ := (Kd.N_reads' HO_6.out).1; omega))
                      obtain ⟨ua581_0, uc581_0, rfl, ul581_0, ge581_0⟩ := Kd.FK_slice_open hMe581
                      have hv581_0 := hcc581 0 _ rfl
                      rw [Nat.add_zero, show ((Kd.slice 3 (Kd.int .i64))).sz = 1 from rfl, Nat.mul_one] at hv581_0
                      replace hv581_0 := Option.some.inj (hv581_0.symm.trans hx581_0)
                      injection hv581_0 with hva_ hvn_ hvc_
                      rw [hva_] at ge581_0
                      rw [hvc_] at ul581_0
                      have HL581_0 := Aside0.mk (show Kd.V (Kd.int .i64) 3 _ w.heap.size _ _ (rd_L2 t550 0) from Kd.V_mk ul581_0 ge581_0)
                      clear hva_ hvn_ hvc_ ge581_0 ul581_0
                      clear hcc581 hce581
                      have qi581 : (0 < t550.length) = True := eq_true (by omega)
                      (try rw [show ((0 : Int)).toNat = 0 from rfl] at hx581_0)
                      (try rw [Addr.add_zero'] at hx581_0)
                      have HR581_0 := Aside0.mk hi581_0
                      have HC581_0 := Aside0.mk hl581_0
                      clear hi581_0 hl581_0
                      replace p581 := eq_true p581
                      replace q581 := eq_true q581
                      go_wp2_with (first | ((with_reducible refine gate_callee (f := 19) rfl ?_); refine gL (some 155) rfl rfl Try.func19 (by kernel_rfl) rfl #[.slice A581_0 (rd_L2 t550 0).length c581_0, .slice Ao16 t547.length co16] rfl ?_; (with_reducible refine (laws_dSame.calls kj13 _ _ (rd_L2 t550 0) _ _ t547 true _ ?side1 ?side2 ?side3 ?side4 A84.out).mono ?_); (case side1 => repeat (first | exact (by repeat (first | (with_reducible exact HR581_0.out) | (with_reducible refine Kd.C_alloc ?_ _) | (with_reducible refine Kd.C_drewN ?_ _) | (with_reducible refine Kd.C_drew ?_) | exact HR581_0.out)) | (with_reducible refine Kd.C_alloc ?_ _) | (with_reducible refine Kd.C_drewN ?_ _) | (with_reducible refine Kd.C_drew ?_))); (case side2 => exact HC581_0.out); (case side3 => repeat (first | exact (Kd.V_reads' HO_5.out).2.2 | (with_reducible refine Kd.C_alloc ?_ _) | (with_reducible refine Kd.C_drewN ?_ _) | (with_reducible refine Kd.C_drew ?_))); (case side4 => exact (Kd.V_reads' HO_5.out).2.1); rintro e w' ⟨rfl, ⟨nd, rfl⟩⟩; refine ⟨_, rfl, ?_⟩; obtain ⟨Ao95, co95, eo95⟩ := Kd.R_slice HO_10.out; subst eo95))
                      go_meet
                      case rel => exact ⟨_, (false), e2, H', ⟨by have := HJ13.out; first | omega | exact Nat.le_refl _⟩, ⟨by (with_reducible repeat (first | apply Kd.V_alloc | apply Kd.V_drewN | apply Kd.V_drew)); exact HO_5.out⟩, ⟨by (with_reducible repeat (first | apply Kd.N_alloc | apply Kd.N_drewN | apply Kd.N_drew)); exact HO_6.out⟩, ⟨by (with_reducible repeat (first | apply Kd.R_alloc | apply Kd.R_drewN | apply Kd.R_drew)); exact HO_10.out⟩, ⟨bq⟩⟩
                  ·
                   rw [if_neg c86] at H
                   exact absurd (H.trans (congrArg some hrT)) (fun h_ => laws_FnFallingQuads.j1_no h_)
                ·
                 replace c85 := Bool.eq_false_iff.mpr c85
                 subst c85
                 have H1 : (laws_FnFallingQuads.j1 kj13 l1 t547 t550 t558 true) = some r := by rw [if_neg (show ¬ (false = true) by decide)] at H; exact H
                 exact absurd (H1.trans (congrArg some hrT)) (fun h_ => laws_FnFallingQuads.j1_no h_)
              ·
               rw [if_neg c83] at H
               exact absurd H (by simp)
            case rest =>
             as_aux_lemma =>
              clear HC82; (try clear c1); (try clear c2); (try clear p2); (try clear c3); (try clear c4); (try clear c5); (try clear p5); (try clear q5); (try clear hx5); (try clear qi5); (try clear c6); (try clear p6); (try clear c7); (try clear c8); (try clear c9); (try clear c19); (try clear c25); (try clear c25b0); (try clear c25b1); (try clear c25b2); (try clear c26); (try clear c27); (try clear c28); (try clear c28b0); (try clear c28b1); (try clear c28b2); (try clear c29); (try clear c30); (try clear c31); (try clear c32); (try clear c33); (try clear c33b0); (try clear c33b1); (try clear c33b2); (try clear c34); (try clear c39); (try clear c40); (try clear c40b0); (try clear c40b1); (try clear c40b2); (try clear c47); (try clear c47b0); (try clear c47b1); (try clear c48); (try clear c48b0); (try clear c48b1); (try clear c48b2); (try clear c58); (try clear p58); (try clear q58); (try clear hx58); (try clear qi58); (try clear p64); (try clear c79); (try clear c81); (try clear c83); (try clear c83b0); (try clear c83b1); (try clear c85); (try clear c86); (try clear c86b0); (try clear c86b1); (try clear c87); (try clear c87b0); (try clear c87b1); (try clear c87b2); (try clear c90); (try clear c91); (try clear c91b0); (try clear c91b1); (try clear hx581_0); (try clear hx583_0); (try clear p2); (try clear p581); (try clear p583); (try clear q581); (try clear q583)
              obtain ⟨kq, x181_81, rfl, HA, HJ81, HO_5, HO_6, HO_10, HB⟩ := hcut
              cases kq with
              | zero => exact absurd HA.out (by simp [laws_FnFallingQuads.j1])
              | succ kj81 =>
               have H := HA.out
               clear HA
               simp only [laws_FnFallingQuads.j1] at H
               by_cases c99 : x181_81 = true
               ·
                subst c99
                have H1 : (some false) = some r := by rw [if_pos rfl] at H; exact H
                exact absurd (H1.trans (congrArg some hrT)) (by simp)
               ·
                as_aux_lemma =>
                 replace c99 := Bool.eq_false_iff.mpr c99
                 subst c99
                 have H1 : (laws_FnFallingQuads.l0 kj81 l1 t547 t550 t558 1) = some r := by rw [if_neg (show ¬ (false = true) by decide)] at H; exact H
                 clear H
                 have H := H1
                 clear H1
                 have H' := Aside0.mk H
                 clear H
                 go_wp2
                 go_loopg [22] kj81 (fun kq v22 w' => ∃ (x22_3 : Int), v22 = .int .i64 x22_3 ∧ Aside0 (laws_FnFallingQuads.l0 kq l1 t547 t550 t558 x22_3 = some r) ∧ Aside0 (kq ≤ kj81) ∧ Aside0 (Kd.V (Kd.int .i64) 3 w' w.heap.size (fun k_ => some k_ ≠ (v551 : Value).ownBlock ∧ some k_ ≠ (v560 : Value).ownBlock) (.slice Ao16 t547.length co16) t547) ∧ Aside0 (Kd.N (Kd.slice 3 (Kd.int .i64)) 35 w' w.heap.size (fun k_ => some k_ ≠ (v560 : Value).ownBlock) v551 t550) ∧ Aside0 (Kd.R (Kd.int .i64) 3 w' w.heap.size (fun _ => True) v560 t558) ∧ Aside0 (Below w.heap.size w w'))
                 case atStart => exact ⟨(1), e2, H', ⟨Nat.le_refl _⟩, ⟨by (with_reducible repeat (first | apply Kd.V_alloc | apply Kd.V_drewN | apply Kd.V_drew)); exact HO_5.out⟩, ⟨by (with_reducible repeat (first | apply Kd.N_alloc | apply Kd.N_drewN | apply Kd.N_drew)); exact HO_6.out⟩, ⟨by (with_reducible repeat (first | apply Kd.R_alloc | apply Kd.R_drewN | apply Kd.R_drew)); exact HO_10.out⟩, ⟨bq⟩⟩
                 case round =>
                  as_aux_lemma =>
                   clear H'; (try clear c1); (try clear c2); (try clear p2); (try clear c3); (try clear c4); (try clear c5); (try clear p5); (try clear q5); (try clear hx5); (try clear qi5); (try clear c6); (try clear p6); (try clear c7); (try clear c8); (try clear c9); (try clear c19); (try clear c25); (try clear c25b0); (try clear c25b1); (try clear c25b2); (try clear c26); (try clear c27); (try clear c28); (try clear c28b0); (try clear c28b1); (try clear c28b2); (try clear c29); (try clear c30); (try clear c31); (try clear c32); (try clear c33); (try clear c33b0); (try clear c33b1); (try clear c33b2); (try clear c34); (try clear c39); (try clear c40); (try clear c40b0); (try clear c40b1); (try clear c40b2); (try clear c47); (try clear c47b0); (try clear c47b1); (try clear c48); (try clear c48b0); (try clear c48b1); (try clear c48b2); (try clear c58); (try clear p58); (try clear q58); (try clear hx58); (try clear qi58); (try clear p64); (try clear c79); (try clear c81); (try clear c83); (try clear c83b0); (try clear c83b1); (try clear c85); (try clear c86); (try clear c86b0); (try clear c86b1); (try clear c87); (try clear c87b0); (try clear c87b1); (try clear c87b2); (try clear c90); (try clear c91); (try clear c91b0); (try clear c91b1); (try clear c99); (try clear hx581_0); (try clear hx583_0); (try clear p2); (try clear p5); (try clear p58); (try clear p581); (try clear p583); (try clear p6); (try clear p64); (try clear q5); (try clear q58); (try clear q581); (try clear q583)
                   obtain ⟨x22_3, rfl, HA, HK3, HO_5, HO_6, HO_10, HB⟩ := hrel
                   cases gk with
                   | zero => exact absurd HA.out (by simp [laws_FnFallingQuads.l0])
                   | succ k3 =>
                    have H := HA.out
                    clear HA
                    simp only [laws_FnFallingQuads.l0] at H
                    by_cases c100 : x22_3 < (t550.length : Int)
                    ·
                     as_aux_lemma =>
                      rw [if_pos c100] at H
                      have c100b0 : decide (x22_3 < (t550.length : Int)) = true := decide_eq_true c100
                      clear c100
                      obtain ⟨ji101, hji101⟩ : ∃ j_ : Int, (wrap64 (x22_3 - 1)) = j_ := ⟨_, rfl⟩
                      replace H : (if 0 ≤ (ji101) then (if (ji101) < (t550.length : Int) then (if (ji101) < (t558.length : Int) then ((impl_SwapAt.f k3 (rd_L2 t550 (ji101)) (rd t558 (ji101))).bind fun bt586 => (if bt586.2 = true then (if 0 ≤ x22_3 then ((laws_dSame.f k3 bt586.1 (rd_L2 t550 x22_3)).bind fun t591 => (if t591 = true then ((laws_dSum.f k3 (rd_L2 t550 x22_3)).bind fun t593 => ((laws_dSum.f k3 (rd_L2 t550 (ji101))).bind fun t595 => (if t593 ≥ t595 then (some false) else (laws_FnFallingQuads.l0 k3 l1 t547 t550 t558 (wrap64 (x22_3 + 1)))))) else (some false))) else (none)) else (some false))) else (none)) else (none)) else (none)) = some r := by first | (rw [hji101] at H; exact H) | (simp only [hji101] at H ⊢; exact H)
                      have hji101w : (IntKind.i64.wrap (x22_3 - 1)) = ji101 := (i64_w _).trans hji101
                      by_cases c102 : 0 ≤ (ji101)
                      ·
                       as_aux_lemma =>
                        rw [if_pos c102] at H
                        have c102b0 : decide (0 ≤ (ji101)) = true := decide_eq_true c102
                        clear c102
                        by_cases c103 : (ji101) < (t550.length : Int)
                        ·
                         as_aux_lemma =>
                          rw [if_pos c103] at H
                          have c103b0 : decide ((ji101) < (t550.length : Int)) = true := decide_eq_true c103
                          clear c103
                          by_cases c104 : (ji101) < (t558.length : Int)
                          ·
                           as_aux_lemma =>
                            rw [if_pos c104] at H
                            have c104b0 : decide ((ji101) < (t558.length : Int)) = true := decide_eq_true c104
                            clear c104
                            replace H := Option.bind_eq_some_iff.mp H
                            obtain ⟨⟨t586, t587⟩, A1050, H⟩ := H
                            replace H : (if t587 = true then (if 0 ≤ x22_3 then ((laws_dSame.f k3 t586 (rd_L2 t550 x22_3)).bind fun t591 => (if t591 = true then ((laws_dSum.f k3 (rd_L2 t550 x22_3)).bind fun t593 => ((laws_dSum.f k3 (rd_L2 t550 (ji101))).bind fun t595 => (if t593 ≥ t595 then (some false) else (laws_FnFallingQuads.l0 k3 l1 t547 t550 t558 (wrap64 (x22_3 + 1)))))) else (some false))) else (none)) else (some false)) = some r := H
                            have A105 := Aside0.mk A1050
                            clear A1050
                            by_cases c106 : t587 = true
                            ·
                             as_aux_lemma =>
                              subst c106
                              have H1 : (if 0 ≤ x22_3 then ((laws_dSame.f k3 t586 (rd_L2 t550 x22_3)).bind fun t591 => (if t591 = true then ((laws_dSum.f k3 (rd_L2 t550 x22_3)).bind fun t593 => ((laws_dSum.f k3 (rd_L2 t550 (ji101))).bind fun t595 => (if t593 ≥ t595 then (some false) else (laws_FnFallingQuads.l0 k3 l1 t547 t550 t558 (wrap64 (x22_3 + 1)))))) else (some false))) else (none)) = some r := by rw [if_pos rfl] at H; exact H
                              clear H
                              have H := H1
                              clear H1
                              by_cases c107 : 0 ≤ x22_3
                              ·
                               as_aux_lemma =>
                                rw [if_pos c107] at H
                                have c107b0 : decide (0 ≤ x22_3) = true := decide_eq_true c107
                                clear c107
                                replace H := Option.bind_eq_some_iff.mp H
                                obtain ⟨t591, A1080, H⟩ := H
                                replace H : (if t591 = true then ((laws_dSum.f k3 (rd_L2 t550 x22_3)).bind fun t593 => ((laws_dSum.f k3 (rd_L2 t550 (ji101))).bind fun t595 => (if t593 ≥ t595 then (some false) else (laws_FnFallingQuads.l0 k3 l1 t547 t550 t558 (wrap64 (x22_3 + 1)))))) else (some false)) = some r := H
                                have A108 := Aside0.mk A1080
                                clear A1080
                                by_cases c109 : t591 = true
                                ·
                                 as_aux_lemma =>
                                  subst c109
                                  have H1 : ((laws_dSum.f k3 (rd_L2 t550 x22_3)).bind fun t593 => ((laws_dSum.f k3 (rd_L2 t550 (ji101))).bind fun t595 => (if t593 ≥ t595 then (some false) else (laws_FnFallingQuads.l0 k3 l1 t547 t550 t558 (wrap64 (x22_3 + 1)))))) = some r := by rw [if_pos rfl] at H; exact H
                                  clear H
                                  have H := H1
                                  clear H1
                                  replace H := Option.bind_eq_some_iff.mp H
                                  obtain ⟨t593, A1100, H⟩ := H
                                  replace H : ((laws_dSum.f k3 (rd_L2 t550 (ji101))).bind fun t595 => (if t593 ≥ t595 then (some false) else (laws_FnFallingQuads.l0 k3 l1 t547 t550 t558 (wrap64 (x22_3 + 1))))) = some r := H
                                  have A110 := Aside0.mk A1100
                                  clear A1100
                                  replace H := Option.bind_eq_some_iff.mp H
                                  obtain ⟨t595, A1110, H⟩ := H
                                  replace H : (if t593 ≥ t595 then (some false) else (laws_FnFallingQuads.l0 k3 l1 t547 t550 t558 (wrap64 (x22_3 + 1)))) = some r := H
                                  have A111 := Aside0.mk A1110
                                  clear A1110
                                  by_cases c112 : t593 ≥ t595
                                  ·
                                   rw [if_pos c112] at H
                                   exact absurd (H.trans (congrArg some hrT)) (by simp)
                                  ·
                                   as_aux_lemma =>
                                    rw [if_neg c112] at H
                                    have c112b0 : decide (t595 ≤ t593) = false := decide_eq_false c112
                                    clear c112
                                    have H' := Aside0.mk H
                                    clear H
                                    obtain ⟨Ao119, co119, eo119⟩ := Kd.N_slice HO_6.out
                                    subst eo119
                                    try go_wp2
                                    have n0_ := Aside0.mk (Kd.V_drew HO_5.out)
                                    have n1_ := Aside0.mk (Kd.N_drew HO_6.out)
                                    have n2_ := Aside0.mk (Kd.R_drew HO_10.out)
                                    have n3_ := Aside0.mk (below_drew1 HB.out)
                                    clear HO_5; clear HO_6; clear HO_10; clear HB
                                    have HO_5 := n0_
                                    have HO_6 := n1_
                                    have HO_10 := n2_
                                    have HB := n3_
                                    clear n0_ n1_ n2_ n3_
                                    have p584 : 0 ≤ ((ji101) : Int) := od
                                    have q584 : (ji101) < (t550.length : Int) := od
                                    obtain ⟨ad584, A584_0, c584_0, e584, hx584_0, hl584_0, hi584_0⟩ := at_L2 (Kd.N_reads' HO_6.out).2.2 (ji101) p584 q584
                                    cases e584
                                    obtain ⟨ce584, hce584, hMe584, hcc584⟩ := Kd.N_get HO_6.out [] (ji101) p584 (by first | exact q584 | exact od | (have e_ := (Kd.N_reads' HO_6.out).1; omega))
                                    obtain ⟨ua584_0, uc584_0, rfl, ul584_0, ge584_0⟩ := Kd.FK_slice_open hMe584
                                    have hv584_0 := hcc584 0 _ rfl
                                    rw [Nat.add_zero, show ((Kd.slice 3 (Kd.int .i64))).sz = 1 from rfl, Nat.mul_one] at hv584_0
                                    replace hv584_0 := Option.some.inj (hv584_0.symm.trans hx584_0)
                                    injection hv584_0 with hva_ hvn_ hvc_
                                    rw [hva_] at ge584_0
                                    rw [hvc_] at ul584_0
                                    have HL584_0 := Aside0.mk (show Kd.V (Kd.int .i64) 3 _ w.heap.size _ _ (rd_L2 t550 (ji101)) from Kd.V_mk ul584_0 ge584_0)
                                    clear hva_ hvn_ hvc_ ge584_0 ul584_0
                                    clear hcc584 hce584
                                    have HR584_0 := Aside0.mk hi584_0
                                    have HC584_0 := Aside0.mk hl584_0
                                    clear hi584_0 hl584_0
                                    replace p584 := eq_true p584
                                    replace q584 := eq_true q584
                                    obtain ⟨Ao121, co121, eo121⟩ := Kd.R_slice HO_10.out
                                    (first | subst eo121 | (injection eo121 with f1_ f2_ f3_; have f4_ := f1_.symm; have f5_ := f3_.symm; clear f1_ f2_ f3_; subst f4_; subst f5_))
                                    have p585 : 0 ≤ ((ji101) : Int) := od
                                    have q585 : (ji101) < (t558.length : Int) := od
                                    obtain ⟨ad585, e585, hx585_0⟩ := Kd.at_int (Kd.R_reads' HO_10.out).2.2 (ji101) p585 q585
                                    cases e585
                                    replace p585 := eq_true p585
                                    replace q585 := eq_true q585
                                    refine start_ (n := 16) (S := fun w' => w'.cell? (ad584.add ((ji101)).toNat) = some (.slice A584_0 (rd_L2 t550 (ji101)).length c584_0) ∧ w'.cell? (ad585.add ((ji101)).toNat) = some (.int .i64 (rd t558 (ji101)))) (ds := []) #[O,O,O,O,O,O,O,O,O,O,O,O,O,O,O,O] (by kernel_rfl) rfl rfl ⟨hx584_0, hx585_0⟩ (fun hHeld => ?_); refine with_tabW laws_FnFallingQuads.tab20 laws_FnFallingQuads.bits20 (fun HT_ HW_ => ?_)
                                    generalize wr.drew = w120 at HO_5 HO_6 HO_10 HB HL584_0 HR584_0 hx584_0 hx585_0 hHeld ⊢
                                    refine pS 0 189 (BM 16 1) ?_
                                    refine pS 1 190 (BM 16 3) ?_
                                    refine pS 2 191 (BM 16 7) ?_
                                    refine pS 3 192 (BM 16 15) ?_
                                    refine pS 5 194 (BM 16 47) ?_
                                    refine pS 6 195 (BM 16 111) ?_
                                    refine pS 7 196 (BM 16 239) ?_
                                    refine pS 8 197 (BM 16 495) ?_
                                    refine take_ (i := 4) (N := some 193) (v := ?_) (a' := ?_) (BM 16 511) rfl rfl (take_ofW HT_.out HW_.out (by kernel_rfl)) (fun _ _ _ h => h) (Or.inl ⟨by rfl, ?_⟩) hHeld ?_ ?_
                                    rotate_left
                                    ·
                                     rintro w' ⟨s0, s1⟩
                                     go_simp
                                     with_reducible rfl
                                    rotate_left
                                    ·
                                     simp only [AP]
                                     rfl
                                    refine take_ (i := 9) (N := some 198) (v := ?_) (a' := ?_) (BM 16 1023) rfl rfl (take_ofW HT_.out HW_.out (by kernel_rfl)) (fun _ _ _ h => h) (Or.inl ⟨by rfl, ?_⟩) hHeld ?_ ?_
                                    rotate_left
                                    ·
                                     rintro w' ⟨s0, s1⟩
                                     go_simp
                                     with_reducible rfl
                                    rotate_left
                                    ·
                                     simp only [AP]
                                     rfl
                                    refine one_ (i := 10) (N := some 199) (BM 16 2047) rfl rfl (one_of HT_.out (by kernel_rfl)) (by decide) (fun K hK => ?_)
                                    refine goes_ Try.func25 (by kernel_rfl) rfl #[.slice A584_0 (rd_L2 t550 (ji101)).length c584_0, .int .i64 (rd t558 (ji101))] (by rfl) rfl rfl (by (try simp only [List.map_toArray, List.map_cons, List.map_nil]); first | done | (simp only [hji101]; rfl) | rfl | (simp only [List.length_drop, List.length_take]; rfl)) ?_
                                    with_reducible refine (impl_SwapAt.calls k3 _ _ (rd_L2 t550 (ji101)) (rd t558 (ji101)) t586 true _ ?side1 ?side2 A105.out).mono ?_
                                    (case side1 => repeat (first | exact (by repeat (first | (with_reducible exact HR584_0.out) | (with_reducible refine Kd.C_alloc ?_ _) | (with_reducible refine Kd.C_drewN ?_ _) | (with_reducible refine Kd.C_drew ?_) | exact HR584_0.out)) | (with_reducible refine Kd.C_alloc ?_ _) | (with_reducible refine Kd.C_drewN ?_ _) | (with_reducible refine Kd.C_drew ?_)))
                                    (case side2 => exact HC584_0.out)
                                    rintro e w122 ⟨v588, rfl, ho0, hb⟩
                                    have HS0_ := (hb.cell (World.block_lt_of_cell? _ _ (hHeld.1))).trans (hHeld.1)
                                    have HS1_ := (hb.cell (World.block_lt_of_cell? _ _ (hHeld.2))).trans (hHeld.2)
                                    refine ⟨_, rfl, ?_⟩
                                    have n0_ := Aside0.mk (Kd.V_elder' (by (with_reducible repeat (first | apply Kd.V_alloc | apply Kd.V_drewN | apply Kd.V_drew)); exact HO_5.out) (Kd.R_base ho0) hb)
                                    have n1_ := Aside0.mk (Kd.N_elder' (nA HO_6) (Kd.R_base ho0) hb)
                                    have n2_ := Aside0.mk (Kd.R_elder' (rA HO_10) (Kd.R_base ho0) hb)
                                    have n3_ := Aside0.mk (Kd.V_elder' (by (with_reducible repeat (first | apply Kd.V_alloc | apply Kd.V_drewN | apply Kd.V_drew)); exact HL584_0.out) (Kd.R_base ho0) hb)
                                    have n4_ := Aside0.mk (Kd.R_lower (Kd.R_new' ho0 (Kd.R_lt (rA HO_10))) (below_size bq))
                                    have n5_ := Aside0.mk ((by with_reducible first | exact Kd.C_below HR584_0.out hb | exact Kd.C_below (Kd.C_drewN HR584_0.out _) hb | exact Kd.C_below (Kd.C_alloc HR584_0.out _) hb | exact Kd.C_below (Kd.C_drewN (Kd.C_drewN HR584_0.out _) _) hb))
                                    have n6_ := Aside0.mk (below_step bq hb)
                                    clear HO_5; clear HO_6; clear HO_10; clear HL584_0; clear HR584_0; clear HB
                                    have HO_5 := n0_
                                    have HO_6 := n1_
                                    have HO_10 := n2_
                                    have HL584_0 := n3_
                                    have HO589 := n4_
                                    have HR584_0 := n5_
                                    have HB := n6_
                                    clear n0_ n1_ n2_ n3_ n4_ n5_ n6_
                                    (try clear hb)
                                    (try clear hb2)
                                    (try clear hk)
                                    (try clear hi)
                                    (try clear ho0)
                                    refine hK.out _ _ ⟨HS0_, HS1_⟩ (fun hHeld => ?_)
                                    clear hK K
                                    refine norm_ (a' := ?_) ?_ ?_
                                    rotate_left
                                    ·
                                     show Act.put _ (some 199) _ = _
                                     simp only [AP]
                                     rfl
                                    refine pS 11 188 (BM 16 4095) ?_
                                    refine pS 12 200 (BM 16 8191) ?_
                                    refine pS 13 201 (BM 16 16383) ?_
                                    refine pS 14 23 (BM 16 32767) ?_
                                    refine pS 15 24 (BM 16 65535) ?_
                                    refine done_ (done_of HT_.out (by kernel_rfl)) ?_
                                    try go_wp2
                                    have n0_ := Aside0.mk (Kd.V_drew HO_5.out)
                                    have n1_ := Aside0.mk (Kd.N_drew HO_6.out)
                                    have n2_ := Aside0.mk (Kd.R_drew HO_10.out)
                                    have n3_ := Aside0.mk (Kd.V_drew HL584_0.out)
                                    have n4_ := Aside0.mk (Kd.R_drew HO589.out)
                                    have n5_ := Aside0.mk (Kd.C_drew HR584_0.out)
                                    have n6_ := Aside0.mk (below_drew1 HB.out)
                                    clear HO_5; clear HO_6; clear HO_10; clear HL584_0; clear HO589; clear HR584_0; clear HB
                                    have HO_5 := n0_
                                    have HO_6 := n1_
                                    have HO_10 := n2_
                                    have HL584_0 := n3_
                                    have HO589 := n4_
                                    have HR584_0 := n5_
                                    have HB := n6_
                                    clear n0_ n1_ n2_ n3_ n4_ n5_ n6_
                                    have p590 : 0 ≤ (x22_3 : Int) := od
                                    have q590 : x22_3 < (t550.length : Int) := od
                                    obtain ⟨ad590, A590_0, c590_0, e590, hx590_0, hl590_0, hi590_0⟩ := at_L2 (Kd.N_reads' HO_6.out).2.2 x22_3 p590 q590
                                    obtain rfl : ad584 = ad590 := (by injection e590)
                                    obtain ⟨ce590, hce590, hMe590, hcc590⟩ := Kd.N_get HO_6.out [] x22_3 p590 (by first | exact q590 | exact od | (have e_ := (Kd.N_reads' HO_6.out).1; omega))
                                    obtain ⟨ua590_0, uc590_0, rfl, ul590_0, ge590_0⟩ := Kd.FK_slice_open hMe590
                                    have hv590_0 := hcc590 0 _ rfl
                                    rw [Nat.add_zero, show ((Kd.slice 3 (Kd.int .i64))).sz = 1 from rfl, Nat.mul_one] at hv590_0
                                    replace hv590_0 := Option.some.inj (hv590_0.symm.trans hx590_0)
                                    injection hv590_0 with hva_ hvn_ hvc_
                                    rw [hva_] at ge590_0
                                    rw [hvc_] at ul590_0
                                    have HL590_0 := Aside0.mk (show Kd.V (Kd.int .i64) 3 _ w.heap.size _ _ (rd_L2 t550 x22_3) from Kd.V_mk ul590_0 ge590_0)
                                    clear hva_ hvn_ hvc_ ge590_0 ul590_0
                                    clear hcc590 hce590
                                    have HR590_0 := Aside0.mk hi590_0
                                    have HC590_0 := Aside0.mk hl590_0
                                    clear hi590_0 hl590_0
                                    replace p590 := eq_true p590
                                    replace q590 := eq_true q590
                                    obtain ⟨Ao124, co124, eo124⟩ := Kd.R_slice HO589.out
                                    (first | subst eo124 | (injection eo124 with f1_ f2_ f3_; have f4_ := f1_.symm; have f5_ := f3_.symm; clear f1_ f2_ f3_; subst f4_; subst f5_))
                                    have p592 : 0 ≤ (x22_3 : Int) := od
                                    have q592 : x22_3 < (t550.length : Int) := od
                                    obtain ⟨ad592, A592_0, c592_0, e592, hx592_0, hl592_0, hi592_0⟩ := at_L2 (Kd.N_reads' HO_6.out).2.2 x22_3 p592 q592
                                    obtain rfl : ad584 = ad592 := (by injection e592)
                                    obtain ⟨ce592, hce592, hMe592, hcc592⟩ := Kd.N_get HO_6.out [] x22_3 p592 (by first | exact q592 | exact od | (have e_ := (Kd.N_reads' HO_6.out).1; omega))
                                    obtain ⟨ua592_0, uc592_0, rfl, ul592_0, ge592_0⟩ := Kd.FK_slice_open hMe592
                                    have hv592_0 := hcc592 0 _ rfl
                                    rw [Nat.add_zero, show ((Kd.slice 3 (Kd.int .i64))).sz = 1 from rfl, Nat.mul_one] at hv592_0
                                    replace hv592_0 := Option.some.inj (hv592_0.symm.trans hx592_0)
                                    injection hv592_0 with hva_ hvn_ hvc_
                                    rw [hva_] at ge592_0
                                    rw [hvc_] at ul592_0
                                    have HL592_0 := Aside0.mk (show Kd.V (Kd.int .i64) 3 _ w.heap.size _ _ (rd_L2 t550 x22_3) from Kd.V_mk ul592_0 ge592_0)
                                    clear hva_ hvn_ hvc_ ge592_0 ul592_0
                                    clear hcc592 hce592
                                    have HR592_0 := Aside0.mk hi592_0
                                    have HC592_0 := Aside0.mk hl592_0
                                    clear hi592_0 hl592_0
                                    replace p592 := eq_true p592
                                    replace q592 := eq_true q592
                                    have ea_ := Option.some.inj (hx590_0.symm.trans hx592_0)
                                    injection ea_ with ea_ en_ ec_
                                    subst ea_
                                    subst ec_
                                    clear en_
                                    have p594 : 0 ≤ ((ji101) : Int) := od
                                    have q594 : (ji101) < (t550.length : Int) := od
                                    obtain ⟨ad594, A594_0, c594_0, e594, hx594_0, hl594_0, hi594_0⟩ := at_L2 (Kd.N_reads' HO_6.out).2.2 (ji101) p594 q594
                                    obtain rfl : ad584 = ad594 := (by injection e594)
                                    obtain ⟨ce594, hce594, hMe594, hcc594⟩ := Kd.N_get HO_6.out [] (ji101) p594 (by first | exact q594 | exact od | (have e_ := (Kd.N_reads' HO_6.out).1; omega))
                                    obtain ⟨ua594_0, uc594_0, rfl, ul594_0, ge594_0⟩ := Kd.FK_slice_open hMe594
                                    have hv594_0 := hcc594 0 _ rfl
                                    rw [Nat.add_zero, show ((Kd.slice 3 (Kd.int .i64))).sz = 1 from rfl, Nat.mul_one] at hv594_0
                                    replace hv594_0 := Option.some.inj (hv594_0.symm.trans hx594_0)
                                    injection hv594_0 with hva_ hvn_ hvc_
                                    rw [hva_] at ge594_0
                                    rw [hvc_] at ul594_0
                                    have HL594_0 := Aside0.mk (show Kd.V (Kd.int .i64) 3 _ w.heap.size _ _ (rd_L2 t550 (ji101)) from Kd.V_mk ul594_0 ge594_0)
                                    clear hva_ hvn_ hvc_ ge594_0 ul594_0
                                    clear hcc594 hce594
                                    have HR594_0 := Aside0.mk hi594_0
                                    have HC594_0 := Aside0.mk hl594_0
                                    clear hi594_0 hl594_0
                                    replace p594 := eq_true p594
                                    replace q594 := eq_true q594
                                    refine start_ (n := 25) (S := fun w' => w'.cell? (ad584.add (x22_3).toNat) = some (.slice A590_0 (rd_L2 t550 x22_3).length c590_0) ∧ w'.cell? (ad584.add (x22_3).toNat) = some (.slice A590_0 (rd_L2 t550 x22_3).length c590_0) ∧ w'.cell? (ad584.add ((ji101)).toNat) = some (.slice A594_0 (rd_L2 t550 (ji101)).length c594_0)) (ds := []) #[O,O,O,O,O,O,O,O,O,O,O,O,O,O,O,O,O,O,O,O,O,O,O,O,O] (by kernel_rfl) rfl rfl ⟨hx590_0, hx592_0, hx594_0⟩ (fun hHeld => ?_); refine with_tabW laws_FnFallingQuads.tab21 laws_FnFallingQuads.bits21 (fun HT_ HW_ => ?_)
                                    generalize w122.drew = w123 at HO_5 HO_6 HO_10 HL584_0 HO589 HR584_0 HB HL590_0 HL592_0 HL594_0 HR590_0 HR592_0 HR594_0 hx590_0 hx592_0 hx594_0 hHeld ⊢
                                    refine pS 0 202 (BM 25 1) ?_
                                    refine pS 1 203 (BM 25 3) ?_
                                    refine pS 2 204 (BM 25 7) ?_
                                    refine pS 3 205 (BM 25 15) ?_
                                    refine pS 4 206 (BM 25 31) ?_
                                    refine pS 5 207 (BM 25 63) ?_
                                    refine pS 6 208 (BM 25 127) ?_
                                    refine take_ (i := 7) (N := some 209) (v := ?_) (a' := ?_) (BM 25 255) rfl rfl (take_ofW HT_.out HW_.out (by kernel_rfl)) (fun _ _ _ h => h) (Or.inl ⟨by rfl, ?_⟩) hHeld ?_ ?_
                                    rotate_left
                                    ·
                                     rintro w' ⟨s0, s1, s2⟩
                                     go_simp
                                     with_reducible rfl
                                    rotate_left
                                    ·
                                     simp only [AP]
                                     rfl
                                    refine one_ (i := 8) (N := some 210) (BM 25 511) rfl rfl (one_of HT_.out (by kernel_rfl)) (by decide) (fun K hK => ?_)
                                    refine goes_ Try.func19 (by kernel_rfl) rfl #[.slice Ao124 t586.length co124, .slice A590_0 (rd_L2 t550 x22_3).length c590_0] (by rfl) rfl rfl (by (try simp only [List.map_toArray, List.map_cons, List.map_nil]); first | done | rfl | (simp only [List.length_drop, List.length_take]; rfl)) ?_
                                    with_reducible refine (laws_dSame.calls k3 _ _ t586 _ _ (rd_L2 t550 x22_3) true _ ?side1 ?side2 ?side3 ?side4 A108.out).mono ?_
                                    (case side1 => exact cC (Kd.R_reads' HO589.out).2.2)
                                    (case side2 => exact (Kd.R_reads' HO589.out).2.1)
                                    (case side3 => repeat (first | exact (by repeat (first | (with_reducible exact HR590_0.out) | (with_reducible refine Kd.C_alloc ?_ _) | (with_reducible refine Kd.C_drewN ?_ _) | (with_reducible refine Kd.C_drew ?_) | exact HR590_0.out)) | (with_reducible refine Kd.C_alloc ?_ _) | (with_reducible refine Kd.C_drewN ?_ _) | (with_reducible refine Kd.C_drew ?_)))
                                    (case side4 => exact HC590_0.out)
                                    rintro e w' ⟨rfl, ⟨nd, rfl⟩⟩
                                    refine ⟨_, rfl, ?_⟩
                                    refine hK.out _ _ ⟨hHeld.1, hHeld.2.1, hHeld.2.2⟩ (fun hHeld => ?_)
                                    clear hK K
                                    refine norm_ (a' := ?_) ?_ ?_
                                    rotate_left
                                    ·
                                     show Act.put _ (some 210) _ = _
                                     simp only [AP]
                                     rfl
                                    refine pS 9 211 (BM 25 1023) ?_
                                    refine pS 10 212 (BM 25 2047) ?_
                                    refine pS 11 213 (BM 25 4095) ?_
                                    refine pS 12 214 (BM 25 8191) ?_
                                    refine pS 13 215 (BM 25 16383) ?_
                                    refine pS 14 216 (BM 25 32767) ?_
                                    refine pS 17 219 (BM 25 163839) ?_
                                    refine pS 18 220 (BM 25 425983) ?_
                                    refine pS 19 221 (BM 25 950271) ?_
                                    refine pS 20 222 (BM 25 1998847) ?_
                                    refine take_ (i := 15) (N := some 217) (v := ?_) (a' := ?_) (BM 25 2031615) rfl rfl (take_ofW HT_.out HW_.out (by kernel_rfl)) (fun _ _ _ h => h) (Or.inl ⟨by rfl, ?_⟩) hHeld ?_ ?_
                                    rotate_left
                                    ·
                                     rintro w' ⟨s0, s1, s2⟩
                                     go_simp
                                     with_reducible rfl
                                    rotate_left
                                    ·
                                     simp only [AP]
                                     rfl
                                    refine take_ (i := 21) (N := some 223) (v := ?_) (a' := ?_) (BM 25 4128767) rfl rfl (take_ofW HT_.out HW_.out (by kernel_rfl)) (fun _ _ _ h => h) (Or.inl ⟨by rfl, ?_⟩) hHeld ?_ ?_
                                    rotate_left
                                    ·
                                     rintro w' ⟨s0, s1, s2⟩
                                     go_simp
                                     with_reducible rfl
                                    rotate_left
                                    ·
                                     simp only [AP]
                                     rfl
                                    refine one_ (i := 16) (N := some 218) (BM 25 4194303) rfl rfl (one_of HT_.out (by kernel_rfl)) (by decide) (fun K hK => ?_)
                                    refine goes_ Try.func36 (by kernel_rfl) rfl #[.slice A590_0 (rd_L2 t550 x22_3).length c590_0] (by rfl) rfl rfl (by (try simp only [List.map_toArray, List.map_cons, List.map_nil]); first | done | rfl | (simp only [List.length_drop, List.length_take]; rfl)) ?_
                                    with_reducible refine (laws_dSum.calls k3 _ _ (rd_L2 t550 x22_3) t593 _ ?side1 ?side2 A110.out).mono ?_
                                    (case side1 => repeat (first | exact (by repeat (first | (with_reducible exact HR592_0.out) | (with_reducible refine Kd.C_alloc ?_ _) | (with_reducible refine Kd.C_drewN ?_ _) | (with_reducible refine Kd.C_drew ?_) | exact HR592_0.out)) | (with_reducible refine Kd.C_alloc ?_ _) | (with_reducible refine Kd.C_drewN ?_ _) | (with_reducible refine Kd.C_drew ?_)))
                                    (case side2 => exact HC592_0.out)
                                    rintro e w' ⟨rfl, ⟨nd, rfl⟩⟩
                                    refine ⟨_, rfl, ?_⟩
                                    refine hK.out _ _ ⟨hHeld.1, hHeld.2.1, hHeld.2.2⟩ (fun hHeld => ?_)
                                    clear hK K
                                    refine norm_ (a' := ?_) ?_ ?_
                                    rotate_left
                                    ·
                                     show Act.put _ (some 218) _ = _
                                     simp only [AP]
                                     rfl
                                    refine one_ (i := 22) (N := some 224) (BM 25 8388607) rfl rfl (one_of HT_.out (by kernel_rfl)) (by decide) (fun K hK => ?_)
                                    refine goes_ Try.func36 (by kernel_rfl) rfl #[.slice A594_0 (rd_L2 t550 (ji101)).length c594_0] (by rfl) rfl rfl (by (try simp only [List.map_toArray, List.map_cons, List.map_nil]); first | done | (simp only [hji101]; rfl) | rfl | (simp only [List.length_drop, List.length_take]; rfl)) ?_
                                    with_reducible refine (laws_dSum.calls k3 _ _ (rd_L2 t550 (ji101)) t595 _ ?side1 ?side2 A111.out).mono ?_
                                    (case side1 => repeat (first | exact (by repeat (first | (with_reducible exact HR594_0.out) | (with_reducible refine Kd.C_alloc ?_ _) | (with_reducible refine Kd.C_drewN ?_ _) | (with_reducible refine Kd.C_drew ?_) | exact HR594_0.out)) | (with_reducible refine Kd.C_alloc ?_ _) | (with_reducible refine Kd.C_drewN ?_ _) | (with_reducible refine Kd.C_drew ?_)))
                                    (case side2 => exact HC594_0.out)
                                    rintro e w' ⟨rfl, ⟨nd, rfl⟩⟩
                                    refine ⟨_, rfl, ?_⟩
                                    refine hK.out _ _ ⟨hHeld.1, hHeld.2.1, hHeld.2.2⟩ (fun hHeld => ?_)
                                    clear hK K
                                    refine norm_ (a' := ?_) ?_ ?_
                                    rotate_left
                                    ·
                                     show Act.put _ (some 224) _ = _
                                     simp only [AP]
                                     rfl
                                    refine pS 23 225 (BM 25 16777215) ?_
                                    refine pS 24 226 (BM 25 33554431) ?_
                                    refine done_ (done_of HT_.out (by kernel_rfl)) ?_
                                    try go_wp2
                                    go_roundg k3
                                    case measure => have := HJ13.out; have := HJ81.out; have := HK3.out; omega
                                    case rel => exact ⟨(wrap64 (x22_3 + 1)), e2, H', ⟨by have := HJ13.out; have := HJ81.out; have := HK3.out; omega⟩, ⟨by (with_reducible repeat (first | apply Kd.V_alloc | apply Kd.V_drewN | apply Kd.V_drew)); exact Kd.V_mono HO_5.out (fun _ hk => ⟨hk.1.1, hk.1.2⟩)⟩, ⟨by (with_reducible repeat (first | apply Kd.N_alloc | apply Kd.N_drewN | apply Kd.N_drew)); exact Kd.N_mono HO_6.out (fun _ hk => hk.1)⟩, ⟨by (with_reducible repeat (first | apply Kd.R_alloc | apply Kd.R_drewN | apply Kd.R_drew)); exact Kd.R_mono HO_10.out (fun _ hk => trivial)⟩, ⟨bq⟩⟩
                                ·
                                 replace c109 := Bool.eq_false_iff.mpr c109
                                 subst c109
                                 have H1 : (some false) = some r := by rw [if_neg (show ¬ (false = true) by decide)] at H; exact H
                                 exact absurd (H1.trans (congrArg some hrT)) (by simp)
                              ·
                               rw [if_neg c107] at H
                               exact absurd H (by simp)
                            ·
                             replace c106 := Bool.eq_false_iff.mpr c106
                             subst c106
                             have H1 : (some false) = some r := by rw [if_neg (show ¬ (false = true) by decide)] at H; exact H
                             exact absurd (H1.trans (congrArg some hrT)) (by simp)
                          ·
                           rw [if_neg c104] at H
                           exact absurd H (by simp)
                        ·
                         rw [if_neg c103] at H
                         exact absurd H (by simp)
                      ·
                       rw [if_neg c102] at H
                       exact absurd H (by simp)
                    ·
                     as_aux_lemma =>
                      rw [if_neg c100] at H
                      have c100b0 : decide (x22_3 < (t550.length : Int)) = false := decide_eq_false c100
                      clear c100
                      obtain ⟨ji136, hji136⟩ : ∃ j_ : Int, (wrap64 ((t550.length : Int) - 1)) = j_ := ⟨_, rfl⟩
                      replace H : (if 0 ≤ (ji136) then (if (ji136) < (t550.length : Int) then ((sameRow.f (rd_L2 t550 (ji136))).bind fun t597 => ((impl_IsRoot.f k3 t597).bind fun bt600 => ((impl_FollowSwaps.f k3 t547 t558).bind fun bt602 => (if bt600.2 = true then (if bt600.1 = true then (if bt602.2 = true then ((laws_dSame.f k3 bt602.1 t597).bind fun t606 => (laws_FnFallingQuads.j3 k3 l1 t547 t558 t597 (!t606))) else (laws_FnFallingQuads.j3 k3 l1 t547 t558 t597 true)) else (laws_FnFallingQuads.j3 k3 l1 t547 t558 t597 true)) else (laws_FnFallingQuads.j3 k3 l1 t547 t558 t597 true))))) else (none)) else (none)) = some r := by first | (rw [hji136] at H; exact H) | (simp only [hji136] at H ⊢; exact H)
                      have hji136w : (IntKind.i64.wrap ((t550.length : Int) - 1)) = ji136 := (i64_w _).trans hji136
                      by_cases c137 : 0 ≤ (ji136)
                      ·
                       as_aux_lemma =>
                        rw [if_pos c137] at H
                        have c137b0 : decide (0 ≤ (ji136)) = true := decide_eq_true c137
                        clear c137
                        by_cases c138 : (ji136) < (t550.length : Int)
                        ·
                         as_aux_lemma =>
                          rw [if_pos c138] at H
                          have c138b0 : decide ((ji136) < (t550.length : Int)) = true := decide_eq_true c138
                          clear c138
                          replace H := Option.bind_eq_some_iff.mp H
                          obtain ⟨t597, A1390, H⟩ := H
                          replace H : ((impl_IsRoot.f k3 t597).bind fun bt600 => ((impl_FollowSwaps.f k3 t547 t558).bind fun bt602 => (if bt600.2 = true then (if bt600.1 = true then (if bt602.2 = true then ((laws_dSame.f k3 bt602.1 t597).bind fun t606 => (laws_FnFallingQuads.j3 k3 l1 t547 t558 t597 (!t606))) else (laws_FnFallingQuads.j3 k3 l1 t547 t558 t597 true)) else (laws_FnFallingQuads.j3 k3 l1 t547 t558 t597 true)) else (laws_FnFallingQuads.j3 k3 l1 t547 t558 t597 true)))) = some r := H
                          have A139 := Aside0.mk A1390
                          clear A1390
                          replace H := Option.bind_eq_some_iff.mp H
                          obtain ⟨⟨t600, t601⟩, A1400, H⟩ := H
                          replace H : ((impl_FollowSwaps.f k3 t547 t558).bind fun bt602 => (if t601 = true then (if t600 = true then (if bt602.2 = true then ((laws_dSame.f k3 bt602.1 t597).bind fun t606 => (laws_FnFallingQuads.j3 k3 l1 t547 t558 t597 (!t606))) else (laws_FnFallingQuads.j3 k3 l1 t547 t558 t597 true)) else (laws_FnFallingQuads.j3 k3 l1 t547 t558 t597 true)) else (laws_FnFallingQuads.j3 k3 l1 t547 t558 t597 true))) = some r := H
                          have A140 := Aside0.mk A1400
                          clear A1400
                          replace H := Option.bind_eq_some_iff.mp H
                          obtain ⟨⟨t602, t603⟩, A1410, H⟩ := H
                          replace H : (if t601 = true then (if t600 = true then (if t603 = true then ((laws_dSame.f k3 t602 t597).bind fun t606 => (laws_FnFallingQuads.j3 k3 l1 t547 t558 t597 (!t606))) else (laws_FnFallingQuads.j3 k3 l1 t547 t558 t597 true)) else (laws_FnFallingQuads.j3 k3 l1 t547 t558 t597 true)) else (laws_FnFallingQuads.j3 k3 l1 t547 t558 t597 true)) = some r := H
                          have A141 := Aside0.mk A1410
                          clear A1410
                          have HC142 := Aside0.mk H
                          clear H
                          obtain ⟨Ao143, co143, eo143⟩ := Kd.N_slice HO_6.out
                          subst eo143
                          have p596 : 0 ≤ ((ji136) : Int) := od
                          have q596 : (ji136) < (t550.length : Int) := od
                          obtain ⟨ad596, A596_0, c596_0, e596, hx596_0, hl596_0, hi596_0⟩ := at_L2 (Kd.N_reads' HO_6.out).2.2 (ji136) p596 q596
                          cases e596
                          obtain ⟨ce596, hce596, hMe596, hcc596⟩ := Kd.N_get HO_6.out [] (ji136) p596 (by first | exact q596 | exact od | (have e_ := (Kd.N_reads' HO_6.out).1; omega))
                          obtain ⟨ua596_0, uc596_0, rfl, ul596_0, ge596_0⟩ := Kd.FK_slice_open hMe596
                          have hv596_0 := hcc596 0 _ rfl
                          rw [Nat.add_zero, show ((Kd.slice 3 (Kd.int .i64))).sz = 1 from rfl, Nat.mul_one] at hv596_0
                          replace hv596_0 := Option.some.inj (hv596_0.symm.trans hx596_0)
                          injection hv596_0 with hva_ hvn_ hvc_
                          rw [hva_] at ge596_0
                          rw [hvc_] at ul596_0
                          have HL596_0 := Aside0.mk (show Kd.V (Kd.int .i64) 3 _ w.heap.size _ _ (rd_L2 t550 (ji136)) from Kd.V_mk ul596_0 ge596_0)
                          clear hva_ hvn_ hvc_ ge596_0 ul596_0
                          clear hcc596 hce596
                          have HR596_0 := Aside0.mk hi596_0
                          have HC596_0 := Aside0.mk hl596_0
                          clear hi596_0 hl596_0
                          replace p596 := eq_true p596
                          replace q596 := eq_true q596
                          have E597 : rd_L2 t550 (ji136) = t597 := Option.some.inj A139.out
                          obtain ⟨v598, ev598⟩ : ∃ v_, Value.slice A596_0 (rd_L2 t550 (ji136)).length c596_0 = v_ := ⟨_, rfl⟩
                          rw [ev598] at hx596_0
                          have HO599 : Aside0 (Kd.V (Kd.int .i64) 3 _ w.heap.size (fun k_ => some k_ ≠ (.slice (some ad596) t550.length co143 : Value).ownBlock ∧ some k_ ≠ (v560 : Value).ownBlock) v598 t597) := Aside0.mk (by have h_ := Kd.V_mono (ok' := fun k_ => some k_ ≠ (.slice (some ad596) t550.length co143 : Value).ownBlock ∧ some k_ ≠ (v560 : Value).ownBlock) HL596_0.out (fun k_ hk_ => ⟨hk_.2, hk_.1⟩); rw [ev598, E597] at h_; exact h_)
                          obtain ⟨Ao145, co145, eo145⟩ := Kd.V_slice HO599.out
                          subst eo145
                          go_upto_region 26 with (first | ((with_reducible refine gate_callee (f := 37) rfl ?_); refine gL (some 235) rfl rfl Try.func37 (by kernel_rfl) rfl #[.slice Ao145 t597.length co145] rfl ?_; (with_reducible refine (impl_IsRoot.calls k3 _ _ t597 t600 t601 _ ?side1 ?side2 A140.out).mono ?_); (case side1 => repeat (first | exact (Kd.V_reads' HO599.out).2.2 | (with_reducible refine Kd.C_alloc ?_ _) | (with_reducible refine Kd.C_drewN ?_ _) | (with_reducible refine Kd.C_drew ?_))); (case side2 => exact (Kd.V_reads' HO599.out).2.1); rintro e w146 ⟨rfl, hb⟩; refine ⟨_, rfl, ?_⟩; have n0_ := Aside0.mk (Kd.V_below (by (with_reducible repeat (first | apply Kd.V_alloc | apply Kd.V_drewN | apply Kd.V_drew)); exact HO_5.out) hb); have n1_ := Aside0.mk (Kd.N_below (nA HO_6) hb); have n2_ := Aside0.mk (Kd.R_below (rA HO_10) hb); have n3_ := Aside0.mk (Kd.V_below (by (with_reducible repeat (first | apply Kd.V_alloc | apply Kd.V_drewN | apply Kd.V_drew)); exact HL596_0.out) hb); have n4_ := Aside0.mk (Kd.V_below (by (with_reducible repeat (first | apply Kd.V_alloc | apply Kd.V_drewN | apply Kd.V_drew)); exact HO599.out) hb); have n5_ := Aside0.mk ((by with_reducible first | exact Kd.C_below HR596_0.out hb | exact Kd.C_below (Kd.C_drewN HR596_0.out _) hb | exact Kd.C_below (Kd.C_alloc HR596_0.out _) hb | exact Kd.C_below (Kd.C_drewN (Kd.C_drewN HR596_0.out _) _) hb)); have n6_ := Aside0.mk (below_step bq hb); clear HO_5; clear HO_6; clear HO_10; clear HL596_0; clear HO599; clear HR596_0; clear HB; have HO_5 := n0_; have HO_6 := n1_; have HO_10 := n2_; have HL596_0 := n3_; have HO599 := n4_; have HR596_0 := n5_; have HB := n6_; clear n0_ n1_ n2_ n3_ n4_ n5_ n6_; (try clear hb); (try clear hb2); (try clear hk); (try clear hi); obtain ⟨Ao147, co147, eo147⟩ := Kd.R_slice HO_10.out; subst eo147) | ((with_reducible refine gate_callee (f := 17) rfl ?_); refine gL (some 241) rfl rfl Try.func17 (by kernel_rfl) rfl #[.slice Ao16 t547.length co16, .slice Ao147 t558.length co147] rfl ?_; (with_reducible refine (impl_FollowSwaps.calls k3 _ _ t547 _ _ t558 t602 t603 _ ?side1 ?side2 ?side3 ?side4 A141.out).mono ?_); (case side1 => repeat (first | exact (Kd.V_reads' HO_5.out).2.2 | (with_reducible refine Kd.C_alloc ?_ _) | (with_reducible refine Kd.C_drewN ?_ _) | (with_reducible refine Kd.C_drew ?_))); (case side2 => exact (Kd.V_reads' HO_5.out).2.1); (case side3 => exact cC (Kd.R_reads' HO_10.out).2.2); (case side4 => exact (Kd.R_reads' HO_10.out).2.1); rintro e w148 ⟨v604, rfl, ho0, hb⟩; refine ⟨_, rfl, ?_⟩; have n0_ := Aside0.mk (Kd.V_elder' (by (with_reducible repeat (first | apply Kd.V_alloc | apply Kd.V_drewN | apply Kd.V_drew)); exact HO_5.out) (Kd.R_base ho0) hb); have n1_ := Aside0.mk (Kd.N_elder' (nA HO_6) (Kd.R_base ho0) hb); have n2_ := Aside0.mk (Kd.R_elder' (rA HO_10) (Kd.R_base ho0) hb); have n3_ := Aside0.mk (Kd.V_elder' (by (with_reducible repeat (first | apply Kd.V_alloc | apply Kd.V_drewN | apply Kd.V_drew)); exact HL596_0.out) (Kd.R_base ho0) hb); have n4_ := Aside0.mk (Kd.V_elder' (by (with_reducible repeat (first | apply Kd.V_alloc | apply Kd.V_drewN | apply Kd.V_drew)); exact HO599.out) (Kd.R_base ho0) hb); have n5_ := Aside0.mk (Kd.R_lower (Kd.R_new' ho0 (Kd.R_lt (rA HO_10))) (below_size bq)); have n6_ := Aside0.mk ((by with_reducible first | exact Kd.C_below HR596_0.out hb | exact Kd.C_below (Kd.C_drewN HR596_0.out _) hb | exact Kd.C_below (Kd.C_alloc HR596_0.out _) hb | exact Kd.C_below (Kd.C_drewN (Kd.C_drewN HR596_0.out _) _) hb)); have n7_ := Aside0.mk (below_step bq hb); clear HO_5; clear HO_6; clear HO_10; clear HL596_0; clear HO599; clear HR596_0; clear HB; have HO_5 := n0_; have HO_6 := n1_; have HO_10 := n2_; have HL596_0 := n3_; have HO599 := n4_; have HO605 := n5_; have HR596_0 := n6_; have HB := n7_; clear n0_ n1_ n2_ n3_ n4_ n5_ n6_ n7_; (try clear hb); (try clear hb2); (try clear hk); (try clear hi); (try clear ho0)))
                          (try simp only [Act.put, List.setIfInBounds_toArray, List.set_cons_zero, List.set_cons_succ])
                          go_cut [259] (fun v259 wc => ∃ (kq : Nat) (x259_141 : Bool), v259 = .bool x259_141 ∧ Aside0 (laws_FnFallingQuads.j3 kq l1 t547 t558 t597 x259_141 = some r) ∧ Aside0 (kq ≤ k3) ∧ Aside0 (Kd.V (Kd.int .i64) 3 wc w.heap.size (fun k_ => some k_ ≠ ((.slice Ao147 t558.length co147) : Value).ownBlock) (.slice Ao16 t547.length co16) t547) ∧ Aside0 (Kd.R (Kd.int .i64) 3 wc w.heap.size (fun _ => True) (.slice Ao147 t558.length co147) t558) ∧ Aside0 (Kd.V (Kd.int .i64) 3 wc w.heap.size (fun k_ => some k_ ≠ ((.slice Ao147 t558.length co147) : Value).ownBlock) (.slice Ao145 t597.length co145) t597) ∧ Aside0 (Kd.C (Kd.int .i64) wc A596_0 (rd_L2 t550 (ji136)).length (rd_L2 t550 (ji136))) ∧ Aside0 (Below w.heap.size w wc))
                          case first =>
                           as_aux_lemma =>
                            have H := HC142.out
                            clear HC142
                            by_cases c149 : t601 = true
                            ·
                             subst c149
                             have H1 : (if t600 = true then (if t603 = true then ((laws_dSame.f k3 t602 t597).bind fun t606 => (laws_FnFallingQuads.j3 k3 l1 t547 t558 t597 (!t606))) else (laws_FnFallingQuads.j3 k3 l1 t547 t558 t597 true)) else (laws_FnFallingQuads.j3 k3 l1 t547 t558 t597 true)) = some r := by rw [if_pos rfl] at H; exact H
                             clear H
                             have H := H1
                             clear H1
                             by_cases c150 : t600 = true
                             ·
                              subst c150
                              have H1 : (if t603 = true then ((laws_dSame.f k3 t602 t597).bind fun t606 => (laws_FnFallingQuads.j3 k3 l1 t547 t558 t597 (!t606))) else (laws_FnFallingQuads.j3 k3 l1 t547 t558 t597 true)) = some r := by rw [if_pos rfl] at H; exact H
                              clear H
                              have H := H1
                              clear H1
                              by_cases c151 : t603 = true
                              ·
                               subst c151
                               have H1 : ((laws_dSame.f k3 t602 t597).bind fun t606 => (laws_FnFallingQuads.j3 k3 l1 t547 t558 t597 (!t606))) = some r := by rw [if_pos rfl] at H; exact H
                               clear H
                               have H := H1
                               clear H1
                               replace H := Option.bind_eq_some_iff.mp H
                               obtain ⟨t606, A1520, H⟩ := H
                               replace H : (laws_FnFallingQuads.j3 k3 l1 t547 t558 t597 (!t606)) = some r := H
                               have A152 := Aside0.mk A1520
                               clear A1520
                               have H' := Aside0.mk H
                               clear H
                               obtain ⟨Ao153, co153, eo153⟩ := Kd.R_slice HO605.out
                               subst eo153
                               go_wp2_with (first | (go_at_call 19; (with_reducible refine (laws_dSame.calls k3 _ _ t602 _ _ t597 t606 _ ?side1 ?side2 ?side3 ?side4 A152.out).mono ?_); (case side1 => exact cC (Kd.R_reads' HO605.out).2.2); (case side2 => exact (Kd.R_reads' HO605.out).2.1); (case side3 => repeat (first | exact (Kd.V_reads' HO599.out).2.2 | (with_reducible refine Kd.C_alloc ?_ _) | (with_reducible refine Kd.C_drewN ?_ _) | (with_reducible refine Kd.C_drew ?_))); (case side4 => exact (Kd.V_reads' HO599.out).2.1); rintro e w' ⟨rfl, ⟨nd, rfl⟩⟩))
                               go_meet
                               case rel => exact ⟨_, (!t606), e2, H', ⟨by have := HJ13.out; have := HJ81.out; have := HK3.out; first | omega | exact Nat.le_refl _⟩, ⟨by (with_reducible repeat (first | apply Kd.V_alloc | apply Kd.V_drewN | apply Kd.V_drew)); exact Kd.V_mono HO_5.out (fun _ hk => hk.1.2)⟩, ⟨by (with_reducible repeat (first | apply Kd.R_alloc | apply Kd.R_drewN | apply Kd.R_drew)); exact Kd.R_mono HO_10.out (fun _ hk => trivial)⟩, ⟨by (with_reducible repeat (first | apply Kd.V_alloc | apply Kd.V_drewN | apply Kd.V_drew)); exact Kd.V_mono HO599.out (fun _ hk => hk.1.2)⟩, ⟨by repeat (first | (with_reducible exact HR596_0.out) | (with_reducible refine Kd.C_alloc ?_ _) | (with_reducible refine Kd.C_drewN ?_ _) | (with_reducible refine Kd.C_drew ?_) | exact HR596_0.out)⟩, ⟨bq⟩⟩
                              ·
                               replace c151 := Bool.eq_false_iff.mpr c151
                               subst c151
                               have H1 : (laws_FnFallingQuads.j3 k3 l1 t547 t558 t597 true) = some r := by rw [if_neg (show ¬ (false = true) by decide)] at H; exact H
                               exact absurd (H1.trans (congrArg some hrT)) (fun h_ => laws_FnFallingQuads.j3_no h_)
                             ·
                              replace c150 := Bool.eq_false_iff.mpr c150
                              subst c150
                              have H1 : (laws_FnFallingQuads.j3 k3 l1 t547 t558 t597 true) = some r := by rw [if_neg (show ¬ (false = true) by decide)] at H; exact H
                              exact absurd (H1.trans (congrArg some hrT)) (fun h_ => laws_FnFallingQuads.j3_no h_)
                            ·
                             replace c149 := Bool.eq_false_iff.mpr c149
                             subst c149
                             have H1 : (laws_FnFallingQuads.j3 k3 l1 t547 t558 t597 true) = some r := by rw [if_neg (show ¬ (false = true) by decide)] at H; exact H
                             exact absurd (H1.trans (congrArg some hrT)) (fun h_ => laws_FnFallingQuads.j3_no h_)
                          case rest =>
                           as_aux_lemma =>
                            clear HC142; (try clear c1); (try clear c2); (try clear p2); (try clear c3); (try clear c5); (try clear p5); (try clear q5); (try clear hx5); (try clear p6); (try clear c9); (try clear c10); (try clear c13); (try clear c14); (try clear c15); (try clear c17); (try clear c19); (try clear c25); (try clear c37); (try clear c58); (try clear p58); (try clear q58); (try clear hx58); (try clear c59); (try clear p59); (try clear q59); (try clear hx59); (try clear p64); (try clear c95); (try clear c100); (try clear c100b0); (try clear c102); (try clear c103); (try clear c104); (try clear c106); (try clear c107); (try clear c137); (try clear c137b0); (try clear c138); (try clear c138b0); (try clear c149); (try clear c150); (try clear c151); (try clear hx584_0); (try clear hx585_0); (try clear hx596_0); (try clear p584); (try clear p585); (try clear p596); (try clear q584); (try clear q585); (try clear q596)
                            obtain ⟨kq, x259_141, rfl, HA, HJ141, HO_5, HO_10, HO_25, HR596_0, HB⟩ := hcut
                            cases kq with
                            | zero => exact absurd HA.out (by simp [laws_FnFallingQuads.j3])
                            | succ kj141 =>
                             have H := HA.out
                             clear HA
                             simp only [laws_FnFallingQuads.j3] at H
                             by_cases c154 : x259_141 = true
                             ·
                              subst c154
                              have H1 : (some false) = some r := by rw [if_pos rfl] at H; exact H
                              exact absurd (H1.trans (congrArg some hrT)) (by simp)
                             ·
                              as_aux_lemma =>
                               replace c154 := Bool.eq_false_iff.mpr c154
                               subst c154
                               have H1 : (laws_FnFallingQuads.l1 kj141 l1 t547 t558 t597 ([] : List Int) (wrap64 ((t558.length : Int) - 1))) = some r := by rw [if_neg (show ¬ (false = true) by decide)] at H; exact H
                               clear H
                               have H := H1
                               clear H1
                               have H' := Aside0.mk H
                               clear H
                               go_wp2
                               go_loopg [30, 31] kj141 (fun kq v30 v31 w' => ∃ (x30_5 : List Int) (x31_5 : Int), v31 = .int .i64 x31_5 ∧ Aside0 (laws_FnFallingQuads.l1 kq l1 t547 t558 t597 x30_5 x31_5 = some r) ∧ Aside0 (kq ≤ kj141) ∧ Aside0 (Kd.V (Kd.int .i64) 3 w' w.heap.size (fun k_ => some k_ ≠ ((.slice Ao147 t558.length co147) : Value).ownBlock ∧ some k_ ≠ (v30 : Value).ownBlock) (.slice Ao16 t547.length co16) t547) ∧ Aside0 (Kd.R (Kd.int .i64) 3 w' w.heap.size (fun k_ => some k_ ≠ (v30 : Value).ownBlock) (.slice Ao147 t558.length co147) t558) ∧ Aside0 (Kd.V (Kd.int .i64) 3 w' w.heap.size (fun k_ => some k_ ≠ ((.slice Ao147 t558.length co147) : Value).ownBlock ∧ some k_ ≠ (v30 : Value).ownBlock) (.slice Ao145 t597.length co145) t597) ∧ Aside0 (Kd.R (Kd.int .i64) 3 w' w.heap.size (fun k_ => some k_ ≠ ((.slice Ao147 t558.length co147) : Value).ownBlock) v30 x30_5) ∧ Aside0 (Below w.heap.size w w'))
                               case atStart => exact ⟨(([] : List Int)), (wrap64 ((t558.length : Int) - 1)), e2, H', ⟨Nat.le_refl _⟩, ⟨by (with_reducible repeat (first | apply Kd.V_alloc | apply Kd.V_drewN | apply Kd.V_drew)); exact Kd.V_mono HO_5.out (fun _ hk => ⟨hk, (by simp [Value.ownBlock])⟩)⟩, ⟨by (with_reducible repeat (first | apply Kd.R_alloc | apply Kd.R_drewN | apply Kd.R_drew)); exact Kd.R_mono HO_10.out (fun _ hk => (by simp [Value.ownBlock]))⟩, ⟨by (with_reducible repeat (first | apply Kd.V_alloc | apply Kd.V_drewN | apply Kd.V_drew)); exact Kd.V_mono HO_25.out (fun _ hk => ⟨hk, (by simp [Value.ownBlock])⟩)⟩, ⟨by first | exact Kd.R_nil _ _ _ _ _ | exact Kd.N_nil _ _ _ _ _ | exact Kd.V_nil _ _ _ _ _ | exact Kd.Q_nil _ _ _ _ _ | exact Kd.S_nil _ _ _ _ _⟩, ⟨bq⟩⟩
                               case round =>
                                as_aux_lemma =>
                                 clear H'; (try clear c1); (try clear c2); (try clear p2); (try clear c3); (try clear c5); (try clear p5); (try clear q5); (try clear hx5); (try clear p6); (try clear c9); (try clear c10); (try clear c13); (try clear c14); (try clear c15); (try clear c17); (try clear c19); (try clear c25); (try clear c37); (try clear c58); (try clear p58); (try clear q58); (try clear hx58); (try clear c59); (try clear p59); (try clear q59); (try clear hx59); (try clear p64); (try clear c95); (try clear c100); (try clear c100b0); (try clear c102); (try clear c103); (try clear c104); (try clear c106); (try clear c107); (try clear c137); (try clear c137b0); (try clear c138); (try clear c138b0); (try clear c149); (try clear c150); (try clear c151); (try clear c154); (try clear hx584_0); (try clear hx585_0); (try clear hx596_0); (try clear p2); (try clear p5); (try clear p58); (try clear p584); (try clear p585); (try clear p59); (try clear p596); (try clear p6); (try clear p64); (try clear q5); (try clear q58); (try clear q584); (try clear q585); (try clear q59); (try clear q596)
                                 obtain ⟨x30_5, x31_5, rfl, HA, HK5, HO_5, HO_10, HO_25, HO_30, HB⟩ := hrel
                                 cases gk with
                                 | zero => exact absurd HA.out (by simp [laws_FnFallingQuads.l1])
                                 | succ k5 =>
                                  have H := HA.out
                                  clear HA
                                  simp only [laws_FnFallingQuads.l1] at H
                                  by_cases c155 : x31_5 ≥ 0
                                  ·
                                   rw [if_pos c155] at H
                                   have c155b0 : decide (0 ≤ x31_5) = true := decide_eq_true c155
                                   clear c155
                                   by_cases c156 : 0 ≤ x31_5
                                   ·
                                    rw [if_pos c156] at H
                                    have c156b0 : decide (0 ≤ x31_5) = true := decide_eq_true c156
                                    clear c156
                                    by_cases c157 : x31_5 < (t558.length : Int)
                                    ·
                                     rw [if_pos c157] at H
                                     have c157b0 : decide (x31_5 < (t558.length : Int)) = true := decide_eq_true c157
                                     clear c157
                                     by_cases c158 : x30_5.length < 17592186044416
                                     ·
                                      rw [if_pos c158] at H
                                      have LMc158 := Aside0.mk c158
                                      clear c158
                                      obtain ⟨y608, hy608⟩ : ∃ y_ : List Int, y_ = (x30_5 ++ [rd t558 x31_5]) := ⟨_, rfl⟩
                                      replace H : (laws_FnFallingQuads.l1 k5 l1 t547 t558 t597 y608 (wrap64 (x31_5 - 1))) = some r := by first | (rw [hy608]; with_reducible exact H) | (have H2_ := (Option.bind_some _ _).symm.trans H; rw [hy608]; with_reducible exact H2_) | (have H2_ := (Option.bind_some _ _).symm.trans H; with_reducible exact H2_) | with_reducible exact H | (rw [hy608]; exact H) | exact H
                                      have Ny608 := Aside0.mk hy608
                                      clear hy608
                                      have H' := Aside0.mk H
                                      clear H
                                      have p607 : 0 ≤ (x31_5 : Int) := od
                                      have q607 : x31_5 < (t558.length : Int) := od
                                      obtain ⟨ad607, e607, hx607_0⟩ := Kd.at_int (Kd.R_reads' HO_10.out).2.2 x31_5 p607 q607
                                      cases e607
                                      replace p607 := eq_true p607
                                      replace q607 := eq_true q607
                                      go_wp2_with (first | ((with_reducible refine gate_builtin (b := .append) (xs := #[.tmp 267, .tmp 272]) rfl ?_); (try (refine gate_guard (by rfl) ?_; dsimp only)); at_builtin; refine Kd.R_append (Kd.int .i64) (w0 := w) w.heap.size rfl (.tmp 267) (.tmp 272) 35 3 (.int .i64 0) 8 rfl Try.underlying35 info3 rfl (by decide) (by omega) u30 x30_5 (rd t558 x31_5) [.int .i64 (rd t558 x31_5)] (fun k_ => some k_ ≠ (.slice (some ad607) t558.length co147 : Value).ownBlock) (fun _ => False) rfl rfl ?aP (fun _ hk => hk.elim) ?aF ?aO ?aB ?aS ?aL ?_; (case aP => exact rfl); (case aB => exact bq); (case aF => exact (fun k_ hk => Kd.fresh' (Kd.R_lt (rA HO_10)) k_ hk)); (case aO => exact (rA HO_30)); (case aS => exact (below_size bq)); (case aL => have := LMc158.out; omega); intro v609 w159 ho hb hg hat; rw [← Ny608.out] at ho; have n0_ := Aside0.mk (Kd.V_afterv (ok := (fun k_ => some k_ ≠ (.slice (some ad607) t558.length co147 : Value).ownBlock)) (by (with_reducible repeat (first | apply Kd.V_alloc | apply Kd.V_drewN | apply Kd.V_drew)); exact HO_5.out) hg hat); have n1_ := Aside0.mk (Kd.R_after (ok := (fun _ => True)) (by (with_reducible repeat (first | apply Kd.R_alloc | apply Kd.R_drewN | apply Kd.R_drew)); exact Kd.R_mono HO_10.out (fun _ hk => ⟨trivial, hk⟩)) hg hat); have n2_ := Aside0.mk (Kd.V_afterv (ok := (fun k_ => some k_ ≠ (.slice (some ad607) t558.length co147 : Value).ownBlock)) (by (with_reducible repeat (first | apply Kd.V_alloc | apply Kd.V_drewN | apply Kd.V_drew)); exact HO_25.out) hg hat); have n3_ := Aside0.mk (hb); have n4_ := Aside0.mk (ho); clear HO_5; clear HO_10; clear HO_25; clear HB; clear HO_30; have HO_5 := n0_; have HO_10 := n1_; have HO_25 := n2_; have HB := n3_; have HO610 := n4_; clear n0_ n1_ n2_ n3_ n4_; clear ho hb hg hat))
                                      go_roundg k5
                                      case measure => have := HJ13.out; have := HJ81.out; have := HK3.out; have := HJ141.out; have := HK5.out; omega
                                      case rel => exact ⟨(y608), (wrap64 (x31_5 - 1)), e2, H', ⟨by have := HJ13.out; have := HJ81.out; have := HK3.out; have := HJ141.out; have := HK5.out; omega⟩, ⟨by (with_reducible repeat (first | apply Kd.V_alloc | apply Kd.V_drewN | apply Kd.V_drew)); exact HO_5.out⟩, ⟨by (with_reducible repeat (first | apply Kd.R_alloc | apply Kd.R_drewN | apply Kd.R_drew)); exact Kd.R_mono HO_10.out (fun _ hk => hk.2)⟩, ⟨by (with_reducible repeat (first | apply Kd.V_alloc | apply Kd.V_drewN | apply Kd.V_drew)); exact HO_25.out⟩, ⟨by (with_reducible repeat (first | apply Kd.R_alloc | apply Kd.R_drewN | apply Kd.R_drew)); exact HO610.out⟩, ⟨bq⟩⟩
                                     ·
                                      rw [if_neg c158] at H
                                      exact absurd H (by simp)
                                    ·
                                     rw [if_neg c157] at H
                                     exact absurd H (by simp)
                                   ·
                                    rw [if_neg c156] at H
                                    exact absurd H (by simp)
                                  ·
                                   rw [if_neg c155] at H
                                   have c155b0 : decide (0 ≤ x31_5) = false := decide_eq_false c155
                                   clear c155
                                   replace H := Option.bind_eq_some_iff.mp H
                                   obtain ⟨⟨t611, t612⟩, A1600, H⟩ := H
                                   replace H : (if t612 = true then ((laws_dSame.f k5 t611 t547).bind fun t615 => (if t615 = true then (laws_FnFallingQuads.j5 k5 l1) else (some false))) else (some false)) = some r := H
                                   have A160 := Aside0.mk A1600
                                   clear A1600
                                   by_cases c161 : t612 = true
                                   ·
                                    subst c161
                                    have H1 : ((laws_dSame.f k5 t611 t547).bind fun t615 => (if t615 = true then (laws_FnFallingQuads.j5 k5 l1) else (some false))) = some r := by rw [if_pos rfl] at H; exact H
                                    clear H
                                    have H := H1
                                    clear H1
                                    replace H := Option.bind_eq_some_iff.mp H
                                    obtain ⟨t615, A1620, H⟩ := H
                                    replace H : (if t615 = true then (laws_FnFallingQuads.j5 k5 l1) else (some false)) = some r := H
                                    have A162 := Aside0.mk A1620
                                    clear A1620
                                    by_cases c163 : t615 = true
                                    ·
                                     subst c163
                                     have H1 : (laws_FnFallingQuads.j5 k5 l1) = some r := by rw [if_pos rfl] at H; exact H
                                     clear H
                                     have H := H1
                                     clear H1
                                     have H' := Aside0.mk H
                                     clear H
                                     obtain ⟨Ao164, co164, eo164⟩ := Kd.R_slice HO_30.out
                                     subst eo164
                                     go_wp2_with (first | ((with_reducible refine gate_callee (f := 17) rfl ?_); refine gL (some 277) rfl rfl Try.func17 (by kernel_rfl) rfl #[.slice Ao145 t597.length co145, .slice Ao164 x30_5.length co164] rfl ?_; (with_reducible refine (impl_FollowSwaps.calls k5 _ _ t597 _ _ x30_5 t611 true _ ?side1 ?side2 ?side3 ?side4 A160.out).mono ?_); (case side1 => repeat (first | exact (Kd.V_reads' HO_25.out).2.2 | (with_reducible refine Kd.C_alloc ?_ _) | (with_reducible refine Kd.C_drewN ?_ _) | (with_reducible refine Kd.C_drew ?_))); (case side2 => exact (Kd.V_reads' HO_25.out).2.1); (case side3 => exact cC (Kd.R_reads' HO_30.out).2.2); (case side4 => exact (Kd.R_reads' HO_30.out).2.1); rintro e w165 ⟨v613, rfl, ho0, hb⟩; refine ⟨_, rfl, ?_⟩; have n0_ := Aside0.mk (Kd.V_elder' (by (with_reducible repeat (first | apply Kd.V_alloc | apply Kd.V_drewN | apply Kd.V_drew)); exact HO_5.out) (Kd.R_base ho0) hb); have n1_ := Aside0.mk (Kd.R_elder' (rA HO_10) (Kd.R_base ho0) hb); have n2_ := Aside0.mk (Kd.V_elder' (by (with_reducible repeat (first | apply Kd.V_alloc | apply Kd.V_drewN | apply Kd.V_drew)); exact HO_25.out) (Kd.R_base ho0) hb); have n3_ := Aside0.mk (Kd.R_elder' (rA HO_30) (Kd.R_base ho0) hb); have n4_ := Aside0.mk (Kd.R_lower (Kd.R_new' (Kd.R_new' ho0 (Kd.R_lt (rA HO_10))) (Kd.R_lt (rA HO_30))) (below_size bq)); have n5_ := Aside0.mk (below_step bq hb); clear HO_5; clear HO_10; clear HO_25; clear HO_30; clear HB; have HO_5 := n0_; have HO_10 := n1_; have HO_25 := n2_; have HO_30 := n3_; have HO614 := n4_; have HB := n5_; clear n0_ n1_ n2_ n3_ n4_ n5_; (try clear hb); (try clear hb2); (try clear hk); (try clear hi); (try clear ho0); obtain ⟨Ao166, co166, eo166⟩ := Kd.R_slice HO614.out; subst eo166) | (go_at_call 19; (with_reducible refine (laws_dSame.calls k5 _ _ t611 _ _ t547 true _ ?side1 ?side2 ?side3 ?side4 A162.out).mono ?_); (case side1 => exact cC (Kd.R_reads' HO614.out).2.2); (case side2 => exact (Kd.R_reads' HO614.out).2.1); (case side3 => repeat (first | exact (Kd.V_reads' HO_5.out).2.2 | (with_reducible refine Kd.C_alloc ?_ _) | (with_reducible refine Kd.C_drewN ?_ _) | (with_reducible refine Kd.C_drew ?_))); (case side4 => exact (Kd.V_reads' HO_5.out).2.1); rintro e w' ⟨rfl, ⟨nd, rfl⟩⟩))
                                     go_meet
                                     case rel => exact ⟨_, H', ⟨by have := HJ13.out; have := HJ81.out; have := HK3.out; have := HJ141.out; have := HK5.out; first | omega | exact Nat.le_refl _⟩, ⟨bq⟩⟩
                                    ·
                                     replace c163 := Bool.eq_false_iff.mpr c163
                                     subst c163
                                     have H1 : (some false) = some r := by rw [if_neg (show ¬ (false = true) by decide)] at H; exact H
                                     exact absurd (H1.trans (congrArg some hrT)) (by simp)
                                   ·
                                    replace c161 := Bool.eq_false_iff.mpr c161
                                    subst c161
                                    have H1 : (some false) = some r := by rw [if_neg (show ¬ (false = true) by decide)] at H; exact H
                                    exact absurd (H1.trans (congrArg some hrT)) (by simp)
                        ·
                         rw [if_neg c138] at H
                         exact absurd H (by simp)
                      ·
                       rw [if_neg c137] at H
                       exact absurd H (by simp)
          ·
           replace c81 := Bool.eq_false_iff.mpr c81
           subst c81
           have H1 : (laws_FnFallingQuads.j5 kj13 l1) = some r := by rw [if_neg (show ¬ (false = true) by decide)] at H; exact H
           clear H
           have H := H1
           clear H1
           have H' := Aside0.mk H
           clear H
           go_wp2
           go_meet
           case rel => exact ⟨_, H', ⟨by have := HJ13.out; first | omega | exact Nat.le_refl _⟩, ⟨bq⟩⟩
        case rest =>
         as_aux_lemma =>
          clear HC80; (try clear c1); (try clear c2); (try clear p2); (try clear c3); (try clear c5); (try clear p5); (try clear q5); (try clear hx5); (try clear p6); (try clear q6); (try clear hx6); (try clear c8); (try clear c9); (try clear c10); (try clear c13); (try clear c14); (try clear c15); (try clear c16); (try clear c17); (try clear c19); (try clear c25); (try clear c37); (try clear c58); (try clear p58); (try clear q58); (try clear hx58); (try clear c59); (try clear p59); (try clear q59); (try clear hx59); (try clear p60); (try clear q60); (try clear hx60); (try clear p64); (try clear c81); (try clear c95); (try clear c100); (try clear c100b0); (try clear c102); (try clear c103); (try clear c104); (try clear c106); (try clear c107); (try clear c137); (try clear c137b0); (try clear c138); (try clear c138b0); (try clear c149); (try clear c150); (try clear c151); (try clear c154); (try clear c155); (try clear c155b0); (try clear c156); (try clear c156b0); (try clear c157); (try clear c157b0); (try clear c158); (try clear c161); (try clear c163); (try clear hx584_0); (try clear hx585_0); (try clear hx596_0); (try clear hx607_0); (try clear p2); (try clear p5); (try clear p58); (try clear p584); (try clear p585); (try clear p59); (try clear p596); (try clear p6); (try clear p607); (try clear p64); (try clear q5); (try clear q58); (try clear q584); (try clear q585); (try clear q59); (try clear q596); (try clear q607)
          obtain ⟨kq, HA, HJ79, HB⟩ := hcut
          cases kq with
          | zero => exact absurd HA.out (by simp [laws_FnFallingQuads.j5])
          | succ kj79 =>
           have H := HA.out
           clear HA
           simp only [laws_FnFallingQuads.j5] at H
           replace H := Option.bind_eq_some_iff.mp H
           obtain ⟨⟨t616, t619⟩, A1720, H⟩ := H
           replace H : ((impl_SwapAt.f kj79 t616 t619).bind fun bt620 => ((spec_SwapAt.f kj79 t616 t619).bind fun bt624 => (if (bt620.2 != bt624.2) = true then (laws_FnFallingQuads.j6 kj79 l1 t616 t619 bt620.1 bt620.2 true) else ((laws_dSame.f kj79 bt620.1 bt624.1).bind fun t628 => (laws_FnFallingQuads.j6 kj79 l1 t616 t619 bt620.1 bt620.2 (!t628)))))) = some r := H
           have A172 := Aside0.mk A1720
           clear A1720
           replace H := Option.bind_eq_some_iff.mp H
           obtain ⟨⟨t620, t621⟩, A1730, H⟩ := H
           replace H : ((spec_SwapAt.f kj79 t616 t619).bind fun bt624 => (if (t621 != bt624.2) = true then (laws_FnFallingQuads.j6 kj79 l1 t616 t619 t620 t621 true) else ((laws_dSame.f kj79 t620 bt624.1).bind fun t628 => (laws_FnFallingQuads.j6 kj79 l1 t616 t619 t620 t621 (!t628))))) = some r := H
           have A173 := Aside0.mk A1730
           clear A1730
           replace H := Option.bind_eq_some_iff.mp H
           obtain ⟨⟨t624, t625⟩, A1740, H⟩ := H
           replace H : (if (t621 != t625) = true then (laws_FnFallingQuads.j6 kj79 l1 t616 t619 t620 t621 true) else ((laws_dSame.f kj79 t620 t624).bind fun t628 => (laws_FnFallingQuads.j6 kj79 l1 t616 t619 t620 t621 (!t628)))) = some r := H
           have A174 := Aside0.mk A1740
           clear A1740
           have HC175 := Aside0.mk H
           clear H
           go_upto_region 39 with (first | ((with_reducible refine gate_callee (f := 38) rfl ?_); refine gL (some 290) rfl rfl Try.func38 (by kernel_rfl) rfl #[.slice A1 l1.length c1] rfl ?_; (with_reducible refine (spec_DrawSwapAt.calls kj79 _ _ l1 t616 t619 _ ?side1 ?side2 A172.out).mono ?_); (case side1 => exact cC (Kd.C_below HR1.out HB.out)); (case side2 => exact HC1.out); rintro e w176 ⟨v617, rfl, ho0, hb⟩; refine ⟨_, rfl, ?_⟩; have n0_ := Aside0.mk (Kd.V_lower (Kd.V_mono (ok' := fun k_ => True) ho0 (fun k_ hk_ => trivial)) (below_size bq)); have n1_ := Aside0.mk (below_step bq hb); clear HB; have HO618 := n0_; have HB := n1_; clear n0_ n1_; (try clear hb); (try clear hb2); (try clear hk); (try clear hi); (try clear ho0); obtain ⟨Ao177, co177, eo177⟩ := Kd.V_slice HO618.out; subst eo177) | ((with_reducible refine gate_callee (f := 25) rfl ?_); refine gL (some 296) rfl rfl Try.func25 (by kernel_rfl) rfl #[.slice Ao177 t616.length co177, .int .i64 t619] rfl ?_; (with_reducible refine (impl_SwapAt.calls kj79 _ _ t616 t619 t620 t621 _ ?side1 ?side2 A173.out).mono ?_); (case side1 => repeat (first | exact (Kd.V_reads' HO618.out).2.2 | (with_reducible refine Kd.C_alloc ?_ _) | (with_reducible refine Kd.C_drewN ?_ _) | (with_reducible refine Kd.C_drew ?_))); (case side2 => exact (Kd.V_reads' HO618.out).2.1); rintro e w178 ⟨v622, rfl, ho0, hb⟩; refine ⟨_, rfl, ?_⟩; have n0_ := Aside0.mk (Kd.V_elder' (by (with_reducible repeat (first | apply Kd.V_alloc | apply Kd.V_drewN | apply Kd.V_drew)); exact HO618.out) (Kd.R_base ho0) hb); have n1_ := Aside0.mk (Kd.R_lower ho0 (below_size bq)); have n2_ := Aside0.mk (below_step bq hb); clear HO618; clear HB; have HO618 := n0_; have HO623 := n1_; have HB := n2_; clear n0_ n1_ n2_; (try clear hb); (try clear hb2); (try clear hk); (try clear hi); (try clear ho0)) | ((with_reducible refine gate_callee (f := 39) rfl ?_); refine gL (some 302) rfl rfl Try.func39 (by kernel_rfl) rfl #[.slice Ao177 t616.length co177, .int .i64 t619] rfl ?_; (with_reducible refine (spec_SwapAt.calls kj79 _ _ t616 t619 t624 t625 _ ?side1 ?side2 A174.out).mono ?_); (case side1 => repeat (first | exact (Kd.V_reads' HO618.out).2.2 | (with_reducible refine Kd.C_alloc ?_ _) | (with_reducible refine Kd.C_drewN ?_ _) | (with_reducible refine Kd.C_drew ?_))); (case side2 => exact (Kd.V_reads' HO618.out).2.1); rintro e w179 ⟨v626, rfl, ho0, hb⟩; refine ⟨_, rfl, ?_⟩; have n0_ := Aside0.mk (Kd.V_elder' (by (with_reducible repeat (first | apply Kd.V_alloc | apply Kd.V_drewN | apply Kd.V_drew)); exact HO618.out) (Kd.R_base ho0) hb); have n1_ := Aside0.mk (Kd.R_elder' (rA HO623) (Kd.R_base ho0) hb); have n2_ := Aside0.mk (Kd.R_lower (Kd.R_new' ho0 (Kd.R_lt (rA HO623))) (below_size bq)); have n3_ := Aside0.mk (below_step bq hb); clear HO618; clear HO623; clear HB; have HO618 := n0_; have HO623 := n1_; have HO627 := n2_; have HB := n3_; clear n0_ n1_ n2_ n3_; (try clear hb); (try clear hb2); (try clear hk); (try clear hi); (try clear ho0)))
           (try simp only [Act.put, List.setIfInBounds_toArray, List.set_cons_zero, List.set_cons_succ])
           go_cut [313] (fun v313 wc => ∃ (kq : Nat) (x313_174 : Bool), v313 = .bool x313_174 ∧ Aside0 (laws_FnFallingQuads.j6 kq l1 t616 t619 t620 t621 x313_174 = some r) ∧ Aside0 (kq ≤ kj79) ∧ Aside0 (Kd.V (Kd.int .i64) 3 wc w.heap.size (fun k_ => some k_ ≠ (v622 : Value).ownBlock) (.slice Ao177 t616.length co177) t616) ∧ Aside0 (Kd.R (Kd.int .i64) 3 wc w.heap.size (fun _ => True) v622 t620) ∧ Aside0 (Below w.heap.size w wc))
           case first =>
            as_aux_lemma =>
             have H := HC175.out
             clear HC175
             by_cases c180 : (t621 != t625) = true
             ·
              rw [if_pos c180] at H
              exact absurd (H.trans (congrArg some hrT)) (fun h_ => laws_FnFallingQuads.j6_no h_)
             ·
              rw [if_neg c180] at H
              have c180b0 : (t621 != t625) = false := by simpa using c180
              (try (have c180b1 : decide (t621 = t625) = true := by simpa using c180))
              (try (have c180b2 : (t621 == t625) = true := by simpa using c180))
              clear c180
              (first | rw [c180b0] | (simp only [i64_w, i32_w]; rw [c180b0]) | skip)
              replace H := Option.bind_eq_some_iff.mp H
              obtain ⟨t628, A1810, H⟩ := H
              replace H : (laws_FnFallingQuads.j6 kj79 l1 t616 t619 t620 t621 (!t628)) = some r := H
              have A181 := Aside0.mk A1810
              clear A1810
              have H' := Aside0.mk H
              clear H
              obtain ⟨Ao182, co182, eo182⟩ := Kd.R_slice HO623.out
              subst eo182
              obtain ⟨Ao183, co183, eo183⟩ := Kd.R_slice HO627.out
              subst eo183
              go_wp2_with (first | (go_at_call 19; (with_reducible refine (laws_dSame.calls kj79 _ _ t620 _ _ t624 t628 _ ?side1 ?side2 ?side3 ?side4 A181.out).mono ?_); (case side1 => exact cC (Kd.R_reads' HO623.out).2.2); (case side2 => exact (Kd.R_reads' HO623.out).2.1); (case side3 => exact cC (Kd.R_reads' HO627.out).2.2); (case side4 => exact (Kd.R_reads' HO627.out).2.1); rintro e w' ⟨rfl, ⟨nd, rfl⟩⟩))
              go_meet
              case rel => exact ⟨_, (!t628), e2, H', ⟨by have := HJ13.out; have := HJ79.out; first | omega | exact Nat.le_refl _⟩, ⟨by (with_reducible repeat (first | apply Kd.V_alloc | apply Kd.V_drewN | apply Kd.V_drew)); exact Kd.V_mono HO618.out (fun _ hk => hk.1.2)⟩, ⟨by (with_reducible repeat (first | apply Kd.R_alloc | apply Kd.R_drewN | apply Kd.R_drew)); exact Kd.R_mono HO623.out (fun _ hk => trivial)⟩, ⟨bq⟩⟩
           case rest =>
            as_aux_lemma =>
             clear HC175; (try clear c1); (try clear c2); (try clear p2); (try clear c3); (try clear c5); (try clear p5); (try clear q5); (try clear hx5); (try clear p6); (try clear q6); (try clear hx6); (try clear c8); (try clear c9); (try clear c10); (try clear c13); (try clear c14); (try clear c15); (try clear c16); (try clear c17); (try clear c18); (try clear c19); (try clear c25); (try clear c37); (try clear c38); (try clear c39); (try clear c58); (try clear p58); (try clear q58); (try clear hx58); (try clear c59); (try clear p59); (try clear q59); (try clear hx59); (try clear p60); (try clear q60); (try clear hx60); (try clear p64); (try clear c81); (try clear c95); (try clear c100); (try clear c100b0); (try clear c102); (try clear c103); (try clear c104); (try clear c106); (try clear c107); (try clear c137); (try clear c137b0); (try clear c138); (try clear c138b0); (try clear c149); (try clear c150); (try clear c151); (try clear c154); (try clear c155); (try clear c155b0); (try clear c156); (try clear c156b0); (try clear c157); (try clear c157b0); (try clear c158); (try clear c161); (try clear c163); (try clear c180); (try clear c180b0); (try clear c180b1); (try clear c180b2); (try clear hx584_0); (try clear hx585_0); (try clear hx596_0); (try clear hx607_0); (try clear p2); (try clear p5); (try clear p58); (try clear p584); (try clear p585); (try clear p59); (try clear p596); (try clear p6); (try clear p60); (try clear p607); (try clear p64); (try clear q5); (try clear q58); (try clear q584); (try clear q585); (try clear q59); (try clear q596); (try clear q6); (try clear q60); (try clear q607)
             obtain ⟨kq, x313_174, rfl, HA, HJ174, HO_34, HO_36, HB⟩ := hcut
             cases kq with
             | zero => exact absurd HA.out (by simp [laws_FnFallingQuads.j6])
             | succ kj174 =>
              have H := HA.out
              clear HA
              simp only [laws_FnFallingQuads.j6] at H
              by_cases c184 : x313_174 = true
              ·
               subst c184
               have H1 : (some false) = some r := by rw [if_pos rfl] at H; exact H
               exact absurd (H1.trans (congrArg some hrT)) (by simp)
              ·
               as_aux_lemma =>
                replace c184 := Bool.eq_false_iff.mpr c184
                subst c184
                have H1 : (if t621 = true then ((impl_SwapAt.f kj174 t620 t619).bind fun bt629 => ((impl_RootQuad.f kj174 t616).bind fun bt633 => ((impl_RootQuad.f kj174 t620).bind fun bt637 => ((impl_IsQuad.f kj174 t620).bind fun t641 => (if t641 = true then (if bt629.2 = true then ((laws_dSame.f kj174 bt629.1 t616).bind fun t642 => (if t642 = true then (if bt633.2 = true then (if bt637.2 = true then ((laws_dSame.f kj174 bt633.1 bt637.1).bind fun t643 => (if t643 = true then (laws_FnFallingQuads.j7 kj174 l1) else (some false))) else (laws_FnFallingQuads.j7 kj174 l1)) else (laws_FnFallingQuads.j7 kj174 l1)) else (some false))) else (some false)) else (some false)))))) else (laws_FnFallingQuads.j7 kj174 l1)) = some r := by rw [if_neg (show ¬ (false = true) by decide)] at H; exact H
                clear H
                have H := H1
                clear H1
                have HC185 := Aside0.mk H
                clear H
                go_upto_if 314 with (fail)
                go_cut [] (fun wc => ∃ (kq : Nat), Aside0 (laws_FnFallingQuads.j7 kq l1 = some r) ∧ Aside0 (kq ≤ kj174) ∧ Aside0 (Below w.heap.size w wc))
                case first =>
                 as_aux_lemma =>
                  have H := HC185.out
                  clear HC185
                  by_cases c186 : t621 = true
                  ·
                   as_aux_lemma =>
                    subst c186
                    have H1 : ((impl_SwapAt.f kj174 t620 t619).bind fun bt629 => ((impl_RootQuad.f kj174 t616).bind fun bt633 => ((impl_RootQuad.f kj174 t620).bind fun bt637 => ((impl_IsQuad.f kj174 t620).bind fun t641 => (if t641 = true then (if bt629.2 = true then ((laws_dSame.f kj174 bt629.1 t616).bind fun t642 => (if t642 = true then (if bt633.2 = true then (if bt637.2 = true then ((laws_dSame.f kj174 bt633.1 bt637.1).bind fun t643 => (if t643 = true then (laws_FnFallingQuads.j7 kj174 l1) else (some false))) else (laws_FnFallingQuads.j7 kj174 l1)) else (laws_FnFallingQuads.j7 kj174 l1)) else (some false))) else (some false)) else (some false)))))) = some r := by rw [if_pos rfl] at H; exact H
                    clear H
                    have H := H1
                    clear H1
                    replace H := Option.bind_eq_some_iff.mp H
                    obtain ⟨⟨t629, t630⟩, A1870, H⟩ := H
                    replace H : ((impl_RootQuad.f kj174 t616).bind fun bt633 => ((impl_RootQuad.f kj174 t620).bind fun bt637 => ((impl_IsQuad.f kj174 t620).bind fun t641 => (if t641 = true then (if t630 = true then ((laws_dSame.f kj174 t629 t616).bind fun t642 => (if t642 = true then (if bt633.2 = true then (if bt637.2 = true then ((laws_dSame.f kj174 bt633.1 bt637.1).bind fun t643 => (if t643 = true then (laws_FnFallingQuads.j7 kj174 l1) else (some false))) else (laws_FnFallingQuads.j7 kj174 l1)) else (laws_FnFallingQuads.j7 kj174 l1)) else (some false))) else (some false)) else (some false))))) = some r := H
                    have A187 := Aside0.mk A1870
                    clear A1870
                    replace H := Option.bind_eq_some_iff.mp H
                    obtain ⟨⟨t633, t634⟩, A1880, H⟩ := H
                    replace H : ((impl_RootQuad.f kj174 t620).bind fun bt637 => ((impl_IsQuad.f kj174 t620).bind fun t641 => (if t641 = true then (if t630 = true then ((laws_dSame.f kj174 t629 t616).bind fun t642 => (if t642 = true then (if t634 = true then (if bt637.2 = true then ((laws_dSame.f kj174 t633 bt637.1).bind fun t643 => (if t643 = true then (laws_FnFallingQuads.j7 kj174 l1) else (some false))) else (laws_FnFallingQuads.j7 kj174 l1)) else (laws_FnFallingQuads.j7 kj174 l1)) else (some false))) else (some false)) else (some false)))) = some r := H
                    have A188 := Aside0.mk A1880
                    clear A1880
                    replace H := Option.bind_eq_some_iff.mp H
                    obtain ⟨⟨t637, t638⟩, A1890, H⟩ := H
                    replace H : ((impl_IsQuad.f kj174 t620).bind fun t641 => (if t641 = true then (if t630 = true then ((laws_dSame.f kj174 t629 t616).bind fun t642 => (if t642 = true then (if t634 = true then (if t638 = true then ((laws_dSame.f kj174 t633 t637).bind fun t643 => (if t643 = true then (laws_FnFallingQuads.j7 kj174 l1) else (some false))) else (laws_FnFallingQuads.j7 kj174 l1)) else (laws_FnFallingQuads.j7 kj174 l1)) else (some false))) else (some false)) else (some false))) = some r := H
                    have A189 := Aside0.mk A1890
                    clear A1890
                    replace H := Option.bind_eq_some_iff.mp H
                    obtain ⟨t641, A1900, H⟩ := H
                    replace H : (if t641 = true then (if t630 = true then ((laws_dSame.f kj174 t629 t616).bind fun t642 => (if t642 = true then (if t634 = true then (if t638 = true then ((laws_dSame.f kj174 t633 t637).bind fun t643 => (if t643 = true then (laws_FnFallingQuads.j7 kj174 l1) else (some false))) else (laws_FnFallingQuads.j7 kj174 l1)) else (laws_FnFallingQuads.j7 kj174 l1)) else (some false))) else (some false)) else (some false)) = some r := H
                    have A190 := Aside0.mk A1900
                    clear A1900
                    by_cases c191 : t641 = true
                    ·
                     as_aux_lemma =>
                      subst c191
                      have H1 : (if t630 = true then ((laws_dSame.f kj174 t629 t616).bind fun t642 => (if t642 = true then (if t634 = true then (if t638 = true then ((laws_dSame.f kj174 t633 t637).bind fun t643 => (if t643 = true then (laws_FnFallingQuads.j7 kj174 l1) else (some false))) else (laws_FnFallingQuads.j7 kj174 l1)) else (laws_FnFallingQuads.j7 kj174 l1)) else (some false))) else (some false)) = some r := by rw [if_pos rfl] at H; exact H
                      clear H
                      have H := H1
                      clear H1
                      by_cases c192 : t630 = true
                      ·
                       subst c192
                       have H1 : ((laws_dSame.f kj174 t629 t616).bind fun t642 => (if t642 = true then (if t634 = true then (if t638 = true then ((laws_dSame.f kj174 t633 t637).bind fun t643 => (if t643 = true then (laws_FnFallingQuads.j7 kj174 l1) else (some false))) else (laws_FnFallingQuads.j7 kj174 l1)) else (laws_FnFallingQuads.j7 kj174 l1)) else (some false))) = some r := by rw [if_pos rfl] at H; exact H
                       clear H
                       have H := H1
                       clear H1
                       replace H := Option.bind_eq_some_iff.mp H
                       obtain ⟨t642, A1930, H⟩ := H
                       replace H : (if t642 = true then (if t634 = true then (if t638 = true then ((laws_dSame.f kj174 t633 t637).bind fun t643 => (if t643 = true then (laws_FnFallingQuads.j7 kj174 l1) else (some false))) else (laws_FnFallingQuads.j7 kj174 l1)) else (laws_FnFallingQuads.j7 kj174 l1)) else (some false)) = some r := H
                       have A193 := Aside0.mk A1930
                       clear A1930
                       by_cases c194 : t642 = true
                       ·
                        subst c194
                        have H1 : (if t634 = true then (if t638 = true then ((laws_dSame.f kj174 t633 t637).bind fun t643 => (if t643 = true then (laws_FnFallingQuads.j7 kj174 l1) else (some false))) else (laws_FnFallingQuads.j7 kj174 l1)) else (laws_FnFallingQuads.j7 kj174 l1)) = some r := by rw [if_pos rfl] at H; exact H
                        clear H
                        have H := H1
                        clear H1
                        by_cases c195 : t634 = true
                        ·
                         subst c195
                         have H1 : (if t638 = true then ((laws_dSame.f kj174 t633 t637).bind fun t643 => (if t643 = true then (laws_FnFallingQuads.j7 kj174 l1) else (some false))) else (laws_FnFallingQuads.j7 kj174 l1)) = some r := by rw [if_pos rfl] at H; exact H
                         clear H
                         have H := H1
                         clear H1
                         by_cases c196 : t638 = true
                         ·
                          subst c196
                          have H1 : ((laws_dSame.f kj174 t633 t637).bind fun t643 => (if t643 = true then (laws_FnFallingQuads.j7 kj174 l1) else (some false))) = some r := by rw [if_pos rfl] at H; exact H
                          clear H
                          have H := H1
                          clear H1
                          replace H := Option.bind_eq_some_iff.mp H
                          obtain ⟨t643, A1970, H⟩ := H
                          replace H : (if t643 = true then (laws_FnFallingQuads.j7 kj174 l1) else (some false)) = some r := H
                          have A197 := Aside0.mk A1970
                          clear A1970
                          by_cases c198 : t643 = true
                          ·
                           subst c198
                           have H1 : (laws_FnFallingQuads.j7 kj174 l1) = some r := by rw [if_pos rfl] at H; exact H
                           clear H
                           have H := H1
                           clear H1
                           have H' := Aside0.mk H
                           clear H
                           obtain ⟨Ao199, co199, eo199⟩ := Kd.R_slice HO_36.out
                           subst eo199
                           go_wp2_with (first | ((with_reducible refine gate_callee (f := 25) rfl ?_); refine gL (some 318) rfl rfl Try.func25 (by kernel_rfl) rfl #[.slice Ao199 t620.length co199, .int .i64 t619] rfl ?_; (with_reducible refine (impl_SwapAt.calls kj174 _ _ t620 t619 t629 true _ ?side1 ?side2 A187.out).mono ?_); (case side1 => exact cC (Kd.R_reads' HO_36.out).2.2); (case side2 => exact (Kd.R_reads' HO_36.out).2.1); rintro e w200 ⟨v631, rfl, ho0, hb⟩; refine ⟨_, rfl, ?_⟩; have n0_ := Aside0.mk (Kd.V_elder' (by (with_reducible repeat (first | apply Kd.V_alloc | apply Kd.V_drewN | apply Kd.V_drew)); exact HO_34.out) (Kd.R_base ho0) hb); have n1_ := Aside0.mk (Kd.R_elder' (rA HO_36) (Kd.R_base ho0) hb); have n2_ := Aside0.mk (Kd.R_lower (Kd.R_new' ho0 (Kd.R_lt (rA HO_36))) (below_size bq)); have n3_ := Aside0.mk (below_step bq hb); clear HO_34; clear HO_36; clear HB; have HO_34 := n0_; have HO_36 := n1_; have HO632 := n2_; have HB := n3_; clear n0_ n1_ n2_ n3_; (try clear hb); (try clear hb2); (try clear hk); (try clear hi); (try clear ho0)) | ((with_reducible refine gate_callee (f := 31) rfl ?_); refine gL (some 323) rfl rfl Try.func31 (by kernel_rfl) rfl #[.slice Ao177 t616.length co177] rfl ?_; (with_reducible refine (impl_RootQuad.calls kj174 _ _ t616 t633 true _ ?side1 ?side2 A188.out).mono ?_); (case side1 => repeat (first | exact (Kd.V_reads' HO_34.out).2.2 | (with_reducible refine Kd.C_alloc ?_ _) | (with_reducible refine Kd.C_drewN ?_ _) | (with_reducible refine Kd.C_drew ?_))); (case side2 => exact (Kd.V_reads' HO_34.out).2.1); rintro e w201 ⟨v635, rfl, ho0, hb⟩; refine ⟨_, rfl, ?_⟩; have n0_ := Aside0.mk (Kd.V_elder' (by (with_reducible repeat (first | apply Kd.V_alloc | apply Kd.V_drewN | apply Kd.V_drew)); exact HO_34.out) (Kd.R_base ho0) hb); have n1_ := Aside0.mk (Kd.R_elder' (rA HO_36) (Kd.R_base ho0) hb); have n2_ := Aside0.mk (Kd.R_elder' (rA HO632) (Kd.R_base ho0) hb); have n3_ := Aside0.mk (Kd.R_lower (Kd.R_new' (Kd.R_new' ho0 (Kd.R_lt (rA HO_36))) (Kd.R_lt (rA HO632))) (below_size bq)); have n4_ := Aside0.mk (below_step bq hb); clear HO_34; clear HO_36; clear HO632; clear HB; have HO_34 := n0_; have HO_36 := n1_; have HO632 := n2_; have HO636 := n3_; have HB := n4_; clear n0_ n1_ n2_ n3_ n4_; (try clear hb); (try clear hb2); (try clear hk); (try clear hi); (try clear ho0)) | ((with_reducible refine gate_callee (f := 31) rfl ?_); refine gL (some 328) rfl rfl Try.func31 (by kernel_rfl) rfl #[.slice Ao199 t620.length co199] rfl ?_; (with_reducible refine (impl_RootQuad.calls kj174 _ _ t620 t637 true _ ?side1 ?side2 A189.out).mono ?_); (case side1 => exact cC (Kd.R_reads' HO_36.out).2.2); (case side2 => exact (Kd.R_reads' HO_36.out).2.1); rintro e w202 ⟨v639, rfl, ho0, hb⟩; refine ⟨_, rfl, ?_⟩; have n0_ := Aside0.mk (Kd.V_elder' (by (with_reducible repeat (first | apply Kd.V_alloc | apply Kd.V_drewN | apply Kd.V_drew)); exact HO_34.out) (Kd.R_base ho0) hb); have n1_ := Aside0.mk (Kd.R_elder' (rA HO_36) (Kd.R_base ho0) hb); have n2_ := Aside0.mk (Kd.R_elder' (rA HO632) (Kd.R_base ho0) hb); have n3_ := Aside0.mk (Kd.R_elder' (rA HO636) (Kd.R_base ho0) hb); have n4_ := Aside0.mk (Kd.R_lower (Kd.R_new' (Kd.R_new' (Kd.R_new' ho0 (Kd.R_lt (rA HO_36))) (Kd.R_lt (rA HO632))) (Kd.R_lt (rA HO636))) (below_size bq)); have n5_ := Aside0.mk (below_step bq hb); clear HO_34; clear HO_36; clear HO632; clear HO636; clear HB; have HO_34 := n0_; have HO_36 := n1_; have HO632 := n2_; have HO636 := n3_; have HO640 := n4_; have HB := n5_; clear n0_ n1_ n2_ n3_ n4_ n5_; (try clear hb); (try clear hb2); (try clear hk); (try clear hi); (try clear ho0)) | ((with_reducible refine gate_callee (f := 20) rfl ?_); refine gL (some 332) rfl rfl Try.func20 (by kernel_rfl) rfl #[.slice Ao199 t620.length co199] rfl ?_; (with_reducible refine (impl_IsQuad.calls kj174 _ _ t620 true _ ?side1 ?side2 A190.out).mono ?_); (case side1 => exact cC (Kd.R_reads' HO_36.out).2.2); (case side2 => exact (Kd.R_reads' HO_36.out).2.1); rintro e w203 ⟨rfl, hb⟩; refine ⟨_, rfl, ?_⟩; have n0_ := Aside0.mk (Kd.V_below (by (with_reducible repeat (first | apply Kd.V_alloc | apply Kd.V_drewN | apply Kd.V_drew)); exact HO_34.out) hb); have n1_ := Aside0.mk (Kd.R_below (rA HO_36) hb); have n2_ := Aside0.mk (Kd.R_below (rA HO632) hb); have n3_ := Aside0.mk (Kd.R_below (rA HO636) hb); have n4_ := Aside0.mk (Kd.R_below (rA HO640) hb); have n5_ := Aside0.mk (below_step bq hb); clear HO_34; clear HO_36; clear HO632; clear HO636; clear HO640; clear HB; have HO_34 := n0_; have HO_36 := n1_; have HO632 := n2_; have HO636 := n3_; have HO640 := n4_; have HB := n5_; clear n0_ n1_ n2_ n3_ n4_ n5_; (try clear hb); (try clear hb2); (try clear hk); (try clear hi); obtain ⟨Ao204, co204, eo204⟩ := Kd.R_slice HO632.out; subst eo204) | (go_at_call 19; (with_reducible refine (laws_dSame.calls kj174 _ _ t629 _ _ t616 true _ ?side1 ?side2 ?side3 ?side4 A193.out).mono ?_); (case side1 => exact cC (Kd.R_reads' HO632.out).2.2); (case side2 => exact (Kd.R_reads' HO632.out).2.1); (case side3 => repeat (first | exact (Kd.V_reads' HO_34.out).2.2 | (with_reducible refine Kd.C_alloc ?_ _) | (with_reducible refine Kd.C_drewN ?_ _) | (with_reducible refine Kd.C_drew ?_))); (case side4 => exact (Kd.V_reads' HO_34.out).2.1); rintro e w' ⟨rfl, ⟨nd, rfl⟩⟩; obtain ⟨Ao205, co205, eo205⟩ := Kd.R_slice HO636.out; subst eo205; obtain ⟨Ao206, co206, eo206⟩ := Kd.R_slice HO640.out; subst eo206) | (go_at_call 19; (with_reducible refine (laws_dSame.calls kj174 _ _ t633 _ _ t637 true _ ?side1 ?side2 ?side3 ?side4 A197.out).mono ?_); (case side1 => exact cC (Kd.R_reads' HO636.out).2.2); (case side2 => exact (Kd.R_reads' HO636.out).2.1); (case side3 => exact cC (Kd.R_reads' HO640.out).2.2); (case side4 => exact (Kd.R_reads' HO640.out).2.1); rintro e w' ⟨rfl, ⟨nd, rfl⟩⟩))
                           go_meet
                           case rel => exact ⟨_, H', ⟨by have := HJ13.out; have := HJ79.out; have := HJ174.out; first | omega | exact Nat.le_refl _⟩, ⟨bq⟩⟩
                          ·
                           replace c198 := Bool.eq_false_iff.mpr c198
                           subst c198
                           have H1 : (some false) = some r := by rw [if_neg (show ¬ (false = true) by decide)] at H; exact H
                           exact absurd (H1.trans (congrArg some hrT)) (by simp)
                         ·
                          replace c196 := Bool.eq_false_iff.mpr c196
                          subst c196
                          have H1 : (laws_FnFallingQuads.j7 kj174 l1) = some r := by rw [if_neg (show ¬ (false = true) by decide)] at H; exact H
                          clear H
                          have H := H1
                          clear H1
                          have H' := Aside0.mk H
                          clear H
                          obtain ⟨Ao215, co215, eo215⟩ := Kd.R_slice HO_36.out
                          subst eo215
                          go_wp2_with (first | ((with_reducible refine gate_callee (f := 25) rfl ?_); refine gL (some 318) rfl rfl Try.func25 (by kernel_rfl) rfl #[.slice Ao215 t620.length co215, .int .i64 t619] rfl ?_; (with_reducible refine (impl_SwapAt.calls kj174 _ _ t620 t619 t629 true _ ?side1 ?side2 A187.out).mono ?_); (case side1 => exact cC (Kd.R_reads' HO_36.out).2.2); (case side2 => exact (Kd.R_reads' HO_36.out).2.1); rintro e w216 ⟨v631, rfl, ho0, hb⟩; refine ⟨_, rfl, ?_⟩; have n0_ := Aside0.mk (Kd.V_elder' (by (with_reducible repeat (first | apply Kd.V_alloc | apply Kd.V_drewN | apply Kd.V_drew)); exact HO_34.out) (Kd.R_base ho0) hb); have n1_ := Aside0.mk (Kd.R_elder' (rA HO_36) (Kd.R_base ho0) hb); have n2_ := Aside0.mk (Kd.R_lower (Kd.R_new' ho0 (Kd.R_lt (rA HO_36))) (below_size bq)); have n3_ := Aside0.mk (below_step bq hb); clear HO_34; clear HO_36; clear HB; have HO_34 := n0_; have HO_36 := n1_; have HO632 := n2_; have HB := n3_; clear n0_ n1_ n2_ n3_; (try clear hb); (try clear hb2); (try clear hk); (try clear hi); (try clear ho0)) | ((with_reducible refine gate_callee (f := 31) rfl ?_); refine gL (some 323) rfl rfl Try.func31 (by kernel_rfl) rfl #[.slice Ao177 t616.length co177] rfl ?_; (with_reducible refine (impl_RootQuad.calls kj174 _ _ t616 t633 true _ ?side1 ?side2 A188.out).mono ?_); (case side1 => repeat (first | exact (Kd.V_reads' HO_34.out).2.2 | (with_reducible refine Kd.C_alloc ?_ _) | (with_reducible refine Kd.C_drewN ?_ _) | (with_reducible refine Kd.C_drew ?_))); (case side2 => exact (Kd.V_reads' HO_34.out).2.1); rintro e w217 ⟨v635, rfl, ho0, hb⟩; refine ⟨_, rfl, ?_⟩; have n0_ := Aside0.mk (Kd.V_elder' (by (with_reducible repeat (first | apply Kd.V_alloc | apply Kd.V_drewN | apply Kd.V_drew)); exact HO_34.out) (Kd.R_base ho0) hb); have n1_ := Aside0.mk (Kd.R_elder' (rA HO_36) (Kd.R_base ho0) hb); have n2_ := Aside0.mk (Kd.R_elder' (rA HO632) (Kd.R_base ho0) hb); have n3_ := Aside0.mk (Kd.R_lower (Kd.R_new' (Kd.R_new' ho0 (Kd.R_lt (rA HO_36))) (Kd.R_lt (rA HO632))) (below_size bq)); have n4_ := Aside0.mk (below_step bq hb); clear HO_34; clear HO_36; clear HO632; clear HB; have HO_34 := n0_; have HO_36 := n1_; have HO632 := n2_; have HO636 := n3_; have HB := n4_; clear n0_ n1_ n2_ n3_ n4_; (try clear hb); (try clear hb2); (try clear hk); (try clear hi); (try clear ho0)) | ((with_reducible refine gate_callee (f := 31) rfl ?_); refine gL (some 328) rfl rfl Try.func31 (by kernel_rfl) rfl #[.slice Ao215 t620.length co215] rfl ?_; (with_reducible refine (impl_RootQuad.calls kj174 _ _ t620 t637 false _ ?side1 ?side2 A189.out).mono ?_); (case side1 => exact cC (Kd.R_reads' HO_36.out).2.2); (case side2 => exact (Kd.R_reads' HO_36.out).2.1); rintro e w218 ⟨v639, rfl, ho0, hb⟩; refine ⟨_, rfl, ?_⟩; have n0_ := Aside0.mk (Kd.V_elder' (by (with_reducible repeat (first | apply Kd.V_alloc | apply Kd.V_drewN | apply Kd.V_drew)); exact HO_34.out) (Kd.R_base ho0) hb); have n1_ := Aside0.mk (Kd.R_elder' (rA HO_36) (Kd.R_base ho0) hb); have n2_ := Aside0.mk (Kd.R_elder' (rA HO632) (Kd.R_base ho0) hb); have n3_ := Aside0.mk (Kd.R_elder' (rA HO636) (Kd.R_base ho0) hb); have n4_ := Aside0.mk (Kd.R_lower (Kd.R_new' (Kd.R_new' (Kd.R_new' ho0 (Kd.R_lt (rA HO_36))) (Kd.R_lt (rA HO632))) (Kd.R_lt (rA HO636))) (below_size bq)); have n5_ := Aside0.mk (below_step bq hb); clear HO_34; clear HO_36; clear HO632; clear HO636; clear HB; have HO_34 := n0_; have HO_36 := n1_; have HO632 := n2_; have HO636 := n3_; have HO640 := n4_; have HB := n5_; clear n0_ n1_ n2_ n3_ n4_ n5_; (try clear hb); (try clear hb2); (try clear hk); (try clear hi); (try clear ho0)) | ((with_reducible refine gate_callee (f := 20) rfl ?_); refine gL (some 332) rfl rfl Try.func20 (by kernel_rfl) rfl #[.slice Ao215 t620.length co215] rfl ?_; (with_reducible refine (impl_IsQuad.calls kj174 _ _ t620 true _ ?side1 ?side2 A190.out).mono ?_); (case side1 => exact cC (Kd.R_reads' HO_36.out).2.2); (case side2 => exact (Kd.R_reads' HO_36.out).2.1); rintro e w219 ⟨rfl, hb⟩; refine ⟨_, rfl, ?_⟩; have n0_ := Aside0.mk (Kd.V_below (by (with_reducible repeat (first | apply Kd.V_alloc | apply Kd.V_drewN | apply Kd.V_drew)); exact HO_34.out) hb); have n1_ := Aside0.mk (Kd.R_below (rA HO_36) hb); have n2_ := Aside0.mk (Kd.R_below (rA HO632) hb); have n3_ := Aside0.mk (Kd.R_below (rA HO636) hb); have n4_ := Aside0.mk (Kd.R_below (rA HO640) hb); have n5_ := Aside0.mk (below_step bq hb); clear HO_34; clear HO_36; clear HO632; clear HO636; clear HO640; clear HB; have HO_34 := n0_; have HO_36 := n1_; have HO632 := n2_; have HO636 := n3_; have HO640 := n4_; have HB := n5_; clear n0_ n1_ n2_ n3_ n4_ n5_; (try clear hb); (try clear hb2); (try clear hk); (try clear hi); obtain ⟨Ao220, co220, eo220⟩ := Kd.R_slice HO632.out; subst eo220) | (go_at_call 19; (with_reducible refine (laws_dSame.calls kj174 _ _ t629 _ _ t616 true _ ?side1 ?side2 ?side3 ?side4 A193.out).mono ?_); (case side1 => exact cC (Kd.R_reads' HO632.out).2.2); (case side2 => exact (Kd.R_reads' HO632.out).2.1); (case side3 => repeat (first | exact (Kd.V_reads' HO_34.out).2.2 | (with_reducible refine Kd.C_alloc ?_ _) | (with_reducible refine Kd.C_drewN ?_ _) | (with_reducible refine Kd.C_drew ?_))); (case side4 => exact (Kd.V_reads' HO_34.out).2.1); rintro e w' ⟨rfl, ⟨nd, rfl⟩⟩))
                          go_meet
                          case rel => exact ⟨_, H', ⟨by have := HJ13.out; have := HJ79.out; have := HJ174.out; first | omega | exact Nat.le_refl _⟩, ⟨bq⟩⟩
                        ·
                         replace c195 := Bool.eq_false_iff.mpr c195
                         subst c195
                         have H1 : (laws_FnFallingQuads.j7 kj174 l1) = some r := by rw [if_neg (show ¬ (false = true) by decide)] at H; exact H
                         clear H
                         have H := H1
                         clear H1
                         have H' := Aside0.mk H
                         clear H
                         obtain ⟨Ao221, co221, eo221⟩ := Kd.R_slice HO_36.out
                         subst eo221
                         go_wp2_with (first | ((with_reducible refine gate_callee (f := 25) rfl ?_); refine gL (some 318) rfl rfl Try.func25 (by kernel_rfl) rfl #[.slice Ao221 t620.length co221, .int .i64 t619] rfl ?_; (with_reducible refine (impl_SwapAt.calls kj174 _ _ t620 t619 t629 true _ ?side1 ?side2 A187.out).mono ?_); (case side1 => exact cC (Kd.R_reads' HO_36.out).2.2); (case side2 => exact (Kd.R_reads' HO_36.out).2.1); rintro e w222 ⟨v631, rfl, ho0, hb⟩; refine ⟨_, rfl, ?_⟩; have n0_ := Aside0.mk (Kd.V_elder' (by (with_reducible repeat (first | apply Kd.V_alloc | apply Kd.V_drewN | apply Kd.V_drew)); exact HO_34.out) (Kd.R_base ho0) hb); have n1_ := Aside0.mk (Kd.R_elder' (rA HO_36) (Kd.R_base ho0) hb); have n2_ := Aside0.mk (Kd.R_lower (Kd.R_new' ho0 (Kd.R_lt (rA HO_36))) (below_size bq)); have n3_ := Aside0.mk (below_step bq hb); clear HO_34; clear HO_36; clear HB; have HO_34 := n0_; have HO_36 := n1_; have HO632 := n2_; have HB := n3_; clear n0_ n1_ n2_ n3_; (try clear hb); (try clear hb2); (try clear hk); (try clear hi); (try clear ho0)) | ((with_reducible refine gate_callee (f := 31) rfl ?_); refine gL (some 323) rfl rfl Try.func31 (by kernel_rfl) rfl #[.slice Ao177 t616.length co177] rfl ?_; (with_reducible refine (impl_RootQuad.calls kj174 _ _ t616 t633 false _ ?side1 ?side2 A188.out).mono ?_); (case side1 => repeat (first | exact (Kd.V_reads' HO_34.out).2.2 | (with_reducible refine Kd.C_alloc ?_ _) | (with_reducible refine Kd.C_drewN ?_ _) | (with_reducible refine Kd.C_drew ?_))); (case side2 => exact (Kd.V_reads' HO_34.out).2.1); rintro e w223 ⟨v635, rfl, ho0, hb⟩; refine ⟨_, rfl, ?_⟩; have n0_ := Aside0.mk (Kd.V_elder' (by (with_reducible repeat (first | apply Kd.V_alloc | apply Kd.V_drewN | apply Kd.V_drew)); exact HO_34.out) (Kd.R_base ho0) hb); have n1_ := Aside0.mk (Kd.R_elder' (rA HO_36) (Kd.R_base ho0) hb); have n2_ := Aside0.mk (Kd.R_elder' (rA HO632) (Kd.R_base ho0) hb); have n3_ := Aside0.mk (Kd.R_lower (Kd.R_new' (Kd.R_new' ho0 (Kd.R_lt (rA HO_36))) (Kd.R_lt (rA HO632))) (below_size bq)); have n4_ := Aside0.mk (below_step bq hb); clear HO_34; clear HO_36; clear HO632; clear HB; have HO_34 := n0_; have HO_36 := n1_; have HO632 := n2_; have HO636 := n3_; have HB := n4_; clear n0_ n1_ n2_ n3_ n4_; (try clear hb); (try clear hb2); (try clear hk); (try clear hi); (try clear ho0)) | ((with_reducible refine gate_callee (f := 31) rfl ?_); refine gL (some 328) rfl rfl Try.func31 (by kernel_rfl) rfl #[.slice Ao221 t620.length co221] rfl ?_; (with_reducible refine (impl_RootQuad.calls kj174 _ _ t620 t637 t638 _ ?side1 ?side2 A189.out).mono ?_); (case side1 => exact cC (Kd.R_reads' HO_36.out).2.2); (case side2 => exact (Kd.R_reads' HO_36.out).2.1); rintro e w224 ⟨v639, rfl, ho0, hb⟩; refine ⟨_, rfl, ?_⟩; have n0_ := Aside0.mk (Kd.V_elder' (by (with_reducible repeat (first | apply Kd.V_alloc | apply Kd.V_drewN | apply Kd.V_drew)); exact HO_34.out) (Kd.R_base ho0) hb); have n1_ := Aside0.mk (Kd.R_elder' (rA HO_36) (Kd.R_base ho0) hb); have n2_ := Aside0.mk (Kd.R_elder' (rA HO632) (Kd.R_base ho0) hb); have n3_ := Aside0.mk (Kd.R_elder' (rA HO636) (Kd.R_base ho0) hb); have n4_ := Aside0.mk (Kd.R_lower (Kd.R_new' (Kd.R_new' (Kd.R_new' ho0 (Kd.R_lt (rA HO_36))) (Kd.R_lt (rA HO632))) (Kd.R_lt (rA HO636))) (below_size bq)); have n5_ := Aside0.mk (below_step bq hb); clear HO_34; clear HO_36; clear HO632; clear HO636; clear HB; have HO_34 := n0_; have HO_36 := n1_; have HO632 := n2_; have HO636 := n3_; have HO640 := n4_; have HB := n5_; clear n0_ n1_ n2_ n3_ n4_ n5_; (try clear hb); (try clear hb2); (try clear hk); (try clear hi); (try clear ho0)) | ((with_reducible refine gate_callee (f := 20) rfl ?_); refine gL (some 332) rfl rfl Try.func20 (by kernel_rfl) rfl #[.slice Ao221 t620.length co221] rfl ?_; (with_reducible refine (impl_IsQuad.calls kj174 _ _ t620 true _ ?side1 ?side2 A190.out).mono ?_); (case side1 => exact cC (Kd.R_reads' HO_36.out).2.2); (case side2 => exact (Kd.R_reads' HO_36.out).2.1); rintro e w225 ⟨rfl, hb⟩; refine ⟨_, rfl, ?_⟩; have n0_ := Aside0.mk (Kd.V_below (by (with_reducible repeat (first | apply Kd.V_alloc | apply Kd.V_drewN | apply Kd.V_drew)); exact HO_34.out) hb); have n1_ := Aside0.mk (Kd.R_below (rA HO_36) hb); have n2_ := Aside0.mk (Kd.R_below (rA HO632) hb); have n3_ := Aside0.mk (Kd.R_below (rA HO636) hb); have n4_ := Aside0.mk (Kd.R_below (rA HO640) hb); have n5_ := Aside0.mk (below_step bq hb); clear HO_34; clear HO_36; clear HO632; clear HO636; clear HO640; clear HB; have HO_34 := n0_; have HO_36 := n1_; have HO632 := n2_; have HO636 := n3_; have HO640 := n4_; have HB := n5_; clear n0_ n1_ n2_ n3_ n4_ n5_; (try clear hb); (try clear hb2); (try clear hk); (try clear hi); obtain ⟨Ao226, co226, eo226⟩ := Kd.R_slice HO632.out; subst eo226) | (go_at_call 19; (with_reducible refine (laws_dSame.calls kj174 _ _ t629 _ _ t616 true _ ?side1 ?side2 ?side3 ?side4 A193.out).mono ?_); (case side1 => exact cC (Kd.R_reads' HO632.out).2.2); (case side2 => exact (Kd.R_reads' HO632.out).2.1); (case side3 => repeat (first | exact (Kd.V_reads' HO_34.out).2.2 | (with_reducible refine Kd.C_alloc ?_ _) | (with_reducible refine Kd.C_drewN ?_ _) | (with_reducible refine Kd.C_drew ?_))); (case side4 => exact (Kd.V_reads' HO_34.out).2.1); rintro e w' ⟨rfl, ⟨nd, rfl⟩⟩))
                         go_meet
                         case rel => exact ⟨_, H', ⟨by have := HJ13.out; have := HJ79.out; have := HJ174.out; first | omega | exact Nat.le_refl _⟩, ⟨bq⟩⟩
                       ·
                        replace c194 := Bool.eq_false_iff.mpr c194
                        subst c194
                        have H1 : (some false) = some r := by rw [if_neg (show ¬ (false = true) by decide)] at H; exact H
                        exact absurd (H1.trans (congrArg some hrT)) (by simp)
                      ·
                       replace c192 := Bool.eq_false_iff.mpr c192
                       subst c192
                       have H1 : (some false) = some r := by rw [if_neg (show ¬ (false = true) by decide)] at H; exact H
                       exact absurd (H1.trans (congrArg some hrT)) (by simp)
                    ·
                     replace c191 := Bool.eq_false_iff.mpr c191
                     subst c191
                     have H1 : (some false) = some r := by rw [if_neg (show ¬ (false = true) by decide)] at H; exact H
                     exact absurd (H1.trans (congrArg some hrT)) (by simp)
                  ·
                   replace c186 := Bool.eq_false_iff.mpr c186
                   subst c186
                   have H1 : (laws_FnFallingQuads.j7 kj174 l1) = some r := by rw [if_neg (show ¬ (false = true) by decide)] at H; exact H
                   clear H
                   have H := H1
                   clear H1
                   have H' := Aside0.mk H
                   clear H
                   go_wp2
                   go_meet
                   case rel => exact ⟨_, H', ⟨by have := HJ13.out; have := HJ79.out; have := HJ174.out; first | omega | exact Nat.le_refl _⟩, ⟨bq⟩⟩
                case rest =>
                 as_aux_lemma =>
                  clear HC185; (try clear c1); (try clear c2); (try clear p2); (try clear c3); (try clear c5); (try clear p5); (try clear q5); (try clear hx5); (try clear p6); (try clear q6); (try clear hx6); (try clear c8); (try clear c9); (try clear c10); (try clear c13); (try clear c14); (try clear c15); (try clear c16); (try clear c17); (try clear c18); (try clear c19); (try clear c20); (try clear c25); (try clear c31); (try clear c37); (try clear c38); (try clear c39); (try clear c58); (try clear p58); (try clear q58); (try clear hx58); (try clear c59); (try clear p59); (try clear q59); (try clear hx59); (try clear p60); (try clear q60); (try clear hx60); (try clear p64); (try clear c81); (try clear c95); (try clear c100); (try clear c100b0); (try clear c102); (try clear c103); (try clear c104); (try clear c106); (try clear c107); (try clear c137); (try clear c137b0); (try clear c138); (try clear c138b0); (try clear c149); (try clear c150); (try clear c151); (try clear c154); (try clear c155); (try clear c155b0); (try clear c156); (try clear c156b0); (try clear c157); (try clear c157b0); (try clear c158); (try clear c161); (try clear c163); (try clear c180); (try clear c180b0); (try clear c180b1); (try clear c180b2); (try clear c184); (try clear c186); (try clear c191); (try clear c192); (try clear c194); (try clear c195); (try clear c196); (try clear c198); (try clear hx584_0); (try clear hx585_0); (try clear hx596_0); (try clear hx607_0); (try clear p2); (try clear p5); (try clear p58); (try clear p584); (try clear p585); (try clear p59); (try clear p596); (try clear p6); (try clear p60); (try clear p607); (try clear p64); (try clear q5); (try clear q58); (try clear q584); (try clear q585); (try clear q59); (try clear q596); (try clear q6); (try clear q60); (try clear q607)
                  obtain ⟨kq, HA, HJ184, HB⟩ := hcut
                  cases kq with
                  | zero => exact absurd HA.out (by simp [laws_FnFallingQuads.j7])
                  | succ kj184 =>
                   have H := HA.out
                   clear HA
                   simp only [laws_FnFallingQuads.j7] at H
                   replace H := Option.bind_eq_some_iff.mp H
                   obtain ⟨t644, A2430, H⟩ := H
                   replace H : ((impl_IsRoot.f kj184 t644).bind fun bt647 => ((spec_IsRoot.f kj184 t644).bind fun bt649 => (if (bt647.2 != bt649.2) = true then (laws_FnFallingQuads.j8 kj184 t644 bt647.1 true) else (if (bt647.1 != bt649.1) = true then (laws_FnFallingQuads.j8 kj184 t644 bt647.1 true) else ((impl_IsQuad.f kj184 t644).bind fun t651 => (laws_FnFallingQuads.j8 kj184 t644 bt647.1 (bt647.2 != t651))))))) = some r := H
                   have A243 := Aside0.mk A2430
                   clear A2430
                   replace H := Option.bind_eq_some_iff.mp H
                   obtain ⟨⟨t647, t648⟩, A2440, H⟩ := H
                   replace H : ((spec_IsRoot.f kj184 t644).bind fun bt649 => (if (t648 != bt649.2) = true then (laws_FnFallingQuads.j8 kj184 t644 t647 true) else (if (t647 != bt649.1) = true then (laws_FnFallingQuads.j8 kj184 t644 t647 true) else ((impl_IsQuad.f kj184 t644).bind fun t651 => (laws_FnFallingQuads.j8 kj184 t644 t647 (t648 != t651)))))) = some r := H
                   have A244 := Aside0.mk A2440
                   clear A2440
                   replace H := Option.bind_eq_some_iff.mp H
                   obtain ⟨⟨t649, t650⟩, A2450, H⟩ := H
                   replace H : (if (t648 != t650) = true then (laws_FnFallingQuads.j8 kj184 t644 t647 true) else (if (t647 != t649) = true then (laws_FnFallingQuads.j8 kj184 t644 t647 true) else ((impl_IsQuad.f kj184 t644).bind fun t651 => (laws_FnFallingQuads.j8 kj184 t644 t647 (t648 != t651))))) = some r := H
                   have A245 := Aside0.mk A2450
                   clear A2450
                   have HC246 := Aside0.mk H
                   clear H
                   go_upto_region 50 with (first | ((with_reducible refine gate_callee (f := 40) rfl ?_); refine gL (some 357) rfl rfl Try.func40 (by kernel_rfl) rfl #[.slice A1 l1.length c1] rfl ?_; (with_reducible refine (spec_DrawIsRoot.calls kj184 _ _ l1 t644 _ ?side1 ?side2 A243.out).mono ?_); (case side1 => exact cC (Kd.C_below HR1.out HB.out)); (case side2 => exact HC1.out); rintro e w247 ⟨v645, rfl, ho0, hb⟩; refine ⟨_, rfl, ?_⟩; have n0_ := Aside0.mk (Kd.V_lower (Kd.V_mono (ok' := fun k_ => True) ho0 (fun k_ hk_ => trivial)) (below_size bq)); have n1_ := Aside0.mk (below_step bq hb); clear HB; have HO646 := n0_; have HB := n1_; clear n0_ n1_; (try clear hb); (try clear hb2); (try clear hk); (try clear hi); (try clear ho0); obtain ⟨Ao248, co248, eo248⟩ := Kd.V_slice HO646.out; subst eo248) | ((with_reducible refine gate_callee (f := 37) rfl ?_); refine gL (some 360) rfl rfl Try.func37 (by kernel_rfl) rfl #[.slice Ao248 t644.length co248] rfl ?_; (with_reducible refine (impl_IsRoot.calls kj184 _ _ t644 t647 t648 _ ?side1 ?side2 A244.out).mono ?_); (case side1 => repeat (first | exact (Kd.V_reads' HO646.out).2.2 | (with_reducible refine Kd.C_alloc ?_ _) | (with_reducible refine Kd.C_drewN ?_ _) | (with_reducible refine Kd.C_drew ?_))); (case side2 => exact (Kd.V_reads' HO646.out).2.1); rintro e w249 ⟨rfl, hb⟩; refine ⟨_, rfl, ?_⟩; have n0_ := Aside0.mk (Kd.V_below (by (with_reducible repeat (first | apply Kd.V_alloc | apply Kd.V_drewN | apply Kd.V_drew)); exact HO646.out) hb); have n1_ := Aside0.mk (below_step bq hb); clear HO646; clear HB; have HO646 := n0_; have HB := n1_; clear n0_ n1_; (try clear hb); (try clear hb2); (try clear hk); (try clear hi)) | ((with_reducible refine gate_callee (f := 41) rfl ?_); refine gL (some 365) rfl rfl Try.func41 (by kernel_rfl) rfl #[.slice Ao248 t644.length co248] rfl ?_; (with_reducible refine (spec_IsRoot.calls kj184 _ _ t644 t649 t650 _ ?side1 ?side2 A245.out).mono ?_); (case side1 => repeat (first | exact (Kd.V_reads' HO646.out).2.2 | (with_reducible refine Kd.C_alloc ?_ _) | (with_reducible refine Kd.C_drewN ?_ _) | (with_reducible refine Kd.C_drew ?_))); (case side2 => exact (Kd.V_reads' HO646.out).2.1); rintro e w250 ⟨rfl, hb⟩; refine ⟨_, rfl, ?_⟩; have n0_ := Aside0.mk (Kd.V_below (by (with_reducible repeat (first | apply Kd.V_alloc | apply Kd.V_drewN | apply Kd.V_drew)); exact HO646.out) hb); have n1_ := Aside0.mk (below_step bq hb); clear HO646; clear HB; have HO646 := n0_; have HB := n1_; clear n0_ n1_; (try clear hb); (try clear hb2); (try clear hk); (try clear hi)))
                   (try simp only [Act.put, List.setIfInBounds_toArray, List.set_cons_zero, List.set_cons_succ])
                   go_cut [381] (fun v381 wc => ∃ (kq : Nat) (x381_245 : Bool), v381 = .bool x381_245 ∧ Aside0 (laws_FnFallingQuads.j8 kq t644 t647 x381_245 = some r) ∧ Aside0 (kq ≤ kj184) ∧ Aside0 (Kd.V (Kd.int .i64) 3 wc w.heap.size (fun _ => True) (.slice Ao248 t644.length co248) t644) ∧ Aside0 (Below w.heap.size w wc))
                   case first =>
                    as_aux_lemma =>
                     have H := HC246.out
                     clear HC246
                     by_cases c251 : (t648 != t650) = true
                     ·
                      rw [if_pos c251] at H
                      exact absurd (H.trans (congrArg some hrT)) (fun h_ => laws_FnFallingQuads.j8_no h_)
                     ·
                      rw [if_neg c251] at H
                      have c251b0 : (t648 != t650) = false := by simpa using c251
                      (try (have c251b1 : decide (t648 = t650) = true := by simpa using c251))
                      (try (have c251b2 : (t648 == t650) = true := by simpa using c251))
                      clear c251
                      (first | rw [c251b0] | (simp only [i64_w, i32_w]; rw [c251b0]) | skip)
                      by_cases c252 : (t647 != t649) = true
                      ·
                       rw [if_pos c252] at H
                       exact absurd (H.trans (congrArg some hrT)) (fun h_ => laws_FnFallingQuads.j8_no h_)
                      ·
                       rw [if_neg c252] at H
                       have c252b0 : (t647 != t649) = false := by simpa using c252
                       (try (have c252b1 : decide (t647 = t649) = true := by simpa using c252))
                       (try (have c252b2 : (t647 == t649) = true := by simpa using c252))
                       clear c252
                       replace H := Option.bind_eq_some_iff.mp H
                       obtain ⟨t651, A2530, H⟩ := H
                       replace H : (laws_FnFallingQuads.j8 kj184 t644 t647 (t648 != t651)) = some r := H
                       have A253 := Aside0.mk A2530
                       clear A2530
                       have H' := Aside0.mk H
                       clear H
                       go_wp2_with (first | (go_at_call 20; (with_reducible refine (impl_IsQuad.calls kj184 _ _ t644 t651 _ ?side1 ?side2 A253.out).mono ?_); (case side1 => repeat (first | exact (Kd.V_reads' HO646.out).2.2 | (with_reducible refine Kd.C_alloc ?_ _) | (with_reducible refine Kd.C_drewN ?_ _) | (with_reducible refine Kd.C_drew ?_))); (case side2 => exact (Kd.V_reads' HO646.out).2.1); rintro e w254 ⟨rfl, hb⟩; have n0_ := Aside0.mk (Kd.V_below (by (with_reducible repeat (first | apply Kd.V_alloc | apply Kd.V_drewN | apply Kd.V_drew)); exact HO646.out) hb); have n1_ := Aside0.mk (below_step bq hb); clear HO646; clear HB; have HO646 := n0_; have HB := n1_; clear n0_ n1_; (try clear hb); (try clear hb2); (try clear hk); (try clear hi)))
                       go_meet
                       case rel => exact ⟨_, ((t648 != t651)), e2, H', ⟨by have := HJ13.out; have := HJ79.out; have := HJ174.out; have := HJ184.out; first | omega | exact Nat.le_refl _⟩, ⟨by (with_reducible repeat (first | apply Kd.V_alloc | apply Kd.V_drewN | apply Kd.V_drew)); exact HO646.out⟩, ⟨bq⟩⟩
                   case rest =>
                    as_aux_lemma =>
                     clear HC246; (try clear c1); (try clear c2); (try clear p2); (try clear c3); (try clear c4); (try clear c5); (try clear p5); (try clear q5); (try clear hx5); (try clear p6); (try clear q6); (try clear hx6); (try clear c8); (try clear c9); (try clear c10); (try clear c13); (try clear c14); (try clear c15); (try clear c16); (try clear c17); (try clear c18); (try clear c19); (try clear c20); (try clear c25); (try clear c31); (try clear c37); (try clear c38); (try clear c39); (try clear c40); (try clear c41); (try clear c58); (try clear p58); (try clear q58); (try clear hx58); (try clear c59); (try clear p59); (try clear q59); (try clear hx59); (try clear p60); (try clear q60); (try clear hx60); (try clear p64); (try clear c81); (try clear c95); (try clear c100); (try clear c100b0); (try clear c102); (try clear c103); (try clear c104); (try clear c106); (try clear c107); (try clear c137); (try clear c137b0); (try clear c138); (try clear c138b0); (try clear c149); (try clear c150); (try clear c151); (try clear c154); (try clear c155); (try clear c155b0); (try clear c156); (try clear c156b0); (try clear c157); (try clear c157b0); (try clear c158); (try clear c161); (try clear c163); (try clear c180); (try clear c180b0); (try clear c180b1); (try clear c180b2); (try clear c184); (try clear c186); (try clear c191); (try clear c192); (try clear c194); (try clear c195); (try clear c196); (try clear c198); (try clear c251); (try clear c251b0); (try clear c251b1); (try clear c251b2); (try clear c252); (try clear c252b0); (try clear c252b1); (try clear c252b2); (try clear hx584_0); (try clear hx585_0); (try clear hx596_0); (try clear hx607_0); (try clear p2); (try clear p5); (try clear p58); (try clear p584); (try clear p585); (try clear p59); (try clear p596); (try clear p6); (try clear p60); (try clear p607); (try clear p64); (try clear q5); (try clear q58); (try clear q584); (try clear q585); (try clear q59); (try clear q596); (try clear q6); (try clear q60); (try clear q607)
                     obtain ⟨kq, x381_245, rfl, HA, HJ245, HO_46, HB⟩ := hcut
                     cases kq with
                     | zero => exact absurd HA.out (by simp [laws_FnFallingQuads.j8])
                     | succ kj245 =>
                      have H := HA.out
                      clear HA
                      simp only [laws_FnFallingQuads.j8] at H
                      by_cases c255 : x381_245 = true
                      ·
                       subst c255
                       have H1 : (some false) = some r := by rw [if_pos rfl] at H; exact H
                       exact absurd (H1.trans (congrArg some hrT)) (by simp)
                      ·
                       as_aux_lemma =>
                        replace c255 := Bool.eq_false_iff.mpr c255
                        subst c255
                        have H1 : (if t647 = true then (laws_FnFallingQuads.l2 kj245 t644 0) else (some true)) = some r := by rw [if_neg (show ¬ (false = true) by decide)] at H; exact H
                        clear H
                        have H := H1
                        clear H1
                        by_cases c256 : t647 = true
                        ·
                         as_aux_lemma =>
                          subst c256
                          have H1 : (laws_FnFallingQuads.l2 kj245 t644 0) = some r := by rw [if_pos rfl] at H; exact H
                          clear H
                          have H := H1
                          clear H1
                          have H' := Aside0.mk H
                          clear H
                          go_wp2
                          go_loopg [51] kj245 (fun kq v51 w' => ∃ (x51_6 : Int), v51 = .int .i64 x51_6 ∧ Aside0 (laws_FnFallingQuads.l2 kq t644 x51_6 = some r) ∧ Aside0 (kq ≤ kj245) ∧ Aside0 (Kd.V (Kd.int .i64) 3 w' w.heap.size (fun _ => True) (.slice Ao248 t644.length co248) t644) ∧ Aside0 (Below w.heap.size w w'))
                          case atStart => exact ⟨(0), e2, H', ⟨Nat.le_refl _⟩, ⟨by (with_reducible repeat (first | apply Kd.V_alloc | apply Kd.V_drewN | apply Kd.V_drew)); exact HO_46.out⟩, ⟨bq⟩⟩
                          case round =>
                           as_aux_lemma =>
                            clear H'; (try clear c1); (try clear c2); (try clear p2); (try clear c3); (try clear c4); (try clear c5); (try clear p5); (try clear q5); (try clear hx5); (try clear p6); (try clear q6); (try clear hx6); (try clear c8); (try clear c9); (try clear c10); (try clear c13); (try clear c14); (try clear c15); (try clear c16); (try clear c17); (try clear c18); (try clear c19); (try clear c20); (try clear c25); (try clear c31); (try clear c37); (try clear c38); (try clear c39); (try clear c40); (try clear c41); (try clear c58); (try clear p58); (try clear q58); (try clear hx58); (try clear c59); (try clear p59); (try clear q59); (try clear hx59); (try clear p60); (try clear q60); (try clear hx60); (try clear p64); (try clear c81); (try clear c95); (try clear c100); (try clear c100b0); (try clear c102); (try clear c103); (try clear c104); (try clear c106); (try clear c107); (try clear c137); (try clear c137b0); (try clear c138); (try clear c138b0); (try clear c149); (try clear c150); (try clear c151); (try clear c154); (try clear c155); (try clear c155b0); (try clear c156); (try clear c156b0); (try clear c157); (try clear c157b0); (try clear c158); (try clear c161); (try clear c163); (try clear c180); (try clear c180b0); (try clear c180b1); (try clear c180b2); (try clear c184); (try clear c186); (try clear c191); (try clear c192); (try clear c194); (try clear c195); (try clear c196); (try clear c198); (try clear c251); (try clear c251b0); (try clear c251b1); (try clear c251b2); (try clear c252); (try clear c252b0); (try clear c252b1); (try clear c252b2); (try clear c255); (try clear c256); (try clear hx584_0); (try clear hx585_0); (try clear hx596_0); (try clear hx607_0); (try clear p2); (try clear p5); (try clear p58); (try clear p584); (try clear p585); (try clear p59); (try clear p596); (try clear p6); (try clear p60); (try clear p607); (try clear p64); (try clear q5); (try clear q58); (try clear q584); (try clear q585); (try clear q59); (try clear q596); (try clear q6); (try clear q60); (try clear q607)
                            obtain ⟨x51_6, rfl, HA, HK6, HO_46, HB⟩ := hrel
                            cases gk with
                            | zero => exact absurd HA.out (by simp [laws_FnFallingQuads.l2])
                            | succ k6 =>
                             have H := HA.out
                             clear HA
                             simp only [laws_FnFallingQuads.l2] at H
                             by_cases c257 : x51_6 < 4
                             ·
                              rw [if_pos c257] at H
                              have c257b0 : decide (x51_6 < 4) = true := decide_eq_true c257
                              clear c257
                              replace H := Option.bind_eq_some_iff.mp H
                              obtain ⟨⟨t652, t653⟩, A2580, H⟩ := H
                              replace H : (if t653 = true then ((laws_dSum.f k6 t652).bind fun t656 => ((laws_dSum.f k6 t644).bind fun t657 => (if t656 < t657 then (some false) else (laws_FnFallingQuads.l2 k6 t644 (wrap64 (x51_6 + 1)))))) else (laws_FnFallingQuads.l2 k6 t644 (wrap64 (x51_6 + 1)))) = some r := H
                              have A258 := Aside0.mk A2580
                              clear A2580
                              by_cases c259 : t653 = true
                              ·
                               subst c259
                               have H1 : ((laws_dSum.f k6 t652).bind fun t656 => ((laws_dSum.f k6 t644).bind fun t657 => (if t656 < t657 then (some false) else (laws_FnFallingQuads.l2 k6 t644 (wrap64 (x51_6 + 1)))))) = some r := by rw [if_pos rfl] at H; exact H
                               clear H
                               have H := H1
                               clear H1
                               replace H := Option.bind_eq_some_iff.mp H
                               obtain ⟨t656, A2600, H⟩ := H
                               replace H : ((laws_dSum.f k6 t644).bind fun t657 => (if t656 < t657 then (some false) else (laws_FnFallingQuads.l2 k6 t644 (wrap64 (x51_6 + 1))))) = some r := H
                               have A260 := Aside0.mk A2600
                               clear A2600
                               replace H := Option.bind_eq_some_iff.mp H
                               obtain ⟨t657, A2610, H⟩ := H
                               replace H : (if t656 < t657 then (some false) else (laws_FnFallingQuads.l2 k6 t644 (wrap64 (x51_6 + 1)))) = some r := H
                               have A261 := Aside0.mk A2610
                               clear A2610
                               by_cases c262 : t656 < t657
                               ·
                                rw [if_pos c262] at H
                                exact absurd (H.trans (congrArg some hrT)) (by simp)
                               ·
                                rw [if_neg c262] at H
                                have c262b0 : decide (t656 < t657) = false := decide_eq_false c262
                                clear c262
                                have H' := Aside0.mk H
                                clear H
                                go_wp2_with (first | ((with_reducible refine gate_callee (f := 25) rfl ?_); refine gL (some 390) rfl rfl Try.func25 (by kernel_rfl) rfl #[.slice Ao248 t644.length co248, .int .i64 x51_6] rfl ?_; (with_reducible refine (impl_SwapAt.calls k6 _ _ t644 x51_6 t652 true _ ?side1 ?side2 A258.out).mono ?_); (case side1 => repeat (first | exact (Kd.V_reads' HO_46.out).2.2 | (with_reducible refine Kd.C_alloc ?_ _) | (with_reducible refine Kd.C_drewN ?_ _) | (with_reducible refine Kd.C_drew ?_))); (case side2 => exact (Kd.V_reads' HO_46.out).2.1); rintro e w265 ⟨v654, rfl, ho0, hb⟩; refine ⟨_, rfl, ?_⟩; have n0_ := Aside0.mk (Kd.V_elder' (by (with_reducible repeat (first | apply Kd.V_alloc | apply Kd.V_drewN | apply Kd.V_drew)); exact HO_46.out) (Kd.R_base ho0) hb); have n1_ := Aside0.mk (Kd.R_lower ho0 (below_size bq)); have n2_ := Aside0.mk (below_step bq hb); clear HO_46; clear HB; have HO_46 := n0_; have HO655 := n1_; have HB := n2_; clear n0_ n1_ n2_; (try clear hb); (try clear hb2); (try clear hk); (try clear hi); (try clear ho0); obtain ⟨Ao266, co266, eo266⟩ := Kd.R_slice HO655.out; subst eo266) | (go_at_call 36; (with_reducible refine (laws_dSum.calls k6 _ _ t652 t656 _ ?side1 ?side2 A260.out).mono ?_); (case side1 => exact cC (Kd.R_reads' HO655.out).2.2); (case side2 => exact (Kd.R_reads' HO655.out).2.1); rintro e w' ⟨rfl, ⟨nd, rfl⟩⟩) | (go_at_call 36; (with_reducible refine (laws_dSum.calls k6 _ _ t644 t657 _ ?side1 ?side2 A261.out).mono ?_); (case side1 => repeat (first | exact (Kd.V_reads' HO_46.out).2.2 | (with_reducible refine Kd.C_alloc ?_ _) | (with_reducible refine Kd.C_drewN ?_ _) | (with_reducible refine Kd.C_drew ?_))); (case side2 => exact (Kd.V_reads' HO_46.out).2.1); rintro e w' ⟨rfl, ⟨nd, rfl⟩⟩))
                                go_roundg k6
                                case measure => have := HJ13.out; have := HJ79.out; have := HJ174.out; have := HJ184.out; have := HJ245.out; have := HK6.out; omega
                                case rel => exact ⟨(wrap64 (x51_6 + 1)), e2, H', ⟨by have := HJ13.out; have := HJ79.out; have := HJ174.out; have := HJ184.out; have := HJ245.out; have := HK6.out; omega⟩, ⟨by (with_reducible repeat (first | apply Kd.V_alloc | apply Kd.V_drewN | apply Kd.V_drew)); exact Kd.V_mono HO_46.out (fun _ hk => trivial)⟩, ⟨bq⟩⟩
                              ·
                               replace c259 := Bool.eq_false_iff.mpr c259
                               subst c259
                               have H1 : (laws_FnFallingQuads.l2 k6 t644 (wrap64 (x51_6 + 1))) = some r := by rw [if_neg (show ¬ (false = true) by decide)] at H; exact H
                               clear H
                               have H := H1
                               clear H1
                               have H' := Aside0.mk H
                               clear H
                               go_wp2_with (first | ((with_reducible refine gate_callee (f := 25) rfl ?_); refine gL (some 390) rfl rfl Try.func25 (by kernel_rfl) rfl #[.slice Ao248 t644.length co248, .int .i64 x51_6] rfl ?_; (with_reducible refine (impl_SwapAt.calls k6 _ _ t644 x51_6 t652 false _ ?side1 ?side2 A258.out).mono ?_); (case side1 => repeat (first | exact (Kd.V_reads' HO_46.out).2.2 | (with_reducible refine Kd.C_alloc ?_ _) | (with_reducible refine Kd.C_drewN ?_ _) | (with_reducible refine Kd.C_drew ?_))); (case side2 => exact (Kd.V_reads' HO_46.out).2.1); rintro e w267 ⟨v654, rfl, ho0, hb⟩; refine ⟨_, rfl, ?_⟩; have n0_ := Aside0.mk (Kd.V_elder' (by (with_reducible repeat (first | apply Kd.V_alloc | apply Kd.V_drewN | apply Kd.V_drew)); exact HO_46.out) (Kd.R_base ho0) hb); have n1_ := Aside0.mk (Kd.R_lower ho0 (below_size bq)); have n2_ := Aside0.mk (below_step bq hb); clear HO_46; clear HB; have HO_46 := n0_; have HO655 := n1_; have HB := n2_; clear n0_ n1_ n2_; (try clear hb); (try clear hb2); (try clear hk); (try clear hi); (try clear ho0)))
                               go_roundg k6
                               case measure => have := HJ13.out; have := HJ79.out; have := HJ174.out; have := HJ184.out; have := HJ245.out; have := HK6.out; omega
                               case rel => exact ⟨(wrap64 (x51_6 + 1)), e2, H', ⟨by have := HJ13.out; have := HJ79.out; have := HJ174.out; have := HJ184.out; have := HJ245.out; have := HK6.out; omega⟩, ⟨by (with_reducible repeat (first | apply Kd.V_alloc | apply Kd.V_drewN | apply Kd.V_drew)); exact Kd.V_mono HO_46.out (fun _ hk => trivial)⟩, ⟨bq⟩⟩
                             ·
                              rw [if_neg c257] at H
                              have c257b0 : decide (x51_6 < 4) = false := decide_eq_false c257
                              clear c257
                              obtain rfl := Option.some.inj H
                              go_wp2
                              go_ret
                              exact ⟨e1, bq⟩
                        ·
                         replace c256 := Bool.eq_false_iff.mpr c256
                         subst c256
                         have H1 : (some true) = some r := by rw [if_neg (show ¬ (false = true) by decide)] at H; exact H
                         clear H
                         have H := H1
                         clear H1
                         obtain rfl := Option.some.inj H
                         go_wp2
                         go_ret
                         exact ⟨e1, bq⟩

/-- THE ONE PURE STATEMENT of laws_FnFallingQuads: yours. -/
def laws_FnFallingQuads.Pure : Prop := ∀ (l0 : List Int) (l1 : List Int), l0.length ≤ maxLen → l0.length * 1 ≤ 140737488351232 → (∀ x ∈ l0, (Lit.int .u8 x).wf = true) → l1.length ≤ maxLen → l1.length * 1 ≤ 140737488351232 → (∀ x ∈ l1, (Lit.int .u8 x).wf = true) → ∃ k, laws_FnFallingQuads.f k l0 l1 = some true
theorem laws_FnFallingQuads.walk (P : laws_FnFallingQuads.Pure) (a0 : Option Addr) (len0 cap0 : Nat) (z0 : List Int) (a1 : Option Addr) (len1 cap1 : Nat) (z1 : List Int) (w : World) (w0 : (a0 = none ∧ len0 = 0 ∧ cap0 = 0 ∧ z0 = []) ∨ ∃ x, a0 = some x ∧ len0 ≤ cap0 ∧ cap0 ≤ maxLen ∧ z0.length = cap0 ∧ (∀ i, i < z0.length → w.cell? (x.add i) = some (.int .u8 (z0.getD i 0))) ∧ ∀ n ∈ z0, (Lit.int .u8 n).wf = true) (y0 : len0 * 1 ≤ 140737488351232) (w1 : (a1 = none ∧ len1 = 0 ∧ cap1 = 0 ∧ z1 = []) ∨ ∃ x, a1 = some x ∧ len1 ≤ cap1 ∧ cap1 ≤ maxLen ∧ z1.length = cap1 ∧ (∀ i, i < z1.length → w.cell? (x.add i) = some (.int .u8 (z1.getD i 0))) ∧ ∀ n ∈ z1, (Lit.int .u8 n).wf = true) (y1 : len1 * 1 ≤ 140737488351232) :
 Calls Try.prog 4 #[.slice a0 len0 cap0, .slice a1 len1 cap1] w fun e w' => e = .returned (.bool true) ∧ Below w.heap.size w w' := by
 obtain ⟨l0, rfl, hr0, hm0, hw0, hc0⟩ := ReadsInt.ofRowC w0
 obtain ⟨l1, rfl, hr1, hm1, hw1, hc1⟩ := ReadsInt.ofRowC w1
 obtain ⟨k, h⟩ := P l0 l1 hm0 y0 hw0 hm1 y1 hw1
 refine (laws_FnFallingQuads.calls k _ _ l0 _ _ l1 true w (Kd.C_of_reads (d := (0 : Int)) (h1 := fun _ => rfl) hr0) hc0 (Kd.C_of_reads (d := (0 : Int)) (h1 := fun _ => rfl) hr1) hc1 h rfl).mono ?_
 rintro e w' ⟨rfl, hd⟩
 exact ⟨rfl, hd⟩

end Go.Proofs.Ytnaginnhccldhaa.P
