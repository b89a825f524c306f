-- Written by a program of this session (wip/mkprint.py over the kit's print), out of the translation. Not trusted: Lean checks it.
import Derived.Test.YtopoekpappdclaaPx0
import Derived.Test.YtopoekpappdclaaPx1
import Derived.Test.YtopoekpappdclaaPx2
import Derived.Test.YtopoekpappdclaaPx3
import Derived.Test.YtopoekpappdclaaPx4
namespace Go.Proofs.Ytopoekpappdclaa.P
open Go.RowKit Go.Proofs.YtopoekpappdclaaW.PrintWords Go.Proofs.YtopoekpappdclaaW.PrintLast Go.Proofs.YtopoekpappdclaaW.PrintMore
attribute [local go_sem] max2_int min2_int max_two min_two max_three min_three max_four min_four   -- for this text's walks alone
set_option linter.unusedVariables false
set_option linter.unusedSimpArgs false

/-! ### laws_FnRunsOfPairs: function 3 -/
mutual
def laws_FnRunsOfPairs.j0 : Nat → List Int → Int → Int → Int → Int → List (List Int) → Bool → Int → Int → Bool → Bool → Option (Bool)
 | 0, _, _, _, _, _, _, _, _, _, _, _ => none
 | k + 1, x1, x5, x6, x7, x8, x9, x10, x13, x14, x15, x116 => if x116 = true then (some false) else (if x10 = true then (if 0 ≤ (wrap64 ((x9.length : Int) - 1)) then (if (wrap64 ((x9.length : Int) - 1)) < (x9.length : Int) then (if 0 < (x9.length : Int) then ((laws_vSame.f k (rd_L2 x9 0) (([x5, x6] : List Int))).bind fun t319 => (if t319 = true then ((laws_vSame.f k (rd_L2 x9 (wrap64 ((x9.length : Int) - 1))) (([x13, x14] : List Int))).bind fun t323 => (laws_FnRunsOfPairs.j1 k x1 x7 x8 x9 x13 x14 x15 (!t323))) else (laws_FnRunsOfPairs.j1 k x1 x7 x8 x9 x13 x14 x15 true))) else (none)) else (none)) else (none)) else (laws_FnRunsOfPairs.j3 k x1 x7 x8 x13 x14 x15))
def laws_FnRunsOfPairs.j3 : Nat → List Int → Int → Int → Int → Int → Bool → Option (Bool)
 | 0, _, _, _, _, _, _ => none
 | k + 1, x1, x7, x8, x13, x14, x15 => if x15 = true then ((impl_JumpDown.f x13 x14 x7 x8).bind fun bt340 => (if bt340.2.2 = true then (some false) else (laws_FnRunsOfPairs.j4 k x1))) else (laws_FnRunsOfPairs.j4 k x1)
def laws_FnRunsOfPairs.j4 : Nat → List Int → Option (Bool)
 | 0, _ => none
 | k + 1, x1 => (spec_DrawAscendPair.f k x1).bind fun bt343 => ((impl_AscendPair.f k bt343.1 bt343.2.1 bt343.2.2.1 bt343.2.2.2.1 bt343.2.2.2.2).bind fun bt348 => ((spec_AscendPair.f k bt343.1 bt343.2.1 bt343.2.2.1 bt343.2.2.2.1 bt343.2.2.2.2).bind fun bt352 => (if (bt348.2 != bt352.2) = true then (laws_FnRunsOfPairs.j5 k bt343.2.2.1 bt343.2.2.2.1 bt343.2.2.2.2 bt348.1 bt348.2 true) else ((laws_vSameLists.f k bt348.1 bt352.1).bind fun t356 => (laws_FnRunsOfPairs.j5 k bt343.2.2.1 bt343.2.2.2.1 bt343.2.2.2.2 bt348.1 bt348.2 (!t356))))))
def laws_FnRunsOfPairs.j5 : Nat → Int → Int → Int → List (List Int) → Bool → Bool → Option (Bool)
 | 0, _, _, _, _, _, _ => none
 | k + 1, x29, x30, x31, x32, x33, x246 => if x246 = true then (some false) else (if x33 = true then (laws_FnRunsOfPairs.l1 k x29 x30 x31 x32 1) else (some true))
def laws_FnRunsOfPairs.l1 : Nat → Int → Int → Int → List (List Int) → Int → Option (Bool)
 | 0, _, _, _, _, _ => none
 | k + 1, x29, x30, x31, x32, x36 => if x36 < (x32.length : Int) then (if 0 ≤ (wrap64 (x36 - 1)) then (if (wrap64 (x36 - 1)) < (x32.length : Int) then (if 0 < ((rd_L2 x32 (wrap64 (x36 - 1))).length : Int) then (if 1 < ((rd_L2 x32 (wrap64 (x36 - 1))).length : Int) then ((impl_JumpUp.f (rd (rd_L2 x32 (wrap64 (x36 - 1))) 0) (rd (rd_L2 x32 (wrap64 (x36 - 1))) 1) x29 x30).bind fun bt361 => (if bt361.2.2 = true then (if 0 ≤ x36 then ((laws_vSame.f k (rd_L2 x32 x36) (([bt361.1, bt361.2.1] : List Int))).bind fun t368 => (if t368 = true then (laws_FnRunsOfPairs.l1 k x29 x30 x31 x32 (wrap64 (x36 + 1))) else (some false))) else (none)) else (some false))) else (none)) else (none)) else (none)) else (none)) else (some ((x32.length : Int) == (wrap64 (x31 + 1))))
def laws_FnRunsOfPairs.j1 : Nat → List Int → Int → Int → List (List Int) → Int → Int → Bool → Bool → Option (Bool)
 | 0, _, _, _, _, _, _, _, _ => none
 | k + 1, x1, x7, x8, x9, x13, x14, x15, x139 => if x139 = true then (some false) else (laws_FnRunsOfPairs.l0 k x1 x7 x8 x9 x13 x14 x15 1)
def laws_FnRunsOfPairs.l0 : Nat → List Int → Int → Int → List (List Int) → Int → Int → Bool → Int → Option (Bool)
 | 0, _, _, _, _, _, _, _, _ => none
 | k + 1, x1, x7, x8, x9, x13, x14, x15, x20 => if x20 < (x9.length : Int) then (if 0 ≤ (wrap64 (x20 - 1)) then (if (wrap64 (x20 - 1)) < (x9.length : Int) then (if 0 < ((rd_L2 x9 (wrap64 (x20 - 1))).length : Int) then (if 1 < ((rd_L2 x9 (wrap64 (x20 - 1))).length : Int) then ((impl_JumpDown.f (rd (rd_L2 x9 (wrap64 (x20 - 1))) 0) (rd (rd_L2 x9 (wrap64 (x20 - 1))) 1) x7 x8).bind fun bt328 => (if bt328.2.2 = true then (if 0 ≤ x20 then ((laws_vSame.f k (rd_L2 x9 x20) (([bt328.1, bt328.2.1] : List Int))).bind fun t335 => (if t335 = true then (if (wrap64 (bt328.1 + bt328.2.1)) ≥ (wrap64 ((rd (rd_L2 x9 (wrap64 (x20 - 1))) 0) + (rd (rd_L2 x9 (wrap64 (x20 - 1))) 1))) then (some false) else (laws_FnRunsOfPairs.l0 k x1 x7 x8 x9 x13 x14 x15 (wrap64 (x20 + 1)))) else (some false))) else (none)) else (some false))) else (none)) else (none)) else (none)) else (none)) else (laws_FnRunsOfPairs.j3 k x1 x7 x8 x13 x14 x15)
end
def laws_FnRunsOfPairs.f (k : Nat) (l0 : List Int) (l1 : List Int) : Option (Bool) := (laws_big.f l0 l1).bind fun t293 => (if t293 = true then (some true) else ((spec_DrawDescendPair.f k l0).bind fun bt294 => ((impl_DescendPair.f k bt294.1 bt294.2.1 bt294.2.2.1 bt294.2.2.2).bind fun bt298 => ((spec_DescendPair.f k bt294.1 bt294.2.1 bt294.2.2.1 bt294.2.2.2).bind fun bt302 => ((impl_LeastPair.f k bt294.1 bt294.2.1 bt294.2.2.1 bt294.2.2.2).bind fun bt306 => ((spec_LeastPair.f k bt294.1 bt294.2.1 bt294.2.2.1 bt294.2.2.2).bind fun bt309 => (if (bt298.2 != bt302.2) = true then (laws_FnRunsOfPairs.j0 k l1 bt294.1 bt294.2.1 bt294.2.2.1 bt294.2.2.2 bt298.1 bt298.2 bt306.1 bt306.2.1 bt306.2.2 true) else ((laws_vSameLists.f k bt298.1 bt302.1).bind fun t312 => (if t312 = true then (if (bt306.2.2 != bt309.2.2) = true then (laws_FnRunsOfPairs.j0 k l1 bt294.1 bt294.2.1 bt294.2.2.1 bt294.2.2.2 bt298.1 bt298.2 bt306.1 bt306.2.1 bt306.2.2 true) else (if bt306.1 = bt309.1 then (if bt306.2.1 = bt309.2.1 then ((laws_vPair.f bt294.1 bt294.2.1 bt294.2.2.1 bt294.2.2.2).bind fun t313 => (laws_FnRunsOfPairs.j0 k l1 bt294.1 bt294.2.1 bt294.2.2.1 bt294.2.2.2 bt298.1 bt298.2 bt306.1 bt306.2.1 bt306.2.2 (bt306.2.2 != t313))) else (laws_FnRunsOfPairs.j0 k l1 bt294.1 bt294.2.1 bt294.2.2.1 bt294.2.2.2 bt298.1 bt298.2 bt306.1 bt306.2.1 bt306.2.2 true)) else (laws_FnRunsOfPairs.j0 k l1 bt294.1 bt294.2.1 bt294.2.2.1 bt294.2.2.2 bt298.1 bt298.2 bt306.1 bt306.2.1 bt306.2.2 true))) else (laws_FnRunsOfPairs.j0 k l1 bt294.1 bt294.2.1 bt294.2.2.1 bt294.2.2.2 bt298.1 bt298.2 bt306.1 bt306.2.1 bt306.2.2 true))))))))))
theorem laws_FnRunsOfPairs.mono_l : ∀ k, (∀ y0 y1 y2 y3 y4 y5 y6 y7 y8 y9 y10, LeO (laws_FnRunsOfPairs.j0 k y0 y1 y2 y3 y4 y5 y6 y7 y8 y9 y10) (laws_FnRunsOfPairs.j0 (k + 1) y0 y1 y2 y3 y4 y5 y6 y7 y8 y9 y10)) ∧ (∀ y0 y1 y2 y3 y4 y5, LeO (laws_FnRunsOfPairs.j3 k y0 y1 y2 y3 y4 y5) (laws_FnRunsOfPairs.j3 (k + 1) y0 y1 y2 y3 y4 y5)) ∧ (∀ y0, LeO (laws_FnRunsOfPairs.j4 k y0) (laws_FnRunsOfPairs.j4 (k + 1) y0)) ∧ (∀ y0 y1 y2 y3 y4 y5, LeO (laws_FnRunsOfPairs.j5 k y0 y1 y2 y3 y4 y5) (laws_FnRunsOfPairs.j5 (k + 1) y0 y1 y2 y3 y4 y5)) ∧ (∀ y0 y1 y2 y3 y4, LeO (laws_FnRunsOfPairs.l1 k y0 y1 y2 y3 y4) (laws_FnRunsOfPairs.l1 (k + 1) y0 y1 y2 y3 y4)) ∧ (∀ y0 y1 y2 y3 y4 y5 y6 y7, LeO (laws_FnRunsOfPairs.j1 k y0 y1 y2 y3 y4 y5 y6 y7) (laws_FnRunsOfPairs.j1 (k + 1) y0 y1 y2 y3 y4 y5 y6 y7)) ∧ (∀ y0 y1 y2 y3 y4 y5 y6 y7, LeO (laws_FnRunsOfPairs.l0 k y0 y1 y2 y3 y4 y5 y6 y7) (laws_FnRunsOfPairs.l0 (k + 1) y0 y1 y2 y3 y4 y5 y6 y7))
 | 0 => ⟨fun _ _ _ _ _ _ _ _ _ _ _ r h => by simp [laws_FnRunsOfPairs.j0] at h, fun _ _ _ _ _ _ r h => by simp [laws_FnRunsOfPairs.j3] at h, fun _ r h => by simp [laws_FnRunsOfPairs.j4] at h, fun _ _ _ _ _ _ r h => by simp [laws_FnRunsOfPairs.j5] at h, fun _ _ _ _ _ r h => by simp [laws_FnRunsOfPairs.l1] at h, fun _ _ _ _ _ _ _ _ r h => by simp [laws_FnRunsOfPairs.j1] at h, fun _ _ _ _ _ _ _ _ r h => by simp [laws_FnRunsOfPairs.l0] at h⟩
 | k + 1 => by
  obtain ⟨ih0, ih1, ih2, ih3, ih4, ih5, ih6⟩ := laws_FnRunsOfPairs.mono_l k
  refine ⟨?_, ?_, ?_, ?_, ?_, ?_, ?_⟩
  ·
   intro y0 y1 y2 y3 y4 y5 y6 y7 y8 y9 y10
   unfold laws_FnRunsOfPairs.j0
   repeat' first
   | (with_reducible exact ih0 _ _ _ _ _ _ _ _ _ _ _)
   | (with_reducible exact ih1 _ _ _ _ _ _)
   | (with_reducible exact ih2 _)
   | (with_reducible exact ih3 _ _ _ _ _ _)
   | (with_reducible exact ih4 _ _ _ _ _)
   | (with_reducible exact ih5 _ _ _ _ _ _ _ _)
   | (with_reducible exact ih6 _ _ _ _ _ _ _ _)
   | (with_reducible exact impl_AscendPair.mono _ _ _ _ _ _)
   | (with_reducible exact impl_DescendPair.mono _ _ _ _ _)
   | (with_reducible exact impl_LeastPair.mono _ _ _ _ _)
   | (with_reducible exact laws_vSame.mono _ _ _)
   | (with_reducible exact laws_vSameLists.mono _ _ _)
   | (with_reducible exact spec_AscendPair.mono _ _ _ _ _ _)
   | (with_reducible exact spec_DescendPair.mono _ _ _ _ _)
   | (with_reducible exact spec_DrawAscendPair.mono _ _)
   | (with_reducible exact spec_DrawDescendPair.mono _ _)
   | (with_reducible exact spec_LeastPair.mono _ _ _ _ _)
   | (with_reducible exact LeO.refl _)
   | (with_reducible exact LeO.none _)
   | (with_reducible refine LeO.ite ?_ ?_)
   | (with_reducible refine LeO.bind ?_ (fun _ => ?_))
   | exact ih0 _ _ _ _ _ _ _ _ _ _ _
   | exact ih1 _ _ _ _ _ _
   | exact ih2 _
   | exact ih3 _ _ _ _ _ _
   | exact ih4 _ _ _ _ _
   | exact ih5 _ _ _ _ _ _ _ _
   | exact ih6 _ _ _ _ _ _ _ _
   | exact impl_AscendPair.mono _ _ _ _ _ _
   | exact impl_DescendPair.mono _ _ _ _ _
   | exact impl_LeastPair.mono _ _ _ _ _
   | exact laws_vSame.mono _ _ _
   | exact laws_vSameLists.mono _ _ _
   | exact spec_AscendPair.mono _ _ _ _ _ _
   | exact spec_DescendPair.mono _ _ _ _ _
   | exact spec_DrawAscendPair.mono _ _
   | exact spec_DrawDescendPair.mono _ _
   | exact spec_LeastPair.mono _ _ _ _ _
   | exact LeO.none _
   | refine LeO.ite ?_ ?_
   | refine LeO.bind ?_ (fun _ => ?_)
  ·
   intro y0 y1 y2 y3 y4 y5
   unfold laws_FnRunsOfPairs.j3
   repeat' first
   | (with_reducible exact ih0 _ _ _ _ _ _ _ _ _ _ _)
   | (with_reducible exact ih1 _ _ _ _ _ _)
   | (with_reducible exact ih2 _)
   | (with_reducible exact ih3 _ _ _ _ _ _)
   | (with_reducible exact ih4 _ _ _ _ _)
   | (with_reducible exact ih5 _ _ _ _ _ _ _ _)
   | (with_reducible exact ih6 _ _ _ _ _ _ _ _)
   | (with_reducible exact impl_AscendPair.mono _ _ _ _ _ _)
   | (with_reducible exact impl_DescendPair.mono _ _ _ _ _)
   | (with_reducible exact impl_LeastPair.mono _ _ _ _ _)
   | (with_reducible exact laws_vSame.mono _ _ _)
   | (with_reducible exact laws_vSameLists.mono _ _ _)
   | (with_reducible exact spec_AscendPair.mono _ _ _ _ _ _)
   | (with_reducible exact spec_DescendPair.mono _ _ _ _ _)
   | (with_reducible exact spec_DrawAscendPair.mono _ _)
   | (with_reducible exact spec_DrawDescendPair.mono _ _)
   | (with_reducible exact spec_LeastPair.mono _ _ _ _ _)
   | (with_reducible exact LeO.refl _)
   | (with_reducible exact LeO.none _)
   | (with_reducible refine LeO.ite ?_ ?_)
   | (with_reducible refine LeO.bind ?_ (fun _ => ?_))
   | exact ih0 _ _ _ _ _ _ _ _ _ _ _
   | exact ih1 _ _ _ _ _ _
   | exact ih2 _
   | exact ih3 _ _ _ _ _ _
   | exact ih4 _ _ _ _ _
   | exact ih5 _ _ _ _ _ _ _ _
   | exact ih6 _ _ _ _ _ _ _ _
   | exact impl_AscendPair.mono _ _ _ _ _ _
   | exact impl_DescendPair.mono _ _ _ _ _
   | exact impl_LeastPair.mono _ _ _ _ _
   | exact laws_vSame.mono _ _ _
   | exact laws_vSameLists.mono _ _ _
   | exact spec_AscendPair.mono _ _ _ _ _ _
   | exact spec_DescendPair.mono _ _ _ _ _
   | exact spec_DrawAscendPair.mono _ _
   | exact spec_DrawDescendPair.mono _ _
   | exact spec_LeastPair.mono _ _ _ _ _
   | exact LeO.none _
   | refine LeO.ite ?_ ?_
   | refine LeO.bind ?_ (fun _ => ?_)
  ·
   intro y0
   unfold laws_FnRunsOfPairs.j4
   repeat' first
   | (with_reducible exact ih0 _ _ _ _ _ _ _ _ _ _ _)
   | (with_reducible exact ih1 _ _ _ _ _ _)
   | (with_reducible exact ih2 _)
   | (with_reducible exact ih3 _ _ _ _ _ _)
   | (with_reducible exact ih4 _ _ _ _ _)
   | (with_reducible exact ih5 _ _ _ _ _ _ _ _)
   | (with_reducible exact ih6 _ _ _ _ _ _ _ _)
   | (with_reducible exact impl_AscendPair.mono _ _ _ _ _ _)
   | (with_reducible exact impl_DescendPair.mono _ _ _ _ _)
   | (with_reducible exact impl_LeastPair.mono _ _ _ _ _)
   | (with_reducible exact laws_vSame.mono _ _ _)
   | (with_reducible exact laws_vSameLists.mono _ _ _)
   | (with_reducible exact spec_AscendPair.mono _ _ _ _ _ _)
   | (with_reducible exact spec_DescendPair.mono _ _ _ _ _)
   | (with_reducible exact spec_DrawAscendPair.mono _ _)
   | (with_reducible exact spec_DrawDescendPair.mono _ _)
   | (with_reducible exact spec_LeastPair.mono _ _ _ _ _)
   | (with_reducible exact LeO.refl _)
   | (with_reducible exact LeO.none _)
   | (with_reducible refine LeO.ite ?_ ?_)
   | (with_reducible refine LeO.bind ?_ (fun _ => ?_))
   | exact ih0 _ _ _ _ _ _ _ _ _ _ _
   | exact ih1 _ _ _ _ _ _
   | exact ih2 _
   | exact ih3 _ _ _ _ _ _
   | exact ih4 _ _ _ _ _
   | exact ih5 _ _ _ _ _ _ _ _
   | exact ih6 _ _ _ _ _ _ _ _
   | exact impl_AscendPair.mono _ _ _ _ _ _
   | exact impl_DescendPair.mono _ _ _ _ _
   | exact impl_LeastPair.mono _ _ _ _ _
   | exact laws_vSame.mono _ _ _
   | exact laws_vSameLists.mono _ _ _
   | exact spec_AscendPair.mono _ _ _ _ _ _
   | exact spec_DescendPair.mono _ _ _ _ _
   | exact spec_DrawAscendPair.mono _ _
   | exact spec_DrawDescendPair.mono _ _
   | exact spec_LeastPair.mono _ _ _ _ _
   | exact LeO.none _
   | refine LeO.ite ?_ ?_
   | refine LeO.bind ?_ (fun _ => ?_)
  ·
   intro y0 y1 y2 y3 y4 y5
   unfold laws_FnRunsOfPairs.j5
   repeat' first
   | (with_reducible exact ih0 _ _ _ _ _ _ _ _ _ _ _)
   | (with_reducible exact ih1 _ _ _ _ _ _)
   | (with_reducible exact ih2 _)
   | (with_reducible exact ih3 _ _ _ _ _ _)
   | (with_reducible exact ih4 _ _ _ _ _)
   | (with_reducible exact ih5 _ _ _ _ _ _ _ _)
   | (with_reducible exact ih6 _ _ _ _ _ _ _ _)
   | (with_reducible exact impl_AscendPair.mono _ _ _ _ _ _)
   | (with_reducible exact impl_DescendPair.mono _ _ _ _ _)
   | (with_reducible exact impl_LeastPair.mono _ _ _ _ _)
   | (with_reducible exact laws_vSame.mono _ _ _)
   | (with_reducible exact laws_vSameLists.mono _ _ _)
   | (with_reducible exact spec_AscendPair.mono _ _ _ _ _ _)
   | (with_reducible exact spec_DescendPair.mono _ _ _ _ _)
   | (with_reducible exact spec_DrawAscendPair.mono _ _)
   | (with_reducible exact spec_DrawDescendPair.mono _ _)
   | (with_reducible exact spec_LeastPair.mono _ _ _ _ _)
   | (with_reducible exact LeO.refl _)
   | (with_reducible exact LeO.none _)
   | (with_reducible refine LeO.ite ?_ ?_)
   | (with_reducible refine LeO.bind ?_ (fun _ => ?_))
   | exact ih0 _ _ _ _ _ _ _ _ _ _ _
   | exact ih1 _ _ _ _ _ _
   | exact ih2 _
   | exact ih3 _ _ _ _ _ _
   | exact ih4 _ _ _ _ _
   | exact ih5 _ _ _ _ _ _ _ _
   | exact ih6 _ _ _ _ _ _ _ _
   | exact impl_AscendPair.mono _ _ _ _ _ _
   | exact impl_DescendPair.mono _ _ _ _ _
   | exact impl_LeastPair.mono _ _ _ _ _
   | exact laws_vSame.mono _ _ _
   | exact laws_vSameLists.mono _ _ _
   | exact spec_AscendPair.mono _ _ _ _ _ _
   | exact spec_DescendPair.mono _ _ _ _ _
   | exact spec_DrawAscendPair.mono _ _
   | exact spec_DrawDescendPair.mono _ _
   | exact spec_LeastPair.mono _ _ _ _ _
   | exact LeO.none _
   | refine LeO.ite ?_ ?_
   | refine LeO.bind ?_ (fun _ => ?_)
  ·
   intro y0 y1 y2 y3 y4
   unfold laws_FnRunsOfPairs.l1
   repeat' first
   | (with_reducible exact ih0 _ _ _ _ _ _ _ _ _ _ _)
   | (with_reducible exact ih1 _ _ _ _ _ _)
   | (with_reducible exact ih2 _)
   | (with_reducible exact ih3 _ _ _ _ _ _)
   | (with_reducible exact ih4 _ _ _ _ _)
   | (with_reducible exact ih5 _ _ _ _ _ _ _ _)
   | (with_reducible exact ih6 _ _ _ _ _ _ _ _)
   | (with_reducible exact impl_AscendPair.mono _ _ _ _ _ _)
   | (with_reducible exact impl_DescendPair.mono _ _ _ _ _)
   | (with_reducible exact impl_LeastPair.mono _ _ _ _ _)
   | (with_reducible exact laws_vSame.mono _ _ _)
   | (with_reducible exact laws_vSameLists.mono _ _ _)
   | (with_reducible exact spec_AscendPair.mono _ _ _ _ _ _)
   | (with_reducible exact spec_DescendPair.mono _ _ _ _ _)
   | (with_reducible exact spec_DrawAscendPair.mono _ _)
   | (with_reducible exact spec_DrawDescendPair.mono _ _)
   | (with_reducible exact spec_LeastPair.mono _ _ _ _ _)
   | (with_reducible exact LeO.refl _)
   | (with_reducible exact LeO.none _)
   | (with_reducible refine LeO.ite ?_ ?_)
   | (with_reducible refine LeO.bind ?_ (fun _ => ?_))
   | exact ih0 _ _ _ _ _ _ _ _ _ _ _
   | exact ih1 _ _ _ _ _ _
   | exact ih2 _
   | exact ih3 _ _ _ _ _ _
   | exact ih4 _ _ _ _ _
   | exact ih5 _ _ _ _ _ _ _ _
   | exact ih6 _ _ _ _ _ _ _ _
   | exact impl_AscendPair.mono _ _ _ _ _ _
   | exact impl_DescendPair.mono _ _ _ _ _
   | exact impl_LeastPair.mono _ _ _ _ _
   | exact laws_vSame.mono _ _ _
   | exact laws_vSameLists.mono _ _ _
   | exact spec_AscendPair.mono _ _ _ _ _ _
   | exact spec_DescendPair.mono _ _ _ _ _
   | exact spec_DrawAscendPair.mono _ _
   | exact spec_DrawDescendPair.mono _ _
   | exact spec_LeastPair.mono _ _ _ _ _
   | exact LeO.none _
   | refine LeO.ite ?_ ?_
   | refine LeO.bind ?_ (fun _ => ?_)
  ·
   intro y0 y1 y2 y3 y4 y5 y6 y7
   unfold laws_FnRunsOfPairs.j1
   repeat' first
   | (with_reducible exact ih0 _ _ _ _ _ _ _ _ _ _ _)
   | (with_reducible exact ih1 _ _ _ _ _ _)
   | (with_reducible exact ih2 _)
   | (with_reducible exact ih3 _ _ _ _ _ _)
   | (with_reducible exact ih4 _ _ _ _ _)
   | (with_reducible exact ih5 _ _ _ _ _ _ _ _)
   | (with_reducible exact ih6 _ _ _ _ _ _ _ _)
   | (with_reducible exact impl_AscendPair.mono _ _ _ _ _ _)
   | (with_reducible exact impl_DescendPair.mono _ _ _ _ _)
   | (with_reducible exact impl_LeastPair.mono _ _ _ _ _)
   | (with_reducible exact laws_vSame.mono _ _ _)
   | (with_reducible exact laws_vSameLists.mono _ _ _)
   | (with_reducible exact spec_AscendPair.mono _ _ _ _ _ _)
   | (with_reducible exact spec_DescendPair.mono _ _ _ _ _)
   | (with_reducible exact spec_DrawAscendPair.mono _ _)
   | (with_reducible exact spec_DrawDescendPair.mono _ _)
   | (with_reducible exact spec_LeastPair.mono _ _ _ _ _)
   | (with_reducible exact LeO.refl _)
   | (with_reducible exact LeO.none _)
   | (with_reducible refine LeO.ite ?_ ?_)
   | (with_reducible refine LeO.bind ?_ (fun _ => ?_))
   | exact ih0 _ _ _ _ _ _ _ _ _ _ _
   | exact ih1 _ _ _ _ _ _
   | exact ih2 _
   | exact ih3 _ _ _ _ _ _
   | exact ih4 _ _ _ _ _
   | exact ih5 _ _ _ _ _ _ _ _
   | exact ih6 _ _ _ _ _ _ _ _
   | exact impl_AscendPair.mono _ _ _ _ _ _
   | exact impl_DescendPair.mono _ _ _ _ _
   | exact impl_LeastPair.mono _ _ _ _ _
   | exact laws_vSame.mono _ _ _
   | exact laws_vSameLists.mono _ _ _
   | exact spec_AscendPair.mono _ _ _ _ _ _
   | exact spec_DescendPair.mono _ _ _ _ _
   | exact spec_DrawAscendPair.mono _ _
   | exact spec_DrawDescendPair.mono _ _
   | exact spec_LeastPair.mono _ _ _ _ _
   | exact LeO.none _
   | refine LeO.ite ?_ ?_
   | refine LeO.bind ?_ (fun _ => ?_)
  ·
   intro y0 y1 y2 y3 y4 y5 y6 y7
   unfold laws_FnRunsOfPairs.l0
   repeat' first
   | (with_reducible exact ih0 _ _ _ _ _ _ _ _ _ _ _)
   | (with_reducible exact ih1 _ _ _ _ _ _)
   | (with_reducible exact ih2 _)
   | (with_reducible exact ih3 _ _ _ _ _ _)
   | (with_reducible exact ih4 _ _ _ _ _)
   | (with_reducible exact ih5 _ _ _ _ _ _ _ _)
   | (with_reducible exact ih6 _ _ _ _ _ _ _ _)
   | (with_reducible exact impl_AscendPair.mono _ _ _ _ _ _)
   | (with_reducible exact impl_DescendPair.mono _ _ _ _ _)
   | (with_reducible exact impl_LeastPair.mono _ _ _ _ _)
   | (with_reducible exact laws_vSame.mono _ _ _)
   | (with_reducible exact laws_vSameLists.mono _ _ _)
   | (with_reducible exact spec_AscendPair.mono _ _ _ _ _ _)
   | (with_reducible exact spec_DescendPair.mono _ _ _ _ _)
   | (with_reducible exact spec_DrawAscendPair.mono _ _)
   | (with_reducible exact spec_DrawDescendPair.mono _ _)
   | (with_reducible exact spec_LeastPair.mono _ _ _ _ _)
   | (with_reducible exact LeO.refl _)
   | (with_reducible exact LeO.none _)
   | (with_reducible refine LeO.ite ?_ ?_)
   | (with_reducible refine LeO.bind ?_ (fun _ => ?_))
   | exact ih0 _ _ _ _ _ _ _ _ _ _ _
   | exact ih1 _ _ _ _ _ _
   | exact ih2 _
   | exact ih3 _ _ _ _ _ _
   | exact ih4 _ _ _ _ _
   | exact ih5 _ _ _ _ _ _ _ _
   | exact ih6 _ _ _ _ _ _ _ _
   | exact impl_AscendPair.mono _ _ _ _ _ _
   | exact impl_DescendPair.mono _ _ _ _ _
   | exact impl_LeastPair.mono _ _ _ _ _
   | exact laws_vSame.mono _ _ _
   | exact laws_vSameLists.mono _ _ _
   | exact spec_AscendPair.mono _ _ _ _ _ _
   | exact spec_DescendPair.mono _ _ _ _ _
   | exact spec_DrawAscendPair.mono _ _
   | exact spec_DrawDescendPair.mono _ _
   | exact spec_LeastPair.mono _ _ _ _ _
   | exact LeO.none _
   | refine LeO.ite ?_ ?_
   | refine LeO.bind ?_ (fun _ => ?_)
theorem laws_FnRunsOfPairs.mono : ∀ a0 a1 k, LeO (laws_FnRunsOfPairs.f k a0 a1) (laws_FnRunsOfPairs.f (k + 1) a0 a1) := by
 intro a0 a1 k
 obtain ⟨ih0, ih1, ih2, ih3, ih4, ih5, ih6⟩ := laws_FnRunsOfPairs.mono_l k
 unfold laws_FnRunsOfPairs.f
 repeat' first
  | (with_reducible exact ih0 _ _ _ _ _ _ _ _ _ _ _)
  | (with_reducible exact ih1 _ _ _ _ _ _)
  | (with_reducible exact ih2 _)
  | (with_reducible exact ih3 _ _ _ _ _ _)
  | (with_reducible exact ih4 _ _ _ _ _)
  | (with_reducible exact ih5 _ _ _ _ _ _ _ _)
  | (with_reducible exact ih6 _ _ _ _ _ _ _ _)
  | (with_reducible exact impl_AscendPair.mono _ _ _ _ _ _)
  | (with_reducible exact impl_DescendPair.mono _ _ _ _ _)
  | (with_reducible exact impl_LeastPair.mono _ _ _ _ _)
  | (with_reducible exact laws_vSame.mono _ _ _)
  | (with_reducible exact laws_vSameLists.mono _ _ _)
  | (with_reducible exact spec_AscendPair.mono _ _ _ _ _ _)
  | (with_reducible exact spec_DescendPair.mono _ _ _ _ _)
  | (with_reducible exact spec_DrawAscendPair.mono _ _)
  | (with_reducible exact spec_DrawDescendPair.mono _ _)
  | (with_reducible exact spec_LeastPair.mono _ _ _ _ _)
  | (with_reducible exact LeO.refl _)
  | (with_reducible exact LeO.none _)
  | (with_reducible refine LeO.ite ?_ ?_)
  | (with_reducible refine LeO.bind ?_ (fun _ => ?_))
  | exact ih0 _ _ _ _ _ _ _ _ _ _ _
  | exact ih1 _ _ _ _ _ _
  | exact ih2 _
  | exact ih3 _ _ _ _ _ _
  | exact ih4 _ _ _ _ _
  | exact ih5 _ _ _ _ _ _ _ _
  | exact ih6 _ _ _ _ _ _ _ _
  | exact impl_AscendPair.mono _ _ _ _ _ _
  | exact impl_DescendPair.mono _ _ _ _ _
  | exact impl_LeastPair.mono _ _ _ _ _
  | exact laws_vSame.mono _ _ _
  | exact laws_vSameLists.mono _ _ _
  | exact spec_AscendPair.mono _ _ _ _ _ _
  | exact spec_DescendPair.mono _ _ _ _ _
  | exact spec_DrawAscendPair.mono _ _
  | exact spec_DrawDescendPair.mono _ _
  | exact spec_LeastPair.mono _ _ _ _ _
  | exact LeO.none _
  | refine LeO.ite ?_ ?_
  | refine LeO.bind ?_ (fun _ => ?_)
def laws_FnRunsOfPairs.T17 : Bool × List (List Nat × List Nat) := (true, [([], []), ([], []), ([1], [1]), ([0, 2], [0, 2]), ([3], [3]), ([4], [4]), ([5], [5]), ([], []), ([], []), ([8], [8]), ([7, 9], [7, 9]), ([10], [10]), ([11], [11]), ([12], [12]), ([], []), ([], []), ([6, 13, 14, 15], [6, 13, 14, 15]), ([16], [16]), ([17], [17]), ([17], [17]), ([17], [17]), ([18, 16, 0, 1, 2, 3, 4, 5, 6, 7, 8, 9, 10, 11, 12, 13, 14, 15, 16, 17, 18], [18]), ([19, 21, 0, 1, 2, 3, 4, 5, 6, 7, 8, 9, 10, 11, 12, 13, 14, 15, 16, 17, 18, 19, 21], [19]), ([20, 22, 0, 1, 2, 3, 4, 5, 6, 7, 8, 9, 10, 11, 12, 13, 14, 15, 16, 17, 18, 19, 20, 21, 22], [20])])
def laws_FnRunsOfPairs.B17 : List Nat := [0, 0, 2, 7, 15, 31, 63, 0, 0, 256, 896, 1920, 3968, 8064, 0, 0, 65535, 131071, 262143, 262143, 262143, 524287, 3145727, 8388607]
theorem laws_FnRunsOfPairs.tab17 : rtab .any (opsOf Try.f3 17) = laws_FnRunsOfPairs.T17 := by kernel_rfl
theorem laws_FnRunsOfPairs.bits17 : waitsOk laws_FnRunsOfPairs.T17.2 laws_FnRunsOfPairs.B17 = true := by kernel_rfl
def laws_FnRunsOfPairs.T18 : Bool × List (List Nat × List Nat) := (true, [([], []), ([0], [0]), ([1], [1]), ([2], [2]), ([2], [2]), ([3, 4, 2], [2, 3, 4]), ([5, 2], [2, 5]), ([2], [2]), ([2], [2]), ([7, 8, 2], [2, 7, 8]), ([6, 9, 2, 2], [2, 6, 9]), ([10, 2], [2, 10]), ([2, 11], [2, 11]), ([12, 10], [12]), ([13], [13]), ([13], [13]), ([14, 15, 13], [13, 14, 15]), ([13], [13]), ([13], [13]), ([18, 13], [13, 18]), ([17, 19, 13], [13, 17, 19]), ([20, 13], [13, 20]), ([21, 13], [13, 21]), ([22, 13], [13, 22]), ([13], [13]), ([13], [13]), ([25, 13], [13, 25]), ([24, 26, 13], [13, 24, 26]), ([27, 13], [13, 27]), ([28, 13], [13, 28]), ([29, 13], [13, 29]), ([23, 30, 13], [13, 23, 30]), ([16, 31, 13], [13, 16, 31]), ([13, 32], [13, 32])])
def laws_FnRunsOfPairs.B18 : List Nat := [0, 1, 3, 7, 7, 31, 63, 7, 7, 391, 1023, 2047, 4095, 8191, 16383, 16383, 65535, 16383, 16383, 278527, 933887, 1982463, 4079615, 8273919, 16383, 16383, 33570815, 117456895, 251674623, 520110079, 1056980991, 2147368959, 4294967295, 8589934591]
theorem laws_FnRunsOfPairs.tab18 : rtab .any (opsOf Try.f3 18) = laws_FnRunsOfPairs.T18 := by kernel_rfl
theorem laws_FnRunsOfPairs.bits18 : waitsOk laws_FnRunsOfPairs.T18.2 laws_FnRunsOfPairs.B18 = true := by kernel_rfl
def laws_FnRunsOfPairs.T34 : Bool × List (List Nat × List Nat) := (true, [([], []), ([], []), ([1], [1]), ([0, 2], [0, 2]), ([3], [3]), ([4], [4]), ([5], [5]), ([], []), ([], []), ([8], [8]), ([7, 9], [7, 9]), ([10], [10]), ([11], [11]), ([12], [12]), ([], []), ([], []), ([6, 13, 14, 15], [6, 13, 14, 15]), ([16], [16]), ([17], [17]), ([17], [17]), ([17], [17]), ([18, 16, 0, 1, 2, 3, 4, 5, 6, 7, 8, 9, 10, 11, 12, 13, 14, 15, 16, 17, 18], [18]), ([19, 21, 0, 1, 2, 3, 4, 5, 6, 7, 8, 9, 10, 11, 12, 13, 14, 15, 16, 17, 18, 19, 21], [19]), ([20, 22, 0, 1, 2, 3, 4, 5, 6, 7, 8, 9, 10, 11, 12, 13, 14, 15, 16, 17, 18, 19, 20, 21, 22], [20])])
def laws_FnRunsOfPairs.B34 : List Nat := [0, 0, 2, 7, 15, 31, 63, 0, 0, 256, 896, 1920, 3968, 8064, 0, 0, 65535, 131071, 262143, 262143, 262143, 524287, 3145727, 8388607]
theorem laws_FnRunsOfPairs.tab34 : rtab .any (opsOf Try.f3 34) = laws_FnRunsOfPairs.T34 := by kernel_rfl
theorem laws_FnRunsOfPairs.bits34 : waitsOk laws_FnRunsOfPairs.T34.2 laws_FnRunsOfPairs.B34 = true := by kernel_rfl
theorem laws_FnRunsOfPairs.j0_no : ∀ {k y0 y1 y2 y3 y4 y5 y6 y7 y8 y9}, laws_FnRunsOfPairs.j0 k y0 y1 y2 y3 y4 y5 y6 y7 y8 y9 true = some true → False := by
 intro k y0 y1 y2 y3 y4 y5 y6 y7 y8 y9 h
 cases k <;> simp [laws_FnRunsOfPairs.j0] at h
theorem laws_FnRunsOfPairs.j5_no : ∀ {k y0 y1 y2 y3 y4}, laws_FnRunsOfPairs.j5 k y0 y1 y2 y3 y4 true = some true → False := by
 intro k y0 y1 y2 y3 y4 h
 cases k <;> simp [laws_FnRunsOfPairs.j5] at h
theorem laws_FnRunsOfPairs.j1_no : ∀ {k y0 y1 y2 y3 y4 y5 y6}, laws_FnRunsOfPairs.j1 k y0 y1 y2 y3 y4 y5 y6 true = some true → False := by
 intro k y0 y1 y2 y3 y4 y5 y6 h
 cases k <;> simp [laws_FnRunsOfPairs.j1] at h
set_option maxHeartbeats 8000000 in
set_option maxRecDepth 100000 in
theorem laws_FnRunsOfPairs.calls (k : Nat) (A0 : Option Addr) (c0 : Nat) (l0 : List Int) (A1 : Option Addr) (c1 : Nat) (l1 : List Int) (r : Bool) (w : World) (hr0 : Kd.C (Kd.int .u8) w A0 l0.length l0) (hc0 : l0.length ≤ c0) (hr1 : Kd.C (Kd.int .u8) w A1 l1.length l1) (hc1 : l1.length ≤ c1) (h : laws_FnRunsOfPairs.f k l0 l1 = some r) (hrT : r = true) :
 Calls Try.prog 3 #[.slice A0 l0.length c0, .slice A1 l1.length c1] w fun e w' => e = .returned (.bool r) ∧ Below w.heap.size w w' := by
 have HR0 := Aside0.mk hr0
 have HC0 := Aside0.mk hc0
 clear hr0 hc0
 have HR1 := Aside0.mk hr1
 have HC1 := Aside0.mk hc1
 clear hr1 hc1
 have HB := Aside0.mk (Below.refl w.heap.size w)
 have H : ((laws_big.f l0 l1).bind fun t293 => (if t293 = true then (some true) else ((spec_DrawDescendPair.f k l0).bind fun bt294 => ((impl_DescendPair.f k bt294.1 bt294.2.1 bt294.2.2.1 bt294.2.2.2).bind fun bt298 => ((spec_DescendPair.f k bt294.1 bt294.2.1 bt294.2.2.1 bt294.2.2.2).bind fun bt302 => ((impl_LeastPair.f k bt294.1 bt294.2.1 bt294.2.2.1 bt294.2.2.2).bind fun bt306 => ((spec_LeastPair.f k bt294.1 bt294.2.1 bt294.2.2.1 bt294.2.2.2).bind fun bt309 => (if (bt298.2 != bt302.2) = true then (laws_FnRunsOfPairs.j0 k l1 bt294.1 bt294.2.1 bt294.2.2.1 bt294.2.2.2 bt298.1 bt298.2 bt306.1 bt306.2.1 bt306.2.2 true) else ((laws_vSameLists.f k bt298.1 bt302.1).bind fun t312 => (if t312 = true then (if (bt306.2.2 != bt309.2.2) = true then (laws_FnRunsOfPairs.j0 k l1 bt294.1 bt294.2.1 bt294.2.2.1 bt294.2.2.2 bt298.1 bt298.2 bt306.1 bt306.2.1 bt306.2.2 true) else (if bt306.1 = bt309.1 then (if bt306.2.1 = bt309.2.1 then ((laws_vPair.f bt294.1 bt294.2.1 bt294.2.2.1 bt294.2.2.2).bind fun t313 => (laws_FnRunsOfPairs.j0 k l1 bt294.1 bt294.2.1 bt294.2.2.1 bt294.2.2.2 bt298.1 bt298.2 bt306.1 bt306.2.1 bt306.2.2 (bt306.2.2 != t313))) else (laws_FnRunsOfPairs.j0 k l1 bt294.1 bt294.2.1 bt294.2.2.1 bt294.2.2.2 bt298.1 bt298.2 bt306.1 bt306.2.1 bt306.2.2 true)) else (laws_FnRunsOfPairs.j0 k l1 bt294.1 bt294.2.1 bt294.2.2.1 bt294.2.2.2 bt298.1 bt298.2 bt306.1 bt306.2.1 bt306.2.2 true))) else (laws_FnRunsOfPairs.j0 k l1 bt294.1 bt294.2.1 bt294.2.2.1 bt294.2.2.2 bt298.1 bt298.2 bt306.1 bt306.2.1 bt306.2.2 true))))))))))) = some r := h
 clear h
 replace H := Option.bind_eq_some_iff.mp H
 obtain ⟨t293, A30, H⟩ := H
 replace H : (if t293 = true then (some true) else ((spec_DrawDescendPair.f k l0).bind fun bt294 => ((impl_DescendPair.f k bt294.1 bt294.2.1 bt294.2.2.1 bt294.2.2.2).bind fun bt298 => ((spec_DescendPair.f k bt294.1 bt294.2.1 bt294.2.2.1 bt294.2.2.2).bind fun bt302 => ((impl_LeastPair.f k bt294.1 bt294.2.1 bt294.2.2.1 bt294.2.2.2).bind fun bt306 => ((spec_LeastPair.f k bt294.1 bt294.2.1 bt294.2.2.1 bt294.2.2.2).bind fun bt309 => (if (bt298.2 != bt302.2) = true then (laws_FnRunsOfPairs.j0 k l1 bt294.1 bt294.2.1 bt294.2.2.1 bt294.2.2.2 bt298.1 bt298.2 bt306.1 bt306.2.1 bt306.2.2 true) else ((laws_vSameLists.f k bt298.1 bt302.1).bind fun t312 => (if t312 = true then (if (bt306.2.2 != bt309.2.2) = true then (laws_FnRunsOfPairs.j0 k l1 bt294.1 bt294.2.1 bt294.2.2.1 bt294.2.2.2 bt298.1 bt298.2 bt306.1 bt306.2.1 bt306.2.2 true) else (if bt306.1 = bt309.1 then (if bt306.2.1 = bt309.2.1 then ((laws_vPair.f bt294.1 bt294.2.1 bt294.2.2.1 bt294.2.2.2).bind fun t313 => (laws_FnRunsOfPairs.j0 k l1 bt294.1 bt294.2.1 bt294.2.2.1 bt294.2.2.2 bt298.1 bt298.2 bt306.1 bt306.2.1 bt306.2.2 (bt306.2.2 != t313))) else (laws_FnRunsOfPairs.j0 k l1 bt294.1 bt294.2.1 bt294.2.2.1 bt294.2.2.2 bt298.1 bt298.2 bt306.1 bt306.2.1 bt306.2.2 true)) else (laws_FnRunsOfPairs.j0 k l1 bt294.1 bt294.2.1 bt294.2.2.1 bt294.2.2.2 bt298.1 bt298.2 bt306.1 bt306.2.1 bt306.2.2 true))) else (laws_FnRunsOfPairs.j0 k l1 bt294.1 bt294.2.1 bt294.2.2.1 bt294.2.2.2 bt298.1 bt298.2 bt306.1 bt306.2.1 bt306.2.2 true)))))))))) = some r := H
 have A3 := Aside0.mk A30
 clear A30
 by_cases c4 : t293 = true
 ·
  subst c4
  have H1 : (some true) = some r := by rw [if_pos rfl] at H; exact H
  clear H
  have H := H1
  clear H1
  obtain rfl := Option.some.inj H
  go_enter Try.func3, Try.ntmps3
  go_wp2_with (first | ((with_reducible refine gate_callee (f := 4) rfl ?_); refine goesL_ (some 42) rfl rfl Try.func4 (by kernel_rfl) rfl #[.slice A0 l0.length c0, .slice A1 l1.length c1] rfl (by (try simp only [List.map_toArray, List.map_cons, List.map_nil]); first | done | rfl | (simp only [List.length_drop, List.length_take]; rfl)) ?_; (with_reducible refine (laws_big.calls _ _ l0 _ _ l1 true _ ?side1 ?side2 ?side3 ?side4 A3.out).mono ?_); (case side1 => repeat (first | exact HR0.out | (with_reducible refine Kd.C_alloc ?_ _) | (with_reducible refine Kd.C_drewN ?_ _) | (with_reducible refine Kd.C_drew ?_))); (case side2 => exact HC0.out); (case side3 => repeat (first | exact HR1.out | (with_reducible refine Kd.C_alloc ?_ _) | (with_reducible refine Kd.C_drewN ?_ _) | (with_reducible refine Kd.C_drew ?_))); (case side4 => exact HC1.out); rintro e w' ⟨rfl, ⟨nd, rfl⟩⟩; refine ⟨_, rfl, ?_⟩))
  go_ret
  exact ⟨by first | rfl | (simp [errW_none, errW_some] <;> rfl) | (simp [*, errW_none, errW_some] <;> rfl), by repeat (first | (with_reducible first | exact HB.out | apply below_alloc | apply pw_below_drewN | apply below_drew1) | exact HB.out | exact Below.refl _ _)⟩
 ·
  replace c4 := Bool.eq_false_iff.mpr c4
  subst c4
  have H1 : ((spec_DrawDescendPair.f k l0).bind fun bt294 => ((impl_DescendPair.f k bt294.1 bt294.2.1 bt294.2.2.1 bt294.2.2.2).bind fun bt298 => ((spec_DescendPair.f k bt294.1 bt294.2.1 bt294.2.2.1 bt294.2.2.2).bind fun bt302 => ((impl_LeastPair.f k bt294.1 bt294.2.1 bt294.2.2.1 bt294.2.2.2).bind fun bt306 => ((spec_LeastPair.f k bt294.1 bt294.2.1 bt294.2.2.1 bt294.2.2.2).bind fun bt309 => (if (bt298.2 != bt302.2) = true then (laws_FnRunsOfPairs.j0 k l1 bt294.1 bt294.2.1 bt294.2.2.1 bt294.2.2.2 bt298.1 bt298.2 bt306.1 bt306.2.1 bt306.2.2 true) else ((laws_vSameLists.f k bt298.1 bt302.1).bind fun t312 => (if t312 = true then (if (bt306.2.2 != bt309.2.2) = true then (laws_FnRunsOfPairs.j0 k l1 bt294.1 bt294.2.1 bt294.2.2.1 bt294.2.2.2 bt298.1 bt298.2 bt306.1 bt306.2.1 bt306.2.2 true) else (if bt306.1 = bt309.1 then (if bt306.2.1 = bt309.2.1 then ((laws_vPair.f bt294.1 bt294.2.1 bt294.2.2.1 bt294.2.2.2).bind fun t313 => (laws_FnRunsOfPairs.j0 k l1 bt294.1 bt294.2.1 bt294.2.2.1 bt294.2.2.2 bt298.1 bt298.2 bt306.1 bt306.2.1 bt306.2.2 (bt306.2.2 != t313))) else (laws_FnRunsOfPairs.j0 k l1 bt294.1 bt294.2.1 bt294.2.2.1 bt294.2.2.2 bt298.1 bt298.2 bt306.1 bt306.2.1 bt306.2.2 true)) else (laws_FnRunsOfPairs.j0 k l1 bt294.1 bt294.2.1 bt294.2.2.1 bt294.2.2.2 bt298.1 bt298.2 bt306.1 bt306.2.1 bt306.2.2 true))) else (laws_FnRunsOfPairs.j0 k l1 bt294.1 bt294.2.1 bt294.2.2.1 bt294.2.2.2 bt298.1 bt298.2 bt306.1 bt306.2.1 bt306.2.2 true))))))))) = some r := by rw [if_neg (show ¬ (false = true) by decide)] at H; exact H
  clear H
  have H := H1
  clear H1
  replace H := Option.bind_eq_some_iff.mp H
  obtain ⟨⟨t294, t295, t296, t297⟩, A50, H⟩ := H
  replace H : ((impl_DescendPair.f k t294 t295 t296 t297).bind fun bt298 => ((spec_DescendPair.f k t294 t295 t296 t297).bind fun bt302 => ((impl_LeastPair.f k t294 t295 t296 t297).bind fun bt306 => ((spec_LeastPair.f k t294 t295 t296 t297).bind fun bt309 => (if (bt298.2 != bt302.2) = true then (laws_FnRunsOfPairs.j0 k l1 t294 t295 t296 t297 bt298.1 bt298.2 bt306.1 bt306.2.1 bt306.2.2 true) else ((laws_vSameLists.f k bt298.1 bt302.1).bind fun t312 => (if t312 = true then (if (bt306.2.2 != bt309.2.2) = true then (laws_FnRunsOfPairs.j0 k l1 t294 t295 t296 t297 bt298.1 bt298.2 bt306.1 bt306.2.1 bt306.2.2 true) else (if bt306.1 = bt309.1 then (if bt306.2.1 = bt309.2.1 then ((laws_vPair.f t294 t295 t296 t297).bind fun t313 => (laws_FnRunsOfPairs.j0 k l1 t294 t295 t296 t297 bt298.1 bt298.2 bt306.1 bt306.2.1 bt306.2.2 (bt306.2.2 != t313))) else (laws_FnRunsOfPairs.j0 k l1 t294 t295 t296 t297 bt298.1 bt298.2 bt306.1 bt306.2.1 bt306.2.2 true)) else (laws_FnRunsOfPairs.j0 k l1 t294 t295 t296 t297 bt298.1 bt298.2 bt306.1 bt306.2.1 bt306.2.2 true))) else (laws_FnRunsOfPairs.j0 k l1 t294 t295 t296 t297 bt298.1 bt298.2 bt306.1 bt306.2.1 bt306.2.2 true)))))))) = some r := H
  have A5 := Aside0.mk A50
  clear A50
  replace H := Option.bind_eq_some_iff.mp H
  obtain ⟨⟨t298, t299⟩, A60, H⟩ := H
  replace H : ((spec_DescendPair.f k t294 t295 t296 t297).bind fun bt302 => ((impl_LeastPair.f k t294 t295 t296 t297).bind fun bt306 => ((spec_LeastPair.f k t294 t295 t296 t297).bind fun bt309 => (if (t299 != bt302.2) = true then (laws_FnRunsOfPairs.j0 k l1 t294 t295 t296 t297 t298 t299 bt306.1 bt306.2.1 bt306.2.2 true) else ((laws_vSameLists.f k t298 bt302.1).bind fun t312 => (if t312 = true then (if (bt306.2.2 != bt309.2.2) = true then (laws_FnRunsOfPairs.j0 k l1 t294 t295 t296 t297 t298 t299 bt306.1 bt306.2.1 bt306.2.2 true) else (if bt306.1 = bt309.1 then (if bt306.2.1 = bt309.2.1 then ((laws_vPair.f t294 t295 t296 t297).bind fun t313 => (laws_FnRunsOfPairs.j0 k l1 t294 t295 t296 t297 t298 t299 bt306.1 bt306.2.1 bt306.2.2 (bt306.2.2 != t313))) else (laws_FnRunsOfPairs.j0 k l1 t294 t295 t296 t297 t298 t299 bt306.1 bt306.2.1 bt306.2.2 true)) else (laws_FnRunsOfPairs.j0 k l1 t294 t295 t296 t297 t298 t299 bt306.1 bt306.2.1 bt306.2.2 true))) else (laws_FnRunsOfPairs.j0 k l1 t294 t295 t296 t297 t298 t299 bt306.1 bt306.2.1 bt306.2.2 true))))))) = some r := H
  have A6 := Aside0.mk A60
  clear A60
  replace H := Option.bind_eq_some_iff.mp H
  obtain ⟨⟨t302, t305⟩, A70, H⟩ := H
  replace H : ((impl_LeastPair.f k t294 t295 t296 t297).bind fun bt306 => ((spec_LeastPair.f k t294 t295 t296 t297).bind fun bt309 => (if (t299 != t305) = true then (laws_FnRunsOfPairs.j0 k l1 t294 t295 t296 t297 t298 t299 bt306.1 bt306.2.1 bt306.2.2 true) else ((laws_vSameLists.f k t298 t302).bind fun t312 => (if t312 = true then (if (bt306.2.2 != bt309.2.2) = true then (laws_FnRunsOfPairs.j0 k l1 t294 t295 t296 t297 t298 t299 bt306.1 bt306.2.1 bt306.2.2 true) else (if bt306.1 = bt309.1 then (if bt306.2.1 = bt309.2.1 then ((laws_vPair.f t294 t295 t296 t297).bind fun t313 => (laws_FnRunsOfPairs.j0 k l1 t294 t295 t296 t297 t298 t299 bt306.1 bt306.2.1 bt306.2.2 (bt306.2.2 != t313))) else (laws_FnRunsOfPairs.j0 k l1 t294 t295 t296 t297 t298 t299 bt306.1 bt306.2.1 bt306.2.2 true)) else (laws_FnRunsOfPairs.j0 k l1 t294 t295 t296 t297 t298 t299 bt306.1 bt306.2.1 bt306.2.2 true))) else (laws_FnRunsOfPairs.j0 k l1 t294 t295 t296 t297 t298 t299 bt306.1 bt306.2.1 bt306.2.2 true)))))) = some r := H
  have A7 := Aside0.mk A70
  clear A70
  replace H := Option.bind_eq_some_iff.mp H
  obtain ⟨⟨t306, t307, t308⟩, A80, H⟩ := H
  replace H : ((spec_LeastPair.f k t294 t295 t296 t297).bind fun bt309 => (if (t299 != t305) = true then (laws_FnRunsOfPairs.j0 k l1 t294 t295 t296 t297 t298 t299 t306 t307 t308 true) else ((laws_vSameLists.f k t298 t302).bind fun t312 => (if t312 = true then (if (t308 != bt309.2.2) = true then (laws_FnRunsOfPairs.j0 k l1 t294 t295 t296 t297 t298 t299 t306 t307 t308 true) else (if t306 = bt309.1 then (if t307 = bt309.2.1 then ((laws_vPair.f t294 t295 t296 t297).bind fun t313 => (laws_FnRunsOfPairs.j0 k l1 t294 t295 t296 t297 t298 t299 t306 t307 t308 (t308 != t313))) else (laws_FnRunsOfPairs.j0 k l1 t294 t295 t296 t297 t298 t299 t306 t307 t308 true)) else (laws_FnRunsOfPairs.j0 k l1 t294 t295 t296 t297 t298 t299 t306 t307 t308 true))) else (laws_FnRunsOfPairs.j0 k l1 t294 t295 t296 t297 t298 t299 t306 t307 t308 true))))) = some r := H
  have A8 := Aside0.mk A80
  clear A80
  replace H := Option.bind_eq_some_iff.mp H
  obtain ⟨⟨t309, t310, t311⟩, A90, H⟩ := H
  replace H : (if (t299 != t305) = true then (laws_FnRunsOfPairs.j0 k l1 t294 t295 t296 t297 t298 t299 t306 t307 t308 true) else ((laws_vSameLists.f k t298 t302).bind fun t312 => (if t312 = true then (if (t308 != t311) = true then (laws_FnRunsOfPairs.j0 k l1 t294 t295 t296 t297 t298 t299 t306 t307 t308 true) else (if t306 = t309 then (if t307 = t310 then ((laws_vPair.f t294 t295 t296 t297).bind fun t313 => (laws_FnRunsOfPairs.j0 k l1 t294 t295 t296 t297 t298 t299 t306 t307 t308 (t308 != t313))) else (laws_FnRunsOfPairs.j0 k l1 t294 t295 t296 t297 t298 t299 t306 t307 t308 true)) else (laws_FnRunsOfPairs.j0 k l1 t294 t295 t296 t297 t298 t299 t306 t307 t308 true))) else (laws_FnRunsOfPairs.j0 k l1 t294 t295 t296 t297 t298 t299 t306 t307 t308 true)))) = some r := H
  have A9 := Aside0.mk A90
  clear A90
  have HC10 := Aside0.mk H
  clear H
  go_enter Try.func3, Try.ntmps3
  go_upto_region 8 with (first | ((with_reducible refine gate_callee (f := 4) rfl ?_); refine goesL_ (some 42) rfl rfl Try.func4 (by kernel_rfl) rfl #[.slice A0 l0.length c0, .slice A1 l1.length c1] rfl (by (try simp only [List.map_toArray, List.map_cons, List.map_nil]); first | done | rfl | (simp only [List.length_drop, List.length_take]; rfl)) ?_; (with_reducible refine (laws_big.calls _ _ l0 _ _ l1 false _ ?side1 ?side2 ?side3 ?side4 A3.out).mono ?_); (case side1 => repeat (first | exact HR0.out | (with_reducible refine Kd.C_alloc ?_ _) | (with_reducible refine Kd.C_drewN ?_ _) | (with_reducible refine Kd.C_drew ?_))); (case side2 => exact HC0.out); (case side3 => repeat (first | exact HR1.out | (with_reducible refine Kd.C_alloc ?_ _) | (with_reducible refine Kd.C_drewN ?_ _) | (with_reducible refine Kd.C_drew ?_))); (case side4 => exact HC1.out); rintro e w' ⟨rfl, ⟨nd, rfl⟩⟩; refine ⟨_, rfl, ?_⟩) | ((with_reducible refine gate_callee (f := 5) rfl ?_); refine goesL_ (some 45) rfl rfl Try.func5 (by kernel_rfl) rfl #[.slice A0 l0.length c0] rfl (by (try simp only [List.map_toArray, List.map_cons, List.map_nil]); first | done | rfl | (simp only [List.length_drop, List.length_take]; rfl)) ?_; (with_reducible refine (spec_DrawDescendPair.calls k _ _ l0 t294 t295 t296 t297 _ ?side1 ?side2 A5.out).mono ?_); (case side1 => repeat (first | exact HR0.out | (with_reducible refine Kd.C_alloc ?_ _) | (with_reducible refine Kd.C_drewN ?_ _) | (with_reducible refine Kd.C_drew ?_))); (case side2 => exact HC0.out); rintro e w11 ⟨rfl, hb⟩; refine ⟨_, rfl, ?_⟩; have n0_ := Aside0.mk (below_step (by repeat (first | (with_reducible first | exact HB.out | apply below_alloc | apply pw_below_drewN | apply below_drew1) | exact HB.out | exact Below.refl _ _)) hb); clear HB; have HB := n0_; clear n0_; (try clear hb); (try clear hb2); (try clear hk); (try clear hi)) | ((with_reducible refine gate_callee (f := 6) rfl ?_); refine goesL_ (some 55) rfl rfl Try.func6 (by kernel_rfl) rfl #[.int .i64 t294, .int .i64 t295, .int .i64 t296, .int .i64 t297] rfl (by (try simp only [List.map_toArray, List.map_cons, List.map_nil]); first | done | rfl | (simp only [List.length_drop, List.length_take]; rfl)) ?_; (with_reducible refine (impl_DescendPair.calls k t294 t295 t296 t297 t298 t299 _ A6.out).mono ?_); rintro e w12 ⟨v300, rfl, ho0, hb⟩; refine ⟨_, rfl, ?_⟩; have n0_ := Aside0.mk (Kd.N_lower (Kd.N_mono (ok' := fun k_ => True) (Kd.S_N (Kd.S_bound ho0)) (fun k_ hk_ => trivial)) (below_size (by repeat (first | (with_reducible first | exact HB.out | apply below_alloc | apply pw_below_drewN | apply below_drew1) | exact HB.out | exact Below.refl _ _)))); have n1_ := Aside0.mk (below_step (by repeat (first | (with_reducible first | exact HB.out | apply below_alloc | apply pw_below_drewN | apply below_drew1) | exact HB.out | exact Below.refl _ _)) hb); clear HB; have HO301 := n0_; have HB := n1_; clear n0_ n1_; (try clear hb); (try clear hb2); (try clear hk); (try clear hi); (try clear ho0)) | ((with_reducible refine gate_callee (f := 7) rfl ?_); refine goesL_ (some 63) rfl rfl Try.func7 (by kernel_rfl) rfl #[.int .i64 t294, .int .i64 t295, .int .i64 t296, .int .i64 t297] rfl (by (try simp only [List.map_toArray, List.map_cons, List.map_nil]); first | done | rfl | (simp only [List.length_drop, List.length_take]; rfl)) ?_; (with_reducible refine (spec_DescendPair.calls k t294 t295 t296 t297 t302 t305 _ A7.out).mono ?_); rintro e w13 ⟨v303, rfl, ho0, hb⟩; refine ⟨_, rfl, ?_⟩; have n0_ := Aside0.mk (Kd.N_elder' (by (with_reducible repeat (first | apply Kd.N_alloc | apply Kd.N_drewN | apply Kd.N_drew)); exact HO301.out) (Kd.N_base ho0) hb); have n1_ := Aside0.mk (Kd.N_lower (Kd.N_mono (ok' := fun k_ => some k_ ≠ (v300 : Value).ownBlock) ho0 (fun k_ hk_ => (Kd.fresh' (Kd.N_lt (by (with_reducible repeat (first | apply Kd.N_alloc | apply Kd.N_drewN | apply Kd.N_drew)); exact HO301.out)) k_ hk_))) (below_size (by repeat (first | (with_reducible first | exact HB.out | apply below_alloc | apply pw_below_drewN | apply below_drew1) | exact HB.out | exact Below.refl _ _)))); have n2_ := Aside0.mk (below_step (by repeat (first | (with_reducible first | exact HB.out | apply below_alloc | apply pw_below_drewN | apply below_drew1) | exact HB.out | exact Below.refl _ _)) hb); clear HO301; clear HB; have HO301 := n0_; have HO304 := n1_; have HB := n2_; clear n0_ n1_ n2_; (try clear hb); (try clear hb2); (try clear hk); (try clear hi); (try clear ho0)) | ((with_reducible refine gate_callee (f := 8) rfl ?_); refine goesL_ (some 71) rfl rfl Try.func8 (by kernel_rfl) rfl #[.int .i64 t294, .int .i64 t295, .int .i64 t296, .int .i64 t297] rfl (by (try simp only [List.map_toArray, List.map_cons, List.map_nil]); first | done | rfl | (simp only [List.length_drop, List.length_take]; rfl)) ?_; (with_reducible refine (impl_LeastPair.calls k t294 t295 t296 t297 t306 t307 t308 _ A8.out).mono ?_); rintro e w14 ⟨rfl, hb⟩; refine ⟨_, rfl, ?_⟩; have n0_ := Aside0.mk (Kd.N_below (by (with_reducible repeat (first | apply Kd.N_alloc | apply Kd.N_drewN | apply Kd.N_drew)); exact HO301.out) hb); have n1_ := Aside0.mk (Kd.N_below (by (with_reducible repeat (first | apply Kd.N_alloc | apply Kd.N_drewN | apply Kd.N_drew)); exact HO304.out) hb); have n2_ := Aside0.mk (below_step (by repeat (first | (with_reducible first | exact HB.out | apply below_alloc | apply pw_below_drewN | apply below_drew1) | exact HB.out | exact Below.refl _ _)) hb); clear HO301; clear HO304; clear HB; have HO301 := n0_; have HO304 := n1_; have HB := n2_; clear n0_ n1_ n2_; (try clear hb); (try clear hb2); (try clear hk); (try clear hi)) | ((with_reducible refine gate_callee (f := 9) rfl ?_); refine goesL_ (some 80) rfl rfl Try.func9 (by kernel_rfl) rfl #[.int .i64 t294, .int .i64 t295, .int .i64 t296, .int .i64 t297] rfl (by (try simp only [List.map_toArray, List.map_cons, List.map_nil]); first | done | rfl | (simp only [List.length_drop, List.length_take]; rfl)) ?_; (with_reducible refine (spec_LeastPair.calls k t294 t295 t296 t297 t309 t310 t311 _ A9.out).mono ?_); rintro e w' ⟨rfl, ⟨nd, rfl⟩⟩; refine ⟨_, rfl, ?_⟩))
  (try simp only [Act.put, List.setIfInBounds_toArray, List.set_cons_zero, List.set_cons_succ])
  go_cut [116] (fun v116 wc => ∃ (kq : Nat) (x116_9 : Bool), v116 = .bool x116_9 ∧ Aside0 (laws_FnRunsOfPairs.j0 kq l1 t294 t295 t296 t297 t298 t299 t306 t307 t308 x116_9 = some r) ∧ Aside0 (kq ≤ k) ∧ Aside0 (Kd.N (Kd.slice 3 (Kd.int .i64)) 33 wc w.heap.size (fun _ => True) v300 t298) ∧ Aside0 (Below w.heap.size w wc))
  case first =>
   as_aux_lemma =>
    have H := HC10.out
    clear HC10
    by_cases c15 : (t299 != t305) = true
    ·
     rw [if_pos c15] at H
     exact absurd (H.trans (congrArg some hrT)) (fun h_ => laws_FnRunsOfPairs.j0_no h_)
    ·
     rw [if_neg c15] at H
     have c15b0 : (t299 != t305) = false := by simpa using c15
     (try (have c15b1 : decide (t299 = t305) = true := by simpa using c15))
     (try (have c15b2 : (t299 == t305) = true := by simpa using c15))
     clear c15
     (first | rw [c15b0] | (simp only [i64_w, i32_w]; rw [c15b0]) | skip)
     replace H := Option.bind_eq_some_iff.mp H
     obtain ⟨t312, A160, H⟩ := H
     replace H : (if t312 = true then (if (t308 != t311) = true then (laws_FnRunsOfPairs.j0 k l1 t294 t295 t296 t297 t298 t299 t306 t307 t308 true) else (if t306 = t309 then (if t307 = t310 then ((laws_vPair.f t294 t295 t296 t297).bind fun t313 => (laws_FnRunsOfPairs.j0 k l1 t294 t295 t296 t297 t298 t299 t306 t307 t308 (t308 != t313))) else (laws_FnRunsOfPairs.j0 k l1 t294 t295 t296 t297 t298 t299 t306 t307 t308 true)) else (laws_FnRunsOfPairs.j0 k l1 t294 t295 t296 t297 t298 t299 t306 t307 t308 true))) else (laws_FnRunsOfPairs.j0 k l1 t294 t295 t296 t297 t298 t299 t306 t307 t308 true)) = some r := H
     have A16 := Aside0.mk A160
     clear A160
     by_cases c17 : t312 = true
     ·
      subst c17
      have H1 : (if (t308 != t311) = true then (laws_FnRunsOfPairs.j0 k l1 t294 t295 t296 t297 t298 t299 t306 t307 t308 true) else (if t306 = t309 then (if t307 = t310 then ((laws_vPair.f t294 t295 t296 t297).bind fun t313 => (laws_FnRunsOfPairs.j0 k l1 t294 t295 t296 t297 t298 t299 t306 t307 t308 (t308 != t313))) else (laws_FnRunsOfPairs.j0 k l1 t294 t295 t296 t297 t298 t299 t306 t307 t308 true)) else (laws_FnRunsOfPairs.j0 k l1 t294 t295 t296 t297 t298 t299 t306 t307 t308 true))) = some r := by rw [if_pos rfl] at H; exact H
      clear H
      have H := H1
      clear H1
      by_cases c18 : (t308 != t311) = true
      ·
       rw [if_pos c18] at H
       exact absurd (H.trans (congrArg some hrT)) (fun h_ => laws_FnRunsOfPairs.j0_no h_)
      ·
       rw [if_neg c18] at H
       have c18b0 : (t308 != t311) = false := by simpa using c18
       (try (have c18b1 : decide (t308 = t311) = true := by simpa using c18))
       (try (have c18b2 : (t308 == t311) = true := by simpa using c18))
       clear c18
       by_cases c21 : t306 = t309
       ·
        rw [if_pos c21] at H
        have c21b0 : (t306 == t309) = true := beq_iff_eq.mpr c21
        have c21b1 : (t306 != t309) = false := bne_eq_false_iff_eq.mpr c21
        clear c21
        by_cases c22 : t307 = t310
        ·
         rw [if_pos c22] at H
         have c22b0 : (t307 == t310) = true := beq_iff_eq.mpr c22
         have c22b1 : (t307 != t310) = false := bne_eq_false_iff_eq.mpr c22
         clear c22
         replace H := Option.bind_eq_some_iff.mp H
         obtain ⟨t313, A230, H⟩ := H
         replace H : (laws_FnRunsOfPairs.j0 k l1 t294 t295 t296 t297 t298 t299 t306 t307 t308 (t308 != t313)) = some r := H
         have A23 := Aside0.mk A230
         clear A230
         have H' := Aside0.mk H
         clear H
         obtain ⟨Ao24, co24, eo24⟩ := Kd.N_slice HO301.out
         subst eo24
         obtain ⟨Ao25, co25, eo25⟩ := Kd.N_slice HO304.out
         subst eo25
         go_wp2_with (first | (go_at_call 10; (with_reducible refine (laws_vSameLists.calls k _ _ t298 _ _ t302 true _ ?side1 ?side2 ?side3 ?side4 A16.out).mono ?_); (case side1 => repeat (first | exact (Kd.N_reads' HO301.out).2.2 | (with_reducible refine Kd.C_alloc ?_ _) | (with_reducible refine Kd.C_drewN ?_ _) | (with_reducible refine Kd.C_drew ?_))); (case side2 => exact (Kd.N_reads' HO301.out).2.1); (case side3 => repeat (first | exact (Kd.N_reads' HO304.out).2.2 | (with_reducible refine Kd.C_alloc ?_ _) | (with_reducible refine Kd.C_drewN ?_ _) | (with_reducible refine Kd.C_drew ?_))); (case side4 => exact (Kd.N_reads' HO304.out).2.1); rintro e w' ⟨rfl, ⟨nd, rfl⟩⟩) | (go_at_call 11; (with_reducible refine (laws_vPair.calls t294 t295 t296 t297 t313 _ A23.out).mono ?_); rintro e w' ⟨rfl, ⟨nd, rfl⟩⟩))
         go_meet
         case rel => exact ⟨_, ((t308 != t313)), (by first | rfl | (simp; done) | (simp [*]; done)), H', ⟨by first | omega | exact Nat.le_refl _⟩, ⟨by (with_reducible repeat (first | apply Kd.N_alloc | apply Kd.N_drewN | apply Kd.N_drew)); exact Kd.N_mono HO301.out (fun _ hk => trivial)⟩, ⟨by repeat (first | (with_reducible first | exact HB.out | apply below_alloc | apply pw_below_drewN | apply below_drew1) | exact HB.out | exact Below.refl _ _)⟩⟩
        ·
         rw [if_neg c22] at H
         exact absurd (H.trans (congrArg some hrT)) (fun h_ => laws_FnRunsOfPairs.j0_no h_)
       ·
        rw [if_neg c21] at H
        exact absurd (H.trans (congrArg some hrT)) (fun h_ => laws_FnRunsOfPairs.j0_no h_)
     ·
      replace c17 := Bool.eq_false_iff.mpr c17
      subst c17
      have H1 : (laws_FnRunsOfPairs.j0 k l1 t294 t295 t296 t297 t298 t299 t306 t307 t308 true) = some r := by rw [if_neg (show ¬ (false = true) by decide)] at H; exact H
      exact absurd (H1.trans (congrArg some hrT)) (fun h_ => laws_FnRunsOfPairs.j0_no h_)
  case rest =>
   as_aux_lemma =>
    clear HC10
    try clear c1
    try clear c2
    try clear p2
    try clear c3
    try clear c4
    try clear c5
    try clear c6
    try clear c7
    try clear c8
    try clear c9
    try clear c15
    try clear c15b0
    try clear c15b1
    try clear c15b2
    try clear c17
    try clear c18
    try clear c18b0
    try clear c18b1
    try clear c18b2
    try clear c21
    try clear c21b0
    try clear c21b1
    try clear c22
    try clear c22b0
    try clear c22b1
    obtain ⟨kq, x116_9, rfl, HA, HJ9, HO_9, HB⟩ := hcut
    cases kq with
    | zero => exact absurd HA.out (by simp [laws_FnRunsOfPairs.j0])
    | succ kj9 =>
     have H := HA.out
     clear HA
     simp only [laws_FnRunsOfPairs.j0] at H
     by_cases c32 : x116_9 = true
     ·
      subst c32
      have H1 : (some false) = some r := by rw [if_pos rfl] at H; exact H
      exact absurd (H1.trans (congrArg some hrT)) (by simp)
     ·
      replace c32 := Bool.eq_false_iff.mpr c32
      subst c32
      have H1 : (if t299 = true then (if 0 ≤ (wrap64 ((t298.length : Int) - 1)) then (if (wrap64 ((t298.length : Int) - 1)) < (t298.length : Int) then (if 0 < (t298.length : Int) then ((laws_vSame.f kj9 (rd_L2 t298 0) (([t294, t295] : List Int))).bind fun t319 => (if t319 = true then ((laws_vSame.f kj9 (rd_L2 t298 (wrap64 ((t298.length : Int) - 1))) (([t306, t307] : List Int))).bind fun t323 => (laws_FnRunsOfPairs.j1 kj9 l1 t296 t297 t298 t306 t307 t308 (!t323))) else (laws_FnRunsOfPairs.j1 kj9 l1 t296 t297 t298 t306 t307 t308 true))) else (none)) else (none)) else (none)) else (laws_FnRunsOfPairs.j3 kj9 l1 t296 t297 t306 t307 t308)) = some r := by rw [if_neg (show ¬ (false = true) by decide)] at H; exact H
      clear H
      have H := H1
      clear H1
      have HC33 := Aside0.mk H
      clear H
      go_upto_if 117 with (fail)
      go_cut [] (fun wc => ∃ (kq : Nat), Aside0 (laws_FnRunsOfPairs.j3 kq l1 t296 t297 t306 t307 t308 = some r) ∧ Aside0 (kq ≤ kj9) ∧ Aside0 (Below w.heap.size w wc))
      case first =>
       as_aux_lemma =>
        have H := HC33.out
        clear HC33
        by_cases c34 : t299 = true
        ·
         subst c34
         have H1 : (if 0 ≤ (wrap64 ((t298.length : Int) - 1)) then (if (wrap64 ((t298.length : Int) - 1)) < (t298.length : Int) then (if 0 < (t298.length : Int) then ((laws_vSame.f kj9 (rd_L2 t298 0) (([t294, t295] : List Int))).bind fun t319 => (if t319 = true then ((laws_vSame.f kj9 (rd_L2 t298 (wrap64 ((t298.length : Int) - 1))) (([t306, t307] : List Int))).bind fun t323 => (laws_FnRunsOfPairs.j1 kj9 l1 t296 t297 t298 t306 t307 t308 (!t323))) else (laws_FnRunsOfPairs.j1 kj9 l1 t296 t297 t298 t306 t307 t308 true))) else (none)) else (none)) else (none)) = some r := by rw [if_pos rfl] at H; exact H
         clear H
         have H := H1
         clear H1
         obtain ⟨ji35, hji35⟩ : ∃ j_ : Int, (wrap64 ((t298.length : Int) - 1)) = j_ := ⟨_, rfl⟩
         replace H : (if 0 ≤ (ji35) then (if (ji35) < (t298.length : Int) then (if 0 < (t298.length : Int) then ((laws_vSame.f kj9 (rd_L2 t298 0) (([t294, t295] : List Int))).bind fun t319 => (if t319 = true then ((laws_vSame.f kj9 (rd_L2 t298 (ji35)) (([t306, t307] : List Int))).bind fun t323 => (laws_FnRunsOfPairs.j1 kj9 l1 t296 t297 t298 t306 t307 t308 (!t323))) else (laws_FnRunsOfPairs.j1 kj9 l1 t296 t297 t298 t306 t307 t308 true))) else (none)) else (none)) else (none)) = some r := by first | (rw [hji35] at H; exact H) | (simp only [hji35] at H ⊢; exact H)
         have hji35w : (IntKind.i64.wrap ((t298.length : Int) - 1)) = ji35 := (i64_w _).trans hji35
         by_cases c36 : 0 ≤ (ji35)
         ·
          rw [if_pos c36] at H
          have c36b0 : decide (0 ≤ (ji35)) = true := decide_eq_true c36
          clear c36
          (first | rw [c36b0] | (simp only [i64_w, i32_w]; rw [c36b0]) | skip)
          by_cases c37 : (ji35) < (t298.length : Int)
          ·
           rw [if_pos c37] at H
           have c37b0 : decide ((ji35) < (t298.length : Int)) = true := decide_eq_true c37
           clear c37
           have HC38 := Aside0.mk H
           clear H
           obtain ⟨Ao39, co39, eo39⟩ := Kd.N_slice HO_9.out
           subst eo39
           have p314 : 0 ≤ ((ji35) : Int) := of_decide_eq_true (by first | (with_reducible assumption) | assumption)
           have q314 : (ji35) < (t298.length : Int) := of_decide_eq_true (by first | (with_reducible assumption) | assumption)
           obtain ⟨ad314, A314_0, c314_0, e314, hx314_0, hl314_0, hi314_0⟩ := at_L2 (Kd.N_reads' HO_9.out).2.2 (ji35) p314 q314
           cases e314
           obtain ⟨ce314, hce314, hMe314, hcc314⟩ := Kd.N_get HO_9.out [] (ji35) p314 (by first | exact q314 | exact of_decide_eq_true (by first | (with_reducible assumption) | assumption) | (have e_ := (Kd.N_reads' HO_9.out).1; omega))
           obtain ⟨ua314_0, uc314_0, rfl, ul314_0, ge314_0⟩ := Kd.FK_slice_open hMe314
           have hv314_0 := hcc314 0 _ rfl
           rw [Nat.add_zero, show ((Kd.slice 3 (Kd.int .i64))).sz = 1 from rfl, Nat.mul_one] at hv314_0
           replace hv314_0 := Option.some.inj (hv314_0.symm.trans hx314_0)
           injection hv314_0 with hva_ hvn_ hvc_
           rw [hva_] at ge314_0
           rw [hvc_] at ul314_0
           have HL314_0 := Aside0.mk (show Kd.V (Kd.int .i64) 3 _ w.heap.size _ _ (rd_L2 t298 (ji35)) from Kd.V_mk ul314_0 ge314_0)
           clear hva_ hvn_ hvc_ ge314_0 ul314_0
           clear hcc314 hce314
           have HR314_0 := Aside0.mk hi314_0
           have HC314_0 := Aside0.mk hl314_0
           clear hi314_0 hl314_0
           replace p314 := eq_true p314
           replace q314 := eq_true q314
           go_upto_region 12 with (fail)
           go_cut [139] (fun v139 wc => ∃ (kq : Nat) (x139_37 : Bool), v139 = .bool x139_37 ∧ Aside0 (laws_FnRunsOfPairs.j1 kq l1 t296 t297 t298 t306 t307 t308 x139_37 = some r) ∧ Aside0 (kq ≤ kj9) ∧ Aside0 (Kd.N (Kd.slice 3 (Kd.int .i64)) 33 wc w.heap.size (fun _ => True) (.slice (some ad314) t298.length co39) t298) ∧ Aside0 (Kd.C (Kd.int .i64) wc A314_0 (rd_L2 t298 (ji35)).length (rd_L2 t298 (ji35))) ∧ Aside0 (Below w.heap.size w wc))
           case first =>
            as_aux_lemma =>
             have H := HC38.out
             clear HC38
             by_cases c40 : 0 < (t298.length : Int)
             ·
              rw [if_pos c40] at H
              have c40b0 : decide (0 < (t298.length : Int)) = true := decide_eq_true c40
              have c40b1 : decide (0 < t298.length) = true := decide_eq_true (by omega)
              clear c40
              (first | rw [c40b0] | (simp only [i64_w, i32_w]; rw [c40b0]) | skip)
              obtain ⟨y316, hy316⟩ : ∃ y_ : List Int, y_ = (([t294, t295] : List Int)) := ⟨_, rfl⟩
              replace H : ((laws_vSame.f kj9 (rd_L2 t298 0) y316).bind fun t319 => (if t319 = true then ((laws_vSame.f kj9 (rd_L2 t298 (ji35)) (([t306, t307] : List Int))).bind fun t323 => (laws_FnRunsOfPairs.j1 kj9 l1 t296 t297 t298 t306 t307 t308 (!t323))) else (laws_FnRunsOfPairs.j1 kj9 l1 t296 t297 t298 t306 t307 t308 true))) = some r := by first | (rw [hy316]; with_reducible exact H) | (have H2_ := (Option.bind_some _ _).symm.trans H; rw [hy316]; with_reducible exact H2_) | (have H2_ := (Option.bind_some _ _).symm.trans H; with_reducible exact H2_) | with_reducible exact H | (rw [hy316]; exact H) | exact H
              have Ny316 := Aside0.mk hy316
              clear hy316
              replace H := Option.bind_eq_some_iff.mp H
              obtain ⟨t319, A410, H⟩ := H
              replace H : (if t319 = true then ((laws_vSame.f kj9 (rd_L2 t298 (ji35)) (([t306, t307] : List Int))).bind fun t323 => (laws_FnRunsOfPairs.j1 kj9 l1 t296 t297 t298 t306 t307 t308 (!t323))) else (laws_FnRunsOfPairs.j1 kj9 l1 t296 t297 t298 t306 t307 t308 true)) = some r := H
              have A41 := Aside0.mk A410
              clear A410
              by_cases c42 : t319 = true
              ·
               subst c42
               have H1 : ((laws_vSame.f kj9 (rd_L2 t298 (ji35)) (([t306, t307] : List Int))).bind fun t323 => (laws_FnRunsOfPairs.j1 kj9 l1 t296 t297 t298 t306 t307 t308 (!t323))) = some r := by rw [if_pos rfl] at H; exact H
               clear H
               have H := H1
               clear H1
               obtain ⟨y320, hy320⟩ : ∃ y_ : List Int, y_ = (([t306, t307] : List Int)) := ⟨_, rfl⟩
               replace H : ((laws_vSame.f kj9 (rd_L2 t298 (ji35)) y320).bind fun t323 => (laws_FnRunsOfPairs.j1 kj9 l1 t296 t297 t298 t306 t307 t308 (!t323))) = some r := by first | (rw [hy320]; with_reducible exact H) | (have H2_ := (Option.bind_some _ _).symm.trans H; rw [hy320]; with_reducible exact H2_) | (have H2_ := (Option.bind_some _ _).symm.trans H; with_reducible exact H2_) | with_reducible exact H | (rw [hy320]; exact H) | exact H
               have Ny320 := Aside0.mk hy320
               clear hy320
               replace H := Option.bind_eq_some_iff.mp H
               obtain ⟨t323, A430, H⟩ := H
               replace H : (laws_FnRunsOfPairs.j1 kj9 l1 t296 t297 t298 t306 t307 t308 (!t323)) = some r := H
               have A43 := Aside0.mk A430
               clear A430
               have H' := Aside0.mk H
               clear H
               have p315 : 0 ≤ (0 : Int) := (by omega)
               have q315 : 0 < (t298.length : Int) := of_decide_eq_true (by first | (with_reducible assumption) | assumption)
               obtain ⟨ad315, A315_0, c315_0, e315, hx315_0, hl315_0, hi315_0⟩ := at_L2 (Kd.N_reads' HO_9.out).2.2 0 p315 q315
               obtain rfl : ad314 = ad315 := (by injection e315)
               obtain ⟨ce315, hce315, hMe315, hcc315⟩ := Kd.N_get HO_9.out [] 0 p315 (by first | exact q315 | exact of_decide_eq_true (by first | (with_reducible assumption) | assumption) | (have e_ := (Kd.N_reads' HO_9.out).1; omega))
               obtain ⟨ua315_0, uc315_0, rfl, ul315_0, ge315_0⟩ := Kd.FK_slice_open hMe315
               have hv315_0 := hcc315 0 _ rfl
               rw [Nat.add_zero, show ((Kd.slice 3 (Kd.int .i64))).sz = 1 from rfl, Nat.mul_one] at hv315_0
               replace hv315_0 := Option.some.inj (hv315_0.symm.trans hx315_0)
               injection hv315_0 with hva_ hvn_ hvc_
               rw [hva_] at ge315_0
               rw [hvc_] at ul315_0
               have HL315_0 := Aside0.mk (show Kd.V (Kd.int .i64) 3 _ w.heap.size _ _ (rd_L2 t298 0) from Kd.V_mk ul315_0 ge315_0)
               clear hva_ hvn_ hvc_ ge315_0 ul315_0
               clear hcc315 hce315
               have qi315 : (0 < t298.length) = True := eq_true (by omega)
               (try rw [show ((0 : Int)).toNat = 0 from rfl] at hx315_0)
               (try rw [Addr.add_zero'] at hx315_0)
               have HR315_0 := Aside0.mk hi315_0
               have HC315_0 := Aside0.mk hl315_0
               clear hi315_0 hl315_0
               replace p315 := eq_true p315
               replace q315 := eq_true q315
               go_wp2_with (first | ((with_reducible refine gate_dst (N := 129) rfl ?_); (try (refine gate_guard (by rfl) ?_; dsimp only)); refine Kd.R_lit (Kd.int .i64) _ 3 ?hg (N := 129) ?hd (xs := ([t294, t295] : List Int)) (inner := [.int .i64 t294, .int .i64 t295]) (ok := fun _ => True) (okp := fun _ => True) ?hr ?hp (fun _ hk => hk) trivial (Below.refl _ _) (Nat.le_refl _) (by simp) ?_; (case hd => rfl); (case hg => rfl); (case hr => first | (go_simp; done) | (go_simp; rfl)); (case hp => exact (Reps.one (show Kd.M (Kd.int .i64) _ _ _ t294 [.int .i64 t294] from rfl) (Reps.one (show Kd.M (Kd.int .i64) _ _ _ t295 [.int .i64 t295] from rfl) (Reps.none _ _)))); intro v317 w44 ho45 hb hg_ hnew_; clear hg_ hnew_; (first | rw [← Ny316.out] at ho45 | (simp only [Int.reduceToNat] at ho45; rw [← Ny316.out] at ho45)); have n0_ := Aside0.mk (Kd.N_elder' (by (with_reducible repeat (first | apply Kd.N_alloc | apply Kd.N_drewN | apply Kd.N_drew)); exact HO_9.out) (Kd.R_base ho45) hb); have n1_ := Aside0.mk (Kd.V_elder' (by (with_reducible repeat (first | apply Kd.V_alloc | apply Kd.V_drewN | apply Kd.V_drew)); exact HL314_0.out) (Kd.R_base ho45) hb); have n2_ := Aside0.mk (Kd.V_elder' (by (with_reducible repeat (first | apply Kd.V_alloc | apply Kd.V_drewN | apply Kd.V_drew)); exact HL315_0.out) (Kd.R_base ho45) hb); have n3_ := Aside0.mk (Kd.R_lower ho45 (below_size (by repeat (first | (with_reducible first | exact HB.out | apply below_alloc | apply pw_below_drewN | apply below_drew1) | exact HB.out | exact Below.refl _ _)))); have n4_ := Aside0.mk ((by with_reducible first | exact Kd.C_below HR314_0.out hb | exact Kd.C_below (Kd.C_drewN HR314_0.out _) hb | exact Kd.C_below (Kd.C_alloc HR314_0.out _) hb | exact Kd.C_below (Kd.C_drewN (Kd.C_drewN HR314_0.out _) _) hb)); have n5_ := Aside0.mk ((by with_reducible first | exact Kd.C_below HR315_0.out hb | exact Kd.C_below (Kd.C_drewN HR315_0.out _) hb | exact Kd.C_below (Kd.C_alloc HR315_0.out _) hb | exact Kd.C_below (Kd.C_drewN (Kd.C_drewN HR315_0.out _) _) hb)); have n6_ := Aside0.mk (below_step (by repeat (first | (with_reducible first | exact HB.out | apply below_alloc | apply pw_below_drewN | apply below_drew1) | exact HB.out | exact Below.refl _ _)) hb); clear HO_9; clear HL314_0; clear HL315_0; clear HR314_0; clear HR315_0; clear HB; have HO_9 := n0_; have HL314_0 := n1_; have HL315_0 := n2_; have HO318 := n3_; have HR314_0 := n4_; have HR315_0 := n5_; have HB := n6_; clear n0_ n1_ n2_ n3_ n4_ n5_ n6_; clear hb ho45; obtain ⟨Ao46, co46, eo46⟩ := Kd.R_slice HO318.out; subst eo46) | ((with_reducible refine gate_callee (f := 12) rfl ?_); refine goesL_ (some 130) rfl rfl Try.func12 (by kernel_rfl) rfl #[.slice A315_0 (rd_L2 t298 0).length c315_0, .slice Ao46 y316.length co46] rfl (by (try simp only [List.map_toArray, List.map_cons, List.map_nil]); first | done | rfl | (simp only [List.length_drop, List.length_take]; rfl)) ?_; (with_reducible refine (laws_vSame.calls kj9 _ _ (rd_L2 t298 0) _ _ y316 true _ ?side1 ?side2 ?side3 ?side4 A41.out).mono ?_); (case side1 => repeat (first | exact (by repeat (first | (with_reducible exact HR315_0.out) | (with_reducible refine Kd.C_alloc ?_ _) | (with_reducible refine Kd.C_drewN ?_ _) | (with_reducible refine Kd.C_drew ?_) | exact HR315_0.out)) | (with_reducible refine Kd.C_alloc ?_ _) | (with_reducible refine Kd.C_drewN ?_ _) | (with_reducible refine Kd.C_drew ?_))); (case side2 => exact HC315_0.out); (case side3 => repeat (first | exact (Kd.R_reads' HO318.out).2.2 | (with_reducible refine Kd.C_alloc ?_ _) | (with_reducible refine Kd.C_drewN ?_ _) | (with_reducible refine Kd.C_drew ?_))); (case side4 => exact (Kd.R_reads' HO318.out).2.1); rintro e w' ⟨rfl, ⟨nd, rfl⟩⟩; refine ⟨_, rfl, ?_⟩) | ((with_reducible refine gate_dst (N := 136) rfl ?_); (try (refine gate_guard (by rfl) ?_; dsimp only)); refine Kd.R_lit (Kd.int .i64) _ 3 ?hg (N := 136) ?hd (xs := ([t306, t307] : List Int)) (inner := [.int .i64 t306, .int .i64 t307]) (ok := fun _ => True) (okp := fun _ => True) ?hr ?hp (fun _ hk => hk) trivial (Below.refl _ _) (Nat.le_refl _) (by simp) ?_; (case hd => rfl); (case hg => rfl); (case hr => first | (go_simp; done) | (go_simp; rfl)); (case hp => exact (Reps.one (show Kd.M (Kd.int .i64) _ _ _ t306 [.int .i64 t306] from rfl) (Reps.one (show Kd.M (Kd.int .i64) _ _ _ t307 [.int .i64 t307] from rfl) (Reps.none _ _)))); intro v321 w47 ho48 hb hg_ hnew_; clear hg_ hnew_; (first | rw [← Ny320.out] at ho48 | (simp only [Int.reduceToNat] at ho48; rw [← Ny320.out] at ho48)); have n0_ := Aside0.mk (Kd.N_elder' (by (with_reducible repeat (first | apply Kd.N_alloc | apply Kd.N_drewN | apply Kd.N_drew)); exact HO_9.out) (Kd.R_base ho48) hb); have n1_ := Aside0.mk (Kd.V_elder' (by (with_reducible repeat (first | apply Kd.V_alloc | apply Kd.V_drewN | apply Kd.V_drew)); exact HL314_0.out) (Kd.R_base ho48) hb); have n2_ := Aside0.mk (Kd.V_elder' (by (with_reducible repeat (first | apply Kd.V_alloc | apply Kd.V_drewN | apply Kd.V_drew)); exact HL315_0.out) (Kd.R_base ho48) hb); have n3_ := Aside0.mk (Kd.R_elder' (by (with_reducible repeat (first | apply Kd.R_alloc | apply Kd.R_drewN | apply Kd.R_drew)); exact HO318.out) (Kd.R_base ho48) hb); have n4_ := Aside0.mk (Kd.R_lower (Kd.R_new' ho48 (Kd.R_lt (by (with_reducible repeat (first | apply Kd.R_alloc | apply Kd.R_drewN | apply Kd.R_drew)); exact HO318.out))) (below_size (by repeat (first | (with_reducible first | exact HB.out | apply below_alloc | apply pw_below_drewN | apply below_drew1) | exact HB.out | exact Below.refl _ _)))); have n5_ := Aside0.mk ((by with_reducible first | exact Kd.C_below HR314_0.out hb | exact Kd.C_below (Kd.C_drewN HR314_0.out _) hb | exact Kd.C_below (Kd.C_alloc HR314_0.out _) hb | exact Kd.C_below (Kd.C_drewN (Kd.C_drewN HR314_0.out _) _) hb)); have n6_ := Aside0.mk ((by with_reducible first | exact Kd.C_below HR315_0.out hb | exact Kd.C_below (Kd.C_drewN HR315_0.out _) hb | exact Kd.C_below (Kd.C_alloc HR315_0.out _) hb | exact Kd.C_below (Kd.C_drewN (Kd.C_drewN HR315_0.out _) _) hb)); have n7_ := Aside0.mk (below_step (by repeat (first | (with_reducible first | exact HB.out | apply below_alloc | apply pw_below_drewN | apply below_drew1) | exact HB.out | exact Below.refl _ _)) hb); clear HO_9; clear HL314_0; clear HL315_0; clear HO318; clear HR314_0; clear HR315_0; clear HB; have HO_9 := n0_; have HL314_0 := n1_; have HL315_0 := n2_; have HO318 := n3_; have HO322 := n4_; have HR314_0 := n5_; have HR315_0 := n6_; have HB := n7_; clear n0_ n1_ n2_ n3_ n4_ n5_ n6_ n7_; clear hb ho48; obtain ⟨Ao49, co49, eo49⟩ := Kd.R_slice HO322.out; subst eo49) | (go_at_call 12; (with_reducible refine (laws_vSame.calls kj9 _ _ (rd_L2 t298 (ji35)) _ _ y320 t323 _ ?side1 ?side2 ?side3 ?side4 A43.out).mono ?_); (case side1 => repeat (first | exact (by repeat (first | (with_reducible exact HR314_0.out) | (with_reducible refine Kd.C_alloc ?_ _) | (with_reducible refine Kd.C_drewN ?_ _) | (with_reducible refine Kd.C_drew ?_) | exact HR314_0.out)) | (with_reducible refine Kd.C_alloc ?_ _) | (with_reducible refine Kd.C_drewN ?_ _) | (with_reducible refine Kd.C_drew ?_))); (case side2 => exact HC314_0.out); (case side3 => repeat (first | exact (Kd.R_reads' HO322.out).2.2 | (with_reducible refine Kd.C_alloc ?_ _) | (with_reducible refine Kd.C_drewN ?_ _) | (with_reducible refine Kd.C_drew ?_))); (case side4 => exact (Kd.R_reads' HO322.out).2.1); rintro e w' ⟨rfl, ⟨nd, rfl⟩⟩))
               go_meet
               case rel => exact ⟨_, (!t323), (by first | rfl | (simp; done) | (simp [*]; done)), H', ⟨by have := HJ9.out; first | omega | exact Nat.le_refl _⟩, ⟨by (with_reducible repeat (first | apply Kd.N_alloc | apply Kd.N_drewN | apply Kd.N_drew)); exact Kd.N_mono HO_9.out (fun _ hk => trivial)⟩, ⟨by repeat (first | (with_reducible exact HR314_0.out) | (with_reducible refine Kd.C_alloc ?_ _) | (with_reducible refine Kd.C_drewN ?_ _) | (with_reducible refine Kd.C_drew ?_) | exact HR314_0.out)⟩, ⟨by repeat (first | (with_reducible first | exact HB.out | apply below_alloc | apply pw_below_drewN | apply below_drew1) | exact HB.out | exact Below.refl _ _)⟩⟩
              ·
               replace c42 := Bool.eq_false_iff.mpr c42
               subst c42
               have H1 : (laws_FnRunsOfPairs.j1 kj9 l1 t296 t297 t298 t306 t307 t308 true) = some r := by rw [if_neg (show ¬ (false = true) by decide)] at H; exact H
               exact absurd (H1.trans (congrArg some hrT)) (fun h_ => laws_FnRunsOfPairs.j1_no h_)
             ·
              rw [if_neg c40] at H
              exact absurd H (by simp)
           case rest =>
            as_aux_lemma =>
             clear HC38
             try clear c1
             try clear c2
             try clear p2
             try clear c3
             try clear p3
             try clear q3
             try clear hx3
             try clear qi3
             try clear c4
             try clear c5
             try clear c6
             try clear p6
             try clear c7
             try clear c8
             try clear c9
             try clear c12
             try clear c15
             try clear c15b0
             try clear c15b1
             try clear c15b2
             try clear c17
             try clear c18
             try clear c18b0
             try clear c18b1
             try clear c18b2
             try clear c21
             try clear c21b0
             try clear c21b1
             try clear c22
             try clear c22b0
             try clear c22b1
             try clear c31
             try clear p31
             try clear q31
             try clear hx31
             try clear qi31
             try clear c32
             try clear c34
             try clear c36
             try clear c36b0
             try clear c37
             try clear c37b0
             try clear c40
             try clear c40b0
             try clear c40b1
             try clear c42
             try clear hx314_0
             try clear hx315_0
             try clear p2
             try clear p314
             try clear p315
             try clear q314
             try clear q315
             obtain ⟨kq, x139_37, rfl, HA, HJ37, HO_9, HR314_0, HB⟩ := hcut
             cases kq with
             | zero => exact absurd HA.out (by simp [laws_FnRunsOfPairs.j1])
             | succ kj37 =>
              have H := HA.out
              clear HA
              simp only [laws_FnRunsOfPairs.j1] at H
              by_cases c53 : x139_37 = true
              ·
               subst c53
               have H1 : (some false) = some r := by rw [if_pos rfl] at H; exact H
               exact absurd (H1.trans (congrArg some hrT)) (by simp)
              ·
               replace c53 := Bool.eq_false_iff.mpr c53
               subst c53
               have H1 : (laws_FnRunsOfPairs.l0 kj37 l1 t296 t297 t298 t306 t307 t308 1) = some r := by rw [if_neg (show ¬ (false = true) by decide)] at H; exact H
               clear H
               have H := H1
               clear H1
               have H' := Aside0.mk H
               clear H
               go_wp2
               go_loopg [20] kj37 (fun kq v20 w' => ∃ (x20_3 : Int), v20 = .int .i64 x20_3 ∧ Aside0 (laws_FnRunsOfPairs.l0 kq l1 t296 t297 t298 t306 t307 t308 x20_3 = some r) ∧ Aside0 (kq ≤ kj37) ∧ Aside0 (Kd.N (Kd.slice 3 (Kd.int .i64)) 33 w' w.heap.size (fun _ => True) (.slice (some ad314) t298.length co39) t298) ∧ Aside0 (Kd.C (Kd.int .i64) w' A314_0 (rd_L2 t298 (ji35)).length (rd_L2 t298 (ji35))) ∧ Aside0 (Below w.heap.size w w'))
               case atStart => exact ⟨(1), (by first | rfl | (simp; done) | (simp [*]; done)), H', ⟨Nat.le_refl _⟩, ⟨by (with_reducible repeat (first | apply Kd.N_alloc | apply Kd.N_drewN | apply Kd.N_drew)); exact HO_9.out⟩, ⟨by repeat (first | (with_reducible exact HR314_0.out) | (with_reducible refine Kd.C_alloc ?_ _) | (with_reducible refine Kd.C_drewN ?_ _) | (with_reducible refine Kd.C_drew ?_) | exact HR314_0.out)⟩, ⟨by repeat (first | (with_reducible first | exact HB.out | apply below_alloc | apply pw_below_drewN | apply below_drew1) | exact HB.out | exact Below.refl _ _)⟩⟩
               case round =>
                as_aux_lemma =>
                 clear H'
                 try clear c1
                 try clear c2
                 try clear p2
                 try clear c3
                 try clear p3
                 try clear q3
                 try clear hx3
                 try clear qi3
                 try clear c4
                 try clear c5
                 try clear c6
                 try clear p6
                 try clear c7
                 try clear c8
                 try clear c9
                 try clear c12
                 try clear c15
                 try clear c15b0
                 try clear c15b1
                 try clear c15b2
                 try clear c17
                 try clear c18
                 try clear c18b0
                 try clear c18b1
                 try clear c18b2
                 try clear c21
                 try clear c21b0
                 try clear c21b1
                 try clear c22
                 try clear c22b0
                 try clear c22b1
                 try clear c31
                 try clear p31
                 try clear q31
                 try clear hx31
                 try clear qi31
                 try clear c32
                 try clear c34
                 try clear c36
                 try clear c36b0
                 try clear c37
                 try clear c37b0
                 try clear c40
                 try clear c40b0
                 try clear c40b1
                 try clear c42
                 try clear c53
                 try clear hx314_0
                 try clear hx315_0
                 try clear p2
                 try clear p3
                 try clear p31
                 try clear p314
                 try clear p315
                 try clear p6
                 try clear q3
                 try clear q31
                 try clear q314
                 try clear q315
                 obtain ⟨x20_3, rfl, HA, HK3, HO_9, HR314_0, HB⟩ := hrel
                 cases gk with
                 | zero => exact absurd HA.out (by simp [laws_FnRunsOfPairs.l0])
                 | succ k3 =>
                  have H := HA.out
                  clear HA
                  simp only [laws_FnRunsOfPairs.l0] at H
                  by_cases c54 : x20_3 < (t298.length : Int)
                  ·
                   rw [if_pos c54] at H
                   have c54b0 : decide (x20_3 < (t298.length : Int)) = true := decide_eq_true c54
                   clear c54
                   obtain ⟨ji55, hji55⟩ : ∃ j_ : Int, (wrap64 (x20_3 - 1)) = j_ := ⟨_, rfl⟩
                   replace H : (if 0 ≤ (ji55) then (if (ji55) < (t298.length : Int) then (if 0 < ((rd_L2 t298 (ji55)).length : Int) then (if 1 < ((rd_L2 t298 (ji55)).length : Int) then ((impl_JumpDown.f (rd (rd_L2 t298 (ji55)) 0) (rd (rd_L2 t298 (ji55)) 1) t296 t297).bind fun bt328 => (if bt328.2.2 = true then (if 0 ≤ x20_3 then ((laws_vSame.f k3 (rd_L2 t298 x20_3) (([bt328.1, bt328.2.1] : List Int))).bind fun t335 => (if t335 = true then (if (wrap64 (bt328.1 + bt328.2.1)) ≥ (wrap64 ((rd (rd_L2 t298 (ji55)) 0) + (rd (rd_L2 t298 (ji55)) 1))) then (some false) else (laws_FnRunsOfPairs.l0 k3 l1 t296 t297 t298 t306 t307 t308 (wrap64 (x20_3 + 1)))) else (some false))) else (none)) else (some false))) else (none)) else (none)) else (none)) else (none)) = some r := by first | (rw [hji55] at H; exact H) | (simp only [hji55] at H ⊢; exact H)
                   have hji55w : (IntKind.i64.wrap (x20_3 - 1)) = ji55 := (i64_w _).trans hji55
                   by_cases c56 : 0 ≤ (ji55)
                   ·
                    rw [if_pos c56] at H
                    have c56b0 : decide (0 ≤ (ji55)) = true := decide_eq_true c56
                    clear c56
                    by_cases c57 : (ji55) < (t298.length : Int)
                    ·
                     rw [if_pos c57] at H
                     have c57b0 : decide ((ji55) < (t298.length : Int)) = true := decide_eq_true c57
                     clear c57
                     by_cases c58 : 0 < ((rd_L2 t298 (ji55)).length : Int)
                     ·
                      rw [if_pos c58] at H
                      have c58b0 : decide (0 < ((rd_L2 t298 (ji55)).length : Int)) = true := decide_eq_true c58
                      have c58b1 : decide (0 < (rd_L2 t298 (ji55)).length) = true := decide_eq_true (by omega)
                      clear c58
                      by_cases c59 : 1 < ((rd_L2 t298 (ji55)).length : Int)
                      ·
                       rw [if_pos c59] at H
                       have c59b0 : decide (1 < ((rd_L2 t298 (ji55)).length : Int)) = true := decide_eq_true c59
                       have c59b1 : decide (1 < (rd_L2 t298 (ji55)).length) = true := decide_eq_true (by omega)
                       clear c59
                       replace H := Option.bind_eq_some_iff.mp H
                       obtain ⟨⟨t328, t329, t330⟩, A600, H⟩ := H
                       replace H : (if t330 = true then (if 0 ≤ x20_3 then ((laws_vSame.f k3 (rd_L2 t298 x20_3) (([t328, t329] : List Int))).bind fun t335 => (if t335 = true then (if (wrap64 (t328 + t329)) ≥ (wrap64 ((rd (rd_L2 t298 (ji55)) 0) + (rd (rd_L2 t298 (ji55)) 1))) then (some false) else (laws_FnRunsOfPairs.l0 k3 l1 t296 t297 t298 t306 t307 t308 (wrap64 (x20_3 + 1)))) else (some false))) else (none)) else (some false)) = some r := H
                       have A60 := Aside0.mk A600
                       clear A600
                       by_cases c61 : t330 = true
                       ·
                        subst c61
                        have H1 : (if 0 ≤ x20_3 then ((laws_vSame.f k3 (rd_L2 t298 x20_3) (([t328, t329] : List Int))).bind fun t335 => (if t335 = true then (if (wrap64 (t328 + t329)) ≥ (wrap64 ((rd (rd_L2 t298 (ji55)) 0) + (rd (rd_L2 t298 (ji55)) 1))) then (some false) else (laws_FnRunsOfPairs.l0 k3 l1 t296 t297 t298 t306 t307 t308 (wrap64 (x20_3 + 1)))) else (some false))) else (none)) = some r := by rw [if_pos rfl] at H; exact H
                        clear H
                        have H := H1
                        clear H1
                        by_cases c62 : 0 ≤ x20_3
                        ·
                         rw [if_pos c62] at H
                         have c62b0 : decide (0 ≤ x20_3) = true := decide_eq_true c62
                         clear c62
                         obtain ⟨y332, hy332⟩ : ∃ y_ : List Int, y_ = (([t328, t329] : List Int)) := ⟨_, rfl⟩
                         replace H : ((laws_vSame.f k3 (rd_L2 t298 x20_3) y332).bind fun t335 => (if t335 = true then (if (wrap64 (t328 + t329)) ≥ (wrap64 ((rd (rd_L2 t298 (ji55)) 0) + (rd (rd_L2 t298 (ji55)) 1))) then (some false) else (laws_FnRunsOfPairs.l0 k3 l1 t296 t297 t298 t306 t307 t308 (wrap64 (x20_3 + 1)))) else (some false))) = some r := by first | (rw [hy332]; with_reducible exact H) | (have H2_ := (Option.bind_some _ _).symm.trans H; rw [hy332]; with_reducible exact H2_) | (have H2_ := (Option.bind_some _ _).symm.trans H; with_reducible exact H2_) | with_reducible exact H | (rw [hy332]; exact H) | exact H
                         have Ny332 := Aside0.mk hy332
                         clear hy332
                         replace H := Option.bind_eq_some_iff.mp H
                         obtain ⟨t335, A630, H⟩ := H
                         replace H : (if t335 = true then (if (wrap64 (t328 + t329)) ≥ (wrap64 ((rd (rd_L2 t298 (ji55)) 0) + (rd (rd_L2 t298 (ji55)) 1))) then (some false) else (laws_FnRunsOfPairs.l0 k3 l1 t296 t297 t298 t306 t307 t308 (wrap64 (x20_3 + 1)))) else (some false)) = some r := H
                         have A63 := Aside0.mk A630
                         clear A630
                         by_cases c64 : t335 = true
                         ·
                          subst c64
                          have H1 : (if (wrap64 (t328 + t329)) ≥ (wrap64 ((rd (rd_L2 t298 (ji55)) 0) + (rd (rd_L2 t298 (ji55)) 1))) then (some false) else (laws_FnRunsOfPairs.l0 k3 l1 t296 t297 t298 t306 t307 t308 (wrap64 (x20_3 + 1)))) = some r := by rw [if_pos rfl] at H; exact H
                          clear H
                          have H := H1
                          clear H1
                          by_cases c65 : (wrap64 (t328 + t329)) ≥ (wrap64 ((rd (rd_L2 t298 (ji55)) 0) + (rd (rd_L2 t298 (ji55)) 1)))
                          ·
                           rw [if_pos c65] at H
                           exact absurd (H.trans (congrArg some hrT)) (by simp)
                          ·
                           rw [if_neg c65] at H
                           have c65b0 : decide ((wrap64 ((rd (rd_L2 t298 (ji55)) 0) + (rd (rd_L2 t298 (ji55)) 1))) ≤ (wrap64 (t328 + t329))) = false := decide_eq_false c65
                           clear c65
                           have H' := Aside0.mk H
                           clear H
                           try go_wp2
                           have n0_ := Aside0.mk (Kd.N_drew HO_9.out)
                           have n1_ := Aside0.mk (Kd.C_drew HR314_0.out)
                           have n2_ := Aside0.mk (below_drew1 HB.out)
                           clear HO_9
                           clear HR314_0
                           clear HB
                           have HO_9 := n0_
                           have HR314_0 := n1_
                           have HB := n2_
                           clear n0_ n1_ n2_
                           have p324 : 0 ≤ ((ji55) : Int) := of_decide_eq_true (by first | (with_reducible assumption) | assumption)
                           have q324 : (ji55) < (t298.length : Int) := of_decide_eq_true (by first | (with_reducible assumption) | assumption)
                           obtain ⟨ad324, A324_0, c324_0, e324, hx324_0, hl324_0, hi324_0⟩ := at_L2 (Kd.N_reads' HO_9.out).2.2 (ji55) p324 q324
                           obtain rfl : ad314 = ad324 := (by injection e324)
                           obtain ⟨ce324, hce324, hMe324, hcc324⟩ := Kd.N_get HO_9.out [] (ji55) p324 (by first | exact q324 | exact of_decide_eq_true (by first | (with_reducible assumption) | assumption) | (have e_ := (Kd.N_reads' HO_9.out).1; omega))
                           obtain ⟨ua324_0, uc324_0, rfl, ul324_0, ge324_0⟩ := Kd.FK_slice_open hMe324
                           have hv324_0 := hcc324 0 _ rfl
                           rw [Nat.add_zero, show ((Kd.slice 3 (Kd.int .i64))).sz = 1 from rfl, Nat.mul_one] at hv324_0
                           replace hv324_0 := Option.some.inj (hv324_0.symm.trans hx324_0)
                           injection hv324_0 with hva_ hvn_ hvc_
                           rw [hva_] at ge324_0
                           rw [hvc_] at ul324_0
                           have HL324_0 := Aside0.mk (show Kd.V (Kd.int .i64) 3 _ w.heap.size _ _ (rd_L2 t298 (ji55)) from Kd.V_mk ul324_0 ge324_0)
                           clear hva_ hvn_ hvc_ ge324_0 ul324_0
                           clear hcc324 hce324
                           have HR324_0 := Aside0.mk hi324_0
                           have HC324_0 := Aside0.mk hl324_0
                           clear hi324_0 hl324_0
                           replace p324 := eq_true p324
                           replace q324 := eq_true q324
                           have p325 : 0 ≤ (0 : Int) := (by omega)
                           have q325 : 0 < ((rd_L2 t298 (ji55)).length : Int) := of_decide_eq_true (by first | (with_reducible assumption) | assumption)
                           obtain ⟨ad325, e325, hx325_0⟩ := Kd.at_int (by repeat (first | (with_reducible exact HR324_0.out) | (with_reducible refine Kd.C_alloc ?_ _) | (with_reducible refine Kd.C_drewN ?_ _) | (with_reducible refine Kd.C_drew ?_) | exact HR324_0.out)) 0 p325 q325
                           cases e325
                           have qi325 : (0 < (rd_L2 t298 (ji55)).length) = True := eq_true (by omega)
                           (try rw [show ((0 : Int)).toNat = 0 from rfl] at hx325_0)
                           (try rw [Addr.add_zero'] at hx325_0)
                           replace p325 := eq_true p325
                           replace q325 := eq_true q325
                           have p326 : 0 ≤ ((ji55) : Int) := of_decide_eq_true (by first | (with_reducible assumption) | assumption)
                           have q326 : (ji55) < (t298.length : Int) := of_decide_eq_true (by first | (with_reducible assumption) | assumption)
                           obtain ⟨ad326, A326_0, c326_0, e326, hx326_0, hl326_0, hi326_0⟩ := at_L2 (Kd.N_reads' HO_9.out).2.2 (ji55) p326 q326
                           obtain rfl : ad314 = ad326 := (by injection e326)
                           obtain ⟨ce326, hce326, hMe326, hcc326⟩ := Kd.N_get HO_9.out [] (ji55) p326 (by first | exact q326 | exact of_decide_eq_true (by first | (with_reducible assumption) | assumption) | (have e_ := (Kd.N_reads' HO_9.out).1; omega))
                           obtain ⟨ua326_0, uc326_0, rfl, ul326_0, ge326_0⟩ := Kd.FK_slice_open hMe326
                           have hv326_0 := hcc326 0 _ rfl
                           rw [Nat.add_zero, show ((Kd.slice 3 (Kd.int .i64))).sz = 1 from rfl, Nat.mul_one] at hv326_0
                           replace hv326_0 := Option.some.inj (hv326_0.symm.trans hx326_0)
                           injection hv326_0 with hva_ hvn_ hvc_
                           rw [hva_] at ge326_0
                           rw [hvc_] at ul326_0
                           have HL326_0 := Aside0.mk (show Kd.V (Kd.int .i64) 3 _ w.heap.size _ _ (rd_L2 t298 (ji55)) from Kd.V_mk ul326_0 ge326_0)
                           clear hva_ hvn_ hvc_ ge326_0 ul326_0
                           clear hcc326 hce326
                           have HR326_0 := Aside0.mk hi326_0
                           have HC326_0 := Aside0.mk hl326_0
                           clear hi326_0 hl326_0
                           replace p326 := eq_true p326
                           replace q326 := eq_true q326
                           have ea_ := Option.some.inj (hx324_0.symm.trans hx326_0)
                           injection ea_ with ea_ en_ ec_
                           subst ea_
                           subst ec_
                           clear en_
                           have p327 : 0 ≤ (1 : Int) := (by omega)
                           have q327 : 1 < ((rd_L2 t298 (ji55)).length : Int) := of_decide_eq_true (by first | (with_reducible assumption) | assumption)
                           obtain ⟨ad327, e327, hx327_0⟩ := Kd.at_int (by repeat (first | (with_reducible exact HR326_0.out) | (with_reducible refine Kd.C_alloc ?_ _) | (with_reducible refine Kd.C_drewN ?_ _) | (with_reducible refine Kd.C_drew ?_) | exact HR326_0.out)) 1 p327 q327
                           cases e327
                           (try simp only [show (1 : Int).toNat = 1 from rfl, Nat.reduceMul, Nat.reduceEqDiff, Go.Addr.add, ↓reduceIte] at hx327_0)
                           have qi327 : (1 < (rd_L2 t298 (ji55)).length) = True := eq_true (by omega)
                           (try rw [show ((1 : Int)).toNat = 1 from rfl] at hx327_0)
                           replace p327 := eq_true p327
                           replace q327 := eq_true q327
                           refine start_ (n := 24) (S := fun w' => w'.cell? (ad314.add ((ji55)).toNat) = some (.slice (some ad325) (rd_L2 t298 (ji55)).length c324_0) ∧ w'.cell? ad325 = some (.int .i64 (rd (rd_L2 t298 (ji55)) 0)) ∧ w'.cell? (ad314.add ((ji55)).toNat) = some (.slice (some ad325) (rd_L2 t298 (ji55)).length c324_0) ∧ w'.cell? ⟨ad325.block, ad325.off + 1, none⟩ = some (.int .i64 (rd (rd_L2 t298 (ji55)) 1))) (ds := []) #[false, false, false, false, false, false, false, false, false, false, false, false, false, false, false, false, false, false, false, false, false, false, false, false] (by kernel_rfl) rfl rfl ⟨hx324_0, hx325_0, hx326_0, hx327_0⟩ (fun hHeld => ?_); refine with_tabW laws_FnRunsOfPairs.tab17 laws_FnRunsOfPairs.bits17 (fun HT_ HW_ => ?_)
                           generalize wr.drew = w72 at HO_9 HR314_0 HB HL324_0 HL326_0 HR324_0 HR326_0 hx324_0 hx325_0 hx326_0 hx327_0 hHeld ⊢
                           refine pure_ (i := 0) (N := some 147) (v := ?_) (a' := ?_) #[true, false, false, false, false, false, false, false, false, false, false, false, false, false, false, false, false, false, false, false, false, false, false, false] rfl rfl (any_of HT_.out (by kernel_rfl)) (fun _ _ _ h => h) (Or.inl ⟨by rfl, ?_⟩) ?_ ?_
                           rotate_left
                           ·
                            intro w'
                            go_simp
                            with_reducible rfl
                           rotate_left
                           ·
                            simp only [Act.put, List.setIfInBounds_toArray, List.set_cons_zero, List.set_cons_succ, i64_w, i32_w]
                            rfl
                           refine pure_ (i := 1) (N := some 148) (v := ?_) (a' := ?_) #[true, true, false, false, false, false, false, false, false, false, false, false, false, false, false, false, false, false, false, false, false, false, false, false] rfl rfl (any_of HT_.out (by kernel_rfl)) (fun _ _ _ h => h) (Or.inl ⟨by rfl, ?_⟩) ?_ ?_
                           rotate_left
                           ·
                            intro w'
                            go_simp
                            with_reducible rfl
                           rotate_left
                           ·
                            simp only [Act.put, List.setIfInBounds_toArray, List.set_cons_zero, List.set_cons_succ, i64_w, i32_w]
                            rfl
                           refine pure_ (i := 2) (N := some 149) (v := ?_) (a' := ?_) #[true, true, true, false, false, false, false, false, false, false, false, false, false, false, false, false, false, false, false, false, false, false, false, false] rfl rfl (any_of HT_.out (by kernel_rfl)) (fun _ _ _ h => h) (Or.inl ⟨by rfl, ?_⟩) ?_ ?_
                           rotate_left
                           ·
                            intro w'
                            go_simp
                            with_reducible rfl
                           rotate_left
                           ·
                            simp only [Act.put, List.setIfInBounds_toArray, List.set_cons_zero, List.set_cons_succ, i64_w, i32_w]
                            rfl
                           refine pure_ (i := 3) (N := some 150) (v := ?_) (a' := ?_) #[true, true, true, true, false, false, false, false, false, false, false, false, false, false, false, false, false, false, false, false, false, false, false, false] rfl rfl (any_of HT_.out (by kernel_rfl)) (fun _ _ _ h => h) (Or.inl ⟨by rfl, ?_⟩) ?_ ?_
                           rotate_left
                           ·
                            intro w'
                            go_simp
                            with_reducible rfl
                           rotate_left
                           ·
                            simp only [Act.put, List.setIfInBounds_toArray, List.set_cons_zero, List.set_cons_succ, i64_w, i32_w]
                            rfl
                           refine pure_ (i := 7) (N := some 154) (v := ?_) (a' := ?_) #[true, true, true, true, false, false, false, true, false, false, false, false, false, false, false, false, false, false, false, false, false, false, false, false] rfl rfl (any_of HT_.out (by kernel_rfl)) (fun _ _ _ h => h) (Or.inl ⟨by rfl, ?_⟩) ?_ ?_
                           rotate_left
                           ·
                            intro w'
                            go_simp
                            with_reducible rfl
                           rotate_left
                           ·
                            simp only [Act.put, List.setIfInBounds_toArray, List.set_cons_zero, List.set_cons_succ, i64_w, i32_w]
                            rfl
                           refine pure_ (i := 8) (N := some 155) (v := ?_) (a' := ?_) #[true, true, true, true, false, false, false, true, true, false, false, false, false, false, false, false, false, false, false, false, false, false, false, false] rfl rfl (any_of HT_.out (by kernel_rfl)) (fun _ _ _ h => h) (Or.inl ⟨by rfl, ?_⟩) ?_ ?_
                           rotate_left
                           ·
                            intro w'
                            go_simp
                            with_reducible rfl
                           rotate_left
                           ·
                            simp only [Act.put, List.setIfInBounds_toArray, List.set_cons_zero, List.set_cons_succ, i64_w, i32_w]
                            rfl
                           refine pure_ (i := 9) (N := some 156) (v := ?_) (a' := ?_) #[true, true, true, true, false, false, false, true, true, true, false, false, false, false, false, false, false, false, false, false, false, false, false, false] rfl rfl (any_of HT_.out (by kernel_rfl)) (fun _ _ _ h => h) (Or.inl ⟨by rfl, ?_⟩) ?_ ?_
                           rotate_left
                           ·
                            intro w'
                            go_simp
                            with_reducible rfl
                           rotate_left
                           ·
                            simp only [Act.put, List.setIfInBounds_toArray, List.set_cons_zero, List.set_cons_succ, i64_w, i32_w]
                            rfl
                           refine pure_ (i := 10) (N := some 157) (v := ?_) (a' := ?_) #[true, true, true, true, false, false, false, true, true, true, true, false, false, false, false, false, false, false, false, false, false, false, false, false] rfl rfl (any_of HT_.out (by kernel_rfl)) (fun _ _ _ h => h) (Or.inl ⟨by rfl, ?_⟩) ?_ ?_
                           rotate_left
                           ·
                            intro w'
                            go_simp
                            with_reducible rfl
                           rotate_left
                           ·
                            simp only [Act.put, List.setIfInBounds_toArray, List.set_cons_zero, List.set_cons_succ, i64_w, i32_w]
                            rfl
                           refine pure_ (i := 14) (N := some 161) (v := ?_) (a' := ?_) #[true, true, true, true, false, false, false, true, true, true, true, false, false, false, true, false, false, false, false, false, false, false, false, false] rfl rfl (any_of HT_.out (by kernel_rfl)) (fun _ _ _ h => h) (Or.inl ⟨by rfl, ?_⟩) ?_ ?_
                           rotate_left
                           ·
                            intro w'
                            go_simp
                            with_reducible rfl
                           rotate_left
                           ·
                            simp only [Act.put, List.setIfInBounds_toArray, List.set_cons_zero, List.set_cons_succ, i64_w, i32_w]
                            rfl
                           refine pure_ (i := 15) (N := some 162) (v := ?_) (a' := ?_) #[true, true, true, true, false, false, false, true, true, true, true, false, false, false, true, true, false, false, false, false, false, false, false, false] rfl rfl (any_of HT_.out (by kernel_rfl)) (fun _ _ _ h => h) (Or.inl ⟨by rfl, ?_⟩) ?_ ?_
                           rotate_left
                           ·
                            intro w'
                            go_simp
                            with_reducible rfl
                           rotate_left
                           ·
                            simp only [Act.put, List.setIfInBounds_toArray, List.set_cons_zero, List.set_cons_succ, i64_w, i32_w]
                            rfl
                           refine take_ (i := 4) (N := some 151) (v := ?_) (a' := ?_) #[true, true, true, true, true, false, false, true, true, true, true, false, false, false, true, true, false, false, false, false, false, false, false, false] rfl rfl (take_ofW HT_.out HW_.out (by kernel_rfl)) (fun _ _ _ h => h) (Or.inl ⟨by rfl, ?_⟩) hHeld ?_ ?_
                           rotate_left
                           ·
                            rintro w' ⟨s0, s1, s2, s3⟩
                            go_simp
                            with_reducible rfl
                           rotate_left
                           ·
                            simp only [Act.put, List.setIfInBounds_toArray, List.set_cons_zero, List.set_cons_succ, i64_w, i32_w]
                            rfl
                           refine pure_ (i := 5) (N := some 152) (v := ?_) (a' := ?_) #[true, true, true, true, true, true, false, true, true, true, true, false, false, false, true, true, false, false, false, false, false, false, false, false] rfl rfl (any_of HT_.out (by kernel_rfl)) (fun _ _ _ h => h) (Or.inl ⟨by rfl, ?_⟩) ?_ ?_
                           rotate_left
                           ·
                            intro w'
                            go_simp
                            with_reducible rfl
                           rotate_left
                           ·
                            simp only [Act.put, List.setIfInBounds_toArray, List.set_cons_zero, List.set_cons_succ, i64_w, i32_w]
                            rfl
                           refine take_ (i := 6) (N := some 153) (v := ?_) (a' := ?_) #[true, true, true, true, true, true, true, true, true, true, true, false, false, false, true, true, false, false, false, false, false, false, false, false] rfl rfl (take_ofW HT_.out HW_.out (by kernel_rfl)) (fun _ _ _ h => h) (Or.inl ⟨by rfl, ?_⟩) hHeld ?_ ?_
                           rotate_left
                           ·
                            rintro w' ⟨s0, s1, s2, s3⟩
                            go_simp
                            with_reducible rfl
                           rotate_left
                           ·
                            simp only [Act.put, List.setIfInBounds_toArray, List.set_cons_zero, List.set_cons_succ, i64_w, i32_w]
                            rfl
                           refine take_ (i := 11) (N := some 158) (v := ?_) (a' := ?_) #[true, true, true, true, true, true, true, true, true, true, true, true, false, false, true, true, false, false, false, false, false, false, false, false] rfl rfl (take_ofW HT_.out HW_.out (by kernel_rfl)) (fun _ _ _ h => h) (Or.inl ⟨by rfl, ?_⟩) hHeld ?_ ?_
                           rotate_left
                           ·
                            rintro w' ⟨s0, s1, s2, s3⟩
                            go_simp
                            with_reducible rfl
                           rotate_left
                           ·
                            simp only [Act.put, List.setIfInBounds_toArray, List.set_cons_zero, List.set_cons_succ, i64_w, i32_w]
                            rfl
                           refine pure_ (i := 12) (N := some 159) (v := ?_) (a' := ?_) #[true, true, true, true, true, true, true, true, true, true, true, true, true, false, true, true, false, false, false, false, false, false, false, false] rfl rfl (any_of HT_.out (by kernel_rfl)) (fun _ _ _ h => h) (Or.inl ⟨by rfl, ?_⟩) ?_ ?_
                           rotate_left
                           ·
                            intro w'
                            go_simp
                            with_reducible rfl
                           rotate_left
                           ·
                            simp only [Act.put, List.setIfInBounds_toArray, List.set_cons_zero, List.set_cons_succ, i64_w, i32_w]
                            rfl
                           refine take_ (i := 13) (N := some 160) (v := ?_) (a' := ?_) #[true, true, true, true, true, true, true, true, true, true, true, true, true, true, true, true, false, false, false, false, false, false, false, false] rfl rfl (take_ofW HT_.out HW_.out (by kernel_rfl)) (fun _ _ _ h => h) (Or.inl ⟨by rfl, ?_⟩) hHeld ?_ ?_
                           rotate_left
                           ·
                            rintro w' ⟨s0, s1, s2, s3⟩
                            go_simp
                            with_reducible rfl
                           rotate_left
                           ·
                            simp only [Act.put, List.setIfInBounds_toArray, List.set_cons_zero, List.set_cons_succ, i64_w, i32_w]
                            rfl
                           refine one_ (i := 16) (N := some 163) #[true, true, true, true, true, true, true, true, true, true, true, true, true, true, true, true, true, false, false, false, false, false, false, false] rfl rfl (one_of HT_.out (by kernel_rfl)) (by decide) (fun K hK => ?_)
                           refine goes_ Try.func13 (by kernel_rfl) rfl #[.int .i64 (rd (rd_L2 t298 (ji55)) 0), .int .i64 (rd (rd_L2 t298 (ji55)) 1), .int .i64 t296, .int .i64 t297] (by rfl) rfl rfl (by (try simp only [List.map_toArray, List.map_cons, List.map_nil]); first | done | (simp only [hji55]; rfl) | rfl | (simp only [List.length_drop, List.length_take]; rfl)) ?_
                           with_reducible refine (impl_JumpDown.calls (rd (rd_L2 t298 (ji55)) 0) (rd (rd_L2 t298 (ji55)) 1) t296 t297 t328 t329 true _ A60.out).mono ?_
                           rintro e w73 ⟨rfl, hb⟩
                           have HS0_ := (hb.cell (World.block_lt_of_cell? _ _ (hHeld.1))).trans (hHeld.1)
                           have HS1_ := (hb.cell (World.block_lt_of_cell? _ _ (hHeld.2.1))).trans (hHeld.2.1)
                           have HS2_ := (hb.cell (World.block_lt_of_cell? _ _ (hHeld.2.2.1))).trans (hHeld.2.2.1)
                           have HS3_ := (hb.cell (World.block_lt_of_cell? _ _ (hHeld.2.2.2))).trans (hHeld.2.2.2)
                           refine ⟨_, rfl, ?_⟩
                           have n0_ := Aside0.mk (Kd.N_below (by (with_reducible repeat (first | apply Kd.N_alloc | apply Kd.N_drewN | apply Kd.N_drew)); exact HO_9.out) hb)
                           have n1_ := Aside0.mk (Kd.V_below (by (with_reducible repeat (first | apply Kd.V_alloc | apply Kd.V_drewN | apply Kd.V_drew)); exact HL324_0.out) hb)
                           have n2_ := Aside0.mk (Kd.V_below (by (with_reducible repeat (first | apply Kd.V_alloc | apply Kd.V_drewN | apply Kd.V_drew)); exact HL326_0.out) hb)
                           have n3_ := Aside0.mk ((by with_reducible first | exact Kd.C_below HR314_0.out hb | exact Kd.C_below (Kd.C_drewN HR314_0.out _) hb | exact Kd.C_below (Kd.C_alloc HR314_0.out _) hb | exact Kd.C_below (Kd.C_drewN (Kd.C_drewN HR314_0.out _) _) hb))
                           have n4_ := Aside0.mk ((by with_reducible first | exact Kd.C_below HR324_0.out hb | exact Kd.C_below (Kd.C_drewN HR324_0.out _) hb | exact Kd.C_below (Kd.C_alloc HR324_0.out _) hb | exact Kd.C_below (Kd.C_drewN (Kd.C_drewN HR324_0.out _) _) hb))
                           have n5_ := Aside0.mk ((by with_reducible first | exact Kd.C_below HR326_0.out hb | exact Kd.C_below (Kd.C_drewN HR326_0.out _) hb | exact Kd.C_below (Kd.C_alloc HR326_0.out _) hb | exact Kd.C_below (Kd.C_drewN (Kd.C_drewN HR326_0.out _) _) hb))
                           have n6_ := Aside0.mk (below_step (by repeat (first | (with_reducible first | exact HB.out | apply below_alloc | apply pw_below_drewN | apply below_drew1) | exact HB.out | exact Below.refl _ _)) hb)
                           clear HO_9
                           clear HL324_0
                           clear HL326_0
                           clear HR314_0
                           clear HR324_0
                           clear HR326_0
                           clear HB
                           have HO_9 := n0_
                           have HL324_0 := n1_
                           have HL326_0 := n2_
                           have HR314_0 := n3_
                           have HR324_0 := n4_
                           have HR326_0 := n5_
                           have HB := n6_
                           clear n0_ n1_ n2_ n3_ n4_ n5_ n6_
                           (try clear hb)
                           (try clear hb2)
                           (try clear hk)
                           (try clear hi)
                           refine hK.out _ _ ⟨HS0_, HS1_, HS2_, HS3_⟩ (fun hHeld => ?_)
                           clear hK K
                           refine norm_ (a' := ?_) ?_ ?_
                           rotate_left
                           ·
                            show Act.put _ (some 163) _ = _
                            simp only [Act.put, List.setIfInBounds_toArray, List.set_cons_zero, List.set_cons_succ, i64_w, i32_w]
                            rfl
                           refine pure_ (i := 17) (N := some 146) (v := ?_) (a' := ?_) #[true, true, true, true, true, true, true, true, true, true, true, true, true, true, true, true, true, true, false, false, false, false, false, false] rfl rfl (any_of HT_.out (by kernel_rfl)) (fun _ _ _ h => h) (Or.inl ⟨by rfl, ?_⟩) ?_ ?_
                           rotate_left
                           ·
                            intro w'
                            go_simp
                            with_reducible rfl
                           rotate_left
                           ·
                            simp only [Act.put, List.setIfInBounds_toArray, List.set_cons_zero, List.set_cons_succ, i64_w, i32_w]
                            rfl
                           refine pure_ (i := 18) (N := some 164) (v := ?_) (a' := ?_) #[true, true, true, true, true, true, true, true, true, true, true, true, true, true, true, true, true, true, true, false, false, false, false, false] rfl rfl (any_of HT_.out (by kernel_rfl)) (fun _ _ _ h => h) (Or.inl ⟨by rfl, ?_⟩) ?_ ?_
                           rotate_left
                           ·
                            intro w'
                            go_simp
                            with_reducible rfl
                           rotate_left
                           ·
                            simp only [Act.put, List.setIfInBounds_toArray, List.set_cons_zero, List.set_cons_succ, i64_w, i32_w]
                            rfl
                           refine pure_ (i := 19) (N := some 165) (v := ?_) (a' := ?_) #[true, true, true, true, true, true, true, true, true, true, true, true, true, true, true, true, true, true, true, true, false, false, false, false] rfl rfl (any_of HT_.out (by kernel_rfl)) (fun _ _ _ h => h) (Or.inl ⟨by rfl, ?_⟩) ?_ ?_
                           rotate_left
                           ·
                            intro w'
                            go_simp
                            with_reducible rfl
                           rotate_left
                           ·
                            simp only [Act.put, List.setIfInBounds_toArray, List.set_cons_zero, List.set_cons_succ, i64_w, i32_w]
                            rfl
                           refine pure_ (i := 20) (N := some 166) (v := ?_) (a' := ?_) #[true, true, true, true, true, true, true, true, true, true, true, true, true, true, true, true, true, true, true, true, true, false, false, false] rfl rfl (any_of HT_.out (by kernel_rfl)) (fun _ _ _ h => h) (Or.inl ⟨by rfl, ?_⟩) ?_ ?_
                           rotate_left
                           ·
                            intro w'
                            go_simp
                            with_reducible rfl
                           rotate_left
                           ·
                            simp only [Act.put, List.setIfInBounds_toArray, List.set_cons_zero, List.set_cons_succ, i64_w, i32_w]
                            rfl
                           refine pure_ (i := 21) (N := some 21) (v := ?_) (a' := ?_) #[true, true, true, true, true, true, true, true, true, true, true, true, true, true, true, true, true, true, true, true, true, true, false, false] rfl rfl (any_of HT_.out (by kernel_rfl)) (fun _ _ _ h => h) (Or.inl ⟨by rfl, ?_⟩) ?_ ?_
                           rotate_left
                           ·
                            intro w'
                            go_simp
                            with_reducible rfl
                           rotate_left
                           ·
                            simp only [Act.put, List.setIfInBounds_toArray, List.set_cons_zero, List.set_cons_succ, i64_w, i32_w]
                            rfl
                           refine pure_ (i := 22) (N := some 22) (v := ?_) (a' := ?_) #[true, true, true, true, true, true, true, true, true, true, true, true, true, true, true, true, true, true, true, true, true, true, true, false] rfl rfl (any_of HT_.out (by kernel_rfl)) (fun _ _ _ h => h) (Or.inl ⟨by rfl, ?_⟩) ?_ ?_
                           rotate_left
                           ·
                            intro w'
                            go_simp
                            with_reducible rfl
                           rotate_left
                           ·
                            simp only [Act.put, List.setIfInBounds_toArray, List.set_cons_zero, List.set_cons_succ, i64_w, i32_w]
                            rfl
                           refine pure_ (i := 23) (N := some 23) (v := ?_) (a' := ?_) #[true, true, true, true, true, true, true, true, true, true, true, true, true, true, true, true, true, true, true, true, true, true, true, true] rfl rfl (any_of HT_.out (by kernel_rfl)) (fun _ _ _ h => h) (Or.inl ⟨by rfl, ?_⟩) ?_ ?_
                           rotate_left
                           ·
                            intro w'
                            go_simp
                            with_reducible rfl
                           rotate_left
                           ·
                            simp only [Act.put, List.setIfInBounds_toArray, List.set_cons_zero, List.set_cons_succ, i64_w, i32_w]
                            rfl
                           refine done_ (done_of HT_.out (by kernel_rfl)) ?_
                           try go_wp2
                           have n0_ := Aside0.mk (Kd.N_drew HO_9.out)
                           have n1_ := Aside0.mk (Kd.V_drew HL324_0.out)
                           have n2_ := Aside0.mk (Kd.V_drew HL326_0.out)
                           have n3_ := Aside0.mk (Kd.C_drew HR314_0.out)
                           have n4_ := Aside0.mk (Kd.C_drew HR324_0.out)
                           have n5_ := Aside0.mk (Kd.C_drew HR326_0.out)
                           have n6_ := Aside0.mk (below_drew1 HB.out)
                           clear HO_9
                           clear HL324_0
                           clear HL326_0
                           clear HR314_0
                           clear HR324_0
                           clear HR326_0
                           clear HB
                           have HO_9 := n0_
                           have HL324_0 := n1_
                           have HL326_0 := n2_
                           have HR314_0 := n3_
                           have HR324_0 := n4_
                           have HR326_0 := n5_
                           have HB := n6_
                           clear n0_ n1_ n2_ n3_ n4_ n5_ n6_
                           have p331 : 0 ≤ (x20_3 : Int) := of_decide_eq_true (by first | (with_reducible assumption) | assumption)
                           have q331 : x20_3 < (t298.length : Int) := of_decide_eq_true (by first | (with_reducible assumption) | assumption)
                           obtain ⟨ad331, A331_0, c331_0, e331, hx331_0, hl331_0, hi331_0⟩ := at_L2 (Kd.N_reads' HO_9.out).2.2 x20_3 p331 q331
                           obtain rfl : ad314 = ad331 := (by injection e331)
                           obtain ⟨ce331, hce331, hMe331, hcc331⟩ := Kd.N_get HO_9.out [] x20_3 p331 (by first | exact q331 | exact of_decide_eq_true (by first | (with_reducible assumption) | assumption) | (have e_ := (Kd.N_reads' HO_9.out).1; omega))
                           obtain ⟨ua331_0, uc331_0, rfl, ul331_0, ge331_0⟩ := Kd.FK_slice_open hMe331
                           have hv331_0 := hcc331 0 _ rfl
                           rw [Nat.add_zero, show ((Kd.slice 3 (Kd.int .i64))).sz = 1 from rfl, Nat.mul_one] at hv331_0
                           replace hv331_0 := Option.some.inj (hv331_0.symm.trans hx331_0)
                           injection hv331_0 with hva_ hvn_ hvc_
                           rw [hva_] at ge331_0
                           rw [hvc_] at ul331_0
                           have HL331_0 := Aside0.mk (show Kd.V (Kd.int .i64) 3 _ w.heap.size _ _ (rd_L2 t298 x20_3) from Kd.V_mk ul331_0 ge331_0)
                           clear hva_ hvn_ hvc_ ge331_0 ul331_0
                           clear hcc331 hce331
                           have HR331_0 := Aside0.mk hi331_0
                           have HC331_0 := Aside0.mk hl331_0
                           clear hi331_0 hl331_0
                           replace p331 := eq_true p331
                           replace q331 := eq_true q331
                           have p336 : 0 ≤ ((ji55) : Int) := of_decide_eq_true (by first | (with_reducible assumption) | assumption)
                           have q336 : (ji55) < (t298.length : Int) := of_decide_eq_true (by first | (with_reducible assumption) | assumption)
                           obtain ⟨ad336, A336_0, c336_0, e336, hx336_0, hl336_0, hi336_0⟩ := at_L2 (Kd.N_reads' HO_9.out).2.2 (ji55) p336 q336
                           obtain rfl : ad314 = ad336 := (by injection e336)
                           obtain ⟨ce336, hce336, hMe336, hcc336⟩ := Kd.N_get HO_9.out [] (ji55) p336 (by first | exact q336 | exact of_decide_eq_true (by first | (with_reducible assumption) | assumption) | (have e_ := (Kd.N_reads' HO_9.out).1; omega))
                           obtain ⟨ua336_0, uc336_0, rfl, ul336_0, ge336_0⟩ := Kd.FK_slice_open hMe336
                           have hv336_0 := hcc336 0 _ rfl
                           rw [Nat.add_zero, show ((Kd.slice 3 (Kd.int .i64))).sz = 1 from rfl, Nat.mul_one] at hv336_0
                           replace hv336_0 := Option.some.inj (hv336_0.symm.trans hx336_0)
                           injection hv336_0 with hva_ hvn_ hvc_
                           rw [hva_] at ge336_0
                           rw [hvc_] at ul336_0
                           have HL336_0 := Aside0.mk (show Kd.V (Kd.int .i64) 3 _ w.heap.size _ _ (rd_L2 t298 (ji55)) from Kd.V_mk ul336_0 ge336_0)
                           clear hva_ hvn_ hvc_ ge336_0 ul336_0
                           clear hcc336 hce336
                           have HR336_0 := Aside0.mk hi336_0
                           have HC336_0 := Aside0.mk hl336_0
                           clear hi336_0 hl336_0
                           replace p336 := eq_true p336
                           replace q336 := eq_true q336
                           have p338 : 0 ≤ ((ji55) : Int) := of_decide_eq_true (by first | (with_reducible assumption) | assumption)
                           have q338 : (ji55) < (t298.length : Int) := of_decide_eq_true (by first | (with_reducible assumption) | assumption)
                           obtain ⟨ad338, A338_0, c338_0, e338, hx338_0, hl338_0, hi338_0⟩ := at_L2 (Kd.N_reads' HO_9.out).2.2 (ji55) p338 q338
                           obtain rfl : ad314 = ad338 := (by injection e338)
                           obtain ⟨ce338, hce338, hMe338, hcc338⟩ := Kd.N_get HO_9.out [] (ji55) p338 (by first | exact q338 | exact of_decide_eq_true (by first | (with_reducible assumption) | assumption) | (have e_ := (Kd.N_reads' HO_9.out).1; omega))
                           obtain ⟨ua338_0, uc338_0, rfl, ul338_0, ge338_0⟩ := Kd.FK_slice_open hMe338
                           have hv338_0 := hcc338 0 _ rfl
                           rw [Nat.add_zero, show ((Kd.slice 3 (Kd.int .i64))).sz = 1 from rfl, Nat.mul_one] at hv338_0
                           replace hv338_0 := Option.some.inj (hv338_0.symm.trans hx338_0)
                           injection hv338_0 with hva_ hvn_ hvc_
                           rw [hva_] at ge338_0
                           rw [hvc_] at ul338_0
                           have HL338_0 := Aside0.mk (show Kd.V (Kd.int .i64) 3 _ w.heap.size _ _ (rd_L2 t298 (ji55)) from Kd.V_mk ul338_0 ge338_0)
                           clear hva_ hvn_ hvc_ ge338_0 ul338_0
                           clear hcc338 hce338
                           have HR338_0 := Aside0.mk hi338_0
                           have HC338_0 := Aside0.mk hl338_0
                           clear hi338_0 hl338_0
                           replace p338 := eq_true p338
                           replace q338 := eq_true q338
                           have ea_ := Option.some.inj (hx336_0.symm.trans hx338_0)
                           injection ea_ with ea_ en_ ec_
                           subst ea_
                           subst ec_
                           clear en_
                           have p337 : 0 ≤ (0 : Int) := (by omega)
                           have q337 : 0 < ((rd_L2 t298 (ji55)).length : Int) := of_decide_eq_true (by first | (with_reducible assumption) | assumption)
                           obtain ⟨ad337, e337, hx337_0⟩ := Kd.at_int (by repeat (first | (with_reducible exact HR336_0.out) | (with_reducible refine Kd.C_alloc ?_ _) | (with_reducible refine Kd.C_drewN ?_ _) | (with_reducible refine Kd.C_drew ?_) | exact HR336_0.out)) 0 p337 q337
                           cases e337
                           have qi337 : (0 < (rd_L2 t298 (ji55)).length) = True := eq_true (by omega)
                           (try rw [show ((0 : Int)).toNat = 0 from rfl] at hx337_0)
                           (try rw [Addr.add_zero'] at hx337_0)
                           replace p337 := eq_true p337
                           replace q337 := eq_true q337
                           have p339 : 0 ≤ (1 : Int) := (by omega)
                           have q339 : 1 < ((rd_L2 t298 (ji55)).length : Int) := of_decide_eq_true (by first | (with_reducible assumption) | assumption)
                           obtain ⟨ad339, e339, hx339_0⟩ := Kd.at_int (by repeat (first | (with_reducible exact HR338_0.out) | (with_reducible refine Kd.C_alloc ?_ _) | (with_reducible refine Kd.C_drewN ?_ _) | (with_reducible refine Kd.C_drew ?_) | exact HR338_0.out)) 1 p339 q339
                           cases e339
                           (try simp only [show (1 : Int).toNat = 1 from rfl, Nat.reduceMul, Nat.reduceEqDiff, Go.Addr.add, ↓reduceIte] at hx339_0)
                           have qi339 : (1 < (rd_L2 t298 (ji55)).length) = True := eq_true (by omega)
                           (try rw [show ((1 : Int)).toNat = 1 from rfl] at hx339_0)
                           replace p339 := eq_true p339
                           replace q339 := eq_true q339
                           refine start_ (n := 34) (S := fun w' => w'.cell? (ad314.add (x20_3).toNat) = some (.slice A331_0 (rd_L2 t298 x20_3).length c331_0) ∧ w'.cell? (ad314.add ((ji55)).toNat) = some (.slice (some ad337) (rd_L2 t298 (ji55)).length c336_0) ∧ w'.cell? ad337 = some (.int .i64 (rd (rd_L2 t298 (ji55)) 0)) ∧ w'.cell? (ad314.add ((ji55)).toNat) = some (.slice (some ad337) (rd_L2 t298 (ji55)).length c336_0) ∧ w'.cell? ⟨ad337.block, ad337.off + 1, none⟩ = some (.int .i64 (rd (rd_L2 t298 (ji55)) 1))) (ds := []) #[false, false, false, false, false, false, false, false, false, false, false, false, false, false, false, false, false, false, false, false, false, false, false, false, false, false, false, false, false, false, false, false, false, false] (by kernel_rfl) rfl rfl ⟨hx331_0, hx336_0, hx337_0, hx338_0, hx339_0⟩ (fun hHeld => ?_); refine with_tabW laws_FnRunsOfPairs.tab18 laws_FnRunsOfPairs.bits18 (fun HT_ HW_ => ?_)
                           generalize w73.drew = w74 at HO_9 HL324_0 HL326_0 HR314_0 HR324_0 HR326_0 HB HL331_0 HL336_0 HL338_0 HR331_0 HR336_0 HR338_0 hx331_0 hx336_0 hx338_0 hHeld ⊢
                           refine pure_ (i := 0) (N := some 167) (v := ?_) (a' := ?_) #[true, false, false, false, false, false, false, false, false, false, false, false, false, false, false, false, false, false, false, false, false, false, false, false, false, false, false, false, false, false, false, false, false, false] rfl rfl (any_of HT_.out (by kernel_rfl)) (fun _ _ _ h => h) (Or.inl ⟨by rfl, ?_⟩) ?_ ?_
                           rotate_left
                           ·
                            intro w'
                            go_simp
                            with_reducible rfl
                           rotate_left
                           ·
                            simp only [Act.put, List.setIfInBounds_toArray, List.set_cons_zero, List.set_cons_succ, i64_w, i32_w]
                            rfl
                           refine pure_ (i := 1) (N := some 168) (v := ?_) (a' := ?_) #[true, true, false, false, false, false, false, false, false, false, false, false, false, false, false, false, false, false, false, false, false, false, false, false, false, false, false, false, false, false, false, false, false, false] rfl rfl (any_of HT_.out (by kernel_rfl)) (fun _ _ _ h => h) (Or.inl ⟨by rfl, ?_⟩) ?_ ?_
                           rotate_left
                           ·
                            intro w'
                            go_simp
                            with_reducible rfl
                           rotate_left
                           ·
                            simp only [Act.put, List.setIfInBounds_toArray, List.set_cons_zero, List.set_cons_succ, i64_w, i32_w]
                            rfl
                           refine pure_ (i := 2) (N := some 169) (v := ?_) (a' := ?_) #[true, true, true, false, false, false, false, false, false, false, false, false, false, false, false, false, false, false, false, false, false, false, false, false, false, false, false, false, false, false, false, false, false, false] rfl rfl (any_of HT_.out (by kernel_rfl)) (fun _ _ _ h => h) (Or.inl ⟨by rfl, ?_⟩) ?_ ?_
                           rotate_left
                           ·
                            intro w'
                            go_simp
                            with_reducible rfl
                           rotate_left
                           ·
                            simp only [Act.put, List.setIfInBounds_toArray, List.set_cons_zero, List.set_cons_succ, i64_w, i32_w]
                            rfl
                           refine pure_ (i := 3) (N := some 170) (v := ?_) (a' := ?_) #[true, true, true, true, false, false, false, false, false, false, false, false, false, false, false, false, false, false, false, false, false, false, false, false, false, false, false, false, false, false, false, false, false, false] rfl rfl (any_of HT_.out (by kernel_rfl)) (fun _ _ _ h => h) (Or.inl ⟨by rfl, ?_⟩) ?_ ?_
                           rotate_left
                           ·
                            intro w'
                            go_simp
                            with_reducible rfl
                           rotate_left
                           ·
                            simp only [Act.put, List.setIfInBounds_toArray, List.set_cons_zero, List.set_cons_succ, i64_w, i32_w]
                            rfl
                           refine pure_ (i := 4) (N := some 171) (v := ?_) (a' := ?_) #[true, true, true, true, true, false, false, false, false, false, false, false, false, false, false, false, false, false, false, false, false, false, false, false, false, false, false, false, false, false, false, false, false, false] rfl rfl (any_of HT_.out (by kernel_rfl)) (fun _ _ _ h => h) (Or.inl ⟨by rfl, ?_⟩) ?_ ?_
                           rotate_left
                           ·
                            intro w'
                            go_simp
                            with_reducible rfl
                           rotate_left
                           ·
                            simp only [Act.put, List.setIfInBounds_toArray, List.set_cons_zero, List.set_cons_succ, i64_w, i32_w]
                            rfl
                           refine pure_ (i := 5) (N := some 172) (v := ?_) (a' := ?_) #[true, true, true, true, true, true, false, false, false, false, false, false, false, false, false, false, false, false, false, false, false, false, false, false, false, false, false, false, false, false, false, false, false, false] rfl rfl (any_of HT_.out (by kernel_rfl)) (fun _ _ _ h => h) (Or.inl ⟨by rfl, ?_⟩) ?_ ?_
                           rotate_left
                           ·
                            intro w'
                            go_simp
                            with_reducible rfl
                           rotate_left
                           ·
                            simp only [Act.put, List.setIfInBounds_toArray, List.set_cons_zero, List.set_cons_succ, i64_w, i32_w]
                            rfl
                           refine pure_ (i := 7) (N := some 174) (v := ?_) (a' := ?_) #[true, true, true, true, true, true, false, true, false, false, false, false, false, false, false, false, false, false, false, false, false, false, false, false, false, false, false, false, false, false, false, false, false, false] rfl rfl (any_of HT_.out (by kernel_rfl)) (fun _ _ _ h => h) (Or.inl ⟨by rfl, ?_⟩) ?_ ?_
                           rotate_left
                           ·
                            intro w'
                            go_simp
                            with_reducible rfl
                           rotate_left
                           ·
                            simp only [Act.put, List.setIfInBounds_toArray, List.set_cons_zero, List.set_cons_succ, i64_w, i32_w]
                            rfl
                           refine pure_ (i := 8) (N := some 175) (v := ?_) (a' := ?_) #[true, true, true, true, true, true, false, true, true, false, false, false, false, false, false, false, false, false, false, false, false, false, false, false, false, false, false, false, false, false, false, false, false, false] rfl rfl (any_of HT_.out (by kernel_rfl)) (fun _ _ _ h => h) (Or.inl ⟨by rfl, ?_⟩) ?_ ?_
                           rotate_left
                           ·
                            intro w'
                            go_simp
                            with_reducible rfl
                           rotate_left
                           ·
                            simp only [Act.put, List.setIfInBounds_toArray, List.set_cons_zero, List.set_cons_succ, i64_w, i32_w]
                            rfl
                           refine take_ (i := 6) (N := some 173) (v := ?_) (a' := ?_) #[true, true, true, true, true, true, true, true, true, false, false, false, false, false, false, false, false, false, false, false, false, false, false, false, false, false, false, false, false, false, false, false, false, false] rfl rfl (take_ofW HT_.out HW_.out (by kernel_rfl)) (fun _ _ _ h => h) (Or.inl ⟨by rfl, ?_⟩) hHeld ?_ ?_
                           rotate_left
                           ·
                            rintro w' ⟨s0, s1, s2, s3, s4⟩
                            go_simp
                            with_reducible rfl
                           rotate_left
                           ·
                            simp only [Act.put, List.setIfInBounds_toArray, List.set_cons_zero, List.set_cons_succ, i64_w, i32_w]
                            rfl
                           refine one_ (i := 9) (N := some 176) #[true, true, true, true, true, true, true, true, true, true, false, false, false, false, false, false, false, false, false, false, false, false, false, false, false, false, false, false, false, false, false, false, false, false] rfl rfl (one_of HT_.out (by kernel_rfl)) (by decide) (fun K hK => ?_)
                           refine Kd.R_lit_step (Kd.int .i64) _ 3 ?hg (N := 176) ?hd (xs := ([t328, t329] : List Int)) (inner := [.int .i64 t328, .int .i64 t329]) (ok := fun _ => True) (okp := fun _ => True) ?hr ?hp (fun _ hk => hk) trivial (Below.refl _ _) (Nat.le_refl _) (by simp) ?_; (case hd => rfl); (case hg => rfl); (case hr => first | (go_simp; done) | (go_simp; rfl)); (case hp => exact (Reps.one (show Kd.M (Kd.int .i64) _ _ _ t328 [.int .i64 t328] from rfl) (Reps.one (show Kd.M (Kd.int .i64) _ _ _ t329 [.int .i64 t329] from rfl) (Reps.none _ _))))
                           intro v333 w75 ho76 hb hg_ hnew_
                           have HS0_ := (hb.cell (World.block_lt_of_cell? _ _ (hHeld.1))).trans (hHeld.1)
                           have HS1_ := (hb.cell (World.block_lt_of_cell? _ _ (hHeld.2.1))).trans (hHeld.2.1)
                           have HS2_ := (hb.cell (World.block_lt_of_cell? _ _ (hHeld.2.2.1))).trans (hHeld.2.2.1)
                           have HS3_ := (hb.cell (World.block_lt_of_cell? _ _ (hHeld.2.2.2.1))).trans (hHeld.2.2.2.1)
                           have HS4_ := (hb.cell (World.block_lt_of_cell? _ _ (hHeld.2.2.2.2))).trans (hHeld.2.2.2.2)
                           clear hg_ hnew_
                           (first | rw [← Ny332.out] at ho76 | (simp only [Int.reduceToNat] at ho76; rw [← Ny332.out] at ho76))
                           have n0_ := Aside0.mk (Kd.N_elder' (by (with_reducible repeat (first | apply Kd.N_alloc | apply Kd.N_drewN | apply Kd.N_drew)); exact HO_9.out) (Kd.R_base ho76) hb)
                           have n1_ := Aside0.mk (Kd.V_elder' (by (with_reducible repeat (first | apply Kd.V_alloc | apply Kd.V_drewN | apply Kd.V_drew)); exact HL324_0.out) (Kd.R_base ho76) hb)
                           have n2_ := Aside0.mk (Kd.V_elder' (by (with_reducible repeat (first | apply Kd.V_alloc | apply Kd.V_drewN | apply Kd.V_drew)); exact HL326_0.out) (Kd.R_base ho76) hb)
                           have n3_ := Aside0.mk (Kd.V_elder' (by (with_reducible repeat (first | apply Kd.V_alloc | apply Kd.V_drewN | apply Kd.V_drew)); exact HL331_0.out) (Kd.R_base ho76) hb)
                           have n4_ := Aside0.mk (Kd.R_lower ho76 (below_size (by repeat (first | (with_reducible first | exact HB.out | apply below_alloc | apply pw_below_drewN | apply below_drew1) | exact HB.out | exact Below.refl _ _))))
                           have n5_ := Aside0.mk ((by with_reducible first | exact Kd.C_below HR314_0.out hb | exact Kd.C_below (Kd.C_drewN HR314_0.out _) hb | exact Kd.C_below (Kd.C_alloc HR314_0.out _) hb | exact Kd.C_below (Kd.C_drewN (Kd.C_drewN HR314_0.out _) _) hb))
                           have n6_ := Aside0.mk ((by with_reducible first | exact Kd.C_below HR324_0.out hb | exact Kd.C_below (Kd.C_drewN HR324_0.out _) hb | exact Kd.C_below (Kd.C_alloc HR324_0.out _) hb | exact Kd.C_below (Kd.C_drewN (Kd.C_drewN HR324_0.out _) _) hb))
                           have n7_ := Aside0.mk ((by with_reducible first | exact Kd.C_below HR326_0.out hb | exact Kd.C_below (Kd.C_drewN HR326_0.out _) hb | exact Kd.C_below (Kd.C_alloc HR326_0.out _) hb | exact Kd.C_below (Kd.C_drewN (Kd.C_drewN HR326_0.out _) _) hb))
                           have n8_ := Aside0.mk ((by with_reducible first | exact Kd.C_below HR331_0.out hb | exact Kd.C_below (Kd.C_drewN HR331_0.out _) hb | exact Kd.C_below (Kd.C_alloc HR331_0.out _) hb | exact Kd.C_below (Kd.C_drewN (Kd.C_drewN HR331_0.out _) _) hb))
                           have n9_ := Aside0.mk (below_step (by repeat (first | (with_reducible first | exact HB.out | apply below_alloc | apply pw_below_drewN | apply below_drew1) | exact HB.out | exact Below.refl _ _)) hb)
                           clear HO_9
                           clear HL324_0
                           clear HL326_0
                           clear HL331_0
                           clear HR314_0
                           clear HR324_0
                           clear HR326_0
                           clear HR331_0
                           clear HB
                           have HO_9 := n0_
                           have HL324_0 := n1_
                           have HL326_0 := n2_
                           have HL331_0 := n3_
                           have HO334 := n4_
                           have HR314_0 := n5_
                           have HR324_0 := n6_
                           have HR326_0 := n7_
                           have HR331_0 := n8_
                           have HB := n9_
                           clear n0_ n1_ n2_ n3_ n4_ n5_ n6_ n7_ n8_ n9_
                           clear hb ho76
                           obtain ⟨Ao77, co77, eo77⟩ := Kd.R_slice HO334.out
                           (first | subst eo77 | (injection eo77 with f1_ f2_ f3_; have f4_ := f1_.symm; have f5_ := f3_.symm; clear f1_ f2_ f3_; subst f4_; subst f5_))
                           refine hK.out _ _ ⟨HS0_, HS1_, HS2_, HS3_, HS4_⟩ (fun hHeld => ?_)
                           clear hK K
                           refine norm_ (a' := ?_) ?_ ?_
                           rotate_left
                           ·
                            show Act.put _ (some 176) _ = _
                            simp only [Act.put, List.setIfInBounds_toArray, List.set_cons_zero, List.set_cons_succ, i64_w, i32_w]
                            rfl
                           refine one_ (i := 10) (N := some 177) #[true, true, true, true, true, true, true, true, true, true, true, false, false, false, false, false, false, false, false, false, false, false, false, false, false, false, false, false, false, false, false, false, false, false] rfl rfl (one_of HT_.out (by kernel_rfl)) (by decide) (fun K hK => ?_)
                           refine goes_ Try.func12 (by kernel_rfl) rfl #[.slice A331_0 (rd_L2 t298 x20_3).length c331_0, .slice Ao77 y332.length co77] (by rfl) rfl rfl (by (try simp only [List.map_toArray, List.map_cons, List.map_nil]); first | done | rfl | (simp only [List.length_drop, List.length_take]; rfl)) ?_
                           with_reducible refine (laws_vSame.calls k3 _ _ (rd_L2 t298 x20_3) _ _ y332 true _ ?side1 ?side2 ?side3 ?side4 A63.out).mono ?_
                           (case side1 => repeat (first | exact (by repeat (first | (with_reducible exact HR331_0.out) | (with_reducible refine Kd.C_alloc ?_ _) | (with_reducible refine Kd.C_drewN ?_ _) | (with_reducible refine Kd.C_drew ?_) | exact HR331_0.out)) | (with_reducible refine Kd.C_alloc ?_ _) | (with_reducible refine Kd.C_drewN ?_ _) | (with_reducible refine Kd.C_drew ?_)))
                           (case side2 => exact HC331_0.out)
                           (case side3 => repeat (first | exact (Kd.R_reads' HO334.out).2.2 | (with_reducible refine Kd.C_alloc ?_ _) | (with_reducible refine Kd.C_drewN ?_ _) | (with_reducible refine Kd.C_drew ?_)))
                           (case side4 => exact (Kd.R_reads' HO334.out).2.1)
                           rintro e w' ⟨rfl, ⟨nd, rfl⟩⟩
                           refine ⟨_, rfl, ?_⟩
                           refine hK.out _ _ ⟨hHeld.1, hHeld.2.1, hHeld.2.2.1, hHeld.2.2.2.1, hHeld.2.2.2.2⟩ (fun hHeld => ?_)
                           clear hK K
                           refine norm_ (a' := ?_) ?_ ?_
                           rotate_left
                           ·
                            show Act.put _ (some 177) _ = _
                            simp only [Act.put, List.setIfInBounds_toArray, List.set_cons_zero, List.set_cons_succ, i64_w, i32_w]
                            rfl
                           refine pure_ (i := 11) (N := some 178) (v := ?_) (a' := ?_) #[true, true, true, true, true, true, true, true, true, true, true, true, false, false, false, false, false, false, false, false, false, false, false, false, false, false, false, false, false, false, false, false, false, false] rfl rfl (any_of HT_.out (by kernel_rfl)) (fun _ _ _ h => h) (Or.inl ⟨by rfl, ?_⟩) ?_ ?_
                           rotate_left
                           ·
                            intro w'
                            go_simp
                            with_reducible rfl
                           rotate_left
                           ·
                            simp only [Act.put, List.setIfInBounds_toArray, List.set_cons_zero, List.set_cons_succ, i64_w, i32_w]
                            rfl
                           refine pure_ (i := 12) (N := some 179) (v := ?_) (a' := ?_) #[true, true, true, true, true, true, true, true, true, true, true, true, true, false, false, false, false, false, false, false, false, false, false, false, false, false, false, false, false, false, false, false, false, false] rfl rfl (any_of HT_.out (by kernel_rfl)) (fun _ _ _ h => h) (Or.inl ⟨by rfl, ?_⟩) ?_ ?_
                           rotate_left
                           ·
                            intro w'
                            go_simp
                            with_reducible rfl
                           rotate_left
                           ·
                            simp only [Act.put, List.setIfInBounds_toArray, List.set_cons_zero, List.set_cons_succ, i64_w, i32_w]
                            rfl
                           refine pure_ (i := 13) (N := some 180) (v := ?_) (a' := ?_) #[true, true, true, true, true, true, true, true, true, true, true, true, true, true, false, false, false, false, false, false, false, false, false, false, false, false, false, false, false, false, false, false, false, false] rfl rfl (any_of HT_.out (by kernel_rfl)) (fun _ _ _ h => h) (Or.inl ⟨by rfl, ?_⟩) ?_ ?_
                           rotate_left
                           ·
                            intro w'
                            go_simp
                            with_reducible rfl
                           rotate_left
                           ·
                            simp only [Act.put, List.setIfInBounds_toArray, List.set_cons_zero, List.set_cons_succ, i64_w, i32_w]
                            rfl
                           refine pure_ (i := 14) (N := some 181) (v := ?_) (a' := ?_) #[true, true, true, true, true, true, true, true, true, true, true, true, true, true, true, false, false, false, false, false, false, false, false, false, false, false, false, false, false, false, false, false, false, false] rfl rfl (any_of HT_.out (by kernel_rfl)) (fun _ _ _ h => h) (Or.inl ⟨by rfl, ?_⟩) ?_ ?_
                           rotate_left
                           ·
                            intro w'
                            go_simp
                            with_reducible rfl
                           rotate_left
                           ·
                            simp only [Act.put, List.setIfInBounds_toArray, List.set_cons_zero, List.set_cons_succ, i64_w, i32_w]
                            rfl
                           refine pure_ (i := 15) (N := some 182) (v := ?_) (a' := ?_) #[true, true, true, true, true, true, true, true, true, true, true, true, true, true, true, true, false, false, false, false, false, false, false, false, false, false, false, false, false, false, false, false, false, false] rfl rfl (any_of HT_.out (by kernel_rfl)) (fun _ _ _ h => h) (Or.inl ⟨by rfl, ?_⟩) ?_ ?_
                           rotate_left
                           ·
                            intro w'
                            go_simp
                            with_reducible rfl
                           rotate_left
                           ·
                            simp only [Act.put, List.setIfInBounds_toArray, List.set_cons_zero, List.set_cons_succ, i64_w, i32_w]
                            rfl
                           refine pure_ (i := 16) (N := some 183) (v := ?_) (a' := ?_) #[true, true, true, true, true, true, true, true, true, true, true, true, true, true, true, true, true, false, false, false, false, false, false, false, false, false, false, false, false, false, false, false, false, false] rfl rfl (any_of HT_.out (by kernel_rfl)) (fun _ _ _ h => h) (Or.inl ⟨by rfl, ?_⟩) ?_ ?_
                           rotate_left
                           ·
                            intro w'
                            go_simp
                            with_reducible rfl
                           rotate_left
                           ·
                            simp only [Act.put, List.setIfInBounds_toArray, List.set_cons_zero, List.set_cons_succ, i64_w, i32_w]
                            rfl
                           refine pure_ (i := 17) (N := some 184) (v := ?_) (a' := ?_) #[true, true, true, true, true, true, true, true, true, true, true, true, true, true, true, true, true, true, false, false, false, false, false, false, false, false, false, false, false, false, false, false, false, false] rfl rfl (any_of HT_.out (by kernel_rfl)) (fun _ _ _ h => h) (Or.inl ⟨by rfl, ?_⟩) ?_ ?_
                           rotate_left
                           ·
                            intro w'
                            go_simp
                            with_reducible rfl
                           rotate_left
                           ·
                            simp only [Act.put, List.setIfInBounds_toArray, List.set_cons_zero, List.set_cons_succ, i64_w, i32_w]
                            rfl
                           refine pure_ (i := 18) (N := some 185) (v := ?_) (a' := ?_) #[true, true, true, true, true, true, true, true, true, true, true, true, true, true, true, true, true, true, true, false, false, false, false, false, false, false, false, false, false, false, false, false, false, false] rfl rfl (any_of HT_.out (by kernel_rfl)) (fun _ _ _ h => h) (Or.inl ⟨by rfl, ?_⟩) ?_ ?_
                           rotate_left
                           ·
                            intro w'
                            go_simp
                            with_reducible rfl
                           rotate_left
                           ·
                            simp only [Act.put, List.setIfInBounds_toArray, List.set_cons_zero, List.set_cons_succ, i64_w, i32_w]
                            rfl
                           refine pure_ (i := 19) (N := some 186) (v := ?_) (a' := ?_) #[true, true, true, true, true, true, true, true, true, true, true, true, true, true, true, true, true, true, true, true, false, false, false, false, false, false, false, false, false, false, false, false, false, false] rfl rfl (any_of HT_.out (by kernel_rfl)) (fun _ _ _ h => h) (Or.inl ⟨by rfl, ?_⟩) ?_ ?_
                           rotate_left
                           ·
                            intro w'
                            go_simp
                            with_reducible rfl
                           rotate_left
                           ·
                            simp only [Act.put, List.setIfInBounds_toArray, List.set_cons_zero, List.set_cons_succ, i64_w, i32_w]
                            rfl
                           refine pure_ (i := 20) (N := some 187) (v := ?_) (a' := ?_) #[true, true, true, true, true, true, true, true, true, true, true, true, true, true, true, true, true, true, true, true, true, false, false, false, false, false, false, false, false, false, false, false, false, false] rfl rfl (any_of HT_.out (by kernel_rfl)) (fun _ _ _ h => h) (Or.inl ⟨by rfl, ?_⟩) ?_ ?_
                           rotate_left
                           ·
                            intro w'
                            go_simp
                            with_reducible rfl
                           rotate_left
                           ·
                            simp only [Act.put, List.setIfInBounds_toArray, List.set_cons_zero, List.set_cons_succ, i64_w, i32_w]
                            rfl
                           refine pure_ (i := 24) (N := some 191) (v := ?_) (a' := ?_) #[true, true, true, true, true, true, true, true, true, true, true, true, true, true, true, true, true, true, true, true, true, false, false, false, true, false, false, false, false, false, false, false, false, false] rfl rfl (any_of HT_.out (by kernel_rfl)) (fun _ _ _ h => h) (Or.inl ⟨by rfl, ?_⟩) ?_ ?_
                           rotate_left
                           ·
                            intro w'
                            go_simp
                            with_reducible rfl
                           rotate_left
                           ·
                            simp only [Act.put, List.setIfInBounds_toArray, List.set_cons_zero, List.set_cons_succ, i64_w, i32_w]
                            rfl
                           refine pure_ (i := 25) (N := some 192) (v := ?_) (a' := ?_) #[true, true, true, true, true, true, true, true, true, true, true, true, true, true, true, true, true, true, true, true, true, false, false, false, true, true, false, false, false, false, false, false, false, false] rfl rfl (any_of HT_.out (by kernel_rfl)) (fun _ _ _ h => h) (Or.inl ⟨by rfl, ?_⟩) ?_ ?_
                           rotate_left
                           ·
                            intro w'
                            go_simp
                            with_reducible rfl
                           rotate_left
                           ·
                            simp only [Act.put, List.setIfInBounds_toArray, List.set_cons_zero, List.set_cons_succ, i64_w, i32_w]
                            rfl
                           refine pure_ (i := 26) (N := some 193) (v := ?_) (a' := ?_) #[true, true, true, true, true, true, true, true, true, true, true, true, true, true, true, true, true, true, true, true, true, false, false, false, true, true, true, false, false, false, false, false, false, false] rfl rfl (any_of HT_.out (by kernel_rfl)) (fun _ _ _ h => h) (Or.inl ⟨by rfl, ?_⟩) ?_ ?_
                           rotate_left
                           ·
                            intro w'
                            go_simp
                            with_reducible rfl
                           rotate_left
                           ·
                            simp only [Act.put, List.setIfInBounds_toArray, List.set_cons_zero, List.set_cons_succ, i64_w, i32_w]
                            rfl
                           refine pure_ (i := 27) (N := some 194) (v := ?_) (a' := ?_) #[true, true, true, true, true, true, true, true, true, true, true, true, true, true, true, true, true, true, true, true, true, false, false, false, true, true, true, true, false, false, false, false, false, false] rfl rfl (any_of HT_.out (by kernel_rfl)) (fun _ _ _ h => h) (Or.inl ⟨by rfl, ?_⟩) ?_ ?_
                           rotate_left
                           ·
                            intro w'
                            go_simp
                            with_reducible rfl
                           rotate_left
                           ·
                            simp only [Act.put, List.setIfInBounds_toArray, List.set_cons_zero, List.set_cons_succ, i64_w, i32_w]
                            rfl
                           refine take_ (i := 21) (N := some 188) (v := ?_) (a' := ?_) #[true, true, true, true, true, true, true, true, true, true, true, true, true, true, true, true, true, true, true, true, true, true, false, false, true, true, true, true, false, false, false, false, false, false] rfl rfl (take_ofW HT_.out HW_.out (by kernel_rfl)) (fun _ _ _ h => h) (Or.inl ⟨by rfl, ?_⟩) hHeld ?_ ?_
                           rotate_left
                           ·
                            rintro w' ⟨s0, s1, s2, s3, s4⟩
                            go_simp
                            with_reducible rfl
                           rotate_left
                           ·
                            simp only [Act.put, List.setIfInBounds_toArray, List.set_cons_zero, List.set_cons_succ, i64_w, i32_w]
                            rfl
                           refine pure_ (i := 22) (N := some 189) (v := ?_) (a' := ?_) #[true, true, true, true, true, true, true, true, true, true, true, true, true, true, true, true, true, true, true, true, true, true, true, false, true, true, true, true, false, false, false, false, false, false] rfl rfl (any_of HT_.out (by kernel_rfl)) (fun _ _ _ h => h) (Or.inl ⟨by rfl, ?_⟩) ?_ ?_
                           rotate_left
                           ·
                            intro w'
                            go_simp
                            with_reducible rfl
                           rotate_left
                           ·
                            simp only [Act.put, List.setIfInBounds_toArray, List.set_cons_zero, List.set_cons_succ, i64_w, i32_w]
                            rfl
                           refine take_ (i := 23) (N := some 190) (v := ?_) (a' := ?_) #[true, true, true, true, true, true, true, true, true, true, true, true, true, true, true, true, true, true, true, true, true, true, true, true, true, true, true, true, false, false, false, false, false, false] rfl rfl (take_ofW HT_.out HW_.out (by kernel_rfl)) (fun _ _ _ h => h) (Or.inl ⟨by rfl, ?_⟩) hHeld ?_ ?_
                           rotate_left
                           ·
                            rintro w' ⟨s0, s1, s2, s3, s4⟩
                            go_simp
                            with_reducible rfl
                           rotate_left
                           ·
                            simp only [Act.put, List.setIfInBounds_toArray, List.set_cons_zero, List.set_cons_succ, i64_w, i32_w]
                            rfl
                           refine take_ (i := 28) (N := some 195) (v := ?_) (a' := ?_) #[true, true, true, true, true, true, true, true, true, true, true, true, true, true, true, true, true, true, true, true, true, true, true, true, true, true, true, true, true, false, false, false, false, false] rfl rfl (take_ofW HT_.out HW_.out (by kernel_rfl)) (fun _ _ _ h => h) (Or.inl ⟨by rfl, ?_⟩) hHeld ?_ ?_
                           rotate_left
                           ·
                            rintro w' ⟨s0, s1, s2, s3, s4⟩
                            go_simp
                            with_reducible rfl
                           rotate_left
                           ·
                            simp only [Act.put, List.setIfInBounds_toArray, List.set_cons_zero, List.set_cons_succ, i64_w, i32_w]
                            rfl
                           refine pure_ (i := 29) (N := some 196) (v := ?_) (a' := ?_) #[true, true, true, true, true, true, true, true, true, true, true, true, true, true, true, true, true, true, true, true, true, true, true, true, true, true, true, true, true, true, false, false, false, false] rfl rfl (any_of HT_.out (by kernel_rfl)) (fun _ _ _ h => h) (Or.inl ⟨by rfl, ?_⟩) ?_ ?_
                           rotate_left
                           ·
                            intro w'
                            go_simp
                            with_reducible rfl
                           rotate_left
                           ·
                            simp only [Act.put, List.setIfInBounds_toArray, List.set_cons_zero, List.set_cons_succ, i64_w, i32_w]
                            rfl
                           refine take_ (i := 30) (N := some 197) (v := ?_) (a' := ?_) #[true, true, true, true, true, true, true, true, true, true, true, true, true, true, true, true, true, true, true, true, true, true, true, true, true, true, true, true, true, true, true, false, false, false] rfl rfl (take_ofW HT_.out HW_.out (by kernel_rfl)) (fun _ _ _ h => h) (Or.inl ⟨by rfl, ?_⟩) hHeld ?_ ?_
                           rotate_left
                           ·
                            rintro w' ⟨s0, s1, s2, s3, s4⟩
                            go_simp
                            with_reducible rfl
                           rotate_left
                           ·
                            simp only [Act.put, List.setIfInBounds_toArray, List.set_cons_zero, List.set_cons_succ, i64_w, i32_w]
                            rfl
                           refine pure_ (i := 31) (N := some 198) (v := ?_) (a' := ?_) #[true, true, true, true, true, true, true, true, true, true, true, true, true, true, true, true, true, true, true, true, true, true, true, true, true, true, true, true, true, true, true, true, false, false] rfl rfl (any_of HT_.out (by kernel_rfl)) (fun _ _ _ h => h) (Or.inl ⟨by rfl, ?_⟩) ?_ ?_
                           rotate_left
                           ·
                            intro w'
                            go_simp
                            with_reducible rfl
                           rotate_left
                           ·
                            simp only [Act.put, List.setIfInBounds_toArray, List.set_cons_zero, List.set_cons_succ, i64_w, i32_w]
                            rfl
                           refine pure_ (i := 32) (N := some 199) (v := ?_) (a' := ?_) #[true, true, true, true, true, true, true, true, true, true, true, true, true, true, true, true, true, true, true, true, true, true, true, true, true, true, true, true, true, true, true, true, true, false] rfl rfl (any_of HT_.out (by kernel_rfl)) (fun _ _ _ h => h) (Or.inl ⟨by rfl, ?_⟩) ?_ ?_
                           rotate_left
                           ·
                            intro w'
                            go_simp
                            with_reducible rfl
                           rotate_left
                           ·
                            simp only [Act.put, List.setIfInBounds_toArray, List.set_cons_zero, List.set_cons_succ, i64_w, i32_w]
                            rfl
                           refine pure_ (i := 33) (N := some 200) (v := ?_) (a' := ?_) #[true, true, true, true, true, true, true, true, true, true, true, true, true, true, true, true, true, true, true, true, true, true, true, true, true, true, true, true, true, true, true, true, true, true] rfl rfl (any_of HT_.out (by kernel_rfl)) (fun _ _ _ h => h) (Or.inl ⟨by rfl, ?_⟩) ?_ ?_
                           rotate_left
                           ·
                            intro w'
                            go_simp
                            with_reducible rfl
                           rotate_left
                           ·
                            simp only [Act.put, List.setIfInBounds_toArray, List.set_cons_zero, List.set_cons_succ, i64_w, i32_w]
                            rfl
                           refine done_ (done_of HT_.out (by kernel_rfl)) ?_
                           try go_wp2
                           go_roundg k3
                           case measure => have := HJ9.out; have := HJ37.out; have := HK3.out; omega
                           case rel => exact ⟨(wrap64 (x20_3 + 1)), (by first | rfl | (simp; done) | (simp [*]; done)), H', ⟨by have := HJ9.out; have := HJ37.out; have := HK3.out; omega⟩, ⟨by (with_reducible repeat (first | apply Kd.N_alloc | apply Kd.N_drewN | apply Kd.N_drew)); exact Kd.N_mono HO_9.out (fun _ hk => trivial)⟩, ⟨by repeat (first | (with_reducible exact HR314_0.out) | (with_reducible refine Kd.C_alloc ?_ _) | (with_reducible refine Kd.C_drewN ?_ _) | (with_reducible refine Kd.C_drew ?_) | exact HR314_0.out)⟩, ⟨by repeat (first | (with_reducible first | exact HB.out | apply below_alloc | apply pw_below_drewN | apply below_drew1) | exact HB.out | exact Below.refl _ _)⟩⟩
                         ·
                          replace c64 := Bool.eq_false_iff.mpr c64
                          subst c64
                          have H1 : (some false) = some r := by rw [if_neg (show ¬ (false = true) by decide)] at H; exact H
                          exact absurd (H1.trans (congrArg some hrT)) (by simp)
                        ·
                         rw [if_neg c62] at H
                         exact absurd H (by simp)
                       ·
                        replace c61 := Bool.eq_false_iff.mpr c61
                        subst c61
                        have H1 : (some false) = some r := by rw [if_neg (show ¬ (false = true) by decide)] at H; exact H
                        exact absurd (H1.trans (congrArg some hrT)) (by simp)
                      ·
                       rw [if_neg c59] at H
                       exact absurd H (by simp)
                     ·
                      rw [if_neg c58] at H
                      exact absurd H (by simp)
                    ·
                     rw [if_neg c57] at H
                     exact absurd H (by simp)
                   ·
                    rw [if_neg c56] at H
                    exact absurd H (by simp)
                  ·
                   rw [if_neg c54] at H
                   have c54b0 : decide (x20_3 < (t298.length : Int)) = false := decide_eq_false c54
                   clear c54
                   have H' := Aside0.mk H
                   clear H
                   go_wp2
                   go_meet
                   case rel => exact ⟨_, H', ⟨by have := HJ9.out; have := HJ37.out; have := HK3.out; first | omega | exact Nat.le_refl _⟩, ⟨by repeat (first | (with_reducible first | exact HB.out | apply below_alloc | apply pw_below_drewN | apply below_drew1) | exact HB.out | exact Below.refl _ _)⟩⟩
          ·
           rw [if_neg c37] at H
           exact absurd H (by simp)
         ·
          rw [if_neg c36] at H
          exact absurd H (by simp)
        ·
         replace c34 := Bool.eq_false_iff.mpr c34
         subst c34
         have H1 : (laws_FnRunsOfPairs.j3 kj9 l1 t296 t297 t306 t307 t308) = some r := by rw [if_neg (show ¬ (false = true) by decide)] at H; exact H
         clear H
         have H := H1
         clear H1
         have H' := Aside0.mk H
         clear H
         go_wp2
         go_meet
         case rel => exact ⟨_, H', ⟨by have := HJ9.out; first | omega | exact Nat.le_refl _⟩, ⟨by repeat (first | (with_reducible first | exact HB.out | apply below_alloc | apply pw_below_drewN | apply below_drew1) | exact HB.out | exact Below.refl _ _)⟩⟩
      case rest =>
       as_aux_lemma =>
        clear HC33
        try clear c1
        try clear p2
        try clear c3
        try clear p3
        try clear q3
        try clear hx3
        try clear qi3
        try clear c5
        try clear c6
        try clear c13
        try clear c32
        try clear p32
        try clear q32
        try clear hx32
        try clear qi32
        try clear c34
        try clear c36
        try clear c37
        try clear c54
        try clear c54b0
        try clear c56
        try clear c57
        try clear c58
        try clear c59
        try clear c61
        try clear c62
        try clear hx324_0
        try clear hx325_0
        try clear hx326_0
        try clear hx327_0
        try clear p324
        try clear p325
        try clear p326
        try clear p327
        try clear q324
        try clear q325
        try clear q326
        try clear q327
        obtain ⟨kq, HA, HJ32, HB⟩ := hcut
        cases kq with
        | zero => exact absurd HA.out (by simp [laws_FnRunsOfPairs.j3])
        | succ kj32 =>
         have H := HA.out
         clear HA
         simp only [laws_FnRunsOfPairs.j3] at H
         have HC87 := Aside0.mk H
         clear H
         go_upto_if 201 with (fail)
         go_cut [] (fun wc => ∃ (kq : Nat), Aside0 (laws_FnRunsOfPairs.j4 kq l1 = some r) ∧ Aside0 (kq ≤ kj32) ∧ Aside0 (Below w.heap.size w wc))
         case first =>
          as_aux_lemma =>
           have H := HC87.out
           clear HC87
           by_cases c88 : t308 = true
           ·
            subst c88
            have H1 : ((impl_JumpDown.f t306 t307 t296 t297).bind fun bt340 => (if bt340.2.2 = true then (some false) else (laws_FnRunsOfPairs.j4 kj32 l1))) = some r := by rw [if_pos rfl] at H; exact H
            clear H
            have H := H1
            clear H1
            replace H := Option.bind_eq_some_iff.mp H
            obtain ⟨⟨t340, t341, t342⟩, A890, H⟩ := H
            replace H : (if t342 = true then (some false) else (laws_FnRunsOfPairs.j4 kj32 l1)) = some r := H
            have A89 := Aside0.mk A890
            clear A890
            by_cases c90 : t342 = true
            ·
             subst c90
             have H1 : (some false) = some r := by rw [if_pos rfl] at H; exact H
             exact absurd (H1.trans (congrArg some hrT)) (by simp)
            ·
             replace c90 := Bool.eq_false_iff.mpr c90
             subst c90
             have H1 : (laws_FnRunsOfPairs.j4 kj32 l1) = some r := by rw [if_neg (show ¬ (false = true) by decide)] at H; exact H
             clear H
             have H := H1
             clear H1
             have H' := Aside0.mk H
             clear H
             go_wp2_with (first | ((with_reducible refine gate_callee (f := 13) rfl ?_); refine goesL_ (some 207) rfl rfl Try.func13 (by kernel_rfl) rfl #[.int .i64 t306, .int .i64 t307, .int .i64 t296, .int .i64 t297] rfl (by (try simp only [List.map_toArray, List.map_cons, List.map_nil]); first | done | rfl | (simp only [List.length_drop, List.length_take]; rfl)) ?_; (with_reducible refine (impl_JumpDown.calls t306 t307 t296 t297 t340 t341 false _ A89.out).mono ?_); rintro e w92 ⟨rfl, hb⟩; refine ⟨_, rfl, ?_⟩; have n0_ := Aside0.mk (below_step (by repeat (first | (with_reducible first | exact HB.out | apply below_alloc | apply pw_below_drewN | apply below_drew1) | exact HB.out | exact Below.refl _ _)) hb); clear HB; have HB := n0_; clear n0_; (try clear hb); (try clear hb2); (try clear hk); (try clear hi)))
             go_meet
             case rel => exact ⟨_, H', ⟨by have := HJ9.out; have := HJ32.out; first | omega | exact Nat.le_refl _⟩, ⟨by repeat (first | (with_reducible first | exact HB.out | apply below_alloc | apply pw_below_drewN | apply below_drew1) | exact HB.out | exact Below.refl _ _)⟩⟩
           ·
            replace c88 := Bool.eq_false_iff.mpr c88
            subst c88
            have H1 : (laws_FnRunsOfPairs.j4 kj32 l1) = some r := by rw [if_neg (show ¬ (false = true) by decide)] at H; exact H
            clear H
            have H := H1
            clear H1
            have H' := Aside0.mk H
            clear H
            go_wp2
            go_meet
            case rel => exact ⟨_, H', ⟨by have := HJ9.out; have := HJ32.out; first | omega | exact Nat.le_refl _⟩, ⟨by repeat (first | (with_reducible first | exact HB.out | apply below_alloc | apply pw_below_drewN | apply below_drew1) | exact HB.out | exact Below.refl _ _)⟩⟩
         case rest =>
          as_aux_lemma =>
           clear HC87
           try clear c1
           try clear p2
           try clear c3
           try clear p3
           try clear q3
           try clear hx3
           try clear qi3
           try clear c5
           try clear c6
           try clear c8
           try clear c9
           try clear c13
           try clear c32
           try clear p32
           try clear q32
           try clear hx32
           try clear qi32
           try clear c34
           try clear c36
           try clear c37
           try clear c54
           try clear c54b0
           try clear c56
           try clear c57
           try clear c58
           try clear c59
           try clear c61
           try clear c62
           try clear c88
           try clear c90
           try clear hx324_0
           try clear hx325_0
           try clear hx326_0
           try clear hx327_0
           try clear p2
           try clear p3
           try clear p32
           try clear p324
           try clear p325
           try clear p326
           try clear p327
           try clear q3
           try clear q32
           try clear q324
           try clear q325
           try clear q326
           try clear q327
           obtain ⟨kq, HA, HJ86, HB⟩ := hcut
           cases kq with
           | zero => exact absurd HA.out (by simp [laws_FnRunsOfPairs.j4])
           | succ kj86 =>
            have H := HA.out
            clear HA
            simp only [laws_FnRunsOfPairs.j4] at H
            replace H := Option.bind_eq_some_iff.mp H
            obtain ⟨⟨t343, t344, t345, t346, t347⟩, A930, H⟩ := H
            replace H : ((impl_AscendPair.f kj86 t343 t344 t345 t346 t347).bind fun bt348 => ((spec_AscendPair.f kj86 t343 t344 t345 t346 t347).bind fun bt352 => (if (bt348.2 != bt352.2) = true then (laws_FnRunsOfPairs.j5 kj86 t345 t346 t347 bt348.1 bt348.2 true) else ((laws_vSameLists.f kj86 bt348.1 bt352.1).bind fun t356 => (laws_FnRunsOfPairs.j5 kj86 t345 t346 t347 bt348.1 bt348.2 (!t356)))))) = some r := H
            have A93 := Aside0.mk A930
            clear A930
            replace H := Option.bind_eq_some_iff.mp H
            obtain ⟨⟨t348, t351⟩, A940, H⟩ := H
            replace H : ((spec_AscendPair.f kj86 t343 t344 t345 t346 t347).bind fun bt352 => (if (t351 != bt352.2) = true then (laws_FnRunsOfPairs.j5 kj86 t345 t346 t347 t348 t351 true) else ((laws_vSameLists.f kj86 t348 bt352.1).bind fun t356 => (laws_FnRunsOfPairs.j5 kj86 t345 t346 t347 t348 t351 (!t356))))) = some r := H
            have A94 := Aside0.mk A940
            clear A940
            replace H := Option.bind_eq_some_iff.mp H
            obtain ⟨⟨t352, t355⟩, A950, H⟩ := H
            replace H : (if (t351 != t355) = true then (laws_FnRunsOfPairs.j5 kj86 t345 t346 t347 t348 t351 true) else ((laws_vSameLists.f kj86 t348 t352).bind fun t356 => (laws_FnRunsOfPairs.j5 kj86 t345 t346 t347 t348 t351 (!t356)))) = some r := H
            have A95 := Aside0.mk A950
            clear A950
            have HC96 := Aside0.mk H
            clear H
            go_upto_region 27 with (first | ((with_reducible refine gate_callee (f := 14) rfl ?_); refine goesL_ (some 214) rfl rfl Try.func14 (by kernel_rfl) rfl #[.slice A1 l1.length c1] rfl (by (try simp only [List.map_toArray, List.map_cons, List.map_nil]); first | done | rfl | (simp only [List.length_drop, List.length_take]; rfl)) ?_; (with_reducible refine (spec_DrawAscendPair.calls kj86 _ _ l1 t343 t344 t345 t346 t347 _ ?side1 ?side2 A93.out).mono ?_); (case side1 => repeat (first | exact (Kd.C_below HR1.out HB.out) | (with_reducible refine Kd.C_alloc ?_ _) | (with_reducible refine Kd.C_drewN ?_ _) | (with_reducible refine Kd.C_drew ?_))); (case side2 => exact HC1.out); rintro e w97 ⟨rfl, hb⟩; refine ⟨_, rfl, ?_⟩; have n0_ := Aside0.mk (below_step (by repeat (first | (with_reducible first | exact HB.out | apply below_alloc | apply pw_below_drewN | apply below_drew1) | exact HB.out | exact Below.refl _ _)) hb); clear HB; have HB := n0_; clear n0_; (try clear hb); (try clear hb2); (try clear hk); (try clear hi)) | ((with_reducible refine gate_callee (f := 15) rfl ?_); refine goesL_ (some 226) rfl rfl Try.func15 (by kernel_rfl) rfl #[.int .i64 t343, .int .i64 t344, .int .i64 t345, .int .i64 t346, .int .i64 t347] rfl (by (try simp only [List.map_toArray, List.map_cons, List.map_nil]); first | done | rfl | (simp only [List.length_drop, List.length_take]; rfl)) ?_; (with_reducible refine (impl_AscendPair.calls kj86 t343 t344 t345 t346 t347 t348 t351 _ A94.out).mono ?_); rintro e w98 ⟨v349, rfl, ho0, hb⟩; refine ⟨_, rfl, ?_⟩; have n0_ := Aside0.mk (Kd.N_lower (Kd.N_mono (ok' := fun k_ => True) ho0 (fun k_ hk_ => trivial)) (below_size (by repeat (first | (with_reducible first | exact HB.out | apply below_alloc | apply pw_below_drewN | apply below_drew1) | exact HB.out | exact Below.refl _ _)))); have n1_ := Aside0.mk (below_step (by repeat (first | (with_reducible first | exact HB.out | apply below_alloc | apply pw_below_drewN | apply below_drew1) | exact HB.out | exact Below.refl _ _)) hb); clear HB; have HO350 := n0_; have HB := n1_; clear n0_ n1_; (try clear hb); (try clear hb2); (try clear hk); (try clear hi); (try clear ho0)) | ((with_reducible refine gate_callee (f := 16) rfl ?_); refine goesL_ (some 235) rfl rfl Try.func16 (by kernel_rfl) rfl #[.int .i64 t343, .int .i64 t344, .int .i64 t345, .int .i64 t346, .int .i64 t347] rfl (by (try simp only [List.map_toArray, List.map_cons, List.map_nil]); first | done | rfl | (simp only [List.length_drop, List.length_take]; rfl)) ?_; (with_reducible refine (spec_AscendPair.calls kj86 t343 t344 t345 t346 t347 t352 t355 _ A95.out).mono ?_); rintro e w99 ⟨v353, rfl, ho0, hb⟩; refine ⟨_, rfl, ?_⟩; have n0_ := Aside0.mk (Kd.N_elder' (by (with_reducible repeat (first | apply Kd.N_alloc | apply Kd.N_drewN | apply Kd.N_drew)); exact HO350.out) (Kd.N_base ho0) hb); have n1_ := Aside0.mk (Kd.N_lower (Kd.N_mono (ok' := fun k_ => some k_ ≠ (v349 : Value).ownBlock) ho0 (fun k_ hk_ => (Kd.fresh' (Kd.N_lt (by (with_reducible repeat (first | apply Kd.N_alloc | apply Kd.N_drewN | apply Kd.N_drew)); exact HO350.out)) k_ hk_))) (below_size (by repeat (first | (with_reducible first | exact HB.out | apply below_alloc | apply pw_below_drewN | apply below_drew1) | exact HB.out | exact Below.refl _ _)))); have n2_ := Aside0.mk (below_step (by repeat (first | (with_reducible first | exact HB.out | apply below_alloc | apply pw_below_drewN | apply below_drew1) | exact HB.out | exact Below.refl _ _)) hb); clear HO350; clear HB; have HO350 := n0_; have HO354 := n1_; have HB := n2_; clear n0_ n1_ n2_; (try clear hb); (try clear hb2); (try clear hk); (try clear hi); (try clear ho0)))
            (try simp only [Act.put, List.setIfInBounds_toArray, List.set_cons_zero, List.set_cons_succ])
            go_cut [246] (fun v246 wc => ∃ (kq : Nat) (x246_95 : Bool), v246 = .bool x246_95 ∧ Aside0 (laws_FnRunsOfPairs.j5 kq t345 t346 t347 t348 t351 x246_95 = some r) ∧ Aside0 (kq ≤ kj86) ∧ Aside0 (Kd.N (Kd.slice 3 (Kd.int .i64)) 33 wc w.heap.size (fun _ => True) v349 t348) ∧ Aside0 (Below w.heap.size w wc))
            case first =>
             as_aux_lemma =>
              have H := HC96.out
              clear HC96
              by_cases c100 : (t351 != t355) = true
              ·
               rw [if_pos c100] at H
               exact absurd (H.trans (congrArg some hrT)) (fun h_ => laws_FnRunsOfPairs.j5_no h_)
              ·
               rw [if_neg c100] at H
               have c100b0 : (t351 != t355) = false := by simpa using c100
               (try (have c100b1 : decide (t351 = t355) = true := by simpa using c100))
               (try (have c100b2 : (t351 == t355) = true := by simpa using c100))
               clear c100
               (first | rw [c100b0] | (simp only [i64_w, i32_w]; rw [c100b0]) | skip)
               replace H := Option.bind_eq_some_iff.mp H
               obtain ⟨t356, A1010, H⟩ := H
               replace H : (laws_FnRunsOfPairs.j5 kj86 t345 t346 t347 t348 t351 (!t356)) = some r := H
               have A101 := Aside0.mk A1010
               clear A1010
               have H' := Aside0.mk H
               clear H
               obtain ⟨Ao102, co102, eo102⟩ := Kd.N_slice HO350.out
               subst eo102
               obtain ⟨Ao103, co103, eo103⟩ := Kd.N_slice HO354.out
               subst eo103
               go_wp2_with (first | (go_at_call 10; (with_reducible refine (laws_vSameLists.calls kj86 _ _ t348 _ _ t352 t356 _ ?side1 ?side2 ?side3 ?side4 A101.out).mono ?_); (case side1 => repeat (first | exact (Kd.N_reads' HO350.out).2.2 | (with_reducible refine Kd.C_alloc ?_ _) | (with_reducible refine Kd.C_drewN ?_ _) | (with_reducible refine Kd.C_drew ?_))); (case side2 => exact (Kd.N_reads' HO350.out).2.1); (case side3 => repeat (first | exact (Kd.N_reads' HO354.out).2.2 | (with_reducible refine Kd.C_alloc ?_ _) | (with_reducible refine Kd.C_drewN ?_ _) | (with_reducible refine Kd.C_drew ?_))); (case side4 => exact (Kd.N_reads' HO354.out).2.1); rintro e w' ⟨rfl, ⟨nd, rfl⟩⟩))
               go_meet
               case rel => exact ⟨_, (!t356), (by first | rfl | (simp; done) | (simp [*]; done)), H', ⟨by have := HJ9.out; have := HJ32.out; have := HJ86.out; first | omega | exact Nat.le_refl _⟩, ⟨by (with_reducible repeat (first | apply Kd.N_alloc | apply Kd.N_drewN | apply Kd.N_drew)); exact Kd.N_mono HO350.out (fun _ hk => trivial)⟩, ⟨by repeat (first | (with_reducible first | exact HB.out | apply below_alloc | apply pw_below_drewN | apply below_drew1) | exact HB.out | exact Below.refl _ _)⟩⟩
            case rest =>
             as_aux_lemma =>
              clear HC96
              try clear c1
              try clear p2
              try clear c3
              try clear p3
              try clear q3
              try clear hx3
              try clear qi3
              try clear c5
              try clear c6
              try clear c8
              try clear c9
              try clear c10
              try clear c13
              try clear c14
              try clear c15
              try clear c16
              try clear c32
              try clear p32
              try clear q32
              try clear hx32
              try clear qi32
              try clear c34
              try clear c36
              try clear c37
              try clear c54
              try clear c54b0
              try clear c56
              try clear c57
              try clear c58
              try clear c59
              try clear c61
              try clear c62
              try clear c88
              try clear c90
              try clear c100
              try clear c100b0
              try clear c100b1
              try clear c100b2
              try clear hx324_0
              try clear hx325_0
              try clear hx326_0
              try clear hx327_0
              try clear p2
              try clear p3
              try clear p32
              try clear p324
              try clear p325
              try clear p326
              try clear p327
              try clear q3
              try clear q32
              try clear q324
              try clear q325
              try clear q326
              try clear q327
              obtain ⟨kq, x246_95, rfl, HA, HJ95, HO_32, HB⟩ := hcut
              cases kq with
              | zero => exact absurd HA.out (by simp [laws_FnRunsOfPairs.j5])
              | succ kj95 =>
               have H := HA.out
               clear HA
               simp only [laws_FnRunsOfPairs.j5] at H
               by_cases c104 : x246_95 = true
               ·
                subst c104
                have H1 : (some false) = some r := by rw [if_pos rfl] at H; exact H
                exact absurd (H1.trans (congrArg some hrT)) (by simp)
               ·
                replace c104 := Bool.eq_false_iff.mpr c104
                subst c104
                have H1 : (if t351 = true then (laws_FnRunsOfPairs.l1 kj95 t345 t346 t347 t348 1) else (some true)) = some r := by rw [if_neg (show ¬ (false = true) by decide)] at H; exact H
                clear H
                have H := H1
                clear H1
                by_cases c105 : t351 = true
                ·
                 subst c105
                 have H1 : (laws_FnRunsOfPairs.l1 kj95 t345 t346 t347 t348 1) = some r := by rw [if_pos rfl] at H; exact H
                 clear H
                 have H := H1
                 clear H1
                 have H' := Aside0.mk H
                 clear H
                 go_wp2
                 go_loopg [36] kj95 (fun kq v36 w' => ∃ (x36_5 : Int), v36 = .int .i64 x36_5 ∧ Aside0 (laws_FnRunsOfPairs.l1 kq t345 t346 t347 t348 x36_5 = some r) ∧ Aside0 (kq ≤ kj95) ∧ Aside0 (Kd.N (Kd.slice 3 (Kd.int .i64)) 33 w' w.heap.size (fun _ => True) v349 t348) ∧ Aside0 (Below w.heap.size w w'))
                 case atStart => exact ⟨(1), (by first | rfl | (simp; done) | (simp [*]; done)), H', ⟨Nat.le_refl _⟩, ⟨by (with_reducible repeat (first | apply Kd.N_alloc | apply Kd.N_drewN | apply Kd.N_drew)); exact HO_32.out⟩, ⟨by repeat (first | (with_reducible first | exact HB.out | apply below_alloc | apply pw_below_drewN | apply below_drew1) | exact HB.out | exact Below.refl _ _)⟩⟩
                 case round =>
                  as_aux_lemma =>
                   clear H'
                   try clear c1
                   try clear p2
                   try clear c3
                   try clear p3
                   try clear q3
                   try clear hx3
                   try clear qi3
                   try clear c5
                   try clear c6
                   try clear c8
                   try clear c9
                   try clear c10
                   try clear c13
                   try clear c14
                   try clear c15
                   try clear c16
                   try clear c32
                   try clear p32
                   try clear q32
                   try clear hx32
                   try clear qi32
                   try clear c34
                   try clear c36
                   try clear c37
                   try clear c54
                   try clear c54b0
                   try clear c56
                   try clear c57
                   try clear c58
                   try clear c59
                   try clear c61
                   try clear c62
                   try clear c88
                   try clear c90
                   try clear c100
                   try clear c100b0
                   try clear c100b1
                   try clear c100b2
                   try clear c104
                   try clear c105
                   try clear hx324_0
                   try clear hx325_0
                   try clear hx326_0
                   try clear hx327_0
                   try clear p2
                   try clear p3
                   try clear p32
                   try clear p324
                   try clear p325
                   try clear p326
                   try clear p327
                   try clear q3
                   try clear q32
                   try clear q324
                   try clear q325
                   try clear q326
                   try clear q327
                   obtain ⟨x36_5, rfl, HA, HK5, HO_32, HB⟩ := hrel
                   cases gk with
                   | zero => exact absurd HA.out (by simp [laws_FnRunsOfPairs.l1])
                   | succ k5 =>
                    have H := HA.out
                    clear HA
                    simp only [laws_FnRunsOfPairs.l1] at H
                    by_cases c106 : x36_5 < (t348.length : Int)
                    ·
                     rw [if_pos c106] at H
                     have c106b0 : decide (x36_5 < (t348.length : Int)) = true := decide_eq_true c106
                     clear c106
                     obtain ⟨ji107, hji107⟩ : ∃ j_ : Int, (wrap64 (x36_5 - 1)) = j_ := ⟨_, rfl⟩
                     replace H : (if 0 ≤ (ji107) then (if (ji107) < (t348.length : Int) then (if 0 < ((rd_L2 t348 (ji107)).length : Int) then (if 1 < ((rd_L2 t348 (ji107)).length : Int) then ((impl_JumpUp.f (rd (rd_L2 t348 (ji107)) 0) (rd (rd_L2 t348 (ji107)) 1) t345 t346).bind fun bt361 => (if bt361.2.2 = true then (if 0 ≤ x36_5 then ((laws_vSame.f k5 (rd_L2 t348 x36_5) (([bt361.1, bt361.2.1] : List Int))).bind fun t368 => (if t368 = true then (laws_FnRunsOfPairs.l1 k5 t345 t346 t347 t348 (wrap64 (x36_5 + 1))) else (some false))) else (none)) else (some false))) else (none)) else (none)) else (none)) else (none)) = some r := by first | (rw [hji107] at H; exact H) | (simp only [hji107] at H ⊢; exact H)
                     have hji107w : (IntKind.i64.wrap (x36_5 - 1)) = ji107 := (i64_w _).trans hji107
                     by_cases c108 : 0 ≤ (ji107)
                     ·
                      rw [if_pos c108] at H
                      have c108b0 : decide (0 ≤ (ji107)) = true := decide_eq_true c108
                      clear c108
                      by_cases c109 : (ji107) < (t348.length : Int)
                      ·
                       rw [if_pos c109] at H
                       have c109b0 : decide ((ji107) < (t348.length : Int)) = true := decide_eq_true c109
                       clear c109
                       by_cases c110 : 0 < ((rd_L2 t348 (ji107)).length : Int)
                       ·
                        rw [if_pos c110] at H
                        have c110b0 : decide (0 < ((rd_L2 t348 (ji107)).length : Int)) = true := decide_eq_true c110
                        have c110b1 : decide (0 < (rd_L2 t348 (ji107)).length) = true := decide_eq_true (by omega)
                        clear c110
                        by_cases c111 : 1 < ((rd_L2 t348 (ji107)).length : Int)
                        ·
                         rw [if_pos c111] at H
                         have c111b0 : decide (1 < ((rd_L2 t348 (ji107)).length : Int)) = true := decide_eq_true c111
                         have c111b1 : decide (1 < (rd_L2 t348 (ji107)).length) = true := decide_eq_true (by omega)
                         clear c111
                         replace H := Option.bind_eq_some_iff.mp H
                         obtain ⟨⟨t361, t362, t363⟩, A1120, H⟩ := H
                         replace H : (if t363 = true then (if 0 ≤ x36_5 then ((laws_vSame.f k5 (rd_L2 t348 x36_5) (([t361, t362] : List Int))).bind fun t368 => (if t368 = true then (laws_FnRunsOfPairs.l1 k5 t345 t346 t347 t348 (wrap64 (x36_5 + 1))) else (some false))) else (none)) else (some false)) = some r := H
                         have A112 := Aside0.mk A1120
                         clear A1120
                         by_cases c113 : t363 = true
                         ·
                          subst c113
                          have H1 : (if 0 ≤ x36_5 then ((laws_vSame.f k5 (rd_L2 t348 x36_5) (([t361, t362] : List Int))).bind fun t368 => (if t368 = true then (laws_FnRunsOfPairs.l1 k5 t345 t346 t347 t348 (wrap64 (x36_5 + 1))) else (some false))) else (none)) = some r := by rw [if_pos rfl] at H; exact H
                          clear H
                          have H := H1
                          clear H1
                          by_cases c114 : 0 ≤ x36_5
                          ·
                           rw [if_pos c114] at H
                           have c114b0 : decide (0 ≤ x36_5) = true := decide_eq_true c114
                           clear c114
                           obtain ⟨y365, hy365⟩ : ∃ y_ : List Int, y_ = (([t361, t362] : List Int)) := ⟨_, rfl⟩
                           replace H : ((laws_vSame.f k5 (rd_L2 t348 x36_5) y365).bind fun t368 => (if t368 = true then (laws_FnRunsOfPairs.l1 k5 t345 t346 t347 t348 (wrap64 (x36_5 + 1))) else (some false))) = some r := by first | (rw [hy365]; with_reducible exact H) | (have H2_ := (Option.bind_some _ _).symm.trans H; rw [hy365]; with_reducible exact H2_) | (have H2_ := (Option.bind_some _ _).symm.trans H; with_reducible exact H2_) | with_reducible exact H | (rw [hy365]; exact H) | exact H
                           have Ny365 := Aside0.mk hy365
                           clear hy365
                           replace H := Option.bind_eq_some_iff.mp H
                           obtain ⟨t368, A1150, H⟩ := H
                           replace H : (if t368 = true then (laws_FnRunsOfPairs.l1 k5 t345 t346 t347 t348 (wrap64 (x36_5 + 1))) else (some false)) = some r := H
                           have A115 := Aside0.mk A1150
                           clear A1150
                           by_cases c116 : t368 = true
                           ·
                            subst c116
                            have H1 : (laws_FnRunsOfPairs.l1 k5 t345 t346 t347 t348 (wrap64 (x36_5 + 1))) = some r := by rw [if_pos rfl] at H; exact H
                            clear H
                            have H := H1
                            clear H1
                            have H' := Aside0.mk H
                            clear H
                            obtain ⟨Ao117, co117, eo117⟩ := Kd.N_slice HO_32.out
                            subst eo117
                            try go_wp2
                            have n0_ := Aside0.mk (Kd.N_drew HO_32.out)
                            have n1_ := Aside0.mk (below_drew1 HB.out)
                            clear HO_32
                            clear HB
                            have HO_32 := n0_
                            have HB := n1_
                            clear n0_ n1_
                            have p357 : 0 ≤ ((ji107) : Int) := of_decide_eq_true (by first | (with_reducible assumption) | assumption)
                            have q357 : (ji107) < (t348.length : Int) := of_decide_eq_true (by first | (with_reducible assumption) | assumption)
                            obtain ⟨ad357, A357_0, c357_0, e357, hx357_0, hl357_0, hi357_0⟩ := at_L2 (Kd.N_reads' HO_32.out).2.2 (ji107) p357 q357
                            cases e357
                            obtain ⟨ce357, hce357, hMe357, hcc357⟩ := Kd.N_get HO_32.out [] (ji107) p357 (by first | exact q357 | exact of_decide_eq_true (by first | (with_reducible assumption) | assumption) | (have e_ := (Kd.N_reads' HO_32.out).1; omega))
                            obtain ⟨ua357_0, uc357_0, rfl, ul357_0, ge357_0⟩ := Kd.FK_slice_open hMe357
                            have hv357_0 := hcc357 0 _ rfl
                            rw [Nat.add_zero, show ((Kd.slice 3 (Kd.int .i64))).sz = 1 from rfl, Nat.mul_one] at hv357_0
                            replace hv357_0 := Option.some.inj (hv357_0.symm.trans hx357_0)
                            injection hv357_0 with hva_ hvn_ hvc_
                            rw [hva_] at ge357_0
                            rw [hvc_] at ul357_0
                            have HL357_0 := Aside0.mk (show Kd.V (Kd.int .i64) 3 _ w.heap.size _ _ (rd_L2 t348 (ji107)) from Kd.V_mk ul357_0 ge357_0)
                            clear hva_ hvn_ hvc_ ge357_0 ul357_0
                            clear hcc357 hce357
                            have HR357_0 := Aside0.mk hi357_0
                            have HC357_0 := Aside0.mk hl357_0
                            clear hi357_0 hl357_0
                            replace p357 := eq_true p357
                            replace q357 := eq_true q357
                            have p358 : 0 ≤ (0 : Int) := (by omega)
                            have q358 : 0 < ((rd_L2 t348 (ji107)).length : Int) := of_decide_eq_true (by first | (with_reducible assumption) | assumption)
                            obtain ⟨ad358, e358, hx358_0⟩ := Kd.at_int (by repeat (first | (with_reducible exact HR357_0.out) | (with_reducible refine Kd.C_alloc ?_ _) | (with_reducible refine Kd.C_drewN ?_ _) | (with_reducible refine Kd.C_drew ?_) | exact HR357_0.out)) 0 p358 q358
                            cases e358
                            have qi358 : (0 < (rd_L2 t348 (ji107)).length) = True := eq_true (by omega)
                            (try rw [show ((0 : Int)).toNat = 0 from rfl] at hx358_0)
                            (try rw [Addr.add_zero'] at hx358_0)
                            replace p358 := eq_true p358
                            replace q358 := eq_true q358
                            have p359 : 0 ≤ ((ji107) : Int) := of_decide_eq_true (by first | (with_reducible assumption) | assumption)
                            have q359 : (ji107) < (t348.length : Int) := of_decide_eq_true (by first | (with_reducible assumption) | assumption)
                            obtain ⟨ad359, A359_0, c359_0, e359, hx359_0, hl359_0, hi359_0⟩ := at_L2 (Kd.N_reads' HO_32.out).2.2 (ji107) p359 q359
                            obtain rfl : ad357 = ad359 := (by injection e359)
                            obtain ⟨ce359, hce359, hMe359, hcc359⟩ := Kd.N_get HO_32.out [] (ji107) p359 (by first | exact q359 | exact of_decide_eq_true (by first | (with_reducible assumption) | assumption) | (have e_ := (Kd.N_reads' HO_32.out).1; omega))
                            obtain ⟨ua359_0, uc359_0, rfl, ul359_0, ge359_0⟩ := Kd.FK_slice_open hMe359
                            have hv359_0 := hcc359 0 _ rfl
                            rw [Nat.add_zero, show ((Kd.slice 3 (Kd.int .i64))).sz = 1 from rfl, Nat.mul_one] at hv359_0
                            replace hv359_0 := Option.some.inj (hv359_0.symm.trans hx359_0)
                            injection hv359_0 with hva_ hvn_ hvc_
                            rw [hva_] at ge359_0
                            rw [hvc_] at ul359_0
                            have HL359_0 := Aside0.mk (show Kd.V (Kd.int .i64) 3 _ w.heap.size _ _ (rd_L2 t348 (ji107)) from Kd.V_mk ul359_0 ge359_0)
                            clear hva_ hvn_ hvc_ ge359_0 ul359_0
                            clear hcc359 hce359
                            have HR359_0 := Aside0.mk hi359_0
                            have HC359_0 := Aside0.mk hl359_0
                            clear hi359_0 hl359_0
                            replace p359 := eq_true p359
                            replace q359 := eq_true q359
                            have ea_ := Option.some.inj (hx357_0.symm.trans hx359_0)
                            injection ea_ with ea_ en_ ec_
                            subst ea_
                            subst ec_
                            clear en_
                            have p360 : 0 ≤ (1 : Int) := (by omega)
                            have q360 : 1 < ((rd_L2 t348 (ji107)).length : Int) := of_decide_eq_true (by first | (with_reducible assumption) | assumption)
                            obtain ⟨ad360, e360, hx360_0⟩ := Kd.at_int (by repeat (first | (with_reducible exact HR359_0.out) | (with_reducible refine Kd.C_alloc ?_ _) | (with_reducible refine Kd.C_drewN ?_ _) | (with_reducible refine Kd.C_drew ?_) | exact HR359_0.out)) 1 p360 q360
                            cases e360
                            (try simp only [show (1 : Int).toNat = 1 from rfl, Nat.reduceMul, Nat.reduceEqDiff, Go.Addr.add, ↓reduceIte] at hx360_0)
                            have qi360 : (1 < (rd_L2 t348 (ji107)).length) = True := eq_true (by omega)
                            (try rw [show ((1 : Int)).toNat = 1 from rfl] at hx360_0)
                            replace p360 := eq_true p360
                            replace q360 := eq_true q360
                            refine start_ (n := 24) (S := fun w' => w'.cell? (ad357.add ((ji107)).toNat) = some (.slice (some ad358) (rd_L2 t348 (ji107)).length c357_0) ∧ w'.cell? ad358 = some (.int .i64 (rd (rd_L2 t348 (ji107)) 0)) ∧ w'.cell? (ad357.add ((ji107)).toNat) = some (.slice (some ad358) (rd_L2 t348 (ji107)).length c357_0) ∧ w'.cell? ⟨ad358.block, ad358.off + 1, none⟩ = some (.int .i64 (rd (rd_L2 t348 (ji107)) 1))) (ds := []) #[false, false, false, false, false, false, false, false, false, false, false, false, false, false, false, false, false, false, false, false, false, false, false, false] (by kernel_rfl) rfl rfl ⟨hx357_0, hx358_0, hx359_0, hx360_0⟩ (fun hHeld => ?_); refine with_tabW laws_FnRunsOfPairs.tab34 laws_FnRunsOfPairs.bits34 (fun HT_ HW_ => ?_)
                            generalize wr.drew = w118 at HO_32 HB HL357_0 HL359_0 HR357_0 HR359_0 hx357_0 hx358_0 hx359_0 hx360_0 hHeld ⊢
                            refine pure_ (i := 0) (N := some 256) (v := ?_) (a' := ?_) #[true, false, false, false, false, false, false, false, false, false, false, false, false, false, false, false, false, false, false, false, false, false, false, false] rfl rfl (any_of HT_.out (by kernel_rfl)) (fun _ _ _ h => h) (Or.inl ⟨by rfl, ?_⟩) ?_ ?_
                            rotate_left
                            ·
                             intro w'
                             go_simp
                             with_reducible rfl
                            rotate_left
                            ·
                             simp only [Act.put, List.setIfInBounds_toArray, List.set_cons_zero, List.set_cons_succ, i64_w, i32_w]
                             rfl
                            refine pure_ (i := 1) (N := some 257) (v := ?_) (a' := ?_) #[true, true, false, false, false, false, false, false, false, false, false, false, false, false, false, false, false, false, false, false, false, false, false, false] rfl rfl (any_of HT_.out (by kernel_rfl)) (fun _ _ _ h => h) (Or.inl ⟨by rfl, ?_⟩) ?_ ?_
                            rotate_left
                            ·
                             intro w'
                             go_simp
                             with_reducible rfl
                            rotate_left
                            ·
                             simp only [Act.put, List.setIfInBounds_toArray, List.set_cons_zero, List.set_cons_succ, i64_w, i32_w]
                             rfl
                            refine pure_ (i := 2) (N := some 258) (v := ?_) (a' := ?_) #[true, true, true, false, false, false, false, false, false, false, false, false, false, false, false, false, false, false, false, false, false, false, false, false] rfl rfl (any_of HT_.out (by kernel_rfl)) (fun _ _ _ h => h) (Or.inl ⟨by rfl, ?_⟩) ?_ ?_
                            rotate_left
                            ·
                             intro w'
                             go_simp
                             with_reducible rfl
                            rotate_left
                            ·
                             simp only [Act.put, List.setIfInBounds_toArray, List.set_cons_zero, List.set_cons_succ, i64_w, i32_w]
                             rfl
                            refine pure_ (i := 3) (N := some 259) (v := ?_) (a' := ?_) #[true, true, true, true, false, false, false, false, false, false, false, false, false, false, false, false, false, false, false, false, false, false, false, false] rfl rfl (any_of HT_.out (by kernel_rfl)) (fun _ _ _ h => h) (Or.inl ⟨by rfl, ?_⟩) ?_ ?_
                            rotate_left
                            ·
                             intro w'
                             go_simp
                             with_reducible rfl
                            rotate_left
                            ·
                             simp only [Act.put, List.setIfInBounds_toArray, List.set_cons_zero, List.set_cons_succ, i64_w, i32_w]
                             rfl
                            refine pure_ (i := 7) (N := some 263) (v := ?_) (a' := ?_) #[true, true, true, true, false, false, false, true, false, false, false, false, false, false, false, false, false, false, false, false, false, false, false, false] rfl rfl (any_of HT_.out (by kernel_rfl)) (fun _ _ _ h => h) (Or.inl ⟨by rfl, ?_⟩) ?_ ?_
                            rotate_left
                            ·
                             intro w'
                             go_simp
                             with_reducible rfl
                            rotate_left
                            ·
                             simp only [Act.put, List.setIfInBounds_toArray, List.set_cons_zero, List.set_cons_succ, i64_w, i32_w]
                             rfl
                            refine pure_ (i := 8) (N := some 264) (v := ?_) (a' := ?_) #[true, true, true, true, false, false, false, true, true, false, false, false, false, false, false, false, false, false, false, false, false, false, false, false] rfl rfl (any_of HT_.out (by kernel_rfl)) (fun _ _ _ h => h) (Or.inl ⟨by rfl, ?_⟩) ?_ ?_
                            rotate_left
                            ·
                             intro w'
                             go_simp
                             with_reducible rfl
                            rotate_left
                            ·
                             simp only [Act.put, List.setIfInBounds_toArray, List.set_cons_zero, List.set_cons_succ, i64_w, i32_w]
                             rfl
                            refine pure_ (i := 9) (N := some 265) (v := ?_) (a' := ?_) #[true, true, true, true, false, false, false, true, true, true, false, false, false, false, false, false, false, false, false, false, false, false, false, false] rfl rfl (any_of HT_.out (by kernel_rfl)) (fun _ _ _ h => h) (Or.inl ⟨by rfl, ?_⟩) ?_ ?_
                            rotate_left
                            ·
                             intro w'
                             go_simp
                             with_reducible rfl
                            rotate_left
                            ·
                             simp only [Act.put, List.setIfInBounds_toArray, List.set_cons_zero, List.set_cons_succ, i64_w, i32_w]
                             rfl
                            refine pure_ (i := 10) (N := some 266) (v := ?_) (a' := ?_) #[true, true, true, true, false, false, false, true, true, true, true, false, false, false, false, false, false, false, false, false, false, false, false, false] rfl rfl (any_of HT_.out (by kernel_rfl)) (fun _ _ _ h => h) (Or.inl ⟨by rfl, ?_⟩) ?_ ?_
                            rotate_left
                            ·
                             intro w'
                             go_simp
                             with_reducible rfl
                            rotate_left
                            ·
                             simp only [Act.put, List.setIfInBounds_toArray, List.set_cons_zero, List.set_cons_succ, i64_w, i32_w]
                             rfl
                            refine pure_ (i := 14) (N := some 270) (v := ?_) (a' := ?_) #[true, true, true, true, false, false, false, true, true, true, true, false, false, false, true, false, false, false, false, false, false, false, false, false] rfl rfl (any_of HT_.out (by kernel_rfl)) (fun _ _ _ h => h) (Or.inl ⟨by rfl, ?_⟩) ?_ ?_
                            rotate_left
                            ·
                             intro w'
                             go_simp
                             with_reducible rfl
                            rotate_left
                            ·
                             simp only [Act.put, List.setIfInBounds_toArray, List.set_cons_zero, List.set_cons_succ, i64_w, i32_w]
                             rfl
                            refine pure_ (i := 15) (N := some 271) (v := ?_) (a' := ?_) #[true, true, true, true, false, false, false, true, true, true, true, false, false, false, true, true, false, false, false, false, false, false, false, false] rfl rfl (any_of HT_.out (by kernel_rfl)) (fun _ _ _ h => h) (Or.inl ⟨by rfl, ?_⟩) ?_ ?_
                            rotate_left
                            ·
                             intro w'
                             go_simp
                             with_reducible rfl
                            rotate_left
                            ·
                             simp only [Act.put, List.setIfInBounds_toArray, List.set_cons_zero, List.set_cons_succ, i64_w, i32_w]
                             rfl
                            refine take_ (i := 4) (N := some 260) (v := ?_) (a' := ?_) #[true, true, true, true, true, false, false, true, true, true, true, false, false, false, true, true, false, false, false, false, false, false, false, false] rfl rfl (take_ofW HT_.out HW_.out (by kernel_rfl)) (fun _ _ _ h => h) (Or.inl ⟨by rfl, ?_⟩) hHeld ?_ ?_
                            rotate_left
                            ·
                             rintro w' ⟨s0, s1, s2, s3⟩
                             go_simp
                             with_reducible rfl
                            rotate_left
                            ·
                             simp only [Act.put, List.setIfInBounds_toArray, List.set_cons_zero, List.set_cons_succ, i64_w, i32_w]
                             rfl
                            refine pure_ (i := 5) (N := some 261) (v := ?_) (a' := ?_) #[true, true, true, true, true, true, false, true, true, true, true, false, false, false, true, true, false, false, false, false, false, false, false, false] rfl rfl (any_of HT_.out (by kernel_rfl)) (fun _ _ _ h => h) (Or.inl ⟨by rfl, ?_⟩) ?_ ?_
                            rotate_left
                            ·
                             intro w'
                             go_simp
                             with_reducible rfl
                            rotate_left
                            ·
                             simp only [Act.put, List.setIfInBounds_toArray, List.set_cons_zero, List.set_cons_succ, i64_w, i32_w]
                             rfl
                            refine take_ (i := 6) (N := some 262) (v := ?_) (a' := ?_) #[true, true, true, true, true, true, true, true, true, true, true, false, false, false, true, true, false, false, false, false, false, false, false, false] rfl rfl (take_ofW HT_.out HW_.out (by kernel_rfl)) (fun _ _ _ h => h) (Or.inl ⟨by rfl, ?_⟩) hHeld ?_ ?_
                            rotate_left
                            ·
                             rintro w' ⟨s0, s1, s2, s3⟩
                             go_simp
                             with_reducible rfl
                            rotate_left
                            ·
                             simp only [Act.put, List.setIfInBounds_toArray, List.set_cons_zero, List.set_cons_succ, i64_w, i32_w]
                             rfl
                            refine take_ (i := 11) (N := some 267) (v := ?_) (a' := ?_) #[true, true, true, true, true, true, true, true, true, true, true, true, false, false, true, true, false, false, false, false, false, false, false, false] rfl rfl (take_ofW HT_.out HW_.out (by kernel_rfl)) (fun _ _ _ h => h) (Or.inl ⟨by rfl, ?_⟩) hHeld ?_ ?_
                            rotate_left
                            ·
                             rintro w' ⟨s0, s1, s2, s3⟩
                             go_simp
                             with_reducible rfl
                            rotate_left
                            ·
                             simp only [Act.put, List.setIfInBounds_toArray, List.set_cons_zero, List.set_cons_succ, i64_w, i32_w]
                             rfl
                            refine pure_ (i := 12) (N := some 268) (v := ?_) (a' := ?_) #[true, true, true, true, true, true, true, true, true, true, true, true, true, false, true, true, false, false, false, false, false, false, false, false] rfl rfl (any_of HT_.out (by kernel_rfl)) (fun _ _ _ h => h) (Or.inl ⟨by rfl, ?_⟩) ?_ ?_
                            rotate_left
                            ·
                             intro w'
                             go_simp
                             with_reducible rfl
                            rotate_left
                            ·
                             simp only [Act.put, List.setIfInBounds_toArray, List.set_cons_zero, List.set_cons_succ, i64_w, i32_w]
                             rfl
                            refine take_ (i := 13) (N := some 269) (v := ?_) (a' := ?_) #[true, true, true, true, true, true, true, true, true, true, true, true, true, true, true, true, false, false, false, false, false, false, false, false] rfl rfl (take_ofW HT_.out HW_.out (by kernel_rfl)) (fun _ _ _ h => h) (Or.inl ⟨by rfl, ?_⟩) hHeld ?_ ?_
                            rotate_left
                            ·
                             rintro w' ⟨s0, s1, s2, s3⟩
                             go_simp
                             with_reducible rfl
                            rotate_left
                            ·
                             simp only [Act.put, List.setIfInBounds_toArray, List.set_cons_zero, List.set_cons_succ, i64_w, i32_w]
                             rfl
                            refine one_ (i := 16) (N := some 272) #[true, true, true, true, true, true, true, true, true, true, true, true, true, true, true, true, true, false, false, false, false, false, false, false] rfl rfl (one_of HT_.out (by kernel_rfl)) (by decide) (fun K hK => ?_)
                            refine goes_ Try.func17 (by kernel_rfl) rfl #[.int .i64 (rd (rd_L2 t348 (ji107)) 0), .int .i64 (rd (rd_L2 t348 (ji107)) 1), .int .i64 t345, .int .i64 t346] (by rfl) rfl rfl (by (try simp only [List.map_toArray, List.map_cons, List.map_nil]); first | done | (simp only [hji107]; rfl) | rfl | (simp only [List.length_drop, List.length_take]; rfl)) ?_
                            with_reducible refine (impl_JumpUp.calls (rd (rd_L2 t348 (ji107)) 0) (rd (rd_L2 t348 (ji107)) 1) t345 t346 t361 t362 true _ A112.out).mono ?_
                            rintro e w' ⟨rfl, ⟨nd, rfl⟩⟩
                            refine ⟨_, rfl, ?_⟩
                            refine hK.out _ _ ⟨hHeld.1, hHeld.2.1, hHeld.2.2.1, hHeld.2.2.2⟩ (fun hHeld => ?_)
                            clear hK K
                            refine norm_ (a' := ?_) ?_ ?_
                            rotate_left
                            ·
                             show Act.put _ (some 272) _ = _
                             simp only [Act.put, List.setIfInBounds_toArray, List.set_cons_zero, List.set_cons_succ, i64_w, i32_w]
                             rfl
                            refine pure_ (i := 17) (N := some 255) (v := ?_) (a' := ?_) #[true, true, true, true, true, true, true, true, true, true, true, true, true, true, true, true, true, true, false, false, false, false, false, false] rfl rfl (any_of HT_.out (by kernel_rfl)) (fun _ _ _ h => h) (Or.inl ⟨by rfl, ?_⟩) ?_ ?_
                            rotate_left
                            ·
                             intro w'
                             go_simp
                             with_reducible rfl
                            rotate_left
                            ·
                             simp only [Act.put, List.setIfInBounds_toArray, List.set_cons_zero, List.set_cons_succ, i64_w, i32_w]
                             rfl
                            refine pure_ (i := 18) (N := some 273) (v := ?_) (a' := ?_) #[true, true, true, true, true, true, true, true, true, true, true, true, true, true, true, true, true, true, true, false, false, false, false, false] rfl rfl (any_of HT_.out (by kernel_rfl)) (fun _ _ _ h => h) (Or.inl ⟨by rfl, ?_⟩) ?_ ?_
                            rotate_left
                            ·
                             intro w'
                             go_simp
                             with_reducible rfl
                            rotate_left
                            ·
                             simp only [Act.put, List.setIfInBounds_toArray, List.set_cons_zero, List.set_cons_succ, i64_w, i32_w]
                             rfl
                            refine pure_ (i := 19) (N := some 274) (v := ?_) (a' := ?_) #[true, true, true, true, true, true, true, true, true, true, true, true, true, true, true, true, true, true, true, true, false, false, false, false] rfl rfl (any_of HT_.out (by kernel_rfl)) (fun _ _ _ h => h) (Or.inl ⟨by rfl, ?_⟩) ?_ ?_
                            rotate_left
                            ·
                             intro w'
                             go_simp
                             with_reducible rfl
                            rotate_left
                            ·
                             simp only [Act.put, List.setIfInBounds_toArray, List.set_cons_zero, List.set_cons_succ, i64_w, i32_w]
                             rfl
                            refine pure_ (i := 20) (N := some 275) (v := ?_) (a' := ?_) #[true, true, true, true, true, true, true, true, true, true, true, true, true, true, true, true, true, true, true, true, true, false, false, false] rfl rfl (any_of HT_.out (by kernel_rfl)) (fun _ _ _ h => h) (Or.inl ⟨by rfl, ?_⟩) ?_ ?_
                            rotate_left
                            ·
                             intro w'
                             go_simp
                             with_reducible rfl
                            rotate_left
                            ·
                             simp only [Act.put, List.setIfInBounds_toArray, List.set_cons_zero, List.set_cons_succ, i64_w, i32_w]
                             rfl
                            refine pure_ (i := 21) (N := some 37) (v := ?_) (a' := ?_) #[true, true, true, true, true, true, true, true, true, true, true, true, true, true, true, true, true, true, true, true, true, true, false, false] rfl rfl (any_of HT_.out (by kernel_rfl)) (fun _ _ _ h => h) (Or.inl ⟨by rfl, ?_⟩) ?_ ?_
                            rotate_left
                            ·
                             intro w'
                             go_simp
                             with_reducible rfl
                            rotate_left
                            ·
                             simp only [Act.put, List.setIfInBounds_toArray, List.set_cons_zero, List.set_cons_succ, i64_w, i32_w]
                             rfl
                            refine pure_ (i := 22) (N := some 38) (v := ?_) (a' := ?_) #[true, true, true, true, true, true, true, true, true, true, true, true, true, true, true, true, true, true, true, true, true, true, true, false] rfl rfl (any_of HT_.out (by kernel_rfl)) (fun _ _ _ h => h) (Or.inl ⟨by rfl, ?_⟩) ?_ ?_
                            rotate_left
                            ·
                             intro w'
                             go_simp
                             with_reducible rfl
                            rotate_left
                            ·
                             simp only [Act.put, List.setIfInBounds_toArray, List.set_cons_zero, List.set_cons_succ, i64_w, i32_w]
                             rfl
                            refine pure_ (i := 23) (N := some 39) (v := ?_) (a' := ?_) #[true, true, true, true, true, true, true, true, true, true, true, true, true, true, true, true, true, true, true, true, true, true, true, true] rfl rfl (any_of HT_.out (by kernel_rfl)) (fun _ _ _ h => h) (Or.inl ⟨by rfl, ?_⟩) ?_ ?_
                            rotate_left
                            ·
                             intro w'
                             go_simp
                             with_reducible rfl
                            rotate_left
                            ·
                             simp only [Act.put, List.setIfInBounds_toArray, List.set_cons_zero, List.set_cons_succ, i64_w, i32_w]
                             rfl
                            refine done_ (done_of HT_.out (by kernel_rfl)) ?_
                            have p364 : 0 ≤ (x36_5 : Int) := of_decide_eq_true (by first | (with_reducible assumption) | assumption)
                            have q364 : x36_5 < (t348.length : Int) := of_decide_eq_true (by first | (with_reducible assumption) | assumption)
                            obtain ⟨ad364, A364_0, c364_0, e364, hx364_0, hl364_0, hi364_0⟩ := at_L2 (Kd.N_reads' HO_32.out).2.2 x36_5 p364 q364
                            obtain rfl : ad357 = ad364 := (by injection e364)
                            obtain ⟨ce364, hce364, hMe364, hcc364⟩ := Kd.N_get HO_32.out [] x36_5 p364 (by first | exact q364 | exact of_decide_eq_true (by first | (with_reducible assumption) | assumption) | (have e_ := (Kd.N_reads' HO_32.out).1; omega))
                            obtain ⟨ua364_0, uc364_0, rfl, ul364_0, ge364_0⟩ := Kd.FK_slice_open hMe364
                            have hv364_0 := hcc364 0 _ rfl
                            rw [Nat.add_zero, show ((Kd.slice 3 (Kd.int .i64))).sz = 1 from rfl, Nat.mul_one] at hv364_0
                            replace hv364_0 := Option.some.inj (hv364_0.symm.trans hx364_0)
                            injection hv364_0 with hva_ hvn_ hvc_
                            rw [hva_] at ge364_0
                            rw [hvc_] at ul364_0
                            have HL364_0 := Aside0.mk (show Kd.V (Kd.int .i64) 3 _ w.heap.size _ _ (rd_L2 t348 x36_5) from Kd.V_mk ul364_0 ge364_0)
                            clear hva_ hvn_ hvc_ ge364_0 ul364_0
                            clear hcc364 hce364
                            have HR364_0 := Aside0.mk hi364_0
                            have HC364_0 := Aside0.mk hl364_0
                            clear hi364_0 hl364_0
                            replace p364 := eq_true p364
                            replace q364 := eq_true q364
                            try go_wp2_with (first | ((with_reducible refine gate_dst (N := 285) rfl ?_); (try (refine gate_guard (by rfl) ?_; dsimp only)); refine Kd.R_lit (Kd.int .i64) _ 3 ?hg (N := 285) ?hd (xs := ([t361, t362] : List Int)) (inner := [.int .i64 t361, .int .i64 t362]) (ok := fun _ => True) (okp := fun _ => True) ?hr ?hp (fun _ hk => hk) trivial (Below.refl _ _) (Nat.le_refl _) (by simp) ?_; (case hd => rfl); (case hg => rfl); (case hr => first | (go_simp; done) | (go_simp; rfl)); (case hp => exact (Reps.one (show Kd.M (Kd.int .i64) _ _ _ t361 [.int .i64 t361] from rfl) (Reps.one (show Kd.M (Kd.int .i64) _ _ _ t362 [.int .i64 t362] from rfl) (Reps.none _ _)))); intro v366 w119 ho120 hb hg_ hnew_; clear hg_ hnew_; (first | rw [← Ny365.out] at ho120 | (simp only [Int.reduceToNat] at ho120; rw [← Ny365.out] at ho120)); have n0_ := Aside0.mk (Kd.N_elder' (by (with_reducible repeat (first | apply Kd.N_alloc | apply Kd.N_drewN | apply Kd.N_drew)); exact HO_32.out) (Kd.R_base ho120) hb); have n1_ := Aside0.mk (Kd.V_elder' (by (with_reducible repeat (first | apply Kd.V_alloc | apply Kd.V_drewN | apply Kd.V_drew)); exact HL357_0.out) (Kd.R_base ho120) hb); have n2_ := Aside0.mk (Kd.V_elder' (by (with_reducible repeat (first | apply Kd.V_alloc | apply Kd.V_drewN | apply Kd.V_drew)); exact HL359_0.out) (Kd.R_base ho120) hb); have n3_ := Aside0.mk (Kd.V_elder' (by (with_reducible repeat (first | apply Kd.V_alloc | apply Kd.V_drewN | apply Kd.V_drew)); exact HL364_0.out) (Kd.R_base ho120) hb); have n4_ := Aside0.mk (Kd.R_lower ho120 (below_size (by repeat (first | (with_reducible first | exact HB.out | apply below_alloc | apply pw_below_drewN | apply below_drew1) | exact HB.out | exact Below.refl _ _)))); have n5_ := Aside0.mk ((by with_reducible first | exact Kd.C_below HR357_0.out hb | exact Kd.C_below (Kd.C_drewN HR357_0.out _) hb | exact Kd.C_below (Kd.C_alloc HR357_0.out _) hb | exact Kd.C_below (Kd.C_drewN (Kd.C_drewN HR357_0.out _) _) hb)); have n6_ := Aside0.mk ((by with_reducible first | exact Kd.C_below HR359_0.out hb | exact Kd.C_below (Kd.C_drewN HR359_0.out _) hb | exact Kd.C_below (Kd.C_alloc HR359_0.out _) hb | exact Kd.C_below (Kd.C_drewN (Kd.C_drewN HR359_0.out _) _) hb)); have n7_ := Aside0.mk ((by with_reducible first | exact Kd.C_below HR364_0.out hb | exact Kd.C_below (Kd.C_drewN HR364_0.out _) hb | exact Kd.C_below (Kd.C_alloc HR364_0.out _) hb | exact Kd.C_below (Kd.C_drewN (Kd.C_drewN HR364_0.out _) _) hb)); have n8_ := Aside0.mk (below_step (by repeat (first | (with_reducible first | exact HB.out | apply below_alloc | apply pw_below_drewN | apply below_drew1) | exact HB.out | exact Below.refl _ _)) hb); clear HO_32; clear HL357_0; clear HL359_0; clear HL364_0; clear HR357_0; clear HR359_0; clear HR364_0; clear HB; have HO_32 := n0_; have HL357_0 := n1_; have HL359_0 := n2_; have HL364_0 := n3_; have HO367 := n4_; have HR357_0 := n5_; have HR359_0 := n6_; have HR364_0 := n7_; have HB := n8_; clear n0_ n1_ n2_ n3_ n4_ n5_ n6_ n7_ n8_; clear hb ho120; obtain ⟨Ao121, co121, eo121⟩ := Kd.R_slice HO367.out; subst eo121) | (go_at_call 12; (with_reducible refine (laws_vSame.calls k5 _ _ (rd_L2 t348 x36_5) _ _ y365 true _ ?side1 ?side2 ?side3 ?side4 A115.out).mono ?_); (case side1 => repeat (first | exact (by repeat (first | (with_reducible exact HR364_0.out) | (with_reducible refine Kd.C_alloc ?_ _) | (with_reducible refine Kd.C_drewN ?_ _) | (with_reducible refine Kd.C_drew ?_) | exact HR364_0.out)) | (with_reducible refine Kd.C_alloc ?_ _) | (with_reducible refine Kd.C_drewN ?_ _) | (with_reducible refine Kd.C_drew ?_))); (case side2 => exact HC364_0.out); (case side3 => repeat (first | exact (Kd.R_reads' HO367.out).2.2 | (with_reducible refine Kd.C_alloc ?_ _) | (with_reducible refine Kd.C_drewN ?_ _) | (with_reducible refine Kd.C_drew ?_))); (case side4 => exact (Kd.R_reads' HO367.out).2.1); rintro e w' ⟨rfl, ⟨nd, rfl⟩⟩))
                            go_roundg k5
                            case measure => have := HJ9.out; have := HJ32.out; have := HJ86.out; have := HJ95.out; have := HK5.out; omega
                            case rel => exact ⟨(wrap64 (x36_5 + 1)), (by first | rfl | (simp; done) | (simp [*]; done)), H', ⟨by have := HJ9.out; have := HJ32.out; have := HJ86.out; have := HJ95.out; have := HK5.out; omega⟩, ⟨by (with_reducible repeat (first | apply Kd.N_alloc | apply Kd.N_drewN | apply Kd.N_drew)); exact Kd.N_mono HO_32.out (fun _ hk => trivial)⟩, ⟨by repeat (first | (with_reducible first | exact HB.out | apply below_alloc | apply pw_below_drewN | apply below_drew1) | exact HB.out | exact Below.refl _ _)⟩⟩
                           ·
                            replace c116 := Bool.eq_false_iff.mpr c116
                            subst c116
                            have H1 : (some false) = some r := by rw [if_neg (show ¬ (false = true) by decide)] at H; exact H
                            exact absurd (H1.trans (congrArg some hrT)) (by simp)
                          ·
                           rw [if_neg c114] at H
                           exact absurd H (by simp)
                         ·
                          replace c113 := Bool.eq_false_iff.mpr c113
                          subst c113
                          have H1 : (some false) = some r := by rw [if_neg (show ¬ (false = true) by decide)] at H; exact H
                          exact absurd (H1.trans (congrArg some hrT)) (by simp)
                        ·
                         rw [if_neg c111] at H
                         exact absurd H (by simp)
                       ·
                        rw [if_neg c110] at H
                        exact absurd H (by simp)
                      ·
                       rw [if_neg c109] at H
                       exact absurd H (by simp)
                     ·
                      rw [if_neg c108] at H
                      exact absurd H (by simp)
                    ·
                     rw [if_neg c106] at H
                     have c106b0 : decide (x36_5 < (t348.length : Int)) = false := decide_eq_false c106
                     clear c106
                     obtain rfl := Option.some.inj H
                     obtain ⟨Ao129, co129, eo129⟩ := Kd.N_slice HO_32.out
                     subst eo129
                     go_wp2
                     go_ret
                     exact ⟨by first | rfl | (simp [errW_none, errW_some] <;> rfl) | (simp [*, errW_none, errW_some] <;> rfl), by repeat (first | (with_reducible first | exact HB.out | apply below_alloc | apply pw_below_drewN | apply below_drew1) | exact HB.out | exact Below.refl _ _)⟩
                ·
                 replace c105 := Bool.eq_false_iff.mpr c105
                 subst c105
                 have H1 : (some true) = some r := by rw [if_neg (show ¬ (false = true) by decide)] at H; exact H
                 clear H
                 have H := H1
                 clear H1
                 obtain rfl := Option.some.inj H
                 go_wp2
                 go_ret
                 exact ⟨by first | rfl | (simp [errW_none, errW_some] <;> rfl) | (simp [*, errW_none, errW_some] <;> rfl), by repeat (first | (with_reducible first | exact HB.out | apply below_alloc | apply pw_below_drewN | apply below_drew1) | exact HB.out | exact Below.refl _ _)⟩

/-- THE ONE PURE STATEMENT of laws_FnRunsOfPairs: yours. -/
def laws_FnRunsOfPairs.Pure : Prop := ∀ (l0 : List Int) (l1 : List Int), l0.length ≤ maxLen → l0.length * 1 ≤ 140737488351232 → (∀ x ∈ l0, (Lit.int .u8 x).wf = true) → l1.length ≤ maxLen → l1.length * 1 ≤ 140737488351232 → (∀ x ∈ l1, (Lit.int .u8 x).wf = true) → ∃ k, laws_FnRunsOfPairs.f k l0 l1 = some true
theorem laws_FnRunsOfPairs.walk (P : laws_FnRunsOfPairs.Pure) (a0 : Option Addr) (len0 cap0 : Nat) (z0 : List Int) (a1 : Option Addr) (len1 cap1 : Nat) (z1 : List Int) (w : World) (w0 : (a0 = none ∧ len0 = 0 ∧ cap0 = 0 ∧ z0 = []) ∨ ∃ x, a0 = some x ∧ len0 ≤ cap0 ∧ cap0 ≤ maxLen ∧ z0.length = cap0 ∧ (∀ i, i < z0.length → w.cell? (x.add i) = some (.int .u8 (z0.getD i 0))) ∧ ∀ n ∈ z0, (Lit.int .u8 n).wf = true) (y0 : len0 * 1 ≤ 140737488351232) (w1 : (a1 = none ∧ len1 = 0 ∧ cap1 = 0 ∧ z1 = []) ∨ ∃ x, a1 = some x ∧ len1 ≤ cap1 ∧ cap1 ≤ maxLen ∧ z1.length = cap1 ∧ (∀ i, i < z1.length → w.cell? (x.add i) = some (.int .u8 (z1.getD i 0))) ∧ ∀ n ∈ z1, (Lit.int .u8 n).wf = true) (y1 : len1 * 1 ≤ 140737488351232) :
 Calls Try.prog 3 #[.slice a0 len0 cap0, .slice a1 len1 cap1] w fun e w' => e = .returned (.bool true) ∧ Below w.heap.size w w' := by
 obtain ⟨l0, rfl, hr0, hm0, hw0, hc0⟩ := ReadsInt.ofRowC w0
 obtain ⟨l1, rfl, hr1, hm1, hw1, hc1⟩ := ReadsInt.ofRowC w1
 obtain ⟨k, h⟩ := P l0 l1 hm0 y0 hw0 hm1 y1 hw1
 refine (laws_FnRunsOfPairs.calls k _ _ l0 _ _ l1 true w (Kd.C_of_reads (d := (0 : Int)) (h1 := fun _ => rfl) hr0) hc0 (Kd.C_of_reads (d := (0 : Int)) (h1 := fun _ => rfl) hr1) hc1 h rfl).mono ?_
 rintro e w' ⟨rfl, hd⟩
 exact ⟨rfl, hd⟩

end Go.Proofs.Ytopoekpappdclaa.P
