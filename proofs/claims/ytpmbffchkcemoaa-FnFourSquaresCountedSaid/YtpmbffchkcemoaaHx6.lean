-- Written by a program of this session (wip/mkprint.py over the kit's print), out of the translation. Not trusted: Lean checks it.
import Derived.Test.YtpmbffchkcemoaaHx0
import Derived.Test.YtpmbffchkcemoaaHx1
import Derived.Test.YtpmbffchkcemoaaHx2
import Derived.Test.YtpmbffchkcemoaaHx3
import Derived.Test.YtpmbffchkcemoaaHx4
import Derived.Test.YtpmbffchkcemoaaHx5
namespace Go.Proofs.Ytpmbffchkcemoaa.P
open Go.RowKit Go.Proofs.YtpmbffchkcemoaaW.PrintWords Go.Proofs.YtpmbffchkcemoaaW.PrintLast Go.Proofs.YtpmbffchkcemoaaW.PrintMore
attribute [local go_sem] max2_int min2_int max_two min_two max_three min_three max_four min_four   -- for this text's walks alone
set_option linter.unusedVariables false
set_option linter.unusedSimpArgs false

/-! ### laws_FnFourSquaresCounted: function 6 -/
mutual
def laws_FnFourSquaresCounted.j0 : Nat → List Int → Int → List (List Int) → Bool → List Int → Int → Int → Bool → Bool → Option (Bool)
 | 0, _, _, _, _, _, _, _, _, _ => none
 | k + 1, x1, x5, x6, x9, x10, x14, x18, x19, x122 => if x122 = true then (some false) else ((spec_DrawThreeSquares.f x1).bind fun t274 => ((impl_ThreeSquares.f k t274).bind fun bt275 => ((spec_ThreeSquares.f k t274).bind fun bt279 => ((impl_IsRefusedByEight.f k t274).bind fun bt283 => ((spec_IsRefusedByEight.f k t274).bind fun bt285 => (if (bt275.2 != bt279.2) = true then (laws_FnFourSquaresCounted.j1 k x5 x6 x9 x10 x14 x18 x19 true) else ((laws_vSame.f k bt275.1 bt279.1).bind fun t287 => (if t287 = true then (if (bt283.2 != bt285.2) = true then (laws_FnFourSquaresCounted.j1 k x5 x6 x9 x10 x14 x18 x19 true) else (if (bt283.1 != bt285.1) = true then (laws_FnFourSquaresCounted.j1 k x5 x6 x9 x10 x14 x18 x19 true) else (if bt283.2 = true then (if (bt275.2 == bt283.1) = true then (laws_FnFourSquaresCounted.j1 k x5 x6 x9 x10 x14 x18 x19 true) else (if bt275.2 = true then ((laws_vSquares.f k bt275.1).bind fun t288 => (if t288 = t274 then (laws_FnFourSquaresCounted.j1 k x5 x6 x9 x10 x14 x18 x19 ((bt275.1.length : Int) != 3)) else (laws_FnFourSquaresCounted.j1 k x5 x6 x9 x10 x14 x18 x19 true))) else (laws_FnFourSquaresCounted.j1 k x5 x6 x9 x10 x14 x18 x19 false))) else (if bt275.2 = true then ((laws_vSquares.f k bt275.1).bind fun t289 => (if t289 = t274 then (laws_FnFourSquaresCounted.j1 k x5 x6 x9 x10 x14 x18 x19 ((bt275.1.length : Int) != 3)) else (laws_FnFourSquaresCounted.j1 k x5 x6 x9 x10 x14 x18 x19 true))) else (laws_FnFourSquaresCounted.j1 k x5 x6 x9 x10 x14 x18 x19 false))))) else (laws_FnFourSquaresCounted.j1 k x5 x6 x9 x10 x14 x18 x19 true)))))))))
def laws_FnFourSquaresCounted.j1 : Nat → Int → List (List Int) → Bool → List Int → Int → Int → Bool → Bool → Option (Bool)
 | 0, _, _, _, _, _, _, _, _ => none
 | k + 1, x5, x6, x9, x10, x14, x18, x19, x185 => if x185 = true then (some false) else (if x9 = true then (if (x6.length : Int) = 0 then (laws_FnFourSquaresCounted.j2 k x5 x6 true) else (if 0 < (x6.length : Int) then ((laws_vSame.f k x10 (rd_L2 x6 0)).bind fun t291 => (if t291 = true then (if x5 > 0 then (if x19 = true then (if x14 = x18 then (if x5 = 0 then (laws_FnFourSquaresCounted.j2 k x5 x6 (x14 != 1)) else (laws_FnFourSquaresCounted.j2 k x5 x6 false)) else (laws_FnFourSquaresCounted.j2 k x5 x6 true)) else (laws_FnFourSquaresCounted.j2 k x5 x6 true)) else (if x5 = 0 then (laws_FnFourSquaresCounted.j2 k x5 x6 (x14 != 1)) else (laws_FnFourSquaresCounted.j2 k x5 x6 false))) else (laws_FnFourSquaresCounted.j2 k x5 x6 true))) else (none))) else (some true))
def laws_FnFourSquaresCounted.j2 : Nat → Int → List (List Int) → Bool → Option (Bool)
 | 0, _, _, _ => none
 | k + 1, x5, x6, x219 => if x219 = true then (some false) else (laws_FnFourSquaresCounted.l0 k x5 x6 x6 (x6.length : Int) 0)
def laws_FnFourSquaresCounted.l0 : Nat → Int → List (List Int) → List (List Int) → Int → Int → Option (Bool)
 | 0, _, _, _, _, _ => none
 | k + 1, x5, x6, x220, x221, x222 => if x222 < x221 then (if 0 ≤ x222 then (if x222 < (x220.length : Int) then (if ((rd_L2 x220 x222).length : Int) = 4 then ((laws_vSquares.f k (rd_L2 x220 x222)).bind fun t293 => (if t293 = x5 then (if 0 < ((rd_L2 x220 x222).length : Int) then (if 1 < ((rd_L2 x220 x222).length : Int) then (if (rd (rd_L2 x220 x222) 0) < (rd (rd_L2 x220 x222) 1) then (some false) else (if 2 < ((rd_L2 x220 x222).length : Int) then (if (rd (rd_L2 x220 x222) 1) < (rd (rd_L2 x220 x222) 2) then (some false) else (if 3 < ((rd_L2 x220 x222).length : Int) then (if (rd (rd_L2 x220 x222) 2) < (rd (rd_L2 x220 x222) 3) then (some false) else (if (rd (rd_L2 x220 x222) 3) < 0 then (some false) else (if x222 > 0 then (if 0 ≤ (wrap64 (x222 - 1)) then (if (wrap64 (x222 - 1)) < (x6.length : Int) then ((laws_vBefore.f k (rd_L2 x220 x222) (rd_L2 x6 (wrap64 (x222 - 1)))).bind fun t302 => (if t302 = true then (laws_FnFourSquaresCounted.l0 k x5 x6 x220 x221 (wrap64 (x222 + 1))) else (some false))) else (none)) else (none)) else (laws_FnFourSquaresCounted.l0 k x5 x6 x220 x221 (wrap64 (x222 + 1)))))) else (none))) else (none))) else (none)) else (none)) else (some false))) else (some false)) else (none)) else (none)) else (some true)
end
def laws_FnFourSquaresCounted.f (k : Nat) (l0 : List Int) (l1 : List Int) : Option (Bool) := (laws_big.f l0 l1).bind fun t246 => (if t246 = true then (some true) else ((spec_DrawAllFourSquares.f l0).bind fun t247 => ((impl_AllFourSquares.f k t247).bind fun bt248 => ((spec_AllFourSquares.f k t247).bind fun bt252 => ((impl_FourSquares.f k t247).bind fun bt256 => ((spec_FourSquares.f k t247).bind fun bt260 => ((impl_CountFour.f k t247).bind fun bt264 => ((spec_CountFour.f k t247).bind fun bt266 => ((impl_DivisorSumFour.f k t247).bind fun bt268 => ((spec_DivisorSumFour.f k t247).bind fun bt270 => (if (bt248.2 != bt252.2) = true then (laws_FnFourSquaresCounted.j0 k l1 t247 bt248.1 bt252.2 bt256.1 bt264.1 bt268.1 bt268.2 true) else ((laws_vSameLists.f k bt248.1 bt252.1).bind fun t272 => (if t272 = true then (if (bt256.2 != bt260.2) = true then (laws_FnFourSquaresCounted.j0 k l1 t247 bt248.1 bt252.2 bt256.1 bt264.1 bt268.1 bt268.2 true) else ((laws_vSame.f k bt256.1 bt260.1).bind fun t273 => (if t273 = true then (if (bt264.2 != bt266.2) = true then (laws_FnFourSquaresCounted.j0 k l1 t247 bt248.1 bt252.2 bt256.1 bt264.1 bt268.1 bt268.2 true) else (if bt264.1 = bt266.1 then (if (bt268.2 != bt270.2) = true then (laws_FnFourSquaresCounted.j0 k l1 t247 bt248.1 bt252.2 bt256.1 bt264.1 bt268.1 bt268.2 true) else (if bt268.1 = bt270.1 then (laws_FnFourSquaresCounted.j0 k l1 t247 bt248.1 bt252.2 bt256.1 bt264.1 bt268.1 bt268.2 (bt256.2 != bt248.2)) else (laws_FnFourSquaresCounted.j0 k l1 t247 bt248.1 bt252.2 bt256.1 bt264.1 bt268.1 bt268.2 true))) else (laws_FnFourSquaresCounted.j0 k l1 t247 bt248.1 bt252.2 bt256.1 bt264.1 bt268.1 bt268.2 true))) else (laws_FnFourSquaresCounted.j0 k l1 t247 bt248.1 bt252.2 bt256.1 bt264.1 bt268.1 bt268.2 true)))) else (laws_FnFourSquaresCounted.j0 k l1 t247 bt248.1 bt252.2 bt256.1 bt264.1 bt268.1 bt268.2 true))))))))))))))
theorem laws_FnFourSquaresCounted.mono_l : ∀ k, (∀ y0 y1 y2 y3 y4 y5 y6 y7 y8, LeO (laws_FnFourSquaresCounted.j0 k y0 y1 y2 y3 y4 y5 y6 y7 y8) (laws_FnFourSquaresCounted.j0 (k + 1) y0 y1 y2 y3 y4 y5 y6 y7 y8)) ∧ (∀ y0 y1 y2 y3 y4 y5 y6 y7, LeO (laws_FnFourSquaresCounted.j1 k y0 y1 y2 y3 y4 y5 y6 y7) (laws_FnFourSquaresCounted.j1 (k + 1) y0 y1 y2 y3 y4 y5 y6 y7)) ∧ (∀ y0 y1 y2, LeO (laws_FnFourSquaresCounted.j2 k y0 y1 y2) (laws_FnFourSquaresCounted.j2 (k + 1) y0 y1 y2)) ∧ (∀ y0 y1 y2 y3 y4, LeO (laws_FnFourSquaresCounted.l0 k y0 y1 y2 y3 y4) (laws_FnFourSquaresCounted.l0 (k + 1) y0 y1 y2 y3 y4))
 | 0 => ⟨fun _ _ _ _ _ _ _ _ _ r h => by simp [laws_FnFourSquaresCounted.j0] at h, fun _ _ _ _ _ _ _ _ r h => by simp [laws_FnFourSquaresCounted.j1] at h, fun _ _ _ r h => by simp [laws_FnFourSquaresCounted.j2] at h, fun _ _ _ _ _ r h => by simp [laws_FnFourSquaresCounted.l0] at h⟩
 | k + 1 => by
  obtain ⟨ih0, ih1, ih2, ih3⟩ := laws_FnFourSquaresCounted.mono_l k
  refine ⟨?_, ?_, ?_, ?_⟩
  ·
   intro y0 y1 y2 y3 y4 y5 y6 y7 y8
   unfold laws_FnFourSquaresCounted.j0
   repeat' first
   | (with_reducible exact ih0 _ _ _ _ _ _ _ _ _)
   | (with_reducible exact ih1 _ _ _ _ _ _ _ _)
   | (with_reducible exact ih2 _ _ _)
   | (with_reducible exact ih3 _ _ _ _ _)
   | (with_reducible exact impl_AllFourSquares.mono _ _)
   | (with_reducible exact impl_CountFour.mono _ _)
   | (with_reducible exact impl_DivisorSumFour.mono _ _)
   | (with_reducible exact impl_FourSquares.mono _ _)
   | (with_reducible exact impl_IsRefusedByEight.mono _ _)
   | (with_reducible exact impl_ThreeSquares.mono _ _)
   | (with_reducible exact laws_vBefore.mono _ _ _)
   | (with_reducible exact laws_vSame.mono _ _ _)
   | (with_reducible exact laws_vSameLists.mono _ _ _)
   | (with_reducible exact laws_vSquares.mono _ _)
   | (with_reducible exact spec_AllFourSquares.mono _ _)
   | (with_reducible exact spec_CountFour.mono _ _)
   | (with_reducible exact spec_DivisorSumFour.mono _ _)
   | (with_reducible exact spec_FourSquares.mono _ _)
   | (with_reducible exact spec_IsRefusedByEight.mono _ _)
   | (with_reducible exact spec_ThreeSquares.mono _ _)
   | (with_reducible exact LeO.refl _)
   | (with_reducible exact LeO.none _)
   | (with_reducible refine LeO.ite ?_ ?_)
   | (with_reducible refine LeO.bind ?_ (fun _ => ?_))
   | exact ih0 _ _ _ _ _ _ _ _ _
   | exact ih1 _ _ _ _ _ _ _ _
   | exact ih2 _ _ _
   | exact ih3 _ _ _ _ _
   | exact impl_AllFourSquares.mono _ _
   | exact impl_CountFour.mono _ _
   | exact impl_DivisorSumFour.mono _ _
   | exact impl_FourSquares.mono _ _
   | exact impl_IsRefusedByEight.mono _ _
   | exact impl_ThreeSquares.mono _ _
   | exact laws_vBefore.mono _ _ _
   | exact laws_vSame.mono _ _ _
   | exact laws_vSameLists.mono _ _ _
   | exact laws_vSquares.mono _ _
   | exact spec_AllFourSquares.mono _ _
   | exact spec_CountFour.mono _ _
   | exact spec_DivisorSumFour.mono _ _
   | exact spec_FourSquares.mono _ _
   | exact spec_IsRefusedByEight.mono _ _
   | exact spec_ThreeSquares.mono _ _
   | exact LeO.none _
   | refine LeO.ite ?_ ?_
   | refine LeO.bind ?_ (fun _ => ?_)
  ·
   intro y0 y1 y2 y3 y4 y5 y6 y7
   unfold laws_FnFourSquaresCounted.j1
   repeat' first
   | (with_reducible exact ih0 _ _ _ _ _ _ _ _ _)
   | (with_reducible exact ih1 _ _ _ _ _ _ _ _)
   | (with_reducible exact ih2 _ _ _)
   | (with_reducible exact ih3 _ _ _ _ _)
   | (with_reducible exact impl_AllFourSquares.mono _ _)
   | (with_reducible exact impl_CountFour.mono _ _)
   | (with_reducible exact impl_DivisorSumFour.mono _ _)
   | (with_reducible exact impl_FourSquares.mono _ _)
   | (with_reducible exact impl_IsRefusedByEight.mono _ _)
   | (with_reducible exact impl_ThreeSquares.mono _ _)
   | (with_reducible exact laws_vBefore.mono _ _ _)
   | (with_reducible exact laws_vSame.mono _ _ _)
   | (with_reducible exact laws_vSameLists.mono _ _ _)
   | (with_reducible exact laws_vSquares.mono _ _)
   | (with_reducible exact spec_AllFourSquares.mono _ _)
   | (with_reducible exact spec_CountFour.mono _ _)
   | (with_reducible exact spec_DivisorSumFour.mono _ _)
   | (with_reducible exact spec_FourSquares.mono _ _)
   | (with_reducible exact spec_IsRefusedByEight.mono _ _)
   | (with_reducible exact spec_ThreeSquares.mono _ _)
   | (with_reducible exact LeO.refl _)
   | (with_reducible exact LeO.none _)
   | (with_reducible refine LeO.ite ?_ ?_)
   | (with_reducible refine LeO.bind ?_ (fun _ => ?_))
   | exact ih0 _ _ _ _ _ _ _ _ _
   | exact ih1 _ _ _ _ _ _ _ _
   | exact ih2 _ _ _
   | exact ih3 _ _ _ _ _
   | exact impl_AllFourSquares.mono _ _
   | exact impl_CountFour.mono _ _
   | exact impl_DivisorSumFour.mono _ _
   | exact impl_FourSquares.mono _ _
   | exact impl_IsRefusedByEight.mono _ _
   | exact impl_ThreeSquares.mono _ _
   | exact laws_vBefore.mono _ _ _
   | exact laws_vSame.mono _ _ _
   | exact laws_vSameLists.mono _ _ _
   | exact laws_vSquares.mono _ _
   | exact spec_AllFourSquares.mono _ _
   | exact spec_CountFour.mono _ _
   | exact spec_DivisorSumFour.mono _ _
   | exact spec_FourSquares.mono _ _
   | exact spec_IsRefusedByEight.mono _ _
   | exact spec_ThreeSquares.mono _ _
   | exact LeO.none _
   | refine LeO.ite ?_ ?_
   | refine LeO.bind ?_ (fun _ => ?_)
  ·
   intro y0 y1 y2
   unfold laws_FnFourSquaresCounted.j2
   repeat' first
   | (with_reducible exact ih0 _ _ _ _ _ _ _ _ _)
   | (with_reducible exact ih1 _ _ _ _ _ _ _ _)
   | (with_reducible exact ih2 _ _ _)
   | (with_reducible exact ih3 _ _ _ _ _)
   | (with_reducible exact impl_AllFourSquares.mono _ _)
   | (with_reducible exact impl_CountFour.mono _ _)
   | (with_reducible exact impl_DivisorSumFour.mono _ _)
   | (with_reducible exact impl_FourSquares.mono _ _)
   | (with_reducible exact impl_IsRefusedByEight.mono _ _)
   | (with_reducible exact impl_ThreeSquares.mono _ _)
   | (with_reducible exact laws_vBefore.mono _ _ _)
   | (with_reducible exact laws_vSame.mono _ _ _)
   | (with_reducible exact laws_vSameLists.mono _ _ _)
   | (with_reducible exact laws_vSquares.mono _ _)
   | (with_reducible exact spec_AllFourSquares.mono _ _)
   | (with_reducible exact spec_CountFour.mono _ _)
   | (with_reducible exact spec_DivisorSumFour.mono _ _)
   | (with_reducible exact spec_FourSquares.mono _ _)
   | (with_reducible exact spec_IsRefusedByEight.mono _ _)
   | (with_reducible exact spec_ThreeSquares.mono _ _)
   | (with_reducible exact LeO.refl _)
   | (with_reducible exact LeO.none _)
   | (with_reducible refine LeO.ite ?_ ?_)
   | (with_reducible refine LeO.bind ?_ (fun _ => ?_))
   | exact ih0 _ _ _ _ _ _ _ _ _
   | exact ih1 _ _ _ _ _ _ _ _
   | exact ih2 _ _ _
   | exact ih3 _ _ _ _ _
   | exact impl_AllFourSquares.mono _ _
   | exact impl_CountFour.mono _ _
   | exact impl_DivisorSumFour.mono _ _
   | exact impl_FourSquares.mono _ _
   | exact impl_IsRefusedByEight.mono _ _
   | exact impl_ThreeSquares.mono _ _
   | exact laws_vBefore.mono _ _ _
   | exact laws_vSame.mono _ _ _
   | exact laws_vSameLists.mono _ _ _
   | exact laws_vSquares.mono _ _
   | exact spec_AllFourSquares.mono _ _
   | exact spec_CountFour.mono _ _
   | exact spec_DivisorSumFour.mono _ _
   | exact spec_FourSquares.mono _ _
   | exact spec_IsRefusedByEight.mono _ _
   | exact spec_ThreeSquares.mono _ _
   | exact LeO.none _
   | refine LeO.ite ?_ ?_
   | refine LeO.bind ?_ (fun _ => ?_)
  ·
   intro y0 y1 y2 y3 y4
   unfold laws_FnFourSquaresCounted.l0
   repeat' first
   | (with_reducible exact ih0 _ _ _ _ _ _ _ _ _)
   | (with_reducible exact ih1 _ _ _ _ _ _ _ _)
   | (with_reducible exact ih2 _ _ _)
   | (with_reducible exact ih3 _ _ _ _ _)
   | (with_reducible exact impl_AllFourSquares.mono _ _)
   | (with_reducible exact impl_CountFour.mono _ _)
   | (with_reducible exact impl_DivisorSumFour.mono _ _)
   | (with_reducible exact impl_FourSquares.mono _ _)
   | (with_reducible exact impl_IsRefusedByEight.mono _ _)
   | (with_reducible exact impl_ThreeSquares.mono _ _)
   | (with_reducible exact laws_vBefore.mono _ _ _)
   | (with_reducible exact laws_vSame.mono _ _ _)
   | (with_reducible exact laws_vSameLists.mono _ _ _)
   | (with_reducible exact laws_vSquares.mono _ _)
   | (with_reducible exact spec_AllFourSquares.mono _ _)
   | (with_reducible exact spec_CountFour.mono _ _)
   | (with_reducible exact spec_DivisorSumFour.mono _ _)
   | (with_reducible exact spec_FourSquares.mono _ _)
   | (with_reducible exact spec_IsRefusedByEight.mono _ _)
   | (with_reducible exact spec_ThreeSquares.mono _ _)
   | (with_reducible exact LeO.refl _)
   | (with_reducible exact LeO.none _)
   | (with_reducible refine LeO.ite ?_ ?_)
   | (with_reducible refine LeO.bind ?_ (fun _ => ?_))
   | exact ih0 _ _ _ _ _ _ _ _ _
   | exact ih1 _ _ _ _ _ _ _ _
   | exact ih2 _ _ _
   | exact ih3 _ _ _ _ _
   | exact impl_AllFourSquares.mono _ _
   | exact impl_CountFour.mono _ _
   | exact impl_DivisorSumFour.mono _ _
   | exact impl_FourSquares.mono _ _
   | exact impl_IsRefusedByEight.mono _ _
   | exact impl_ThreeSquares.mono _ _
   | exact laws_vBefore.mono _ _ _
   | exact laws_vSame.mono _ _ _
   | exact laws_vSameLists.mono _ _ _
   | exact laws_vSquares.mono _ _
   | exact spec_AllFourSquares.mono _ _
   | exact spec_CountFour.mono _ _
   | exact spec_DivisorSumFour.mono _ _
   | exact spec_FourSquares.mono _ _
   | exact spec_IsRefusedByEight.mono _ _
   | exact spec_ThreeSquares.mono _ _
   | exact LeO.none _
   | refine LeO.ite ?_ ?_
   | refine LeO.bind ?_ (fun _ => ?_)
theorem laws_FnFourSquaresCounted.mono : ∀ a0 a1 k, LeO (laws_FnFourSquaresCounted.f k a0 a1) (laws_FnFourSquaresCounted.f (k + 1) a0 a1) := by
 intro a0 a1 k
 obtain ⟨ih0, ih1, ih2, ih3⟩ := laws_FnFourSquaresCounted.mono_l k
 unfold laws_FnFourSquaresCounted.f
 repeat' first
  | (with_reducible exact ih0 _ _ _ _ _ _ _ _ _)
  | (with_reducible exact ih1 _ _ _ _ _ _ _ _)
  | (with_reducible exact ih2 _ _ _)
  | (with_reducible exact ih3 _ _ _ _ _)
  | (with_reducible exact impl_AllFourSquares.mono _ _)
  | (with_reducible exact impl_CountFour.mono _ _)
  | (with_reducible exact impl_DivisorSumFour.mono _ _)
  | (with_reducible exact impl_FourSquares.mono _ _)
  | (with_reducible exact impl_IsRefusedByEight.mono _ _)
  | (with_reducible exact impl_ThreeSquares.mono _ _)
  | (with_reducible exact laws_vBefore.mono _ _ _)
  | (with_reducible exact laws_vSame.mono _ _ _)
  | (with_reducible exact laws_vSameLists.mono _ _ _)
  | (with_reducible exact laws_vSquares.mono _ _)
  | (with_reducible exact spec_AllFourSquares.mono _ _)
  | (with_reducible exact spec_CountFour.mono _ _)
  | (with_reducible exact spec_DivisorSumFour.mono _ _)
  | (with_reducible exact spec_FourSquares.mono _ _)
  | (with_reducible exact spec_IsRefusedByEight.mono _ _)
  | (with_reducible exact spec_ThreeSquares.mono _ _)
  | (with_reducible exact LeO.refl _)
  | (with_reducible exact LeO.none _)
  | (with_reducible refine LeO.ite ?_ ?_)
  | (with_reducible refine LeO.bind ?_ (fun _ => ?_))
  | exact ih0 _ _ _ _ _ _ _ _ _
  | exact ih1 _ _ _ _ _ _ _ _
  | exact ih2 _ _ _
  | exact ih3 _ _ _ _ _
  | exact impl_AllFourSquares.mono _ _
  | exact impl_CountFour.mono _ _
  | exact impl_DivisorSumFour.mono _ _
  | exact impl_FourSquares.mono _ _
  | exact impl_IsRefusedByEight.mono _ _
  | exact impl_ThreeSquares.mono _ _
  | exact laws_vBefore.mono _ _ _
  | exact laws_vSame.mono _ _ _
  | exact laws_vSameLists.mono _ _ _
  | exact laws_vSquares.mono _ _
  | exact spec_AllFourSquares.mono _ _
  | exact spec_CountFour.mono _ _
  | exact spec_DivisorSumFour.mono _ _
  | exact spec_FourSquares.mono _ _
  | exact spec_IsRefusedByEight.mono _ _
  | exact spec_ThreeSquares.mono _ _
  | exact LeO.none _
  | refine LeO.ite ?_ ?_
  | refine LeO.bind ?_ (fun _ => ?_)
def laws_FnFourSquaresCounted.T28 : Bool × List (List Nat × List Nat) := (true, [([], []), ([0], [0]), ([1], [1]), ([2], [2]), ([3], [3]), ([4, 3, 3], [3, 4]), ([3], [3]), ([5, 6, 3], [3, 5, 6]), ([3, 7], [3, 7]), ([8, 5], [8]), ([9], [9]), ([10, 9], [9, 10]), ([11, 9], [9, 11]), ([9], [9]), ([13, 9], [9, 13]), ([14, 9], [9, 14]), ([12, 15, 9], [9, 12, 15]), ([9, 16], [9, 16]), ([17, 9], [17]), ([18], [18]), ([19, 18], [18, 19]), ([20, 18], [18, 20]), ([18], [18]), ([22, 18], [18, 22]), ([23, 18], [18, 23]), ([21, 24, 18], [18, 21, 24]), ([18, 25], [18, 25]), ([26, 18], [26]), ([27], [27]), ([28, 27], [27, 28]), ([29, 27], [27, 29]), ([27], [27]), ([31, 27], [27, 31]), ([32, 27], [27, 32]), ([30, 33, 27], [27, 30, 33]), ([27, 34], [27, 34]), ([35, 27], [35]), ([36], [36]), ([37, 36], [36, 37]), ([38, 36], [36, 38]), ([39, 36], [36, 39]), ([36, 40], [36, 40]), ([41, 36], [41]), ([42], [42]), ([43, 42], [42, 43]), ([44, 42, 42], [42, 44]), ([45], [45]), ([45], [45]), ([45], [45]), ([48, 45], [45, 48]), ([47, 49, 45], [45, 47, 49]), ([50, 45], [45, 50]), ([46, 51, 45, 45], [45, 46, 51]), ([52, 45], [45, 52]), ([45, 53, 42], [42, 45, 53]), ([42, 54], [42, 54])])
def laws_FnFourSquaresCounted.B28 : List Nat := [0, 1, 3, 7, 15, 31, 15, 127, 255, 511, 1023, 2047, 4095, 1023, 9215, 25599, 65535, 131071, 262143, 524287, 1048575, 2097151, 524287, 4718591, 13107199, 33554431, 67108863, 134217727, 268435455, 536870911, 1073741823, 268435455, 2415919103, 6710886399, 17179869183, 34359738367, 68719476735, 137438953471, 274877906943, 549755813887, 1099511627775, 2199023255551, 4398046511103, 8796093022207, 17592186044415, 35184372088831, 70368744177663, 70368744177663, 70368744177663, 351843720888319, 1055531162664959, 2181431069507583, 4503599627370495, 9007199254740991, 18014398509481983, 36028797018963967]
theorem laws_FnFourSquaresCounted.tab28 : rtab .any (opsOf Try.f6 28) = laws_FnFourSquaresCounted.T28 := by kernel_rfl
theorem laws_FnFourSquaresCounted.bits28 : waitsOk laws_FnFourSquaresCounted.T28.2 laws_FnFourSquaresCounted.B28 = true := by kernel_rfl
theorem laws_FnFourSquaresCounted.j0_no : ∀ {k y0 y1 y2 y3 y4 y5 y6 y7}, laws_FnFourSquaresCounted.j0 k y0 y1 y2 y3 y4 y5 y6 y7 true = some true → False := by
 intro k y0 y1 y2 y3 y4 y5 y6 y7 h
 cases k <;> simp [laws_FnFourSquaresCounted.j0] at h
theorem laws_FnFourSquaresCounted.j1_no : ∀ {k y0 y1 y2 y3 y4 y5 y6}, laws_FnFourSquaresCounted.j1 k y0 y1 y2 y3 y4 y5 y6 true = some true → False := by
 intro k y0 y1 y2 y3 y4 y5 y6 h
 cases k <;> simp [laws_FnFourSquaresCounted.j1] at h
theorem laws_FnFourSquaresCounted.j2_no : ∀ {k y0 y1}, laws_FnFourSquaresCounted.j2 k y0 y1 true = some true → False := by
 intro k y0 y1 h
 cases k <;> simp [laws_FnFourSquaresCounted.j2] at h
set_option maxHeartbeats 8000000 in
set_option maxRecDepth 100000 in
theorem laws_FnFourSquaresCounted.calls (k : Nat) (A0 : Option Addr) (c0 : Nat) (l0 : List Int) (A1 : Option Addr) (c1 : Nat) (l1 : List Int) (r : Bool) (w : World) (hr0 : Kd.C (Kd.int .u8) w A0 l0.length l0) (hc0 : l0.length ≤ c0) (hr1 : Kd.C (Kd.int .u8) w A1 l1.length l1) (hc1 : l1.length ≤ c1) (h : laws_FnFourSquaresCounted.f k l0 l1 = some r) (hrT : r = true) :
 Calls Try.prog 6 #[.slice A0 l0.length c0, .slice A1 l1.length c1] w fun e w' => e = .returned (.bool r) ∧ Below w.heap.size w w' := by
 have HR0 := Aside0.mk hr0
 have HC0 := Aside0.mk hc0
 clear hr0 hc0
 have HR1 := Aside0.mk hr1
 have HC1 := Aside0.mk hc1
 clear hr1 hc1
 have HB := Aside0.mk (Below.refl w.heap.size w)
 have H : ((laws_big.f l0 l1).bind fun t246 => (if t246 = true then (some true) else ((spec_DrawAllFourSquares.f l0).bind fun t247 => ((impl_AllFourSquares.f k t247).bind fun bt248 => ((spec_AllFourSquares.f k t247).bind fun bt252 => ((impl_FourSquares.f k t247).bind fun bt256 => ((spec_FourSquares.f k t247).bind fun bt260 => ((impl_CountFour.f k t247).bind fun bt264 => ((spec_CountFour.f k t247).bind fun bt266 => ((impl_DivisorSumFour.f k t247).bind fun bt268 => ((spec_DivisorSumFour.f k t247).bind fun bt270 => (if (bt248.2 != bt252.2) = true then (laws_FnFourSquaresCounted.j0 k l1 t247 bt248.1 bt252.2 bt256.1 bt264.1 bt268.1 bt268.2 true) else ((laws_vSameLists.f k bt248.1 bt252.1).bind fun t272 => (if t272 = true then (if (bt256.2 != bt260.2) = true then (laws_FnFourSquaresCounted.j0 k l1 t247 bt248.1 bt252.2 bt256.1 bt264.1 bt268.1 bt268.2 true) else ((laws_vSame.f k bt256.1 bt260.1).bind fun t273 => (if t273 = true then (if (bt264.2 != bt266.2) = true then (laws_FnFourSquaresCounted.j0 k l1 t247 bt248.1 bt252.2 bt256.1 bt264.1 bt268.1 bt268.2 true) else (if bt264.1 = bt266.1 then (if (bt268.2 != bt270.2) = true then (laws_FnFourSquaresCounted.j0 k l1 t247 bt248.1 bt252.2 bt256.1 bt264.1 bt268.1 bt268.2 true) else (if bt268.1 = bt270.1 then (laws_FnFourSquaresCounted.j0 k l1 t247 bt248.1 bt252.2 bt256.1 bt264.1 bt268.1 bt268.2 (bt256.2 != bt248.2)) else (laws_FnFourSquaresCounted.j0 k l1 t247 bt248.1 bt252.2 bt256.1 bt264.1 bt268.1 bt268.2 true))) else (laws_FnFourSquaresCounted.j0 k l1 t247 bt248.1 bt252.2 bt256.1 bt264.1 bt268.1 bt268.2 true))) else (laws_FnFourSquaresCounted.j0 k l1 t247 bt248.1 bt252.2 bt256.1 bt264.1 bt268.1 bt268.2 true)))) else (laws_FnFourSquaresCounted.j0 k l1 t247 bt248.1 bt252.2 bt256.1 bt264.1 bt268.1 bt268.2 true))))))))))))))) = some r := h
 clear h
 replace H := Option.bind_eq_some_iff.mp H
 obtain ⟨t246, A30, H⟩ := H
 replace H : (if t246 = true then (some true) else ((spec_DrawAllFourSquares.f l0).bind fun t247 => ((impl_AllFourSquares.f k t247).bind fun bt248 => ((spec_AllFourSquares.f k t247).bind fun bt252 => ((impl_FourSquares.f k t247).bind fun bt256 => ((spec_FourSquares.f k t247).bind fun bt260 => ((impl_CountFour.f k t247).bind fun bt264 => ((spec_CountFour.f k t247).bind fun bt266 => ((impl_DivisorSumFour.f k t247).bind fun bt268 => ((spec_DivisorSumFour.f k t247).bind fun bt270 => (if (bt248.2 != bt252.2) = true then (laws_FnFourSquaresCounted.j0 k l1 t247 bt248.1 bt252.2 bt256.1 bt264.1 bt268.1 bt268.2 true) else ((laws_vSameLists.f k bt248.1 bt252.1).bind fun t272 => (if t272 = true then (if (bt256.2 != bt260.2) = true then (laws_FnFourSquaresCounted.j0 k l1 t247 bt248.1 bt252.2 bt256.1 bt264.1 bt268.1 bt268.2 true) else ((laws_vSame.f k bt256.1 bt260.1).bind fun t273 => (if t273 = true then (if (bt264.2 != bt266.2) = true then (laws_FnFourSquaresCounted.j0 k l1 t247 bt248.1 bt252.2 bt256.1 bt264.1 bt268.1 bt268.2 true) else (if bt264.1 = bt266.1 then (if (bt268.2 != bt270.2) = true then (laws_FnFourSquaresCounted.j0 k l1 t247 bt248.1 bt252.2 bt256.1 bt264.1 bt268.1 bt268.2 true) else (if bt268.1 = bt270.1 then (laws_FnFourSquaresCounted.j0 k l1 t247 bt248.1 bt252.2 bt256.1 bt264.1 bt268.1 bt268.2 (bt256.2 != bt248.2)) else (laws_FnFourSquaresCounted.j0 k l1 t247 bt248.1 bt252.2 bt256.1 bt264.1 bt268.1 bt268.2 true))) else (laws_FnFourSquaresCounted.j0 k l1 t247 bt248.1 bt252.2 bt256.1 bt264.1 bt268.1 bt268.2 true))) else (laws_FnFourSquaresCounted.j0 k l1 t247 bt248.1 bt252.2 bt256.1 bt264.1 bt268.1 bt268.2 true)))) else (laws_FnFourSquaresCounted.j0 k l1 t247 bt248.1 bt252.2 bt256.1 bt264.1 bt268.1 bt268.2 true)))))))))))))) = some r := H
 have A3 := Aside0.mk A30
 clear A30
 by_cases c4 : t246 = true
 ·
  subst c4
  have H1 : (some true) = some r := by rw [if_pos rfl] at H; exact H
  clear H
  have H := H1
  clear H1
  obtain rfl := Option.some.inj H
  go_enter Try.func6, Try.ntmps6
  go_wp2_with (first | ((with_reducible refine gate_callee (f := 13) rfl ?_); refine goesL_ (some 35) rfl rfl Try.func13 (by kernel_rfl) rfl #[.slice A0 l0.length c0, .slice A1 l1.length c1] rfl (by (try simp only [List.map_toArray, List.map_cons, List.map_nil]); first | done | rfl | (simp only [List.length_drop, List.length_take]; rfl)) ?_; (with_reducible refine (laws_big.calls _ _ l0 _ _ l1 true _ ?side1 ?side2 ?side3 ?side4 A3.out).mono ?_); (case side1 => repeat (first | exact HR0.out | (with_reducible refine Kd.C_alloc ?_ _) | (with_reducible refine Kd.C_drewN ?_ _) | (with_reducible refine Kd.C_drew ?_))); (case side2 => exact HC0.out); (case side3 => repeat (first | exact HR1.out | (with_reducible refine Kd.C_alloc ?_ _) | (with_reducible refine Kd.C_drewN ?_ _) | (with_reducible refine Kd.C_drew ?_))); (case side4 => exact HC1.out); rintro e w' ⟨rfl, ⟨nd, rfl⟩⟩; refine ⟨_, rfl, ?_⟩))
  go_ret
  exact ⟨by first | rfl | (simp [errW_none, errW_some] <;> rfl) | (simp [*, errW_none, errW_some] <;> rfl), by repeat (first | (with_reducible first | exact HB.out | apply below_alloc | apply pw_below_drewN | apply below_drew1) | exact HB.out | exact Below.refl _ _)⟩
 ·
  replace c4 := Bool.eq_false_iff.mpr c4
  subst c4
  have H1 : ((spec_DrawAllFourSquares.f l0).bind fun t247 => ((impl_AllFourSquares.f k t247).bind fun bt248 => ((spec_AllFourSquares.f k t247).bind fun bt252 => ((impl_FourSquares.f k t247).bind fun bt256 => ((spec_FourSquares.f k t247).bind fun bt260 => ((impl_CountFour.f k t247).bind fun bt264 => ((spec_CountFour.f k t247).bind fun bt266 => ((impl_DivisorSumFour.f k t247).bind fun bt268 => ((spec_DivisorSumFour.f k t247).bind fun bt270 => (if (bt248.2 != bt252.2) = true then (laws_FnFourSquaresCounted.j0 k l1 t247 bt248.1 bt252.2 bt256.1 bt264.1 bt268.1 bt268.2 true) else ((laws_vSameLists.f k bt248.1 bt252.1).bind fun t272 => (if t272 = true then (if (bt256.2 != bt260.2) = true then (laws_FnFourSquaresCounted.j0 k l1 t247 bt248.1 bt252.2 bt256.1 bt264.1 bt268.1 bt268.2 true) else ((laws_vSame.f k bt256.1 bt260.1).bind fun t273 => (if t273 = true then (if (bt264.2 != bt266.2) = true then (laws_FnFourSquaresCounted.j0 k l1 t247 bt248.1 bt252.2 bt256.1 bt264.1 bt268.1 bt268.2 true) else (if bt264.1 = bt266.1 then (if (bt268.2 != bt270.2) = true then (laws_FnFourSquaresCounted.j0 k l1 t247 bt248.1 bt252.2 bt256.1 bt264.1 bt268.1 bt268.2 true) else (if bt268.1 = bt270.1 then (laws_FnFourSquaresCounted.j0 k l1 t247 bt248.1 bt252.2 bt256.1 bt264.1 bt268.1 bt268.2 (bt256.2 != bt248.2)) else (laws_FnFourSquaresCounted.j0 k l1 t247 bt248.1 bt252.2 bt256.1 bt264.1 bt268.1 bt268.2 true))) else (laws_FnFourSquaresCounted.j0 k l1 t247 bt248.1 bt252.2 bt256.1 bt264.1 bt268.1 bt268.2 true))) else (laws_FnFourSquaresCounted.j0 k l1 t247 bt248.1 bt252.2 bt256.1 bt264.1 bt268.1 bt268.2 true)))) else (laws_FnFourSquaresCounted.j0 k l1 t247 bt248.1 bt252.2 bt256.1 bt264.1 bt268.1 bt268.2 true))))))))))))) = some r := by rw [if_neg (show ¬ (false = true) by decide)] at H; exact H
  clear H
  have H := H1
  clear H1
  replace H := Option.bind_eq_some_iff.mp H
  obtain ⟨t247, A50, H⟩ := H
  replace H : ((impl_AllFourSquares.f k t247).bind fun bt248 => ((spec_AllFourSquares.f k t247).bind fun bt252 => ((impl_FourSquares.f k t247).bind fun bt256 => ((spec_FourSquares.f k t247).bind fun bt260 => ((impl_CountFour.f k t247).bind fun bt264 => ((spec_CountFour.f k t247).bind fun bt266 => ((impl_DivisorSumFour.f k t247).bind fun bt268 => ((spec_DivisorSumFour.f k t247).bind fun bt270 => (if (bt248.2 != bt252.2) = true then (laws_FnFourSquaresCounted.j0 k l1 t247 bt248.1 bt252.2 bt256.1 bt264.1 bt268.1 bt268.2 true) else ((laws_vSameLists.f k bt248.1 bt252.1).bind fun t272 => (if t272 = true then (if (bt256.2 != bt260.2) = true then (laws_FnFourSquaresCounted.j0 k l1 t247 bt248.1 bt252.2 bt256.1 bt264.1 bt268.1 bt268.2 true) else ((laws_vSame.f k bt256.1 bt260.1).bind fun t273 => (if t273 = true then (if (bt264.2 != bt266.2) = true then (laws_FnFourSquaresCounted.j0 k l1 t247 bt248.1 bt252.2 bt256.1 bt264.1 bt268.1 bt268.2 true) else (if bt264.1 = bt266.1 then (if (bt268.2 != bt270.2) = true then (laws_FnFourSquaresCounted.j0 k l1 t247 bt248.1 bt252.2 bt256.1 bt264.1 bt268.1 bt268.2 true) else (if bt268.1 = bt270.1 then (laws_FnFourSquaresCounted.j0 k l1 t247 bt248.1 bt252.2 bt256.1 bt264.1 bt268.1 bt268.2 (bt256.2 != bt248.2)) else (laws_FnFourSquaresCounted.j0 k l1 t247 bt248.1 bt252.2 bt256.1 bt264.1 bt268.1 bt268.2 true))) else (laws_FnFourSquaresCounted.j0 k l1 t247 bt248.1 bt252.2 bt256.1 bt264.1 bt268.1 bt268.2 true))) else (laws_FnFourSquaresCounted.j0 k l1 t247 bt248.1 bt252.2 bt256.1 bt264.1 bt268.1 bt268.2 true)))) else (laws_FnFourSquaresCounted.j0 k l1 t247 bt248.1 bt252.2 bt256.1 bt264.1 bt268.1 bt268.2 true)))))))))))) = some r := H
  have A5 := Aside0.mk A50
  clear A50
  replace H := Option.bind_eq_some_iff.mp H
  obtain ⟨⟨t248, t249⟩, A60, H⟩ := H
  replace H : ((spec_AllFourSquares.f k t247).bind fun bt252 => ((impl_FourSquares.f k t247).bind fun bt256 => ((spec_FourSquares.f k t247).bind fun bt260 => ((impl_CountFour.f k t247).bind fun bt264 => ((spec_CountFour.f k t247).bind fun bt266 => ((impl_DivisorSumFour.f k t247).bind fun bt268 => ((spec_DivisorSumFour.f k t247).bind fun bt270 => (if (t249 != bt252.2) = true then (laws_FnFourSquaresCounted.j0 k l1 t247 t248 bt252.2 bt256.1 bt264.1 bt268.1 bt268.2 true) else ((laws_vSameLists.f k t248 bt252.1).bind fun t272 => (if t272 = true then (if (bt256.2 != bt260.2) = true then (laws_FnFourSquaresCounted.j0 k l1 t247 t248 bt252.2 bt256.1 bt264.1 bt268.1 bt268.2 true) else ((laws_vSame.f k bt256.1 bt260.1).bind fun t273 => (if t273 = true then (if (bt264.2 != bt266.2) = true then (laws_FnFourSquaresCounted.j0 k l1 t247 t248 bt252.2 bt256.1 bt264.1 bt268.1 bt268.2 true) else (if bt264.1 = bt266.1 then (if (bt268.2 != bt270.2) = true then (laws_FnFourSquaresCounted.j0 k l1 t247 t248 bt252.2 bt256.1 bt264.1 bt268.1 bt268.2 true) else (if bt268.1 = bt270.1 then (laws_FnFourSquaresCounted.j0 k l1 t247 t248 bt252.2 bt256.1 bt264.1 bt268.1 bt268.2 (bt256.2 != t249)) else (laws_FnFourSquaresCounted.j0 k l1 t247 t248 bt252.2 bt256.1 bt264.1 bt268.1 bt268.2 true))) else (laws_FnFourSquaresCounted.j0 k l1 t247 t248 bt252.2 bt256.1 bt264.1 bt268.1 bt268.2 true))) else (laws_FnFourSquaresCounted.j0 k l1 t247 t248 bt252.2 bt256.1 bt264.1 bt268.1 bt268.2 true)))) else (laws_FnFourSquaresCounted.j0 k l1 t247 t248 bt252.2 bt256.1 bt264.1 bt268.1 bt268.2 true))))))))))) = some r := H
  have A6 := Aside0.mk A60
  clear A60
  replace H := Option.bind_eq_some_iff.mp H
  obtain ⟨⟨t252, t253⟩, A70, H⟩ := H
  replace H : ((impl_FourSquares.f k t247).bind fun bt256 => ((spec_FourSquares.f k t247).bind fun bt260 => ((impl_CountFour.f k t247).bind fun bt264 => ((spec_CountFour.f k t247).bind fun bt266 => ((impl_DivisorSumFour.f k t247).bind fun bt268 => ((spec_DivisorSumFour.f k t247).bind fun bt270 => (if (t249 != t253) = true then (laws_FnFourSquaresCounted.j0 k l1 t247 t248 t253 bt256.1 bt264.1 bt268.1 bt268.2 true) else ((laws_vSameLists.f k t248 t252).bind fun t272 => (if t272 = true then (if (bt256.2 != bt260.2) = true then (laws_FnFourSquaresCounted.j0 k l1 t247 t248 t253 bt256.1 bt264.1 bt268.1 bt268.2 true) else ((laws_vSame.f k bt256.1 bt260.1).bind fun t273 => (if t273 = true then (if (bt264.2 != bt266.2) = true then (laws_FnFourSquaresCounted.j0 k l1 t247 t248 t253 bt256.1 bt264.1 bt268.1 bt268.2 true) else (if bt264.1 = bt266.1 then (if (bt268.2 != bt270.2) = true then (laws_FnFourSquaresCounted.j0 k l1 t247 t248 t253 bt256.1 bt264.1 bt268.1 bt268.2 true) else (if bt268.1 = bt270.1 then (laws_FnFourSquaresCounted.j0 k l1 t247 t248 t253 bt256.1 bt264.1 bt268.1 bt268.2 (bt256.2 != t249)) else (laws_FnFourSquaresCounted.j0 k l1 t247 t248 t253 bt256.1 bt264.1 bt268.1 bt268.2 true))) else (laws_FnFourSquaresCounted.j0 k l1 t247 t248 t253 bt256.1 bt264.1 bt268.1 bt268.2 true))) else (laws_FnFourSquaresCounted.j0 k l1 t247 t248 t253 bt256.1 bt264.1 bt268.1 bt268.2 true)))) else (laws_FnFourSquaresCounted.j0 k l1 t247 t248 t253 bt256.1 bt264.1 bt268.1 bt268.2 true)))))))))) = some r := H
  have A7 := Aside0.mk A70
  clear A70
  replace H := Option.bind_eq_some_iff.mp H
  obtain ⟨⟨t256, t257⟩, A80, H⟩ := H
  replace H : ((spec_FourSquares.f k t247).bind fun bt260 => ((impl_CountFour.f k t247).bind fun bt264 => ((spec_CountFour.f k t247).bind fun bt266 => ((impl_DivisorSumFour.f k t247).bind fun bt268 => ((spec_DivisorSumFour.f k t247).bind fun bt270 => (if (t249 != t253) = true then (laws_FnFourSquaresCounted.j0 k l1 t247 t248 t253 t256 bt264.1 bt268.1 bt268.2 true) else ((laws_vSameLists.f k t248 t252).bind fun t272 => (if t272 = true then (if (t257 != bt260.2) = true then (laws_FnFourSquaresCounted.j0 k l1 t247 t248 t253 t256 bt264.1 bt268.1 bt268.2 true) else ((laws_vSame.f k t256 bt260.1).bind fun t273 => (if t273 = true then (if (bt264.2 != bt266.2) = true then (laws_FnFourSquaresCounted.j0 k l1 t247 t248 t253 t256 bt264.1 bt268.1 bt268.2 true) else (if bt264.1 = bt266.1 then (if (bt268.2 != bt270.2) = true then (laws_FnFourSquaresCounted.j0 k l1 t247 t248 t253 t256 bt264.1 bt268.1 bt268.2 true) else (if bt268.1 = bt270.1 then (laws_FnFourSquaresCounted.j0 k l1 t247 t248 t253 t256 bt264.1 bt268.1 bt268.2 (t257 != t249)) else (laws_FnFourSquaresCounted.j0 k l1 t247 t248 t253 t256 bt264.1 bt268.1 bt268.2 true))) else (laws_FnFourSquaresCounted.j0 k l1 t247 t248 t253 t256 bt264.1 bt268.1 bt268.2 true))) else (laws_FnFourSquaresCounted.j0 k l1 t247 t248 t253 t256 bt264.1 bt268.1 bt268.2 true)))) else (laws_FnFourSquaresCounted.j0 k l1 t247 t248 t253 t256 bt264.1 bt268.1 bt268.2 true))))))))) = some r := H
  have A8 := Aside0.mk A80
  clear A80
  replace H := Option.bind_eq_some_iff.mp H
  obtain ⟨⟨t260, t261⟩, A90, H⟩ := H
  replace H : ((impl_CountFour.f k t247).bind fun bt264 => ((spec_CountFour.f k t247).bind fun bt266 => ((impl_DivisorSumFour.f k t247).bind fun bt268 => ((spec_DivisorSumFour.f k t247).bind fun bt270 => (if (t249 != t253) = true then (laws_FnFourSquaresCounted.j0 k l1 t247 t248 t253 t256 bt264.1 bt268.1 bt268.2 true) else ((laws_vSameLists.f k t248 t252).bind fun t272 => (if t272 = true then (if (t257 != t261) = true then (laws_FnFourSquaresCounted.j0 k l1 t247 t248 t253 t256 bt264.1 bt268.1 bt268.2 true) else ((laws_vSame.f k t256 t260).bind fun t273 => (if t273 = true then (if (bt264.2 != bt266.2) = true then (laws_FnFourSquaresCounted.j0 k l1 t247 t248 t253 t256 bt264.1 bt268.1 bt268.2 true) else (if bt264.1 = bt266.1 then (if (bt268.2 != bt270.2) = true then (laws_FnFourSquaresCounted.j0 k l1 t247 t248 t253 t256 bt264.1 bt268.1 bt268.2 true) else (if bt268.1 = bt270.1 then (laws_FnFourSquaresCounted.j0 k l1 t247 t248 t253 t256 bt264.1 bt268.1 bt268.2 (t257 != t249)) else (laws_FnFourSquaresCounted.j0 k l1 t247 t248 t253 t256 bt264.1 bt268.1 bt268.2 true))) else (laws_FnFourSquaresCounted.j0 k l1 t247 t248 t253 t256 bt264.1 bt268.1 bt268.2 true))) else (laws_FnFourSquaresCounted.j0 k l1 t247 t248 t253 t256 bt264.1 bt268.1 bt268.2 true)))) else (laws_FnFourSquaresCounted.j0 k l1 t247 t248 t253 t256 bt264.1 bt268.1 bt268.2 true)))))))) = some r := H
  have A9 := Aside0.mk A90
  clear A90
  replace H := Option.bind_eq_some_iff.mp H
  obtain ⟨⟨t264, t265⟩, A100, H⟩ := H
  replace H : ((spec_CountFour.f k t247).bind fun bt266 => ((impl_DivisorSumFour.f k t247).bind fun bt268 => ((spec_DivisorSumFour.f k t247).bind fun bt270 => (if (t249 != t253) = true then (laws_FnFourSquaresCounted.j0 k l1 t247 t248 t253 t256 t264 bt268.1 bt268.2 true) else ((laws_vSameLists.f k t248 t252).bind fun t272 => (if t272 = true then (if (t257 != t261) = true then (laws_FnFourSquaresCounted.j0 k l1 t247 t248 t253 t256 t264 bt268.1 bt268.2 true) else ((laws_vSame.f k t256 t260).bind fun t273 => (if t273 = true then (if (t265 != bt266.2) = true then (laws_FnFourSquaresCounted.j0 k l1 t247 t248 t253 t256 t264 bt268.1 bt268.2 true) else (if t264 = bt266.1 then (if (bt268.2 != bt270.2) = true then (laws_FnFourSquaresCounted.j0 k l1 t247 t248 t253 t256 t264 bt268.1 bt268.2 true) else (if bt268.1 = bt270.1 then (laws_FnFourSquaresCounted.j0 k l1 t247 t248 t253 t256 t264 bt268.1 bt268.2 (t257 != t249)) else (laws_FnFourSquaresCounted.j0 k l1 t247 t248 t253 t256 t264 bt268.1 bt268.2 true))) else (laws_FnFourSquaresCounted.j0 k l1 t247 t248 t253 t256 t264 bt268.1 bt268.2 true))) else (laws_FnFourSquaresCounted.j0 k l1 t247 t248 t253 t256 t264 bt268.1 bt268.2 true)))) else (laws_FnFourSquaresCounted.j0 k l1 t247 t248 t253 t256 t264 bt268.1 bt268.2 true))))))) = some r := H
  have A10 := Aside0.mk A100
  clear A100
  replace H := Option.bind_eq_some_iff.mp H
  obtain ⟨⟨t266, t267⟩, A110, H⟩ := H
  replace H : ((impl_DivisorSumFour.f k t247).bind fun bt268 => ((spec_DivisorSumFour.f k t247).bind fun bt270 => (if (t249 != t253) = true then (laws_FnFourSquaresCounted.j0 k l1 t247 t248 t253 t256 t264 bt268.1 bt268.2 true) else ((laws_vSameLists.f k t248 t252).bind fun t272 => (if t272 = true then (if (t257 != t261) = true then (laws_FnFourSquaresCounted.j0 k l1 t247 t248 t253 t256 t264 bt268.1 bt268.2 true) else ((laws_vSame.f k t256 t260).bind fun t273 => (if t273 = true then (if (t265 != t267) = true then (laws_FnFourSquaresCounted.j0 k l1 t247 t248 t253 t256 t264 bt268.1 bt268.2 true) else (if t264 = t266 then (if (bt268.2 != bt270.2) = true then (laws_FnFourSquaresCounted.j0 k l1 t247 t248 t253 t256 t264 bt268.1 bt268.2 true) else (if bt268.1 = bt270.1 then (laws_FnFourSquaresCounted.j0 k l1 t247 t248 t253 t256 t264 bt268.1 bt268.2 (t257 != t249)) else (laws_FnFourSquaresCounted.j0 k l1 t247 t248 t253 t256 t264 bt268.1 bt268.2 true))) else (laws_FnFourSquaresCounted.j0 k l1 t247 t248 t253 t256 t264 bt268.1 bt268.2 true))) else (laws_FnFourSquaresCounted.j0 k l1 t247 t248 t253 t256 t264 bt268.1 bt268.2 true)))) else (laws_FnFourSquaresCounted.j0 k l1 t247 t248 t253 t256 t264 bt268.1 bt268.2 true)))))) = some r := H
  have A11 := Aside0.mk A110
  clear A110
  replace H := Option.bind_eq_some_iff.mp H
  obtain ⟨⟨t268, t269⟩, A120, H⟩ := H
  replace H : ((spec_DivisorSumFour.f k t247).bind fun bt270 => (if (t249 != t253) = true then (laws_FnFourSquaresCounted.j0 k l1 t247 t248 t253 t256 t264 t268 t269 true) else ((laws_vSameLists.f k t248 t252).bind fun t272 => (if t272 = true then (if (t257 != t261) = true then (laws_FnFourSquaresCounted.j0 k l1 t247 t248 t253 t256 t264 t268 t269 true) else ((laws_vSame.f k t256 t260).bind fun t273 => (if t273 = true then (if (t265 != t267) = true then (laws_FnFourSquaresCounted.j0 k l1 t247 t248 t253 t256 t264 t268 t269 true) else (if t264 = t266 then (if (t269 != bt270.2) = true then (laws_FnFourSquaresCounted.j0 k l1 t247 t248 t253 t256 t264 t268 t269 true) else (if t268 = bt270.1 then (laws_FnFourSquaresCounted.j0 k l1 t247 t248 t253 t256 t264 t268 t269 (t257 != t249)) else (laws_FnFourSquaresCounted.j0 k l1 t247 t248 t253 t256 t264 t268 t269 true))) else (laws_FnFourSquaresCounted.j0 k l1 t247 t248 t253 t256 t264 t268 t269 true))) else (laws_FnFourSquaresCounted.j0 k l1 t247 t248 t253 t256 t264 t268 t269 true)))) else (laws_FnFourSquaresCounted.j0 k l1 t247 t248 t253 t256 t264 t268 t269 true))))) = some r := H
  have A12 := Aside0.mk A120
  clear A120
  replace H := Option.bind_eq_some_iff.mp H
  obtain ⟨⟨t270, t271⟩, A130, H⟩ := H
  replace H : (if (t249 != t253) = true then (laws_FnFourSquaresCounted.j0 k l1 t247 t248 t253 t256 t264 t268 t269 true) else ((laws_vSameLists.f k t248 t252).bind fun t272 => (if t272 = true then (if (t257 != t261) = true then (laws_FnFourSquaresCounted.j0 k l1 t247 t248 t253 t256 t264 t268 t269 true) else ((laws_vSame.f k t256 t260).bind fun t273 => (if t273 = true then (if (t265 != t267) = true then (laws_FnFourSquaresCounted.j0 k l1 t247 t248 t253 t256 t264 t268 t269 true) else (if t264 = t266 then (if (t269 != t271) = true then (laws_FnFourSquaresCounted.j0 k l1 t247 t248 t253 t256 t264 t268 t269 true) else (if t268 = t270 then (laws_FnFourSquaresCounted.j0 k l1 t247 t248 t253 t256 t264 t268 t269 (t257 != t249)) else (laws_FnFourSquaresCounted.j0 k l1 t247 t248 t253 t256 t264 t268 t269 true))) else (laws_FnFourSquaresCounted.j0 k l1 t247 t248 t253 t256 t264 t268 t269 true))) else (laws_FnFourSquaresCounted.j0 k l1 t247 t248 t253 t256 t264 t268 t269 true)))) else (laws_FnFourSquaresCounted.j0 k l1 t247 t248 t253 t256 t264 t268 t269 true)))) = some r := H
  have A13 := Aside0.mk A130
  clear A130
  have HC14 := Aside0.mk H
  clear H
  go_enter Try.func6, Try.ntmps6
  go_upto_region 12 with (first | ((with_reducible refine gate_callee (f := 13) rfl ?_); refine goesL_ (some 35) rfl rfl Try.func13 (by kernel_rfl) rfl #[.slice A0 l0.length c0, .slice A1 l1.length c1] rfl (by (try simp only [List.map_toArray, List.map_cons, List.map_nil]); first | done | rfl | (simp only [List.length_drop, List.length_take]; rfl)) ?_; (with_reducible refine (laws_big.calls _ _ l0 _ _ l1 false _ ?side1 ?side2 ?side3 ?side4 A3.out).mono ?_); (case side1 => repeat (first | exact HR0.out | (with_reducible refine Kd.C_alloc ?_ _) | (with_reducible refine Kd.C_drewN ?_ _) | (with_reducible refine Kd.C_drew ?_))); (case side2 => exact HC0.out); (case side3 => repeat (first | exact HR1.out | (with_reducible refine Kd.C_alloc ?_ _) | (with_reducible refine Kd.C_drewN ?_ _) | (with_reducible refine Kd.C_drew ?_))); (case side4 => exact HC1.out); rintro e w' ⟨rfl, ⟨nd, rfl⟩⟩; refine ⟨_, rfl, ?_⟩) | ((with_reducible refine gate_callee (f := 33) rfl ?_); refine goesL_ (some 37) rfl rfl Try.func33 (by kernel_rfl) rfl #[.slice A0 l0.length c0] rfl (by (try simp only [List.map_toArray, List.map_cons, List.map_nil]); first | done | rfl | (simp only [List.length_drop, List.length_take]; rfl)) ?_; (with_reducible refine (spec_DrawAllFourSquares.calls _ _ l0 t247 _ ?side1 ?side2 A5.out).mono ?_); (case side1 => repeat (first | exact HR0.out | (with_reducible refine Kd.C_alloc ?_ _) | (with_reducible refine Kd.C_drewN ?_ _) | (with_reducible refine Kd.C_drew ?_))); (case side2 => exact HC0.out); rintro e w15 ⟨rfl, hb⟩; refine ⟨_, rfl, ?_⟩; have n0_ := Aside0.mk (below_step (by repeat (first | (with_reducible first | exact HB.out | apply below_alloc | apply pw_below_drewN | apply below_drew1) | exact HB.out | exact Below.refl _ _)) hb); clear HB; have HB := n0_; clear n0_; (try clear hb); (try clear hb2); (try clear hk); (try clear hi)) | ((with_reducible refine gate_callee (f := 34) rfl ?_); refine goesL_ (some 40) rfl rfl Try.func34 (by kernel_rfl) rfl #[.int .i64 t247] rfl (by (try simp only [List.map_toArray, List.map_cons, List.map_nil]); first | done | rfl | (simp only [List.length_drop, List.length_take]; rfl)) ?_; (with_reducible refine (impl_AllFourSquares.calls k t247 t248 t249 _ A6.out).mono ?_); rintro e w16 ⟨v250, rfl, ho0, hb⟩; refine ⟨_, rfl, ?_⟩; have n0_ := Aside0.mk (Kd.S_lower ho0 (below_size (by repeat (first | (with_reducible first | exact HB.out | apply below_alloc | apply pw_below_drewN | apply below_drew1) | exact HB.out | exact Below.refl _ _)))); have n1_ := Aside0.mk (below_step (by repeat (first | (with_reducible first | exact HB.out | apply below_alloc | apply pw_below_drewN | apply below_drew1) | exact HB.out | exact Below.refl _ _)) hb); clear HB; have HO251 := n0_; have HB := n1_; clear n0_ n1_; (try clear hb); (try clear hb2); (try clear hk); (try clear hi); (try clear ho0)) | ((with_reducible refine gate_callee (f := 35) rfl ?_); refine goesL_ (some 45) rfl rfl Try.func35 (by kernel_rfl) rfl #[.int .i64 t247] rfl (by (try simp only [List.map_toArray, List.map_cons, List.map_nil]); first | done | rfl | (simp only [List.length_drop, List.length_take]; rfl)) ?_; (with_reducible refine (spec_AllFourSquares.calls k t247 t252 t253 _ A7.out).mono ?_); rintro e w17 ⟨v254, rfl, ho0, hb⟩; refine ⟨_, rfl, ?_⟩; have n0_ := Aside0.mk (Kd.S_elder' (by (with_reducible repeat (first | apply Kd.S_alloc | apply Kd.S_drewN | apply Kd.S_drew)); exact HO251.out) (Kd.S_base ho0) hb); have n1_ := Aside0.mk (Kd.S_lower (Kd.S_new' ho0 (Kd.S_lt (by (with_reducible repeat (first | apply Kd.S_alloc | apply Kd.S_drewN | apply Kd.S_drew)); exact HO251.out))) (below_size (by repeat (first | (with_reducible first | exact HB.out | apply below_alloc | apply pw_below_drewN | apply below_drew1) | exact HB.out | exact Below.refl _ _)))); have n2_ := Aside0.mk (below_step (by repeat (first | (with_reducible first | exact HB.out | apply below_alloc | apply pw_below_drewN | apply below_drew1) | exact HB.out | exact Below.refl _ _)) hb); clear HO251; clear HB; have HO251 := n0_; have HO255 := n1_; have HB := n2_; clear n0_ n1_ n2_; (try clear hb); (try clear hb2); (try clear hk); (try clear hi); (try clear ho0)) | ((with_reducible refine gate_callee (f := 36) rfl ?_); refine goesL_ (some 50) rfl rfl Try.func36 (by kernel_rfl) rfl #[.int .i64 t247] rfl (by (try simp only [List.map_toArray, List.map_cons, List.map_nil]); first | done | rfl | (simp only [List.length_drop, List.length_take]; rfl)) ?_; (with_reducible refine (impl_FourSquares.calls k t247 t256 t257 _ A8.out).mono ?_); rintro e w18 ⟨v258, rfl, ho0, hb⟩; refine ⟨_, rfl, ?_⟩; have n0_ := Aside0.mk (Kd.S_elder' (by (with_reducible repeat (first | apply Kd.S_alloc | apply Kd.S_drewN | apply Kd.S_drew)); exact HO251.out) (Kd.R_base ho0) hb); have n1_ := Aside0.mk (Kd.S_elder' (by (with_reducible repeat (first | apply Kd.S_alloc | apply Kd.S_drewN | apply Kd.S_drew)); exact HO255.out) (Kd.R_base ho0) hb); have n2_ := Aside0.mk (Kd.R_lower ho0 (below_size (by repeat (first | (with_reducible first | exact HB.out | apply below_alloc | apply pw_below_drewN | apply below_drew1) | exact HB.out | exact Below.refl _ _)))); have n3_ := Aside0.mk (below_step (by repeat (first | (with_reducible first | exact HB.out | apply below_alloc | apply pw_below_drewN | apply below_drew1) | exact HB.out | exact Below.refl _ _)) hb); clear HO251; clear HO255; clear HB; have HO251 := n0_; have HO255 := n1_; have HO259 := n2_; have HB := n3_; clear n0_ n1_ n2_ n3_; (try clear hb); (try clear hb2); (try clear hk); (try clear hi); (try clear ho0)) | ((with_reducible refine gate_callee (f := 37) rfl ?_); refine goesL_ (some 55) rfl rfl Try.func37 (by kernel_rfl) rfl #[.int .i64 t247] rfl (by (try simp only [List.map_toArray, List.map_cons, List.map_nil]); first | done | rfl | (simp only [List.length_drop, List.length_take]; rfl)) ?_; (with_reducible refine (spec_FourSquares.calls k t247 t260 t261 _ A9.out).mono ?_); rintro e w19 ⟨v262, rfl, ho0, hb⟩; refine ⟨_, rfl, ?_⟩; have n0_ := Aside0.mk (Kd.S_elder' (by (with_reducible repeat (first | apply Kd.S_alloc | apply Kd.S_drewN | apply Kd.S_drew)); exact HO251.out) (Kd.R_base ho0) hb); have n1_ := Aside0.mk (Kd.S_elder' (by (with_reducible repeat (first | apply Kd.S_alloc | apply Kd.S_drewN | apply Kd.S_drew)); exact HO255.out) (Kd.R_base ho0) hb); have n2_ := Aside0.mk (Kd.R_elder' (by (with_reducible repeat (first | apply Kd.R_alloc | apply Kd.R_drewN | apply Kd.R_drew)); exact HO259.out) (Kd.R_base ho0) hb); have n3_ := Aside0.mk (Kd.R_lower (Kd.R_new' ho0 (Kd.R_lt (by (with_reducible repeat (first | apply Kd.R_alloc | apply Kd.R_drewN | apply Kd.R_drew)); exact HO259.out))) (below_size (by repeat (first | (with_reducible first | exact HB.out | apply below_alloc | apply pw_below_drewN | apply below_drew1) | exact HB.out | exact Below.refl _ _)))); have n4_ := Aside0.mk (below_step (by repeat (first | (with_reducible first | exact HB.out | apply below_alloc | apply pw_below_drewN | apply below_drew1) | exact HB.out | exact Below.refl _ _)) hb); clear HO251; clear HO255; clear HO259; clear HB; have HO251 := n0_; have HO255 := n1_; have HO259 := n2_; have HO263 := n3_; have HB := n4_; clear n0_ n1_ n2_ n3_ n4_; (try clear hb); (try clear hb2); (try clear hk); (try clear hi); (try clear ho0)) | ((with_reducible refine gate_callee (f := 38) rfl ?_); refine goesL_ (some 60) rfl rfl Try.func38 (by kernel_rfl) rfl #[.int .i64 t247] rfl (by (try simp only [List.map_toArray, List.map_cons, List.map_nil]); first | done | rfl | (simp only [List.length_drop, List.length_take]; rfl)) ?_; (with_reducible refine (impl_CountFour.calls k t247 t264 t265 _ A10.out).mono ?_); rintro e w20 ⟨rfl, hb⟩; refine ⟨_, rfl, ?_⟩; have n0_ := Aside0.mk (Kd.S_below (by (with_reducible repeat (first | apply Kd.S_alloc | apply Kd.S_drewN | apply Kd.S_drew)); exact HO251.out) hb); have n1_ := Aside0.mk (Kd.S_below (by (with_reducible repeat (first | apply Kd.S_alloc | apply Kd.S_drewN | apply Kd.S_drew)); exact HO255.out) hb); have n2_ := Aside0.mk (Kd.R_below (by (with_reducible repeat (first | apply Kd.R_alloc | apply Kd.R_drewN | apply Kd.R_drew)); exact HO259.out) hb); have n3_ := Aside0.mk (Kd.R_below (by (with_reducible repeat (first | apply Kd.R_alloc | apply Kd.R_drewN | apply Kd.R_drew)); exact HO263.out) hb); have n4_ := Aside0.mk (below_step (by repeat (first | (with_reducible first | exact HB.out | apply below_alloc | apply pw_below_drewN | apply below_drew1) | exact HB.out | exact Below.refl _ _)) hb); clear HO251; clear HO255; clear HO259; clear HO263; clear HB; have HO251 := n0_; have HO255 := n1_; have HO259 := n2_; have HO263 := n3_; have HB := n4_; clear n0_ n1_ n2_ n3_ n4_; (try clear hb); (try clear hb2); (try clear hk); (try clear hi)) | ((with_reducible refine gate_callee (f := 39) rfl ?_); refine goesL_ (some 65) rfl rfl Try.func39 (by kernel_rfl) rfl #[.int .i64 t247] rfl (by (try simp only [List.map_toArray, List.map_cons, List.map_nil]); first | done | rfl | (simp only [List.length_drop, List.length_take]; rfl)) ?_; (with_reducible refine (spec_CountFour.calls k t247 t266 t267 _ A11.out).mono ?_); rintro e w21 ⟨rfl, hb⟩; refine ⟨_, rfl, ?_⟩; have n0_ := Aside0.mk (Kd.S_below (by (with_reducible repeat (first | apply Kd.S_alloc | apply Kd.S_drewN | apply Kd.S_drew)); exact HO251.out) hb); have n1_ := Aside0.mk (Kd.S_below (by (with_reducible repeat (first | apply Kd.S_alloc | apply Kd.S_drewN | apply Kd.S_drew)); exact HO255.out) hb); have n2_ := Aside0.mk (Kd.R_below (by (with_reducible repeat (first | apply Kd.R_alloc | apply Kd.R_drewN | apply Kd.R_drew)); exact HO259.out) hb); have n3_ := Aside0.mk (Kd.R_below (by (with_reducible repeat (first | apply Kd.R_alloc | apply Kd.R_drewN | apply Kd.R_drew)); exact HO263.out) hb); have n4_ := Aside0.mk (below_step (by repeat (first | (with_reducible first | exact HB.out | apply below_alloc | apply pw_below_drewN | apply below_drew1) | exact HB.out | exact Below.refl _ _)) hb); clear HO251; clear HO255; clear HO259; clear HO263; clear HB; have HO251 := n0_; have HO255 := n1_; have HO259 := n2_; have HO263 := n3_; have HB := n4_; clear n0_ n1_ n2_ n3_ n4_; (try clear hb); (try clear hb2); (try clear hk); (try clear hi)) | ((with_reducible refine gate_callee (f := 40) rfl ?_); refine goesL_ (some 70) rfl rfl Try.func40 (by kernel_rfl) rfl #[.int .i64 t247] rfl (by (try simp only [List.map_toArray, List.map_cons, List.map_nil]); first | done | rfl | (simp only [List.length_drop, List.length_take]; rfl)) ?_; (with_reducible refine (impl_DivisorSumFour.calls k t247 t268 t269 _ A12.out).mono ?_); rintro e w22 ⟨rfl, hb⟩; refine ⟨_, rfl, ?_⟩; have n0_ := Aside0.mk (Kd.S_below (by (with_reducible repeat (first | apply Kd.S_alloc | apply Kd.S_drewN | apply Kd.S_drew)); exact HO251.out) hb); have n1_ := Aside0.mk (Kd.S_below (by (with_reducible repeat (first | apply Kd.S_alloc | apply Kd.S_drewN | apply Kd.S_drew)); exact HO255.out) hb); have n2_ := Aside0.mk (Kd.R_below (by (with_reducible repeat (first | apply Kd.R_alloc | apply Kd.R_drewN | apply Kd.R_drew)); exact HO259.out) hb); have n3_ := Aside0.mk (Kd.R_below (by (with_reducible repeat (first | apply Kd.R_alloc | apply Kd.R_drewN | apply Kd.R_drew)); exact HO263.out) hb); have n4_ := Aside0.mk (below_step (by repeat (first | (with_reducible first | exact HB.out | apply below_alloc | apply pw_below_drewN | apply below_drew1) | exact HB.out | exact Below.refl _ _)) hb); clear HO251; clear HO255; clear HO259; clear HO263; clear HB; have HO251 := n0_; have HO255 := n1_; have HO259 := n2_; have HO263 := n3_; have HB := n4_; clear n0_ n1_ n2_ n3_ n4_; (try clear hb); (try clear hb2); (try clear hk); (try clear hi)) | ((with_reducible refine gate_callee (f := 41) rfl ?_); refine goesL_ (some 75) rfl rfl Try.func41 (by kernel_rfl) rfl #[.int .i64 t247] rfl (by (try simp only [List.map_toArray, List.map_cons, List.map_nil]); first | done | rfl | (simp only [List.length_drop, List.length_take]; rfl)) ?_; (with_reducible refine (spec_DivisorSumFour.calls k t247 t270 t271 _ A13.out).mono ?_); rintro e w' ⟨rfl, ⟨nd, rfl⟩⟩; refine ⟨_, rfl, ?_⟩))
  (try simp only [Act.put, List.setIfInBounds_toArray, List.set_cons_zero, List.set_cons_succ])
  go_cut [122] (fun v122 wc => ∃ (kq : Nat) (x122_13 : Bool), v122 = .bool x122_13 ∧ Aside0 (laws_FnFourSquaresCounted.j0 kq l1 t247 t248 t253 t256 t264 t268 t269 x122_13 = some r) ∧ Aside0 (kq ≤ k) ∧ Aside0 (Kd.S (Kd.slice 3 (Kd.int .i64)) 35 wc w.heap.size (fun k_ => some k_ ≠ (v258 : Value).ownBlock) v250 t248) ∧ Aside0 (Kd.R (Kd.int .i64) 3 wc w.heap.size (fun _ => True) v258 t256) ∧ Aside0 (Below w.heap.size w wc))
  case first =>
   as_aux_lemma =>
    have H := HC14.out
    clear HC14
    by_cases c23 : (t249 != t253) = true
    ·
     rw [if_pos c23] at H
     exact absurd (H.trans (congrArg some hrT)) (fun h_ => laws_FnFourSquaresCounted.j0_no h_)
    ·
     rw [if_neg c23] at H
     have c23b0 : (t249 != t253) = false := by simpa using c23
     (try (have c23b1 : decide (t249 = t253) = true := by simpa using c23))
     (try (have c23b2 : (t249 == t253) = true := by simpa using c23))
     clear c23
     (first | rw [c23b0] | (simp only [i64_w, i32_w]; rw [c23b0]) | skip)
     replace H := Option.bind_eq_some_iff.mp H
     obtain ⟨t272, A240, H⟩ := H
     replace H : (if t272 = true then (if (t257 != t261) = true then (laws_FnFourSquaresCounted.j0 k l1 t247 t248 t253 t256 t264 t268 t269 true) else ((laws_vSame.f k t256 t260).bind fun t273 => (if t273 = true then (if (t265 != t267) = true then (laws_FnFourSquaresCounted.j0 k l1 t247 t248 t253 t256 t264 t268 t269 true) else (if t264 = t266 then (if (t269 != t271) = true then (laws_FnFourSquaresCounted.j0 k l1 t247 t248 t253 t256 t264 t268 t269 true) else (if t268 = t270 then (laws_FnFourSquaresCounted.j0 k l1 t247 t248 t253 t256 t264 t268 t269 (t257 != t249)) else (laws_FnFourSquaresCounted.j0 k l1 t247 t248 t253 t256 t264 t268 t269 true))) else (laws_FnFourSquaresCounted.j0 k l1 t247 t248 t253 t256 t264 t268 t269 true))) else (laws_FnFourSquaresCounted.j0 k l1 t247 t248 t253 t256 t264 t268 t269 true)))) else (laws_FnFourSquaresCounted.j0 k l1 t247 t248 t253 t256 t264 t268 t269 true)) = some r := H
     have A24 := Aside0.mk A240
     clear A240
     by_cases c25 : t272 = true
     ·
      subst c25
      have H1 : (if (t257 != t261) = true then (laws_FnFourSquaresCounted.j0 k l1 t247 t248 t253 t256 t264 t268 t269 true) else ((laws_vSame.f k t256 t260).bind fun t273 => (if t273 = true then (if (t265 != t267) = true then (laws_FnFourSquaresCounted.j0 k l1 t247 t248 t253 t256 t264 t268 t269 true) else (if t264 = t266 then (if (t269 != t271) = true then (laws_FnFourSquaresCounted.j0 k l1 t247 t248 t253 t256 t264 t268 t269 true) else (if t268 = t270 then (laws_FnFourSquaresCounted.j0 k l1 t247 t248 t253 t256 t264 t268 t269 (t257 != t249)) else (laws_FnFourSquaresCounted.j0 k l1 t247 t248 t253 t256 t264 t268 t269 true))) else (laws_FnFourSquaresCounted.j0 k l1 t247 t248 t253 t256 t264 t268 t269 true))) else (laws_FnFourSquaresCounted.j0 k l1 t247 t248 t253 t256 t264 t268 t269 true)))) = some r := by rw [if_pos rfl] at H; exact H
      clear H
      have H := H1
      clear H1
      by_cases c26 : (t257 != t261) = true
      ·
       rw [if_pos c26] at H
       exact absurd (H.trans (congrArg some hrT)) (fun h_ => laws_FnFourSquaresCounted.j0_no h_)
      ·
       rw [if_neg c26] at H
       have c26b0 : (t257 != t261) = false := by simpa using c26
       (try (have c26b1 : decide (t257 = t261) = true := by simpa using c26))
       (try (have c26b2 : (t257 == t261) = true := by simpa using c26))
       clear c26
       replace H := Option.bind_eq_some_iff.mp H
       obtain ⟨t273, A290, H⟩ := H
       replace H : (if t273 = true then (if (t265 != t267) = true then (laws_FnFourSquaresCounted.j0 k l1 t247 t248 t253 t256 t264 t268 t269 true) else (if t264 = t266 then (if (t269 != t271) = true then (laws_FnFourSquaresCounted.j0 k l1 t247 t248 t253 t256 t264 t268 t269 true) else (if t268 = t270 then (laws_FnFourSquaresCounted.j0 k l1 t247 t248 t253 t256 t264 t268 t269 (t257 != t249)) else (laws_FnFourSquaresCounted.j0 k l1 t247 t248 t253 t256 t264 t268 t269 true))) else (laws_FnFourSquaresCounted.j0 k l1 t247 t248 t253 t256 t264 t268 t269 true))) else (laws_FnFourSquaresCounted.j0 k l1 t247 t248 t253 t256 t264 t268 t269 true)) = some r := H
       have A29 := Aside0.mk A290
       clear A290
       by_cases c30 : t273 = true
       ·
        subst c30
        have H1 : (if (t265 != t267) = true then (laws_FnFourSquaresCounted.j0 k l1 t247 t248 t253 t256 t264 t268 t269 true) else (if t264 = t266 then (if (t269 != t271) = true then (laws_FnFourSquaresCounted.j0 k l1 t247 t248 t253 t256 t264 t268 t269 true) else (if t268 = t270 then (laws_FnFourSquaresCounted.j0 k l1 t247 t248 t253 t256 t264 t268 t269 (t257 != t249)) else (laws_FnFourSquaresCounted.j0 k l1 t247 t248 t253 t256 t264 t268 t269 true))) else (laws_FnFourSquaresCounted.j0 k l1 t247 t248 t253 t256 t264 t268 t269 true))) = some r := by rw [if_pos rfl] at H; exact H
        clear H
        have H := H1
        clear H1
        by_cases c31 : (t265 != t267) = true
        ·
         rw [if_pos c31] at H
         exact absurd (H.trans (congrArg some hrT)) (fun h_ => laws_FnFourSquaresCounted.j0_no h_)
        ·
         rw [if_neg c31] at H
         have c31b0 : (t265 != t267) = false := by simpa using c31
         (try (have c31b1 : decide (t265 = t267) = true := by simpa using c31))
         (try (have c31b2 : (t265 == t267) = true := by simpa using c31))
         clear c31
         by_cases c36 : t264 = t266
         ·
          rw [if_pos c36] at H
          have c36b0 : (t264 == t266) = true := beq_iff_eq.mpr c36
          have c36b1 : (t264 != t266) = false := bne_eq_false_iff_eq.mpr c36
          clear c36
          by_cases c37 : (t269 != t271) = true
          ·
           rw [if_pos c37] at H
           exact absurd (H.trans (congrArg some hrT)) (fun h_ => laws_FnFourSquaresCounted.j0_no h_)
          ·
           rw [if_neg c37] at H
           have c37b0 : (t269 != t271) = false := by simpa using c37
           (try (have c37b1 : decide (t269 = t271) = true := by simpa using c37))
           (try (have c37b2 : (t269 == t271) = true := by simpa using c37))
           clear c37
           by_cases c42 : t268 = t270
           ·
            rw [if_pos c42] at H
            have c42b0 : (t268 == t270) = true := beq_iff_eq.mpr c42
            have c42b1 : (t268 != t270) = false := bne_eq_false_iff_eq.mpr c42
            clear c42
            have H' := Aside0.mk H
            clear H
            obtain ⟨Ao43, co43, eo43⟩ := Kd.S_slice HO251.out
            subst eo43
            obtain ⟨Ao44, co44, eo44⟩ := Kd.S_slice HO255.out
            subst eo44
            go_wp2_with (first | (go_at_call 19; (with_reducible refine (laws_vSameLists.calls k _ _ t248 _ _ t252 true _ ?side1 ?side2 ?side3 ?side4 A24.out).mono ?_); (case side1 => repeat (first | exact (Kd.S_reads' HO251.out).2.2 | (with_reducible refine Kd.C_alloc ?_ _) | (with_reducible refine Kd.C_drewN ?_ _) | (with_reducible refine Kd.C_drew ?_))); (case side2 => exact (Kd.S_reads' HO251.out).2.1); (case side3 => repeat (first | exact (Kd.S_reads' HO255.out).2.2 | (with_reducible refine Kd.C_alloc ?_ _) | (with_reducible refine Kd.C_drewN ?_ _) | (with_reducible refine Kd.C_drew ?_))); (case side4 => exact (Kd.S_reads' HO255.out).2.1); rintro e w' ⟨rfl, ⟨nd, rfl⟩⟩; obtain ⟨Ao45, co45, eo45⟩ := Kd.R_slice HO259.out; subst eo45; obtain ⟨Ao46, co46, eo46⟩ := Kd.R_slice HO263.out; subst eo46) | (go_at_call 25; (with_reducible refine (laws_vSame.calls k _ _ t256 _ _ t260 true _ ?side1 ?side2 ?side3 ?side4 A29.out).mono ?_); (case side1 => repeat (first | exact (Kd.R_reads' HO259.out).2.2 | (with_reducible refine Kd.C_alloc ?_ _) | (with_reducible refine Kd.C_drewN ?_ _) | (with_reducible refine Kd.C_drew ?_))); (case side2 => exact (Kd.R_reads' HO259.out).2.1); (case side3 => repeat (first | exact (Kd.R_reads' HO263.out).2.2 | (with_reducible refine Kd.C_alloc ?_ _) | (with_reducible refine Kd.C_drewN ?_ _) | (with_reducible refine Kd.C_drew ?_))); (case side4 => exact (Kd.R_reads' HO263.out).2.1); rintro e w' ⟨rfl, ⟨nd, rfl⟩⟩))
            go_meet
            case rel => exact ⟨_, ((t257 != t249)), (by first | rfl | (simp; done) | (simp [*]; done)), H', ⟨by first | omega | exact Nat.le_refl _⟩, ⟨by (with_reducible repeat (first | apply Kd.S_alloc | apply Kd.S_drewN | apply Kd.S_drew)); exact Kd.S_mono HO251.out (fun _ hk => hk.1.2)⟩, ⟨by (with_reducible repeat (first | apply Kd.R_alloc | apply Kd.R_drewN | apply Kd.R_drew)); exact Kd.R_mono HO259.out (fun _ hk => trivial)⟩, ⟨by repeat (first | (with_reducible first | exact HB.out | apply below_alloc | apply pw_below_drewN | apply below_drew1) | exact HB.out | exact Below.refl _ _)⟩⟩
           ·
            rw [if_neg c42] at H
            exact absurd (H.trans (congrArg some hrT)) (fun h_ => laws_FnFourSquaresCounted.j0_no h_)
         ·
          rw [if_neg c36] at H
          exact absurd (H.trans (congrArg some hrT)) (fun h_ => laws_FnFourSquaresCounted.j0_no h_)
       ·
        replace c30 := Bool.eq_false_iff.mpr c30
        subst c30
        have H1 : (laws_FnFourSquaresCounted.j0 k l1 t247 t248 t253 t256 t264 t268 t269 true) = some r := by rw [if_neg (show ¬ (false = true) by decide)] at H; exact H
        exact absurd (H1.trans (congrArg some hrT)) (fun h_ => laws_FnFourSquaresCounted.j0_no h_)
     ·
      replace c25 := Bool.eq_false_iff.mpr c25
      subst c25
      have H1 : (laws_FnFourSquaresCounted.j0 k l1 t247 t248 t253 t256 t264 t268 t269 true) = some r := by rw [if_neg (show ¬ (false = true) by decide)] at H; exact H
      exact absurd (H1.trans (congrArg some hrT)) (fun h_ => laws_FnFourSquaresCounted.j0_no h_)
  case rest =>
   as_aux_lemma =>
    clear HC14
    try clear c1
    try clear c2
    try clear p2
    try clear c3
    try clear c4
    try clear c6
    try clear c13
    try clear c23
    try clear c23b0
    try clear c23b1
    try clear c23b2
    try clear c25
    try clear c26
    try clear c26b0
    try clear c26b1
    try clear c26b2
    try clear c30
    try clear c31
    try clear c31b0
    try clear c31b1
    try clear c31b2
    try clear c33
    try clear c34
    try clear c35
    try clear c36
    try clear c36b0
    try clear c36b1
    try clear c37
    try clear c37b0
    try clear c37b1
    try clear c37b2
    try clear c38
    try clear c39
    try clear c40
    try clear c41
    try clear c42
    try clear c42b0
    try clear c42b1
    obtain ⟨kq, x122_13, rfl, HA, HJ13, HO_6, HO_10, HB⟩ := hcut
    cases kq with
    | zero => exact absurd HA.out (by simp [laws_FnFourSquaresCounted.j0])
    | succ kj13 =>
     have H := HA.out
     clear HA
     simp only [laws_FnFourSquaresCounted.j0] at H
     by_cases c61 : x122_13 = true
     ·
      subst c61
      have H1 : (some false) = some r := by rw [if_pos rfl] at H; exact H
      exact absurd (H1.trans (congrArg some hrT)) (by simp)
     ·
      replace c61 := Bool.eq_false_iff.mpr c61
      subst c61
      have H1 : ((spec_DrawThreeSquares.f l1).bind fun t274 => ((impl_ThreeSquares.f kj13 t274).bind fun bt275 => ((spec_ThreeSquares.f kj13 t274).bind fun bt279 => ((impl_IsRefusedByEight.f kj13 t274).bind fun bt283 => ((spec_IsRefusedByEight.f kj13 t274).bind fun bt285 => (if (bt275.2 != bt279.2) = true then (laws_FnFourSquaresCounted.j1 kj13 t247 t248 t253 t256 t264 t268 t269 true) else ((laws_vSame.f kj13 bt275.1 bt279.1).bind fun t287 => (if t287 = true then (if (bt283.2 != bt285.2) = true then (laws_FnFourSquaresCounted.j1 kj13 t247 t248 t253 t256 t264 t268 t269 true) else (if (bt283.1 != bt285.1) = true then (laws_FnFourSquaresCounted.j1 kj13 t247 t248 t253 t256 t264 t268 t269 true) else (if bt283.2 = true then (if (bt275.2 == bt283.1) = true then (laws_FnFourSquaresCounted.j1 kj13 t247 t248 t253 t256 t264 t268 t269 true) else (if bt275.2 = true then ((laws_vSquares.f kj13 bt275.1).bind fun t288 => (if t288 = t274 then (laws_FnFourSquaresCounted.j1 kj13 t247 t248 t253 t256 t264 t268 t269 ((bt275.1.length : Int) != 3)) else (laws_FnFourSquaresCounted.j1 kj13 t247 t248 t253 t256 t264 t268 t269 true))) else (laws_FnFourSquaresCounted.j1 kj13 t247 t248 t253 t256 t264 t268 t269 false))) else (if bt275.2 = true then ((laws_vSquares.f kj13 bt275.1).bind fun t289 => (if t289 = t274 then (laws_FnFourSquaresCounted.j1 kj13 t247 t248 t253 t256 t264 t268 t269 ((bt275.1.length : Int) != 3)) else (laws_FnFourSquaresCounted.j1 kj13 t247 t248 t253 t256 t264 t268 t269 true))) else (laws_FnFourSquaresCounted.j1 kj13 t247 t248 t253 t256 t264 t268 t269 false))))) else (laws_FnFourSquaresCounted.j1 kj13 t247 t248 t253 t256 t264 t268 t269 true))))))))) = some r := by rw [if_neg (show ¬ (false = true) by decide)] at H; exact H
      clear H
      have H := H1
      clear H1
      replace H := Option.bind_eq_some_iff.mp H
      obtain ⟨t274, A620, H⟩ := H
      replace H : ((impl_ThreeSquares.f kj13 t274).bind fun bt275 => ((spec_ThreeSquares.f kj13 t274).bind fun bt279 => ((impl_IsRefusedByEight.f kj13 t274).bind fun bt283 => ((spec_IsRefusedByEight.f kj13 t274).bind fun bt285 => (if (bt275.2 != bt279.2) = true then (laws_FnFourSquaresCounted.j1 kj13 t247 t248 t253 t256 t264 t268 t269 true) else ((laws_vSame.f kj13 bt275.1 bt279.1).bind fun t287 => (if t287 = true then (if (bt283.2 != bt285.2) = true then (laws_FnFourSquaresCounted.j1 kj13 t247 t248 t253 t256 t264 t268 t269 true) else (if (bt283.1 != bt285.1) = true then (laws_FnFourSquaresCounted.j1 kj13 t247 t248 t253 t256 t264 t268 t269 true) else (if bt283.2 = true then (if (bt275.2 == bt283.1) = true then (laws_FnFourSquaresCounted.j1 kj13 t247 t248 t253 t256 t264 t268 t269 true) else (if bt275.2 = true then ((laws_vSquares.f kj13 bt275.1).bind fun t288 => (if t288 = t274 then (laws_FnFourSquaresCounted.j1 kj13 t247 t248 t253 t256 t264 t268 t269 ((bt275.1.length : Int) != 3)) else (laws_FnFourSquaresCounted.j1 kj13 t247 t248 t253 t256 t264 t268 t269 true))) else (laws_FnFourSquaresCounted.j1 kj13 t247 t248 t253 t256 t264 t268 t269 false))) else (if bt275.2 = true then ((laws_vSquares.f kj13 bt275.1).bind fun t289 => (if t289 = t274 then (laws_FnFourSquaresCounted.j1 kj13 t247 t248 t253 t256 t264 t268 t269 ((bt275.1.length : Int) != 3)) else (laws_FnFourSquaresCounted.j1 kj13 t247 t248 t253 t256 t264 t268 t269 true))) else (laws_FnFourSquaresCounted.j1 kj13 t247 t248 t253 t256 t264 t268 t269 false))))) else (laws_FnFourSquaresCounted.j1 kj13 t247 t248 t253 t256 t264 t268 t269 true)))))))) = some r := H
      have A62 := Aside0.mk A620
      clear A620
      replace H := Option.bind_eq_some_iff.mp H
      obtain ⟨⟨t275, t276⟩, A630, H⟩ := H
      replace H : ((spec_ThreeSquares.f kj13 t274).bind fun bt279 => ((impl_IsRefusedByEight.f kj13 t274).bind fun bt283 => ((spec_IsRefusedByEight.f kj13 t274).bind fun bt285 => (if (t276 != bt279.2) = true then (laws_FnFourSquaresCounted.j1 kj13 t247 t248 t253 t256 t264 t268 t269 true) else ((laws_vSame.f kj13 t275 bt279.1).bind fun t287 => (if t287 = true then (if (bt283.2 != bt285.2) = true then (laws_FnFourSquaresCounted.j1 kj13 t247 t248 t253 t256 t264 t268 t269 true) else (if (bt283.1 != bt285.1) = true then (laws_FnFourSquaresCounted.j1 kj13 t247 t248 t253 t256 t264 t268 t269 true) else (if bt283.2 = true then (if (t276 == bt283.1) = true then (laws_FnFourSquaresCounted.j1 kj13 t247 t248 t253 t256 t264 t268 t269 true) else (if t276 = true then ((laws_vSquares.f kj13 t275).bind fun t288 => (if t288 = t274 then (laws_FnFourSquaresCounted.j1 kj13 t247 t248 t253 t256 t264 t268 t269 ((t275.length : Int) != 3)) else (laws_FnFourSquaresCounted.j1 kj13 t247 t248 t253 t256 t264 t268 t269 true))) else (laws_FnFourSquaresCounted.j1 kj13 t247 t248 t253 t256 t264 t268 t269 false))) else (if t276 = true then ((laws_vSquares.f kj13 t275).bind fun t289 => (if t289 = t274 then (laws_FnFourSquaresCounted.j1 kj13 t247 t248 t253 t256 t264 t268 t269 ((t275.length : Int) != 3)) else (laws_FnFourSquaresCounted.j1 kj13 t247 t248 t253 t256 t264 t268 t269 true))) else (laws_FnFourSquaresCounted.j1 kj13 t247 t248 t253 t256 t264 t268 t269 false))))) else (laws_FnFourSquaresCounted.j1 kj13 t247 t248 t253 t256 t264 t268 t269 true))))))) = some r := H
      have A63 := Aside0.mk A630
      clear A630
      replace H := Option.bind_eq_some_iff.mp H
      obtain ⟨⟨t279, t280⟩, A640, H⟩ := H
      replace H : ((impl_IsRefusedByEight.f kj13 t274).bind fun bt283 => ((spec_IsRefusedByEight.f kj13 t274).bind fun bt285 => (if (t276 != t280) = true then (laws_FnFourSquaresCounted.j1 kj13 t247 t248 t253 t256 t264 t268 t269 true) else ((laws_vSame.f kj13 t275 t279).bind fun t287 => (if t287 = true then (if (bt283.2 != bt285.2) = true then (laws_FnFourSquaresCounted.j1 kj13 t247 t248 t253 t256 t264 t268 t269 true) else (if (bt283.1 != bt285.1) = true then (laws_FnFourSquaresCounted.j1 kj13 t247 t248 t253 t256 t264 t268 t269 true) else (if bt283.2 = true then (if (t276 == bt283.1) = true then (laws_FnFourSquaresCounted.j1 kj13 t247 t248 t253 t256 t264 t268 t269 true) else (if t276 = true then ((laws_vSquares.f kj13 t275).bind fun t288 => (if t288 = t274 then (laws_FnFourSquaresCounted.j1 kj13 t247 t248 t253 t256 t264 t268 t269 ((t275.length : Int) != 3)) else (laws_FnFourSquaresCounted.j1 kj13 t247 t248 t253 t256 t264 t268 t269 true))) else (laws_FnFourSquaresCounted.j1 kj13 t247 t248 t253 t256 t264 t268 t269 false))) else (if t276 = true then ((laws_vSquares.f kj13 t275).bind fun t289 => (if t289 = t274 then (laws_FnFourSquaresCounted.j1 kj13 t247 t248 t253 t256 t264 t268 t269 ((t275.length : Int) != 3)) else (laws_FnFourSquaresCounted.j1 kj13 t247 t248 t253 t256 t264 t268 t269 true))) else (laws_FnFourSquaresCounted.j1 kj13 t247 t248 t253 t256 t264 t268 t269 false))))) else (laws_FnFourSquaresCounted.j1 kj13 t247 t248 t253 t256 t264 t268 t269 true)))))) = some r := H
      have A64 := Aside0.mk A640
      clear A640
      replace H := Option.bind_eq_some_iff.mp H
      obtain ⟨⟨t283, t284⟩, A650, H⟩ := H
      replace H : ((spec_IsRefusedByEight.f kj13 t274).bind fun bt285 => (if (t276 != t280) = true then (laws_FnFourSquaresCounted.j1 kj13 t247 t248 t253 t256 t264 t268 t269 true) else ((laws_vSame.f kj13 t275 t279).bind fun t287 => (if t287 = true then (if (t284 != bt285.2) = true then (laws_FnFourSquaresCounted.j1 kj13 t247 t248 t253 t256 t264 t268 t269 true) else (if (t283 != bt285.1) = true then (laws_FnFourSquaresCounted.j1 kj13 t247 t248 t253 t256 t264 t268 t269 true) else (if t284 = true then (if (t276 == t283) = true then (laws_FnFourSquaresCounted.j1 kj13 t247 t248 t253 t256 t264 t268 t269 true) else (if t276 = true then ((laws_vSquares.f kj13 t275).bind fun t288 => (if t288 = t274 then (laws_FnFourSquaresCounted.j1 kj13 t247 t248 t253 t256 t264 t268 t269 ((t275.length : Int) != 3)) else (laws_FnFourSquaresCounted.j1 kj13 t247 t248 t253 t256 t264 t268 t269 true))) else (laws_FnFourSquaresCounted.j1 kj13 t247 t248 t253 t256 t264 t268 t269 false))) else (if t276 = true then ((laws_vSquares.f kj13 t275).bind fun t289 => (if t289 = t274 then (laws_FnFourSquaresCounted.j1 kj13 t247 t248 t253 t256 t264 t268 t269 ((t275.length : Int) != 3)) else (laws_FnFourSquaresCounted.j1 kj13 t247 t248 t253 t256 t264 t268 t269 true))) else (laws_FnFourSquaresCounted.j1 kj13 t247 t248 t253 t256 t264 t268 t269 false))))) else (laws_FnFourSquaresCounted.j1 kj13 t247 t248 t253 t256 t264 t268 t269 true))))) = some r := H
      have A65 := Aside0.mk A650
      clear A650
      replace H := Option.bind_eq_some_iff.mp H
      obtain ⟨⟨t285, t286⟩, A660, H⟩ := H
      replace H : (if (t276 != t280) = true then (laws_FnFourSquaresCounted.j1 kj13 t247 t248 t253 t256 t264 t268 t269 true) else ((laws_vSame.f kj13 t275 t279).bind fun t287 => (if t287 = true then (if (t284 != t286) = true then (laws_FnFourSquaresCounted.j1 kj13 t247 t248 t253 t256 t264 t268 t269 true) else (if (t283 != t285) = true then (laws_FnFourSquaresCounted.j1 kj13 t247 t248 t253 t256 t264 t268 t269 true) else (if t284 = true then (if (t276 == t283) = true then (laws_FnFourSquaresCounted.j1 kj13 t247 t248 t253 t256 t264 t268 t269 true) else (if t276 = true then ((laws_vSquares.f kj13 t275).bind fun t288 => (if t288 = t274 then (laws_FnFourSquaresCounted.j1 kj13 t247 t248 t253 t256 t264 t268 t269 ((t275.length : Int) != 3)) else (laws_FnFourSquaresCounted.j1 kj13 t247 t248 t253 t256 t264 t268 t269 true))) else (laws_FnFourSquaresCounted.j1 kj13 t247 t248 t253 t256 t264 t268 t269 false))) else (if t276 = true then ((laws_vSquares.f kj13 t275).bind fun t289 => (if t289 = t274 then (laws_FnFourSquaresCounted.j1 kj13 t247 t248 t253 t256 t264 t268 t269 ((t275.length : Int) != 3)) else (laws_FnFourSquaresCounted.j1 kj13 t247 t248 t253 t256 t264 t268 t269 true))) else (laws_FnFourSquaresCounted.j1 kj13 t247 t248 t253 t256 t264 t268 t269 false))))) else (laws_FnFourSquaresCounted.j1 kj13 t247 t248 t253 t256 t264 t268 t269 true)))) = some r := H
      have A66 := Aside0.mk A660
      clear A660
      have HC67 := Aside0.mk H
      clear H
      go_upto_region 19 with (first | ((with_reducible refine gate_callee (f := 42) rfl ?_); refine goesL_ (some 124) rfl rfl Try.func42 (by kernel_rfl) rfl #[.slice A1 l1.length c1] rfl (by (try simp only [List.map_toArray, List.map_cons, List.map_nil]); first | done | rfl | (simp only [List.length_drop, List.length_take]; rfl)) ?_; (with_reducible refine (spec_DrawThreeSquares.calls _ _ l1 t274 _ ?side1 ?side2 A62.out).mono ?_); (case side1 => repeat (first | exact (Kd.C_below HR1.out HB.out) | (with_reducible refine Kd.C_alloc ?_ _) | (with_reducible refine Kd.C_drewN ?_ _) | (with_reducible refine Kd.C_drew ?_))); (case side2 => exact HC1.out); rintro e w68 ⟨rfl, hb⟩; refine ⟨_, rfl, ?_⟩; have n0_ := Aside0.mk (Kd.S_below (by (with_reducible repeat (first | apply Kd.S_alloc | apply Kd.S_drewN | apply Kd.S_drew)); exact HO_6.out) hb); have n1_ := Aside0.mk (Kd.R_below (by (with_reducible repeat (first | apply Kd.R_alloc | apply Kd.R_drewN | apply Kd.R_drew)); exact HO_10.out) hb); have n2_ := Aside0.mk (below_step (by repeat (first | (with_reducible first | exact HB.out | apply below_alloc | apply pw_below_drewN | apply below_drew1) | exact HB.out | exact Below.refl _ _)) hb); clear HO_6; clear HO_10; clear HB; have HO_6 := n0_; have HO_10 := n1_; have HB := n2_; clear n0_ n1_ n2_; (try clear hb); (try clear hb2); (try clear hk); (try clear hi)) | ((with_reducible refine gate_callee (f := 43) rfl ?_); refine goesL_ (some 127) rfl rfl Try.func43 (by kernel_rfl) rfl #[.int .i64 t274] rfl (by (try simp only [List.map_toArray, List.map_cons, List.map_nil]); first | done | rfl | (simp only [List.length_drop, List.length_take]; rfl)) ?_; (with_reducible refine (impl_ThreeSquares.calls kj13 t274 t275 t276 _ A63.out).mono ?_); rintro e w69 ⟨v277, rfl, ho0, hb⟩; refine ⟨_, rfl, ?_⟩; have n0_ := Aside0.mk (Kd.S_elder' (by (with_reducible repeat (first | apply Kd.S_alloc | apply Kd.S_drewN | apply Kd.S_drew)); exact HO_6.out) (Kd.R_base ho0) hb); have n1_ := Aside0.mk (Kd.R_elder' (by (with_reducible repeat (first | apply Kd.R_alloc | apply Kd.R_drewN | apply Kd.R_drew)); exact HO_10.out) (Kd.R_base ho0) hb); have n2_ := Aside0.mk (Kd.R_lower (Kd.R_new' ho0 (Kd.R_lt (by (with_reducible repeat (first | apply Kd.R_alloc | apply Kd.R_drewN | apply Kd.R_drew)); exact HO_10.out))) (below_size (by repeat (first | (with_reducible first | exact HB.out | apply below_alloc | apply pw_below_drewN | apply below_drew1) | exact HB.out | exact Below.refl _ _)))); have n3_ := Aside0.mk (below_step (by repeat (first | (with_reducible first | exact HB.out | apply below_alloc | apply pw_below_drewN | apply below_drew1) | exact HB.out | exact Below.refl _ _)) hb); clear HO_6; clear HO_10; clear HB; have HO_6 := n0_; have HO_10 := n1_; have HO278 := n2_; have HB := n3_; clear n0_ n1_ n2_ n3_; (try clear hb); (try clear hb2); (try clear hk); (try clear hi); (try clear ho0)) | ((with_reducible refine gate_callee (f := 44) rfl ?_); refine goesL_ (some 132) rfl rfl Try.func44 (by kernel_rfl) rfl #[.int .i64 t274] rfl (by (try simp only [List.map_toArray, List.map_cons, List.map_nil]); first | done | rfl | (simp only [List.length_drop, List.length_take]; rfl)) ?_; (with_reducible refine (spec_ThreeSquares.calls kj13 t274 t279 t280 _ A64.out).mono ?_); rintro e w70 ⟨v281, rfl, ho0, hb⟩; refine ⟨_, rfl, ?_⟩; have n0_ := Aside0.mk (Kd.S_elder' (by (with_reducible repeat (first | apply Kd.S_alloc | apply Kd.S_drewN | apply Kd.S_drew)); exact HO_6.out) (Kd.R_base ho0) hb); have n1_ := Aside0.mk (Kd.R_elder' (by (with_reducible repeat (first | apply Kd.R_alloc | apply Kd.R_drewN | apply Kd.R_drew)); exact HO_10.out) (Kd.R_base ho0) hb); have n2_ := Aside0.mk (Kd.R_elder' (by (with_reducible repeat (first | apply Kd.R_alloc | apply Kd.R_drewN | apply Kd.R_drew)); exact HO278.out) (Kd.R_base ho0) hb); have n3_ := Aside0.mk (Kd.R_lower (Kd.R_new' (Kd.R_new' ho0 (Kd.R_lt (by (with_reducible repeat (first | apply Kd.R_alloc | apply Kd.R_drewN | apply Kd.R_drew)); exact HO_10.out))) (Kd.R_lt (by (with_reducible repeat (first | apply Kd.R_alloc | apply Kd.R_drewN | apply Kd.R_drew)); exact HO278.out))) (below_size (by repeat (first | (with_reducible first | exact HB.out | apply below_alloc | apply pw_below_drewN | apply below_drew1) | exact HB.out | exact Below.refl _ _)))); have n4_ := Aside0.mk (below_step (by repeat (first | (with_reducible first | exact HB.out | apply below_alloc | apply pw_below_drewN | apply below_drew1) | exact HB.out | exact Below.refl _ _)) hb); clear HO_6; clear HO_10; clear HO278; clear HB; have HO_6 := n0_; have HO_10 := n1_; have HO278 := n2_; have HO282 := n3_; have HB := n4_; clear n0_ n1_ n2_ n3_ n4_; (try clear hb); (try clear hb2); (try clear hk); (try clear hi); (try clear ho0)) | ((with_reducible refine gate_callee (f := 45) rfl ?_); refine goesL_ (some 137) rfl rfl Try.func45 (by kernel_rfl) rfl #[.int .i64 t274] rfl (by (try simp only [List.map_toArray, List.map_cons, List.map_nil]); first | done | rfl | (simp only [List.length_drop, List.length_take]; rfl)) ?_; (with_reducible refine (impl_IsRefusedByEight.calls kj13 t274 t283 t284 _ A65.out).mono ?_); rintro e w' ⟨rfl, ⟨nd, rfl⟩⟩; refine ⟨_, rfl, ?_⟩) | ((with_reducible refine gate_callee (f := 46) rfl ?_); refine goesL_ (some 142) rfl rfl Try.func46 (by kernel_rfl) rfl #[.int .i64 t274] rfl (by (try simp only [List.map_toArray, List.map_cons, List.map_nil]); first | done | rfl | (simp only [List.length_drop, List.length_take]; rfl)) ?_; (with_reducible refine (spec_IsRefusedByEight.calls kj13 t274 t285 t286 _ A66.out).mono ?_); rintro e w' ⟨rfl, ⟨nd, rfl⟩⟩; refine ⟨_, rfl, ?_⟩))
      (try simp only [Act.put, List.setIfInBounds_toArray, List.set_cons_zero, List.set_cons_succ])
      go_cut [185] (fun v185 wc => ∃ (kq : Nat) (x185_66 : Bool), v185 = .bool x185_66 ∧ Aside0 (laws_FnFourSquaresCounted.j1 kq t247 t248 t253 t256 t264 t268 t269 x185_66 = some r) ∧ Aside0 (kq ≤ kj13) ∧ Aside0 (Kd.S (Kd.slice 3 (Kd.int .i64)) 35 wc w.heap.size (fun k_ => some k_ ≠ (v258 : Value).ownBlock) v250 t248) ∧ Aside0 (Kd.R (Kd.int .i64) 3 wc w.heap.size (fun _ => True) v258 t256) ∧ Aside0 (Below w.heap.size w wc))
      case first =>
       as_aux_lemma =>
        have H := HC67.out
        clear HC67
        by_cases c71 : (t276 != t280) = true
        ·
         rw [if_pos c71] at H
         exact absurd (H.trans (congrArg some hrT)) (fun h_ => laws_FnFourSquaresCounted.j1_no h_)
        ·
         rw [if_neg c71] at H
         have c71b0 : (t276 != t280) = false := by simpa using c71
         (try (have c71b1 : decide (t276 = t280) = true := by simpa using c71))
         (try (have c71b2 : (t276 == t280) = true := by simpa using c71))
         clear c71
         (first | rw [c71b0] | (simp only [i64_w, i32_w]; rw [c71b0]) | skip)
         replace H := Option.bind_eq_some_iff.mp H
         obtain ⟨t287, A720, H⟩ := H
         replace H : (if t287 = true then (if (t284 != t286) = true then (laws_FnFourSquaresCounted.j1 kj13 t247 t248 t253 t256 t264 t268 t269 true) else (if (t283 != t285) = true then (laws_FnFourSquaresCounted.j1 kj13 t247 t248 t253 t256 t264 t268 t269 true) else (if t284 = true then (if (t276 == t283) = true then (laws_FnFourSquaresCounted.j1 kj13 t247 t248 t253 t256 t264 t268 t269 true) else (if t276 = true then ((laws_vSquares.f kj13 t275).bind fun t288 => (if t288 = t274 then (laws_FnFourSquaresCounted.j1 kj13 t247 t248 t253 t256 t264 t268 t269 ((t275.length : Int) != 3)) else (laws_FnFourSquaresCounted.j1 kj13 t247 t248 t253 t256 t264 t268 t269 true))) else (laws_FnFourSquaresCounted.j1 kj13 t247 t248 t253 t256 t264 t268 t269 false))) else (if t276 = true then ((laws_vSquares.f kj13 t275).bind fun t289 => (if t289 = t274 then (laws_FnFourSquaresCounted.j1 kj13 t247 t248 t253 t256 t264 t268 t269 ((t275.length : Int) != 3)) else (laws_FnFourSquaresCounted.j1 kj13 t247 t248 t253 t256 t264 t268 t269 true))) else (laws_FnFourSquaresCounted.j1 kj13 t247 t248 t253 t256 t264 t268 t269 false))))) else (laws_FnFourSquaresCounted.j1 kj13 t247 t248 t253 t256 t264 t268 t269 true)) = some r := H
         have A72 := Aside0.mk A720
         clear A720
         by_cases c73 : t287 = true
         ·
          subst c73
          have H1 : (if (t284 != t286) = true then (laws_FnFourSquaresCounted.j1 kj13 t247 t248 t253 t256 t264 t268 t269 true) else (if (t283 != t285) = true then (laws_FnFourSquaresCounted.j1 kj13 t247 t248 t253 t256 t264 t268 t269 true) else (if t284 = true then (if (t276 == t283) = true then (laws_FnFourSquaresCounted.j1 kj13 t247 t248 t253 t256 t264 t268 t269 true) else (if t276 = true then ((laws_vSquares.f kj13 t275).bind fun t288 => (if t288 = t274 then (laws_FnFourSquaresCounted.j1 kj13 t247 t248 t253 t256 t264 t268 t269 ((t275.length : Int) != 3)) else (laws_FnFourSquaresCounted.j1 kj13 t247 t248 t253 t256 t264 t268 t269 true))) else (laws_FnFourSquaresCounted.j1 kj13 t247 t248 t253 t256 t264 t268 t269 false))) else (if t276 = true then ((laws_vSquares.f kj13 t275).bind fun t289 => (if t289 = t274 then (laws_FnFourSquaresCounted.j1 kj13 t247 t248 t253 t256 t264 t268 t269 ((t275.length : Int) != 3)) else (laws_FnFourSquaresCounted.j1 kj13 t247 t248 t253 t256 t264 t268 t269 true))) else (laws_FnFourSquaresCounted.j1 kj13 t247 t248 t253 t256 t264 t268 t269 false))))) = some r := by rw [if_pos rfl] at H; exact H
          clear H
          have H := H1
          clear H1
          by_cases c74 : (t284 != t286) = true
          ·
           rw [if_pos c74] at H
           exact absurd (H.trans (congrArg some hrT)) (fun h_ => laws_FnFourSquaresCounted.j1_no h_)
          ·
           rw [if_neg c74] at H
           have c74b0 : (t284 != t286) = false := by simpa using c74
           (try (have c74b1 : decide (t284 = t286) = true := by simpa using c74))
           (try (have c74b2 : (t284 == t286) = true := by simpa using c74))
           clear c74
           by_cases c77 : (t283 != t285) = true
           ·
            rw [if_pos c77] at H
            exact absurd (H.trans (congrArg some hrT)) (fun h_ => laws_FnFourSquaresCounted.j1_no h_)
           ·
            rw [if_neg c77] at H
            have c77b0 : (t283 != t285) = false := by simpa using c77
            (try (have c77b1 : decide (t283 = t285) = true := by simpa using c77))
            (try (have c77b2 : (t283 == t285) = true := by simpa using c77))
            clear c77
            by_cases c80 : t284 = true
            ·
             subst c80
             have H1 : (if (t276 == t283) = true then (laws_FnFourSquaresCounted.j1 kj13 t247 t248 t253 t256 t264 t268 t269 true) else (if t276 = true then ((laws_vSquares.f kj13 t275).bind fun t288 => (if t288 = t274 then (laws_FnFourSquaresCounted.j1 kj13 t247 t248 t253 t256 t264 t268 t269 ((t275.length : Int) != 3)) else (laws_FnFourSquaresCounted.j1 kj13 t247 t248 t253 t256 t264 t268 t269 true))) else (laws_FnFourSquaresCounted.j1 kj13 t247 t248 t253 t256 t264 t268 t269 false))) = some r := by rw [if_pos rfl] at H; exact H
             clear H
             have H := H1
             clear H1
             by_cases c81 : (t276 == t283) = true
             ·
              rw [if_pos c81] at H
              exact absurd (H.trans (congrArg some hrT)) (fun h_ => laws_FnFourSquaresCounted.j1_no h_)
             ·
              rw [if_neg c81] at H
              have c81b0 : (t276 == t283) = false := by simpa using c81
              (try (have c81b1 : decide (t276 = t283) = false := by simpa using c81))
              (try (have c81b2 : (t276 == t283) = false := by simpa using c81))
              (try (have c81b3 : ¬ (t276 = t283) := by simpa using c81))
              clear c81
              by_cases c84 : t276 = true
              ·
               subst c84
               have H1 : ((laws_vSquares.f kj13 t275).bind fun t288 => (if t288 = t274 then (laws_FnFourSquaresCounted.j1 kj13 t247 t248 t253 t256 t264 t268 t269 ((t275.length : Int) != 3)) else (laws_FnFourSquaresCounted.j1 kj13 t247 t248 t253 t256 t264 t268 t269 true))) = some r := by rw [if_pos rfl] at H; exact H
               clear H
               have H := H1
               clear H1
               replace H := Option.bind_eq_some_iff.mp H
               obtain ⟨t288, A850, H⟩ := H
               replace H : (if t288 = t274 then (laws_FnFourSquaresCounted.j1 kj13 t247 t248 t253 t256 t264 t268 t269 ((t275.length : Int) != 3)) else (laws_FnFourSquaresCounted.j1 kj13 t247 t248 t253 t256 t264 t268 t269 true)) = some r := H
               have A85 := Aside0.mk A850
               clear A850
               by_cases c86 : t288 = t274
               ·
                rw [if_pos c86] at H
                have c86b0 : (t288 == t274) = true := beq_iff_eq.mpr c86
                have c86b1 : (t288 != t274) = false := bne_eq_false_iff_eq.mpr c86
                clear c86
                have H' := Aside0.mk H
                clear H
                obtain ⟨Ao87, co87, eo87⟩ := Kd.R_slice HO278.out
                subst eo87
                obtain ⟨Ao88, co88, eo88⟩ := Kd.R_slice HO282.out
                subst eo88
                go_wp2_with (first | (go_at_call 25; (with_reducible refine (laws_vSame.calls kj13 _ _ t275 _ _ t279 true _ ?side1 ?side2 ?side3 ?side4 A72.out).mono ?_); (case side1 => repeat (first | exact (Kd.R_reads' HO278.out).2.2 | (with_reducible refine Kd.C_alloc ?_ _) | (with_reducible refine Kd.C_drewN ?_ _) | (with_reducible refine Kd.C_drew ?_))); (case side2 => exact (Kd.R_reads' HO278.out).2.1); (case side3 => repeat (first | exact (Kd.R_reads' HO282.out).2.2 | (with_reducible refine Kd.C_alloc ?_ _) | (with_reducible refine Kd.C_drewN ?_ _) | (with_reducible refine Kd.C_drew ?_))); (case side4 => exact (Kd.R_reads' HO282.out).2.1); rintro e w' ⟨rfl, ⟨nd, rfl⟩⟩) | (go_at_call 32; (with_reducible refine (laws_vSquares.calls kj13 _ _ t275 t288 _ ?side1 ?side2 A85.out).mono ?_); (case side1 => repeat (first | exact (Kd.R_reads' HO278.out).2.2 | (with_reducible refine Kd.C_alloc ?_ _) | (with_reducible refine Kd.C_drewN ?_ _) | (with_reducible refine Kd.C_drew ?_))); (case side2 => exact (Kd.R_reads' HO278.out).2.1); rintro e w' ⟨rfl, ⟨nd, rfl⟩⟩))
                go_meet
                case rel => exact ⟨_, (((t275.length : Int) != 3)), (by first | rfl | (simp; done) | (simp [*]; done)), H', ⟨by have := HJ13.out; first | omega | exact Nat.le_refl _⟩, ⟨by (with_reducible repeat (first | apply Kd.S_alloc | apply Kd.S_drewN | apply Kd.S_drew)); exact Kd.S_mono HO_6.out (fun _ hk => hk.1.1)⟩, ⟨by (with_reducible repeat (first | apply Kd.R_alloc | apply Kd.R_drewN | apply Kd.R_drew)); exact Kd.R_mono HO_10.out (fun _ hk => trivial)⟩, ⟨by repeat (first | (with_reducible first | exact HB.out | apply below_alloc | apply pw_below_drewN | apply below_drew1) | exact HB.out | exact Below.refl _ _)⟩⟩
               ·
                rw [if_neg c86] at H
                exact absurd (H.trans (congrArg some hrT)) (fun h_ => laws_FnFourSquaresCounted.j1_no h_)
              ·
               replace c84 := Bool.eq_false_iff.mpr c84
               subst c84
               have H1 : (laws_FnFourSquaresCounted.j1 kj13 t247 t248 t253 t256 t264 t268 t269 false) = some r := by rw [if_neg (show ¬ (false = true) by decide)] at H; exact H
               clear H
               have H := H1
               clear H1
               have H' := Aside0.mk H
               clear H
               obtain ⟨Ao91, co91, eo91⟩ := Kd.R_slice HO278.out
               subst eo91
               obtain ⟨Ao92, co92, eo92⟩ := Kd.R_slice HO282.out
               subst eo92
               go_wp2_with (first | (go_at_call 25; (with_reducible refine (laws_vSame.calls kj13 _ _ t275 _ _ t279 true _ ?side1 ?side2 ?side3 ?side4 A72.out).mono ?_); (case side1 => repeat (first | exact (Kd.R_reads' HO278.out).2.2 | (with_reducible refine Kd.C_alloc ?_ _) | (with_reducible refine Kd.C_drewN ?_ _) | (with_reducible refine Kd.C_drew ?_))); (case side2 => exact (Kd.R_reads' HO278.out).2.1); (case side3 => repeat (first | exact (Kd.R_reads' HO282.out).2.2 | (with_reducible refine Kd.C_alloc ?_ _) | (with_reducible refine Kd.C_drewN ?_ _) | (with_reducible refine Kd.C_drew ?_))); (case side4 => exact (Kd.R_reads' HO282.out).2.1); rintro e w' ⟨rfl, ⟨nd, rfl⟩⟩))
               go_meet
               case rel => exact ⟨_, (false), (by first | rfl | (simp; done) | (simp [*]; done)), H', ⟨by have := HJ13.out; first | omega | exact Nat.le_refl _⟩, ⟨by (with_reducible repeat (first | apply Kd.S_alloc | apply Kd.S_drewN | apply Kd.S_drew)); exact Kd.S_mono HO_6.out (fun _ hk => hk.1.1)⟩, ⟨by (with_reducible repeat (first | apply Kd.R_alloc | apply Kd.R_drewN | apply Kd.R_drew)); exact Kd.R_mono HO_10.out (fun _ hk => trivial)⟩, ⟨by repeat (first | (with_reducible first | exact HB.out | apply below_alloc | apply pw_below_drewN | apply below_drew1) | exact HB.out | exact Below.refl _ _)⟩⟩
            ·
             replace c80 := Bool.eq_false_iff.mpr c80
             subst c80
             have H1 : (if t276 = true then ((laws_vSquares.f kj13 t275).bind fun t289 => (if t289 = t274 then (laws_FnFourSquaresCounted.j1 kj13 t247 t248 t253 t256 t264 t268 t269 ((t275.length : Int) != 3)) else (laws_FnFourSquaresCounted.j1 kj13 t247 t248 t253 t256 t264 t268 t269 true))) else (laws_FnFourSquaresCounted.j1 kj13 t247 t248 t253 t256 t264 t268 t269 false)) = some r := by rw [if_neg (show ¬ (false = true) by decide)] at H; exact H
             clear H
             have H := H1
             clear H1
             by_cases c93 : t276 = true
             ·
              subst c93
              have H1 : ((laws_vSquares.f kj13 t275).bind fun t289 => (if t289 = t274 then (laws_FnFourSquaresCounted.j1 kj13 t247 t248 t253 t256 t264 t268 t269 ((t275.length : Int) != 3)) else (laws_FnFourSquaresCounted.j1 kj13 t247 t248 t253 t256 t264 t268 t269 true))) = some r := by rw [if_pos rfl] at H; exact H
              clear H
              have H := H1
              clear H1
              replace H := Option.bind_eq_some_iff.mp H
              obtain ⟨t289, A940, H⟩ := H
              replace H : (if t289 = t274 then (laws_FnFourSquaresCounted.j1 kj13 t247 t248 t253 t256 t264 t268 t269 ((t275.length : Int) != 3)) else (laws_FnFourSquaresCounted.j1 kj13 t247 t248 t253 t256 t264 t268 t269 true)) = some r := H
              have A94 := Aside0.mk A940
              clear A940
              by_cases c95 : t289 = t274
              ·
               rw [if_pos c95] at H
               have c95b0 : (t289 == t274) = true := beq_iff_eq.mpr c95
               have c95b1 : (t289 != t274) = false := bne_eq_false_iff_eq.mpr c95
               clear c95
               have H' := Aside0.mk H
               clear H
               obtain ⟨Ao96, co96, eo96⟩ := Kd.R_slice HO278.out
               subst eo96
               obtain ⟨Ao97, co97, eo97⟩ := Kd.R_slice HO282.out
               subst eo97
               go_wp2_with (first | (go_at_call 25; (with_reducible refine (laws_vSame.calls kj13 _ _ t275 _ _ t279 true _ ?side1 ?side2 ?side3 ?side4 A72.out).mono ?_); (case side1 => repeat (first | exact (Kd.R_reads' HO278.out).2.2 | (with_reducible refine Kd.C_alloc ?_ _) | (with_reducible refine Kd.C_drewN ?_ _) | (with_reducible refine Kd.C_drew ?_))); (case side2 => exact (Kd.R_reads' HO278.out).2.1); (case side3 => repeat (first | exact (Kd.R_reads' HO282.out).2.2 | (with_reducible refine Kd.C_alloc ?_ _) | (with_reducible refine Kd.C_drewN ?_ _) | (with_reducible refine Kd.C_drew ?_))); (case side4 => exact (Kd.R_reads' HO282.out).2.1); rintro e w' ⟨rfl, ⟨nd, rfl⟩⟩) | (go_at_call 32; (with_reducible refine (laws_vSquares.calls kj13 _ _ t275 t289 _ ?side1 ?side2 A94.out).mono ?_); (case side1 => repeat (first | exact (Kd.R_reads' HO278.out).2.2 | (with_reducible refine Kd.C_alloc ?_ _) | (with_reducible refine Kd.C_drewN ?_ _) | (with_reducible refine Kd.C_drew ?_))); (case side2 => exact (Kd.R_reads' HO278.out).2.1); rintro e w' ⟨rfl, ⟨nd, rfl⟩⟩))
               go_meet
               case rel => exact ⟨_, (((t275.length : Int) != 3)), (by first | rfl | (simp; done) | (simp [*]; done)), H', ⟨by have := HJ13.out; first | omega | exact Nat.le_refl _⟩, ⟨by (with_reducible repeat (first | apply Kd.S_alloc | apply Kd.S_drewN | apply Kd.S_drew)); exact Kd.S_mono HO_6.out (fun _ hk => hk.1.1)⟩, ⟨by (with_reducible repeat (first | apply Kd.R_alloc | apply Kd.R_drewN | apply Kd.R_drew)); exact Kd.R_mono HO_10.out (fun _ hk => trivial)⟩, ⟨by repeat (first | (with_reducible first | exact HB.out | apply below_alloc | apply pw_below_drewN | apply below_drew1) | exact HB.out | exact Below.refl _ _)⟩⟩
              ·
               rw [if_neg c95] at H
               exact absurd (H.trans (congrArg some hrT)) (fun h_ => laws_FnFourSquaresCounted.j1_no h_)
             ·
              replace c93 := Bool.eq_false_iff.mpr c93
              subst c93
              have H1 : (laws_FnFourSquaresCounted.j1 kj13 t247 t248 t253 t256 t264 t268 t269 false) = some r := by rw [if_neg (show ¬ (false = true) by decide)] at H; exact H
              clear H
              have H := H1
              clear H1
              have H' := Aside0.mk H
              clear H
              obtain ⟨Ao100, co100, eo100⟩ := Kd.R_slice HO278.out
              subst eo100
              obtain ⟨Ao101, co101, eo101⟩ := Kd.R_slice HO282.out
              subst eo101
              go_wp2_with (first | (go_at_call 25; (with_reducible refine (laws_vSame.calls kj13 _ _ t275 _ _ t279 true _ ?side1 ?side2 ?side3 ?side4 A72.out).mono ?_); (case side1 => repeat (first | exact (Kd.R_reads' HO278.out).2.2 | (with_reducible refine Kd.C_alloc ?_ _) | (with_reducible refine Kd.C_drewN ?_ _) | (with_reducible refine Kd.C_drew ?_))); (case side2 => exact (Kd.R_reads' HO278.out).2.1); (case side3 => repeat (first | exact (Kd.R_reads' HO282.out).2.2 | (with_reducible refine Kd.C_alloc ?_ _) | (with_reducible refine Kd.C_drewN ?_ _) | (with_reducible refine Kd.C_drew ?_))); (case side4 => exact (Kd.R_reads' HO282.out).2.1); rintro e w' ⟨rfl, ⟨nd, rfl⟩⟩))
              go_meet
              case rel => exact ⟨_, (false), (by first | rfl | (simp; done) | (simp [*]; done)), H', ⟨by have := HJ13.out; first | omega | exact Nat.le_refl _⟩, ⟨by (with_reducible repeat (first | apply Kd.S_alloc | apply Kd.S_drewN | apply Kd.S_drew)); exact Kd.S_mono HO_6.out (fun _ hk => hk.1.1)⟩, ⟨by (with_reducible repeat (first | apply Kd.R_alloc | apply Kd.R_drewN | apply Kd.R_drew)); exact Kd.R_mono HO_10.out (fun _ hk => trivial)⟩, ⟨by repeat (first | (with_reducible first | exact HB.out | apply below_alloc | apply pw_below_drewN | apply below_drew1) | exact HB.out | exact Below.refl _ _)⟩⟩
         ·
          replace c73 := Bool.eq_false_iff.mpr c73
          subst c73
          have H1 : (laws_FnFourSquaresCounted.j1 kj13 t247 t248 t253 t256 t264 t268 t269 true) = some r := by rw [if_neg (show ¬ (false = true) by decide)] at H; exact H
          exact absurd (H1.trans (congrArg some hrT)) (fun h_ => laws_FnFourSquaresCounted.j1_no h_)
      case rest =>
       as_aux_lemma =>
        clear HC67
        try clear c1
        try clear c2
        try clear p2
        try clear c3
        try clear c4
        try clear c6
        try clear c7
        try clear c8
        try clear c9
        try clear c13
        try clear c23
        try clear c23b0
        try clear c23b1
        try clear c23b2
        try clear c25
        try clear c26
        try clear c26b0
        try clear c26b1
        try clear c26b2
        try clear c30
        try clear c31
        try clear c31b0
        try clear c31b1
        try clear c31b2
        try clear c33
        try clear c34
        try clear c35
        try clear c36
        try clear c36b0
        try clear c36b1
        try clear c37
        try clear c37b0
        try clear c37b1
        try clear c37b2
        try clear c38
        try clear c39
        try clear c40
        try clear c41
        try clear c42
        try clear c42b0
        try clear c42b1
        try clear c43
        try clear c44
        try clear c45
        try clear c46
        try clear c61
        try clear c71
        try clear c71b0
        try clear c71b1
        try clear c71b2
        try clear c73
        try clear c74
        try clear c74b0
        try clear c74b1
        try clear c74b2
        try clear c77
        try clear c77b0
        try clear c77b1
        try clear c77b2
        try clear c80
        try clear c81
        try clear c81b0
        try clear c81b1
        try clear c81b2
        try clear c84
        try clear c86
        try clear c86b0
        try clear c86b1
        try clear c93
        try clear c95
        try clear c95b0
        try clear c95b1
        try clear p2
        obtain ⟨kq, x185_66, rfl, HA, HJ66, HO_6, HO_10, HB⟩ := hcut
        cases kq with
        | zero => exact absurd HA.out (by simp [laws_FnFourSquaresCounted.j1])
        | succ kj66 =>
         have H := HA.out
         clear HA
         simp only [laws_FnFourSquaresCounted.j1] at H
         by_cases c104 : x185_66 = true
         ·
          subst c104
          have H1 : (some false) = some r := by rw [if_pos rfl] at H; exact H
          exact absurd (H1.trans (congrArg some hrT)) (by simp)
         ·
          replace c104 := Bool.eq_false_iff.mpr c104
          subst c104
          have H1 : (if t253 = true then (if (t248.length : Int) = 0 then (laws_FnFourSquaresCounted.j2 kj66 t247 t248 true) else (if 0 < (t248.length : Int) then ((laws_vSame.f kj66 t256 (rd_L2 t248 0)).bind fun t291 => (if t291 = true then (if t247 > 0 then (if t269 = true then (if t264 = t268 then (if t247 = 0 then (laws_FnFourSquaresCounted.j2 kj66 t247 t248 (t264 != 1)) else (laws_FnFourSquaresCounted.j2 kj66 t247 t248 false)) else (laws_FnFourSquaresCounted.j2 kj66 t247 t248 true)) else (laws_FnFourSquaresCounted.j2 kj66 t247 t248 true)) else (if t247 = 0 then (laws_FnFourSquaresCounted.j2 kj66 t247 t248 (t264 != 1)) else (laws_FnFourSquaresCounted.j2 kj66 t247 t248 false))) else (laws_FnFourSquaresCounted.j2 kj66 t247 t248 true))) else (none))) else (some true)) = some r := by rw [if_neg (show ¬ (false = true) by decide)] at H; exact H
          clear H
          have H := H1
          clear H1
          by_cases c105 : t253 = true
          ·
           subst c105
           have H1 : (if (t248.length : Int) = 0 then (laws_FnFourSquaresCounted.j2 kj66 t247 t248 true) else (if 0 < (t248.length : Int) then ((laws_vSame.f kj66 t256 (rd_L2 t248 0)).bind fun t291 => (if t291 = true then (if t247 > 0 then (if t269 = true then (if t264 = t268 then (if t247 = 0 then (laws_FnFourSquaresCounted.j2 kj66 t247 t248 (t264 != 1)) else (laws_FnFourSquaresCounted.j2 kj66 t247 t248 false)) else (laws_FnFourSquaresCounted.j2 kj66 t247 t248 true)) else (laws_FnFourSquaresCounted.j2 kj66 t247 t248 true)) else (if t247 = 0 then (laws_FnFourSquaresCounted.j2 kj66 t247 t248 (t264 != 1)) else (laws_FnFourSquaresCounted.j2 kj66 t247 t248 false))) else (laws_FnFourSquaresCounted.j2 kj66 t247 t248 true))) else (none))) = some r := by rw [if_pos rfl] at H; exact H
           clear H
           have H := H1
           clear H1
           have HC106 := Aside0.mk H
           clear H
           go_upto_region 23 with (fail)
           go_cut [219] (fun v219 wc => ∃ (kq : Nat) (x219_105 : Bool), v219 = .bool x219_105 ∧ Aside0 (laws_FnFourSquaresCounted.j2 kq t247 t248 x219_105 = some r) ∧ Aside0 (kq ≤ kj66) ∧ Aside0 (Kd.S (Kd.slice 3 (Kd.int .i64)) 35 wc w.heap.size (fun _ => True) v250 t248) ∧ Aside0 (Below w.heap.size w wc))
           case first =>
            as_aux_lemma =>
             have H := HC106.out
             clear HC106
             by_cases c107 : (t248.length : Int) = 0
             ·
              rw [if_pos c107] at H
              exact absurd (H.trans (congrArg some hrT)) (fun h_ => laws_FnFourSquaresCounted.j2_no h_)
             ·
              rw [if_neg c107] at H
              have c107b0 : ((t248.length : Int) == 0) = false := beq_eq_false_iff_ne.mpr c107
              have c107b1 : ((t248.length : Int) != 0) = true := bne_iff_ne.mpr c107
              have c107b2 : ¬ (t248 = []) := fun h_ => c107 (by rw [h_]; rfl)
              (first | rw [c107b0] | (simp only [i64_w, i32_w]; rw [c107b0]) | skip)
              by_cases c109 : 0 < (t248.length : Int)
              ·
               rw [if_pos c109] at H
               have c109b0 : decide (0 < (t248.length : Int)) = true := decide_eq_true c109
               have c109b1 : decide (0 < t248.length) = true := decide_eq_true (by omega)
               clear c109
               replace H := Option.bind_eq_some_iff.mp H
               obtain ⟨t291, A1100, H⟩ := H
               replace H : (if t291 = true then (if t247 > 0 then (if t269 = true then (if t264 = t268 then (if t247 = 0 then (laws_FnFourSquaresCounted.j2 kj66 t247 t248 (t264 != 1)) else (laws_FnFourSquaresCounted.j2 kj66 t247 t248 false)) else (laws_FnFourSquaresCounted.j2 kj66 t247 t248 true)) else (laws_FnFourSquaresCounted.j2 kj66 t247 t248 true)) else (if t247 = 0 then (laws_FnFourSquaresCounted.j2 kj66 t247 t248 (t264 != 1)) else (laws_FnFourSquaresCounted.j2 kj66 t247 t248 false))) else (laws_FnFourSquaresCounted.j2 kj66 t247 t248 true)) = some r := H
               have A110 := Aside0.mk A1100
               clear A1100
               by_cases c111 : t291 = true
               ·
                subst c111
                have H1 : (if t247 > 0 then (if t269 = true then (if t264 = t268 then (if t247 = 0 then (laws_FnFourSquaresCounted.j2 kj66 t247 t248 (t264 != 1)) else (laws_FnFourSquaresCounted.j2 kj66 t247 t248 false)) else (laws_FnFourSquaresCounted.j2 kj66 t247 t248 true)) else (laws_FnFourSquaresCounted.j2 kj66 t247 t248 true)) else (if t247 = 0 then (laws_FnFourSquaresCounted.j2 kj66 t247 t248 (t264 != 1)) else (laws_FnFourSquaresCounted.j2 kj66 t247 t248 false))) = some r := by rw [if_pos rfl] at H; exact H
                clear H
                have H := H1
                clear H1
                by_cases c112 : t247 > 0
                ·
                 rw [if_pos c112] at H
                 have c112b0 : decide (0 < t247) = true := decide_eq_true c112
                 clear c112
                 by_cases c113 : t269 = true
                 ·
                  subst c113
                  have H1 : (if t264 = t268 then (if t247 = 0 then (laws_FnFourSquaresCounted.j2 kj66 t247 t248 (t264 != 1)) else (laws_FnFourSquaresCounted.j2 kj66 t247 t248 false)) else (laws_FnFourSquaresCounted.j2 kj66 t247 t248 true)) = some r := by rw [if_pos rfl] at H; exact H
                  clear H
                  have H := H1
                  clear H1
                  by_cases c114 : t264 = t268
                  ·
                   rw [if_pos c114] at H
                   have c114b0 : (t264 == t268) = true := beq_iff_eq.mpr c114
                   have c114b1 : (t264 != t268) = false := bne_eq_false_iff_eq.mpr c114
                   clear c114
                   by_cases c115 : t247 = 0
                   ·
                    rw [if_pos c115] at H
                    have c115b0 : (t247 == 0) = true := beq_iff_eq.mpr c115
                    have c115b1 : (t247 != 0) = false := bne_eq_false_iff_eq.mpr c115
                    clear c115
                    have H' := Aside0.mk H
                    clear H
                    obtain ⟨Ao116, co116, eo116⟩ := Kd.S_slice HO_6.out
                    subst eo116
                    have p290 : 0 ≤ (0 : Int) := (by omega)
                    have q290 : 0 < (t248.length : Int) := of_decide_eq_true (by first | (with_reducible assumption) | assumption)
                    obtain ⟨ad290, A290_0, c290_0, e290, hx290_0, hl290_0, hi290_0⟩ := at_L2 (Kd.S_reads' HO_6.out).2.2 0 p290 q290
                    cases e290
                    obtain ⟨ce290, hce290, hMe290, hcc290⟩ := Kd.S_get HO_6.out [] 0 p290 (by first | exact q290 | exact of_decide_eq_true (by first | (with_reducible assumption) | assumption) | (have e_ := (Kd.S_reads' HO_6.out).1; omega))
                    obtain ⟨ve290_0, rfl, ge290_0⟩ := hMe290
                    have hv290_0 := hcc290 0 _ rfl
                    rw [Nat.add_zero, show ((Kd.slice 3 (Kd.int .i64))).sz = 1 from rfl, Nat.mul_one] at hv290_0
                    replace hv290_0 := Option.some.inj (hv290_0.symm.trans hx290_0)
                    rw [hv290_0] at ge290_0
                    have HL290_0 := Aside0.mk (show Kd.R (Kd.int .i64) 3 _ _ _ _ (rd_L2 t248 0) from ge290_0)
                    clear hv290_0 ge290_0
                    clear hcc290 hce290
                    have qi290 : (0 < t248.length) = True := eq_true (by omega)
                    (try rw [show ((0 : Int)).toNat = 0 from rfl] at hx290_0)
                    (try rw [Addr.add_zero'] at hx290_0)
                    have HR290_0 := Aside0.mk hi290_0
                    have HC290_0 := Aside0.mk hl290_0
                    clear hi290_0 hl290_0
                    replace p290 := eq_true p290
                    replace q290 := eq_true q290
                    obtain ⟨Ao117, co117, eo117⟩ := Kd.R_slice HO_10.out
                    subst eo117
                    go_wp2_with (first | (go_at_call 25; (with_reducible refine (laws_vSame.calls kj66 _ _ t256 _ _ (rd_L2 t248 0) true _ ?side1 ?side2 ?side3 ?side4 A110.out).mono ?_); (case side1 => repeat (first | exact (Kd.R_reads' HO_10.out).2.2 | (with_reducible refine Kd.C_alloc ?_ _) | (with_reducible refine Kd.C_drewN ?_ _) | (with_reducible refine Kd.C_drew ?_))); (case side2 => exact (Kd.R_reads' HO_10.out).2.1); (case side3 => repeat (first | exact (by repeat (first | (with_reducible exact HR290_0.out) | (with_reducible refine Kd.C_alloc ?_ _) | (with_reducible refine Kd.C_drewN ?_ _) | (with_reducible refine Kd.C_drew ?_) | exact HR290_0.out)) | (with_reducible refine Kd.C_alloc ?_ _) | (with_reducible refine Kd.C_drewN ?_ _) | (with_reducible refine Kd.C_drew ?_))); (case side4 => exact HC290_0.out); rintro e w' ⟨rfl, ⟨nd, rfl⟩⟩))
                    go_meet
                    case rel => exact ⟨_, ((t264 != 1)), (by first | rfl | (simp; done) | (simp [*]; done)), H', ⟨by have := HJ13.out; have := HJ66.out; first | omega | exact Nat.le_refl _⟩, ⟨by (with_reducible repeat (first | apply Kd.S_alloc | apply Kd.S_drewN | apply Kd.S_drew)); exact Kd.S_mono HO_6.out (fun _ hk => trivial)⟩, ⟨by repeat (first | (with_reducible first | exact HB.out | apply below_alloc | apply pw_below_drewN | apply below_drew1) | exact HB.out | exact Below.refl _ _)⟩⟩
                   ·
                    rw [if_neg c115] at H
                    have c115b0 : (t247 == 0) = false := beq_eq_false_iff_ne.mpr c115
                    have c115b1 : (t247 != 0) = true := bne_iff_ne.mpr c115
                    have H' := Aside0.mk H
                    clear H
                    obtain ⟨Ao118, co118, eo118⟩ := Kd.S_slice HO_6.out
                    subst eo118
                    have p290 : 0 ≤ (0 : Int) := (by omega)
                    have q290 : 0 < (t248.length : Int) := of_decide_eq_true (by first | (with_reducible assumption) | assumption)
                    obtain ⟨ad290, A290_0, c290_0, e290, hx290_0, hl290_0, hi290_0⟩ := at_L2 (Kd.S_reads' HO_6.out).2.2 0 p290 q290
                    cases e290
                    obtain ⟨ce290, hce290, hMe290, hcc290⟩ := Kd.S_get HO_6.out [] 0 p290 (by first | exact q290 | exact of_decide_eq_true (by first | (with_reducible assumption) | assumption) | (have e_ := (Kd.S_reads' HO_6.out).1; omega))
                    obtain ⟨ve290_0, rfl, ge290_0⟩ := hMe290
                    have hv290_0 := hcc290 0 _ rfl
                    rw [Nat.add_zero, show ((Kd.slice 3 (Kd.int .i64))).sz = 1 from rfl, Nat.mul_one] at hv290_0
                    replace hv290_0 := Option.some.inj (hv290_0.symm.trans hx290_0)
                    rw [hv290_0] at ge290_0
                    have HL290_0 := Aside0.mk (show Kd.R (Kd.int .i64) 3 _ _ _ _ (rd_L2 t248 0) from ge290_0)
                    clear hv290_0 ge290_0
                    clear hcc290 hce290
                    have qi290 : (0 < t248.length) = True := eq_true (by omega)
                    (try rw [show ((0 : Int)).toNat = 0 from rfl] at hx290_0)
                    (try rw [Addr.add_zero'] at hx290_0)
                    have HR290_0 := Aside0.mk hi290_0
                    have HC290_0 := Aside0.mk hl290_0
                    clear hi290_0 hl290_0
                    replace p290 := eq_true p290
                    replace q290 := eq_true q290
                    obtain ⟨Ao119, co119, eo119⟩ := Kd.R_slice HO_10.out
                    subst eo119
                    go_wp2_with (first | (go_at_call 25; (with_reducible refine (laws_vSame.calls kj66 _ _ t256 _ _ (rd_L2 t248 0) true _ ?side1 ?side2 ?side3 ?side4 A110.out).mono ?_); (case side1 => repeat (first | exact (Kd.R_reads' HO_10.out).2.2 | (with_reducible refine Kd.C_alloc ?_ _) | (with_reducible refine Kd.C_drewN ?_ _) | (with_reducible refine Kd.C_drew ?_))); (case side2 => exact (Kd.R_reads' HO_10.out).2.1); (case side3 => repeat (first | exact (by repeat (first | (with_reducible exact HR290_0.out) | (with_reducible refine Kd.C_alloc ?_ _) | (with_reducible refine Kd.C_drewN ?_ _) | (with_reducible refine Kd.C_drew ?_) | exact HR290_0.out)) | (with_reducible refine Kd.C_alloc ?_ _) | (with_reducible refine Kd.C_drewN ?_ _) | (with_reducible refine Kd.C_drew ?_))); (case side4 => exact HC290_0.out); rintro e w' ⟨rfl, ⟨nd, rfl⟩⟩))
                    go_meet
                    case rel => exact ⟨_, (false), (by first | rfl | (simp; done) | (simp [*]; done)), H', ⟨by have := HJ13.out; have := HJ66.out; first | omega | exact Nat.le_refl _⟩, ⟨by (with_reducible repeat (first | apply Kd.S_alloc | apply Kd.S_drewN | apply Kd.S_drew)); exact Kd.S_mono HO_6.out (fun _ hk => trivial)⟩, ⟨by repeat (first | (with_reducible first | exact HB.out | apply below_alloc | apply pw_below_drewN | apply below_drew1) | exact HB.out | exact Below.refl _ _)⟩⟩
                  ·
                   rw [if_neg c114] at H
                   exact absurd (H.trans (congrArg some hrT)) (fun h_ => laws_FnFourSquaresCounted.j2_no h_)
                 ·
                  replace c113 := Bool.eq_false_iff.mpr c113
                  subst c113
                  have H1 : (laws_FnFourSquaresCounted.j2 kj66 t247 t248 true) = some r := by rw [if_neg (show ¬ (false = true) by decide)] at H; exact H
                  exact absurd (H1.trans (congrArg some hrT)) (fun h_ => laws_FnFourSquaresCounted.j2_no h_)
                ·
                 rw [if_neg c112] at H
                 have c112b0 : decide (0 < t247) = false := decide_eq_false c112
                 clear c112
                 by_cases c124 : t247 = 0
                 ·
                  rw [if_pos c124] at H
                  have c124b0 : (t247 == 0) = true := beq_iff_eq.mpr c124
                  have c124b1 : (t247 != 0) = false := bne_eq_false_iff_eq.mpr c124
                  clear c124
                  have H' := Aside0.mk H
                  clear H
                  obtain ⟨Ao125, co125, eo125⟩ := Kd.S_slice HO_6.out
                  subst eo125
                  have p290 : 0 ≤ (0 : Int) := (by omega)
                  have q290 : 0 < (t248.length : Int) := of_decide_eq_true (by first | (with_reducible assumption) | assumption)
                  obtain ⟨ad290, A290_0, c290_0, e290, hx290_0, hl290_0, hi290_0⟩ := at_L2 (Kd.S_reads' HO_6.out).2.2 0 p290 q290
                  cases e290
                  obtain ⟨ce290, hce290, hMe290, hcc290⟩ := Kd.S_get HO_6.out [] 0 p290 (by first | exact q290 | exact of_decide_eq_true (by first | (with_reducible assumption) | assumption) | (have e_ := (Kd.S_reads' HO_6.out).1; omega))
                  obtain ⟨ve290_0, rfl, ge290_0⟩ := hMe290
                  have hv290_0 := hcc290 0 _ rfl
                  rw [Nat.add_zero, show ((Kd.slice 3 (Kd.int .i64))).sz = 1 from rfl, Nat.mul_one] at hv290_0
                  replace hv290_0 := Option.some.inj (hv290_0.symm.trans hx290_0)
                  rw [hv290_0] at ge290_0
                  have HL290_0 := Aside0.mk (show Kd.R (Kd.int .i64) 3 _ _ _ _ (rd_L2 t248 0) from ge290_0)
                  clear hv290_0 ge290_0
                  clear hcc290 hce290
                  have qi290 : (0 < t248.length) = True := eq_true (by omega)
                  (try rw [show ((0 : Int)).toNat = 0 from rfl] at hx290_0)
                  (try rw [Addr.add_zero'] at hx290_0)
                  have HR290_0 := Aside0.mk hi290_0
                  have HC290_0 := Aside0.mk hl290_0
                  clear hi290_0 hl290_0
                  replace p290 := eq_true p290
                  replace q290 := eq_true q290
                  obtain ⟨Ao126, co126, eo126⟩ := Kd.R_slice HO_10.out
                  subst eo126
                  go_wp2_with (first | (go_at_call 25; (with_reducible refine (laws_vSame.calls kj66 _ _ t256 _ _ (rd_L2 t248 0) true _ ?side1 ?side2 ?side3 ?side4 A110.out).mono ?_); (case side1 => repeat (first | exact (Kd.R_reads' HO_10.out).2.2 | (with_reducible refine Kd.C_alloc ?_ _) | (with_reducible refine Kd.C_drewN ?_ _) | (with_reducible refine Kd.C_drew ?_))); (case side2 => exact (Kd.R_reads' HO_10.out).2.1); (case side3 => repeat (first | exact (by repeat (first | (with_reducible exact HR290_0.out) | (with_reducible refine Kd.C_alloc ?_ _) | (with_reducible refine Kd.C_drewN ?_ _) | (with_reducible refine Kd.C_drew ?_) | exact HR290_0.out)) | (with_reducible refine Kd.C_alloc ?_ _) | (with_reducible refine Kd.C_drewN ?_ _) | (with_reducible refine Kd.C_drew ?_))); (case side4 => exact HC290_0.out); rintro e w' ⟨rfl, ⟨nd, rfl⟩⟩))
                  go_meet
                  case rel => exact ⟨_, ((t264 != 1)), (by first | rfl | (simp; done) | (simp [*]; done)), H', ⟨by have := HJ13.out; have := HJ66.out; first | omega | exact Nat.le_refl _⟩, ⟨by (with_reducible repeat (first | apply Kd.S_alloc | apply Kd.S_drewN | apply Kd.S_drew)); exact Kd.S_mono HO_6.out (fun _ hk => trivial)⟩, ⟨by repeat (first | (with_reducible first | exact HB.out | apply below_alloc | apply pw_below_drewN | apply below_drew1) | exact HB.out | exact Below.refl _ _)⟩⟩
                 ·
                  rw [if_neg c124] at H
                  have c124b0 : (t247 == 0) = false := beq_eq_false_iff_ne.mpr c124
                  have c124b1 : (t247 != 0) = true := bne_iff_ne.mpr c124
                  have H' := Aside0.mk H
                  clear H
                  obtain ⟨Ao127, co127, eo127⟩ := Kd.S_slice HO_6.out
                  subst eo127
                  have p290 : 0 ≤ (0 : Int) := (by omega)
                  have q290 : 0 < (t248.length : Int) := of_decide_eq_true (by first | (with_reducible assumption) | assumption)
                  obtain ⟨ad290, A290_0, c290_0, e290, hx290_0, hl290_0, hi290_0⟩ := at_L2 (Kd.S_reads' HO_6.out).2.2 0 p290 q290
                  cases e290
                  obtain ⟨ce290, hce290, hMe290, hcc290⟩ := Kd.S_get HO_6.out [] 0 p290 (by first | exact q290 | exact of_decide_eq_true (by first | (with_reducible assumption) | assumption) | (have e_ := (Kd.S_reads' HO_6.out).1; omega))
                  obtain ⟨ve290_0, rfl, ge290_0⟩ := hMe290
                  have hv290_0 := hcc290 0 _ rfl
                  rw [Nat.add_zero, show ((Kd.slice 3 (Kd.int .i64))).sz = 1 from rfl, Nat.mul_one] at hv290_0
                  replace hv290_0 := Option.some.inj (hv290_0.symm.trans hx290_0)
                  rw [hv290_0] at ge290_0
                  have HL290_0 := Aside0.mk (show Kd.R (Kd.int .i64) 3 _ _ _ _ (rd_L2 t248 0) from ge290_0)
                  clear hv290_0 ge290_0
                  clear hcc290 hce290
                  have qi290 : (0 < t248.length) = True := eq_true (by omega)
                  (try rw [show ((0 : Int)).toNat = 0 from rfl] at hx290_0)
                  (try rw [Addr.add_zero'] at hx290_0)
                  have HR290_0 := Aside0.mk hi290_0
                  have HC290_0 := Aside0.mk hl290_0
                  clear hi290_0 hl290_0
                  replace p290 := eq_true p290
                  replace q290 := eq_true q290
                  obtain ⟨Ao128, co128, eo128⟩ := Kd.R_slice HO_10.out
                  subst eo128
                  go_wp2_with (first | (go_at_call 25; (with_reducible refine (laws_vSame.calls kj66 _ _ t256 _ _ (rd_L2 t248 0) true _ ?side1 ?side2 ?side3 ?side4 A110.out).mono ?_); (case side1 => repeat (first | exact (Kd.R_reads' HO_10.out).2.2 | (with_reducible refine Kd.C_alloc ?_ _) | (with_reducible refine Kd.C_drewN ?_ _) | (with_reducible refine Kd.C_drew ?_))); (case side2 => exact (Kd.R_reads' HO_10.out).2.1); (case side3 => repeat (first | exact (by repeat (first | (with_reducible exact HR290_0.out) | (with_reducible refine Kd.C_alloc ?_ _) | (with_reducible refine Kd.C_drewN ?_ _) | (with_reducible refine Kd.C_drew ?_) | exact HR290_0.out)) | (with_reducible refine Kd.C_alloc ?_ _) | (with_reducible refine Kd.C_drewN ?_ _) | (with_reducible refine Kd.C_drew ?_))); (case side4 => exact HC290_0.out); rintro e w' ⟨rfl, ⟨nd, rfl⟩⟩))
                  go_meet
                  case rel => exact ⟨_, (false), (by first | rfl | (simp; done) | (simp [*]; done)), H', ⟨by have := HJ13.out; have := HJ66.out; first | omega | exact Nat.le_refl _⟩, ⟨by (with_reducible repeat (first | apply Kd.S_alloc | apply Kd.S_drewN | apply Kd.S_drew)); exact Kd.S_mono HO_6.out (fun _ hk => trivial)⟩, ⟨by repeat (first | (with_reducible first | exact HB.out | apply below_alloc | apply pw_below_drewN | apply below_drew1) | exact HB.out | exact Below.refl _ _)⟩⟩
               ·
                replace c111 := Bool.eq_false_iff.mpr c111
                subst c111
                have H1 : (laws_FnFourSquaresCounted.j2 kj66 t247 t248 true) = some r := by rw [if_neg (show ¬ (false = true) by decide)] at H; exact H
                exact absurd (H1.trans (congrArg some hrT)) (fun h_ => laws_FnFourSquaresCounted.j2_no h_)
              ·
               rw [if_neg c109] at H
               exact absurd H (by simp)
           case rest =>
            as_aux_lemma =>
             clear HC106
             try clear c1
             try clear c2
             try clear p2
             try clear q2
             try clear hx2
             try clear qi2
             try clear c3
             try clear c4
             try clear c6
             try clear c7
             try clear c8
             try clear c9
             try clear c10
             try clear c11
             try clear c12
             try clear c13
             try clear c23
             try clear c23b0
             try clear c23b1
             try clear c23b2
             try clear c25
             try clear c26
             try clear c26b0
             try clear c26b1
             try clear c26b2
             try clear c29
             try clear p29
             try clear q29
             try clear hx29
             try clear qi29
             try clear c30
             try clear c31
             try clear c31b0
             try clear c31b1
             try clear c31b2
             try clear c33
             try clear c34
             try clear c35
             try clear c36
             try clear c36b0
             try clear c36b1
             try clear c37
             try clear c37b0
             try clear c37b1
             try clear c37b2
             try clear c38
             try clear c39
             try clear c40
             try clear c41
             try clear c42
             try clear c42b0
             try clear c42b1
             try clear c43
             try clear c44
             try clear c45
             try clear c46
             try clear c61
             try clear c71
             try clear c71b0
             try clear c71b1
             try clear c71b2
             try clear c73
             try clear c74
             try clear c74b0
             try clear c74b1
             try clear c74b2
             try clear c77
             try clear c77b0
             try clear c77b1
             try clear c77b2
             try clear c80
             try clear c81
             try clear c81b0
             try clear c81b1
             try clear c81b2
             try clear c84
             try clear c86
             try clear c86b0
             try clear c86b1
             try clear c93
             try clear c95
             try clear c95b0
             try clear c95b1
             try clear c104
             try clear c105
             try clear c107
             try clear c107b0
             try clear c107b1
             try clear c107b2
             try clear c109
             try clear c109b0
             try clear c109b1
             try clear c111
             try clear c112
             try clear c112b0
             try clear c113
             try clear c114
             try clear c114b0
             try clear c114b1
             try clear c115
             try clear c115b0
             try clear c115b1
             try clear c124
             try clear c124b0
             try clear c124b1
             try clear hx290_0
             try clear p2
             try clear p290
             try clear q290
             obtain ⟨kq, x219_105, rfl, HA, HJ105, HO_6, HB⟩ := hcut
             cases kq with
             | zero => exact absurd HA.out (by simp [laws_FnFourSquaresCounted.j2])
             | succ kj105 =>
              have H := HA.out
              clear HA
              simp only [laws_FnFourSquaresCounted.j2] at H
              by_cases c131 : x219_105 = true
              ·
               subst c131
               have H1 : (some false) = some r := by rw [if_pos rfl] at H; exact H
               exact absurd (H1.trans (congrArg some hrT)) (by simp)
              ·
               replace c131 := Bool.eq_false_iff.mpr c131
               subst c131
               have H1 : (laws_FnFourSquaresCounted.l0 kj105 t247 t248 t248 (t248.length : Int) 0) = some r := by rw [if_neg (show ¬ (false = true) by decide)] at H; exact H
               clear H
               have H := H1
               clear H1
               have H' := Aside0.mk H
               clear H
               obtain ⟨Ao132, co132, eo132⟩ := Kd.S_slice HO_6.out
               subst eo132
               go_wp2
               go_loopg [222] kj105 (fun kq v222 w' => ∃ (x222_4 : Int), v222 = .int .i64 x222_4 ∧ Aside0 (laws_FnFourSquaresCounted.l0 kq t247 t248 t248 (t248.length : Int) x222_4 = some r) ∧ Aside0 (kq ≤ kj105) ∧ Aside0 (Kd.S (Kd.slice 3 (Kd.int .i64)) 35 w' w.heap.size (fun _ => True) (.slice Ao132 t248.length co132) t248) ∧ Aside0 (Kd.S (Kd.slice 3 (Kd.int .i64)) 35 w' w.heap.size (fun _ => True) (.slice Ao132 t248.length co132) t248) ∧ Aside0 (Below w.heap.size w w'))
               case atStart => exact ⟨(0), (by first | rfl | (simp; done) | (simp [*]; done)), H', ⟨Nat.le_refl _⟩, ⟨by (with_reducible repeat (first | apply Kd.S_alloc | apply Kd.S_drewN | apply Kd.S_drew)); exact HO_6.out⟩, ⟨by (with_reducible repeat (first | apply Kd.S_alloc | apply Kd.S_drewN | apply Kd.S_drew)); exact HO_6.out⟩, ⟨by repeat (first | (with_reducible first | exact HB.out | apply below_alloc | apply pw_below_drewN | apply below_drew1) | exact HB.out | exact Below.refl _ _)⟩⟩
               case round =>
                as_aux_lemma =>
                 clear H'
                 try clear c1
                 try clear c2
                 try clear p2
                 try clear q2
                 try clear hx2
                 try clear qi2
                 try clear c3
                 try clear c4
                 try clear c6
                 try clear c7
                 try clear c8
                 try clear c9
                 try clear c10
                 try clear c11
                 try clear c12
                 try clear c13
                 try clear c23
                 try clear c23b0
                 try clear c23b1
                 try clear c23b2
                 try clear c25
                 try clear c26
                 try clear c26b0
                 try clear c26b1
                 try clear c26b2
                 try clear c29
                 try clear p29
                 try clear q29
                 try clear hx29
                 try clear qi29
                 try clear c30
                 try clear c31
                 try clear c31b0
                 try clear c31b1
                 try clear c31b2
                 try clear c33
                 try clear c34
                 try clear c35
                 try clear c36
                 try clear c36b0
                 try clear c36b1
                 try clear c37
                 try clear c37b0
                 try clear c37b1
                 try clear c37b2
                 try clear c38
                 try clear c39
                 try clear c40
                 try clear c41
                 try clear c42
                 try clear c42b0
                 try clear c42b1
                 try clear c43
                 try clear c44
                 try clear c45
                 try clear c46
                 try clear c61
                 try clear c71
                 try clear c71b0
                 try clear c71b1
                 try clear c71b2
                 try clear c73
                 try clear c74
                 try clear c74b0
                 try clear c74b1
                 try clear c74b2
                 try clear c77
                 try clear c77b0
                 try clear c77b1
                 try clear c77b2
                 try clear c80
                 try clear c81
                 try clear c81b0
                 try clear c81b1
                 try clear c81b2
                 try clear c84
                 try clear c86
                 try clear c86b0
                 try clear c86b1
                 try clear c93
                 try clear c95
                 try clear c95b0
                 try clear c95b1
                 try clear c104
                 try clear c105
                 try clear c107
                 try clear c107b0
                 try clear c107b1
                 try clear c107b2
                 try clear c109
                 try clear c109b0
                 try clear c109b1
                 try clear c111
                 try clear c112
                 try clear c112b0
                 try clear c113
                 try clear c114
                 try clear c114b0
                 try clear c114b1
                 try clear c115
                 try clear c115b0
                 try clear c115b1
                 try clear c124
                 try clear c124b0
                 try clear c124b1
                 try clear c131
                 try clear hx290_0
                 try clear p2
                 try clear p29
                 try clear p290
                 try clear q2
                 try clear q29
                 try clear q290
                 obtain ⟨x222_4, rfl, HA, HK4, HO_6, HO_220, HB⟩ := hrel
                 cases gk with
                 | zero => exact absurd HA.out (by simp [laws_FnFourSquaresCounted.l0])
                 | succ k4 =>
                  have H := HA.out
                  clear HA
                  simp only [laws_FnFourSquaresCounted.l0] at H
                  by_cases c133 : x222_4 < (t248.length : Int)
                  ·
                   rw [if_pos c133] at H
                   have c133b0 : decide (x222_4 < (t248.length : Int)) = true := decide_eq_true c133
                   clear c133
                   by_cases c134 : 0 ≤ x222_4
                   ·
                    rw [if_pos c134] at H
                    have c134b0 : decide (0 ≤ x222_4) = true := decide_eq_true c134
                    clear c134
                    by_cases c135 : x222_4 < (t248.length : Int)
                    ·
                     rw [if_pos c135] at H
                     have c135b0 : decide (x222_4 < (t248.length : Int)) = true := decide_eq_true c135
                     clear c135
                     by_cases c136 : ((rd_L2 t248 x222_4).length : Int) = 4
                     ·
                      rw [if_pos c136] at H
                      have c136b0 : (((rd_L2 t248 x222_4).length : Int) == 4) = true := beq_iff_eq.mpr c136
                      have c136b1 : (((rd_L2 t248 x222_4).length : Int) != 4) = false := bne_eq_false_iff_eq.mpr c136
                      clear c136
                      replace H := Option.bind_eq_some_iff.mp H
                      obtain ⟨t293, A1370, H⟩ := H
                      replace H : (if t293 = t247 then (if 0 < ((rd_L2 t248 x222_4).length : Int) then (if 1 < ((rd_L2 t248 x222_4).length : Int) then (if (rd (rd_L2 t248 x222_4) 0) < (rd (rd_L2 t248 x222_4) 1) then (some false) else (if 2 < ((rd_L2 t248 x222_4).length : Int) then (if (rd (rd_L2 t248 x222_4) 1) < (rd (rd_L2 t248 x222_4) 2) then (some false) else (if 3 < ((rd_L2 t248 x222_4).length : Int) then (if (rd (rd_L2 t248 x222_4) 2) < (rd (rd_L2 t248 x222_4) 3) then (some false) else (if (rd (rd_L2 t248 x222_4) 3) < 0 then (some false) else (if x222_4 > 0 then (if 0 ≤ (wrap64 (x222_4 - 1)) then (if (wrap64 (x222_4 - 1)) < (t248.length : Int) then ((laws_vBefore.f k4 (rd_L2 t248 x222_4) (rd_L2 t248 (wrap64 (x222_4 - 1)))).bind fun t302 => (if t302 = true then (laws_FnFourSquaresCounted.l0 k4 t247 t248 t248 (t248.length : Int) (wrap64 (x222_4 + 1))) else (some false))) else (none)) else (none)) else (laws_FnFourSquaresCounted.l0 k4 t247 t248 t248 (t248.length : Int) (wrap64 (x222_4 + 1)))))) else (none))) else (none))) else (none)) else (none)) else (some false)) = some r := H
                      have A137 := Aside0.mk A1370
                      clear A1370
                      by_cases c138 : t293 = t247
                      ·
                       rw [if_pos c138] at H
                       have c138b0 : (t293 == t247) = true := beq_iff_eq.mpr c138
                       have c138b1 : (t293 != t247) = false := bne_eq_false_iff_eq.mpr c138
                       clear c138
                       by_cases c139 : 0 < ((rd_L2 t248 x222_4).length : Int)
                       ·
                        rw [if_pos c139] at H
                        have c139b0 : decide (0 < ((rd_L2 t248 x222_4).length : Int)) = true := decide_eq_true c139
                        have c139b1 : decide (0 < (rd_L2 t248 x222_4).length) = true := decide_eq_true (by omega)
                        clear c139
                        by_cases c140 : 1 < ((rd_L2 t248 x222_4).length : Int)
                        ·
                         rw [if_pos c140] at H
                         have c140b0 : decide (1 < ((rd_L2 t248 x222_4).length : Int)) = true := decide_eq_true c140
                         have c140b1 : decide (1 < (rd_L2 t248 x222_4).length) = true := decide_eq_true (by omega)
                         clear c140
                         by_cases c141 : (rd (rd_L2 t248 x222_4) 0) < (rd (rd_L2 t248 x222_4) 1)
                         ·
                          rw [if_pos c141] at H
                          exact absurd (H.trans (congrArg some hrT)) (by simp)
                         ·
                          rw [if_neg c141] at H
                          have c141b0 : decide ((rd (rd_L2 t248 x222_4) 0) < (rd (rd_L2 t248 x222_4) 1)) = false := decide_eq_false c141
                          clear c141
                          by_cases c143 : 2 < ((rd_L2 t248 x222_4).length : Int)
                          ·
                           rw [if_pos c143] at H
                           have c143b0 : decide (2 < ((rd_L2 t248 x222_4).length : Int)) = true := decide_eq_true c143
                           have c143b1 : decide (2 < (rd_L2 t248 x222_4).length) = true := decide_eq_true (by omega)
                           clear c143
                           by_cases c144 : (rd (rd_L2 t248 x222_4) 1) < (rd (rd_L2 t248 x222_4) 2)
                           ·
                            rw [if_pos c144] at H
                            exact absurd (H.trans (congrArg some hrT)) (by simp)
                           ·
                            rw [if_neg c144] at H
                            have c144b0 : decide ((rd (rd_L2 t248 x222_4) 1) < (rd (rd_L2 t248 x222_4) 2)) = false := decide_eq_false c144
                            clear c144
                            by_cases c146 : 3 < ((rd_L2 t248 x222_4).length : Int)
                            ·
                             rw [if_pos c146] at H
                             have c146b0 : decide (3 < ((rd_L2 t248 x222_4).length : Int)) = true := decide_eq_true c146
                             have c146b1 : decide (3 < (rd_L2 t248 x222_4).length) = true := decide_eq_true (by omega)
                             clear c146
                             by_cases c147 : (rd (rd_L2 t248 x222_4) 2) < (rd (rd_L2 t248 x222_4) 3)
                             ·
                              rw [if_pos c147] at H
                              exact absurd (H.trans (congrArg some hrT)) (by simp)
                             ·
                              rw [if_neg c147] at H
                              have c147b0 : decide ((rd (rd_L2 t248 x222_4) 2) < (rd (rd_L2 t248 x222_4) 3)) = false := decide_eq_false c147
                              clear c147
                              by_cases c149 : (rd (rd_L2 t248 x222_4) 3) < 0
                              ·
                               rw [if_pos c149] at H
                               exact absurd (H.trans (congrArg some hrT)) (by simp)
                              ·
                               rw [if_neg c149] at H
                               have c149b0 : decide ((rd (rd_L2 t248 x222_4) 3) < 0) = false := decide_eq_false c149
                               clear c149
                               by_cases c151 : x222_4 > 0
                               ·
                                rw [if_pos c151] at H
                                have c151b0 : decide (0 < x222_4) = true := decide_eq_true c151
                                clear c151
                                obtain ⟨ji152, hji152⟩ : ∃ j_ : Int, (wrap64 (x222_4 - 1)) = j_ := ⟨_, rfl⟩
                                replace H : (if 0 ≤ (ji152) then (if (ji152) < (t248.length : Int) then ((laws_vBefore.f k4 (rd_L2 t248 x222_4) (rd_L2 t248 (ji152))).bind fun t302 => (if t302 = true then (laws_FnFourSquaresCounted.l0 k4 t247 t248 t248 (t248.length : Int) (wrap64 (x222_4 + 1))) else (some false))) else (none)) else (none)) = some r := by first | (rw [hji152] at H; exact H) | (simp only [hji152] at H ⊢; exact H)
                                (try rw [hji152] at A137)
                                have hji152w : (IntKind.i64.wrap (x222_4 - 1)) = ji152 := (i64_w _).trans hji152
                                by_cases c153 : 0 ≤ (ji152)
                                ·
                                 rw [if_pos c153] at H
                                 have c153b0 : decide (0 ≤ (ji152)) = true := decide_eq_true c153
                                 clear c153
                                 by_cases c154 : (ji152) < (t248.length : Int)
                                 ·
                                  rw [if_pos c154] at H
                                  have c154b0 : decide ((ji152) < (t248.length : Int)) = true := decide_eq_true c154
                                  clear c154
                                  replace H := Option.bind_eq_some_iff.mp H
                                  obtain ⟨t302, A1550, H⟩ := H
                                  replace H : (if t302 = true then (laws_FnFourSquaresCounted.l0 k4 t247 t248 t248 (t248.length : Int) (wrap64 (x222_4 + 1))) else (some false)) = some r := H
                                  have A155 := Aside0.mk A1550
                                  clear A1550
                                  by_cases c156 : t302 = true
                                  ·
                                   subst c156
                                   have H1 : (laws_FnFourSquaresCounted.l0 k4 t247 t248 t248 (t248.length : Int) (wrap64 (x222_4 + 1))) = some r := by rw [if_pos rfl] at H; exact H
                                   clear H
                                   have H := H1
                                   clear H1
                                   have H' := Aside0.mk H
                                   clear H
                                   have p292 : 0 ≤ (x222_4 : Int) := of_decide_eq_true (by first | (with_reducible assumption) | assumption)
                                   have q292 : x222_4 < (t248.length : Int) := of_decide_eq_true (by first | (with_reducible assumption) | assumption)
                                   obtain ⟨ad292, A292_0, c292_0, e292, hx292_0, hl292_0, hi292_0⟩ := at_L2 (Kd.S_reads' HO_220.out).2.2 x222_4 p292 q292
                                   cases e292
                                   obtain ⟨ce292, hce292, hMe292, hcc292⟩ := Kd.S_get HO_220.out [] x222_4 p292 (by first | exact q292 | exact of_decide_eq_true (by first | (with_reducible assumption) | assumption) | (have e_ := (Kd.S_reads' HO_220.out).1; omega))
                                   obtain ⟨ve292_0, rfl, ge292_0⟩ := hMe292
                                   have hv292_0 := hcc292 0 _ rfl
                                   rw [Nat.add_zero, show ((Kd.slice 3 (Kd.int .i64))).sz = 1 from rfl, Nat.mul_one] at hv292_0
                                   replace hv292_0 := Option.some.inj (hv292_0.symm.trans hx292_0)
                                   rw [hv292_0] at ge292_0
                                   have HL292_0 := Aside0.mk (show Kd.R (Kd.int .i64) 3 _ _ _ _ (rd_L2 t248 x222_4) from ge292_0)
                                   clear hv292_0 ge292_0
                                   clear hcc292 hce292
                                   have HR292_0 := Aside0.mk hi292_0
                                   have HC292_0 := Aside0.mk hl292_0
                                   clear hi292_0 hl292_0
                                   replace p292 := eq_true p292
                                   replace q292 := eq_true q292
                                   try go_wp2
                                   have n0_ := Aside0.mk (Kd.S_drew HO_6.out)
                                   have n1_ := Aside0.mk (Kd.S_drew HO_220.out)
                                   have n2_ := Aside0.mk (Kd.R_drew HL292_0.out)
                                   have n3_ := Aside0.mk (Kd.C_drew HR292_0.out)
                                   have n4_ := Aside0.mk (below_drew1 HB.out)
                                   clear HO_6
                                   clear HO_220
                                   clear HL292_0
                                   clear HR292_0
                                   clear HB
                                   have HO_6 := n0_
                                   have HO_220 := n1_
                                   have HL292_0 := n2_
                                   have HR292_0 := n3_
                                   have HB := n4_
                                   clear n0_ n1_ n2_ n3_ n4_
                                   have p301 : 0 ≤ ((ji152) : Int) := of_decide_eq_true (by first | (with_reducible assumption) | assumption)
                                   have q301 : (ji152) < (t248.length : Int) := of_decide_eq_true (by first | (with_reducible assumption) | assumption)
                                   obtain ⟨ad301, A301_0, c301_0, e301, hx301_0, hl301_0, hi301_0⟩ := at_L2 (Kd.S_reads' HO_6.out).2.2 (ji152) p301 q301
                                   obtain rfl : ad292 = ad301 := (by injection e301)
                                   obtain ⟨ce301, hce301, hMe301, hcc301⟩ := Kd.S_get HO_6.out [] (ji152) p301 (by first | exact q301 | exact of_decide_eq_true (by first | (with_reducible assumption) | assumption) | (have e_ := (Kd.S_reads' HO_6.out).1; omega))
                                   obtain ⟨ve301_0, rfl, ge301_0⟩ := hMe301
                                   have hv301_0 := hcc301 0 _ rfl
                                   rw [Nat.add_zero, show ((Kd.slice 3 (Kd.int .i64))).sz = 1 from rfl, Nat.mul_one] at hv301_0
                                   replace hv301_0 := Option.some.inj (hv301_0.symm.trans hx301_0)
                                   rw [hv301_0] at ge301_0
                                   have HL301_0 := Aside0.mk (show Kd.R (Kd.int .i64) 3 _ _ _ _ (rd_L2 t248 (ji152)) from ge301_0)
                                   clear hv301_0 ge301_0
                                   clear hcc301 hce301
                                   have HR301_0 := Aside0.mk hi301_0
                                   have HC301_0 := Aside0.mk hl301_0
                                   clear hi301_0 hl301_0
                                   replace p301 := eq_true p301
                                   replace q301 := eq_true q301
                                   have p294 : 0 ≤ (0 : Int) := (by omega)
                                   have q294 : 0 < ((rd_L2 t248 x222_4).length : Int) := of_decide_eq_true (by first | (with_reducible assumption) | assumption)
                                   obtain ⟨ad294, e294, hx294_0⟩ := Kd.at_int (by repeat (first | (with_reducible exact HR292_0.out) | (with_reducible refine Kd.C_alloc ?_ _) | (with_reducible refine Kd.C_drewN ?_ _) | (with_reducible refine Kd.C_drew ?_) | exact HR292_0.out)) 0 p294 q294
                                   cases e294
                                   have qi294 : (0 < (rd_L2 t248 x222_4).length) = True := eq_true (by omega)
                                   (try rw [show ((0 : Int)).toNat = 0 from rfl] at hx294_0)
                                   (try rw [Addr.add_zero'] at hx294_0)
                                   replace p294 := eq_true p294
                                   replace q294 := eq_true q294
                                   have p295 : 0 ≤ (1 : Int) := (by omega)
                                   have q295 : 1 < ((rd_L2 t248 x222_4).length : Int) := of_decide_eq_true (by first | (with_reducible assumption) | assumption)
                                   obtain ⟨ad295, e295, hx295_0⟩ := Kd.at_int (by repeat (first | (with_reducible exact HR292_0.out) | (with_reducible refine Kd.C_alloc ?_ _) | (with_reducible refine Kd.C_drewN ?_ _) | (with_reducible refine Kd.C_drew ?_) | exact HR292_0.out)) 1 p295 q295
                                   obtain rfl : ad294 = ad295 := (by injection e295)
                                   (try simp only [show (1 : Int).toNat = 1 from rfl, Nat.reduceMul, Nat.reduceEqDiff, Go.Addr.add, ↓reduceIte] at hx295_0)
                                   have qi295 : (1 < (rd_L2 t248 x222_4).length) = True := eq_true (by omega)
                                   (try rw [show ((1 : Int)).toNat = 1 from rfl] at hx295_0)
                                   replace p295 := eq_true p295
                                   replace q295 := eq_true q295
                                   have p296 : 0 ≤ (1 : Int) := (by omega)
                                   have q296 : 1 < ((rd_L2 t248 x222_4).length : Int) := of_decide_eq_true (by first | (with_reducible assumption) | assumption)
                                   obtain ⟨ad296, e296, hx296_0⟩ := Kd.at_int (by repeat (first | (with_reducible exact HR292_0.out) | (with_reducible refine Kd.C_alloc ?_ _) | (with_reducible refine Kd.C_drewN ?_ _) | (with_reducible refine Kd.C_drew ?_) | exact HR292_0.out)) 1 p296 q296
                                   obtain rfl : ad294 = ad296 := (by injection e296)
                                   (try simp only [show (1 : Int).toNat = 1 from rfl, Nat.reduceMul, Nat.reduceEqDiff, Go.Addr.add, ↓reduceIte] at hx296_0)
                                   have qi296 : (1 < (rd_L2 t248 x222_4).length) = True := eq_true (by omega)
                                   (try rw [show ((1 : Int)).toNat = 1 from rfl] at hx296_0)
                                   replace p296 := eq_true p296
                                   replace q296 := eq_true q296
                                   have p297 : 0 ≤ (2 : Int) := (by omega)
                                   have q297 : 2 < ((rd_L2 t248 x222_4).length : Int) := of_decide_eq_true (by first | (with_reducible assumption) | assumption)
                                   obtain ⟨ad297, e297, hx297_0⟩ := Kd.at_int (by repeat (first | (with_reducible exact HR292_0.out) | (with_reducible refine Kd.C_alloc ?_ _) | (with_reducible refine Kd.C_drewN ?_ _) | (with_reducible refine Kd.C_drew ?_) | exact HR292_0.out)) 2 p297 q297
                                   obtain rfl : ad294 = ad297 := (by injection e297)
                                   (try simp only [show (2 : Int).toNat = 2 from rfl, Nat.reduceMul, Nat.reduceEqDiff, Go.Addr.add, ↓reduceIte] at hx297_0)
                                   have qi297 : (2 < (rd_L2 t248 x222_4).length) = True := eq_true (by omega)
                                   (try rw [show ((2 : Int)).toNat = 2 from rfl] at hx297_0)
                                   replace p297 := eq_true p297
                                   replace q297 := eq_true q297
                                   have p298 : 0 ≤ (2 : Int) := (by omega)
                                   have q298 : 2 < ((rd_L2 t248 x222_4).length : Int) := of_decide_eq_true (by first | (with_reducible assumption) | assumption)
                                   obtain ⟨ad298, e298, hx298_0⟩ := Kd.at_int (by repeat (first | (with_reducible exact HR292_0.out) | (with_reducible refine Kd.C_alloc ?_ _) | (with_reducible refine Kd.C_drewN ?_ _) | (with_reducible refine Kd.C_drew ?_) | exact HR292_0.out)) 2 p298 q298
                                   obtain rfl : ad294 = ad298 := (by injection e298)
                                   (try simp only [show (2 : Int).toNat = 2 from rfl, Nat.reduceMul, Nat.reduceEqDiff, Go.Addr.add, ↓reduceIte] at hx298_0)
                                   have qi298 : (2 < (rd_L2 t248 x222_4).length) = True := eq_true (by omega)
                                   (try rw [show ((2 : Int)).toNat = 2 from rfl] at hx298_0)
                                   replace p298 := eq_true p298
                                   replace q298 := eq_true q298
                                   have p299 : 0 ≤ (3 : Int) := (by omega)
                                   have q299 : 3 < ((rd_L2 t248 x222_4).length : Int) := of_decide_eq_true (by first | (with_reducible assumption) | assumption)
                                   obtain ⟨ad299, e299, hx299_0⟩ := Kd.at_int (by repeat (first | (with_reducible exact HR292_0.out) | (with_reducible refine Kd.C_alloc ?_ _) | (with_reducible refine Kd.C_drewN ?_ _) | (with_reducible refine Kd.C_drew ?_) | exact HR292_0.out)) 3 p299 q299
                                   obtain rfl : ad294 = ad299 := (by injection e299)
                                   (try simp only [show (3 : Int).toNat = 3 from rfl, Nat.reduceMul, Nat.reduceEqDiff, Go.Addr.add, ↓reduceIte] at hx299_0)
                                   have qi299 : (3 < (rd_L2 t248 x222_4).length) = True := eq_true (by omega)
                                   (try rw [show ((3 : Int)).toNat = 3 from rfl] at hx299_0)
                                   replace p299 := eq_true p299
                                   replace q299 := eq_true q299
                                   have p300 : 0 ≤ (3 : Int) := (by omega)
                                   have q300 : 3 < ((rd_L2 t248 x222_4).length : Int) := of_decide_eq_true (by first | (with_reducible assumption) | assumption)
                                   obtain ⟨ad300, e300, hx300_0⟩ := Kd.at_int (by repeat (first | (with_reducible exact HR292_0.out) | (with_reducible refine Kd.C_alloc ?_ _) | (with_reducible refine Kd.C_drewN ?_ _) | (with_reducible refine Kd.C_drew ?_) | exact HR292_0.out)) 3 p300 q300
                                   obtain rfl : ad294 = ad300 := (by injection e300)
                                   (try simp only [show (3 : Int).toNat = 3 from rfl, Nat.reduceMul, Nat.reduceEqDiff, Go.Addr.add, ↓reduceIte] at hx300_0)
                                   have qi300 : (3 < (rd_L2 t248 x222_4).length) = True := eq_true (by omega)
                                   (try rw [show ((3 : Int)).toNat = 3 from rfl] at hx300_0)
                                   replace p300 := eq_true p300
                                   replace q300 := eq_true q300
                                   refine start_ (n := 56) (S := fun w' => w'.cell? ad294 = some (.int .i64 (rd (rd_L2 t248 x222_4) 0)) ∧ w'.cell? ⟨ad294.block, ad294.off + 1, none⟩ = some (.int .i64 (rd (rd_L2 t248 x222_4) 1)) ∧ w'.cell? ⟨ad294.block, ad294.off + 1, none⟩ = some (.int .i64 (rd (rd_L2 t248 x222_4) 1)) ∧ w'.cell? ⟨ad294.block, ad294.off + 2, none⟩ = some (.int .i64 (rd (rd_L2 t248 x222_4) 2)) ∧ w'.cell? ⟨ad294.block, ad294.off + 2, none⟩ = some (.int .i64 (rd (rd_L2 t248 x222_4) 2)) ∧ w'.cell? ⟨ad294.block, ad294.off + 3, none⟩ = some (.int .i64 (rd (rd_L2 t248 x222_4) 3)) ∧ w'.cell? ⟨ad294.block, ad294.off + 3, none⟩ = some (.int .i64 (rd (rd_L2 t248 x222_4) 3)) ∧ w'.cell? (ad292.add ((ji152)).toNat) = some (.slice A301_0 (rd_L2 t248 (ji152)).length c301_0)) (ds := []) #[false, false, false, false, false, false, false, false, false, false, false, false, false, false, false, false, false, false, false, false, false, false, false, false, false, false, false, false, false, false, false, false, false, false, false, false, false, false, false, false, false, false, false, false, false, false, false, false, false, false, false, false, false, false, false, false] (by kernel_rfl) rfl rfl ⟨hx294_0, hx295_0, hx296_0, hx297_0, hx298_0, hx299_0, hx300_0, hx301_0⟩ (fun hHeld => ?_); refine with_tabW laws_FnFourSquaresCounted.tab28 laws_FnFourSquaresCounted.bits28 (fun HT_ HW_ => ?_)
                                   generalize wr.drew = w157 at HO_6 HO_220 HL292_0 HR292_0 HB HL301_0 HR301_0 hx301_0 hHeld ⊢
                                   refine pure_ (i := 0) (N := some 227) (v := ?_) (a' := ?_) #[true, false, false, false, false, false, false, false, false, false, false, false, false, false, false, false, false, false, false, false, false, false, false, false, false, false, false, false, false, false, false, false, false, false, false, false, false, false, false, false, false, false, false, false, false, false, false, false, false, false, false, false, false, false, false, false] rfl rfl (any_of HT_.out (by kernel_rfl)) (fun _ _ _ h => h) (Or.inl ⟨by rfl, ?_⟩) ?_ ?_
                                   rotate_left
                                   ·
                                    intro w'
                                    go_simp
                                    with_reducible rfl
                                   rotate_left
                                   ·
                                    simp only [Act.put, List.setIfInBounds_toArray, List.set_cons_zero, List.set_cons_succ, i64_w, i32_w]
                                    rfl
                                   refine pure_ (i := 1) (N := some 228) (v := ?_) (a' := ?_) #[true, true, false, false, false, false, false, false, false, false, false, false, false, false, false, false, false, false, false, false, false, false, false, false, false, false, false, false, false, false, false, false, false, false, false, false, false, false, false, false, false, false, false, false, false, false, false, false, false, false, false, false, false, false, false, false] rfl rfl (any_of HT_.out (by kernel_rfl)) (fun _ _ _ h => h) (Or.inl ⟨by rfl, ?_⟩) ?_ ?_
                                   rotate_left
                                   ·
                                    intro w'
                                    go_simp
                                    with_reducible rfl
                                   rotate_left
                                   ·
                                    simp only [Act.put, List.setIfInBounds_toArray, List.set_cons_zero, List.set_cons_succ, i64_w, i32_w]
                                    rfl
                                   refine pure_ (i := 2) (N := some 229) (v := ?_) (a' := ?_) #[true, true, true, false, false, false, false, false, false, false, false, false, false, false, false, false, false, false, false, false, false, false, false, false, false, false, false, false, false, false, false, false, false, false, false, false, false, false, false, false, false, false, false, false, false, false, false, false, false, false, false, false, false, false, false, false] rfl rfl (any_of HT_.out (by kernel_rfl)) (fun _ _ _ h => h) (Or.inl ⟨by rfl, ?_⟩) ?_ ?_
                                   rotate_left
                                   ·
                                    intro w'
                                    go_simp
                                    with_reducible rfl
                                   rotate_left
                                   ·
                                    simp only [Act.put, List.setIfInBounds_toArray, List.set_cons_zero, List.set_cons_succ, i64_w, i32_w]
                                    rfl
                                   refine pure_ (i := 3) (N := some 230) (v := ?_) (a' := ?_) #[true, true, true, true, false, false, false, false, false, false, false, false, false, false, false, false, false, false, false, false, false, false, false, false, false, false, false, false, false, false, false, false, false, false, false, false, false, false, false, false, false, false, false, false, false, false, false, false, false, false, false, false, false, false, false, false] rfl rfl (any_of HT_.out (by kernel_rfl)) (fun _ _ _ h => h) (Or.inl ⟨by rfl, ?_⟩) ?_ ?_
                                   rotate_left
                                   ·
                                    intro w'
                                    go_simp
                                    with_reducible rfl
                                   rotate_left
                                   ·
                                    simp only [Act.put, List.setIfInBounds_toArray, List.set_cons_zero, List.set_cons_succ, i64_w, i32_w]
                                    rfl
                                   refine pure_ (i := 4) (N := some 231) (v := ?_) (a' := ?_) #[true, true, true, true, true, false, false, false, false, false, false, false, false, false, false, false, false, false, false, false, false, false, false, false, false, false, false, false, false, false, false, false, false, false, false, false, false, false, false, false, false, false, false, false, false, false, false, false, false, false, false, false, false, false, false, false] rfl rfl (any_of HT_.out (by kernel_rfl)) (fun _ _ _ h => h) (Or.inl ⟨by rfl, ?_⟩) ?_ ?_
                                   rotate_left
                                   ·
                                    intro w'
                                    go_simp
                                    with_reducible rfl
                                   rotate_left
                                   ·
                                    simp only [Act.put, List.setIfInBounds_toArray, List.set_cons_zero, List.set_cons_succ, i64_w, i32_w]
                                    rfl
                                   refine pure_ (i := 6) (N := some 233) (v := ?_) (a' := ?_) #[true, true, true, true, true, false, true, false, false, false, false, false, false, false, false, false, false, false, false, false, false, false, false, false, false, false, false, false, false, false, false, false, false, false, false, false, false, false, false, false, false, false, false, false, false, false, false, false, false, false, false, false, false, false, false, false] rfl rfl (any_of HT_.out (by kernel_rfl)) (fun _ _ _ h => h) (Or.inl ⟨by rfl, ?_⟩) ?_ ?_
                                   rotate_left
                                   ·
                                    intro w'
                                    go_simp
                                    with_reducible rfl
                                   rotate_left
                                   ·
                                    simp only [Act.put, List.setIfInBounds_toArray, List.set_cons_zero, List.set_cons_succ, i64_w, i32_w]
                                    rfl
                                   refine one_ (i := 5) (N := some 232) #[true, true, true, true, true, true, true, false, false, false, false, false, false, false, false, false, false, false, false, false, false, false, false, false, false, false, false, false, false, false, false, false, false, false, false, false, false, false, false, false, false, false, false, false, false, false, false, false, false, false, false, false, false, false, false, false] rfl rfl (one_of HT_.out (by kernel_rfl)) (by decide) (fun K hK => ?_)
                                   refine goes_ Try.func32 (by kernel_rfl) rfl #[.slice (some ad294) (rd_L2 t248 x222_4).length c292_0] (by rfl) rfl rfl (by (try simp only [List.map_toArray, List.map_cons, List.map_nil]); first | done | rfl | (simp only [List.length_drop, List.length_take]; rfl)) ?_
                                   with_reducible refine (laws_vSquares.calls k4 _ _ (rd_L2 t248 x222_4) t293 _ ?side1 ?side2 A137.out).mono ?_
                                   (case side1 => repeat (first | exact (by repeat (first | (with_reducible exact HR292_0.out) | (with_reducible refine Kd.C_alloc ?_ _) | (with_reducible refine Kd.C_drewN ?_ _) | (with_reducible refine Kd.C_drew ?_) | exact HR292_0.out)) | (with_reducible refine Kd.C_alloc ?_ _) | (with_reducible refine Kd.C_drewN ?_ _) | (with_reducible refine Kd.C_drew ?_)))
                                   (case side2 => exact HC292_0.out)
                                   rintro e w' ⟨rfl, ⟨nd, rfl⟩⟩
                                   refine ⟨_, rfl, ?_⟩
                                   refine hK.out _ _ ⟨hHeld.1, hHeld.2.1, hHeld.2.2.1, hHeld.2.2.2.1, hHeld.2.2.2.2.1, hHeld.2.2.2.2.2.1, hHeld.2.2.2.2.2.2.1, hHeld.2.2.2.2.2.2.2⟩ (fun hHeld => ?_)
                                   clear hK K
                                   refine norm_ (a' := ?_) ?_ ?_
                                   rotate_left
                                   ·
                                    show Act.put _ (some 232) _ = _
                                    simp only [Act.put, List.setIfInBounds_toArray, List.set_cons_zero, List.set_cons_succ, i64_w, i32_w]
                                    rfl
                                   refine pure_ (i := 7) (N := some 234) (v := ?_) (a' := ?_) #[true, true, true, true, true, true, true, true, false, false, false, false, false, false, false, false, false, false, false, false, false, false, false, false, false, false, false, false, false, false, false, false, false, false, false, false, false, false, false, false, false, false, false, false, false, false, false, false, false, false, false, false, false, false, false, false] rfl rfl (any_of HT_.out (by kernel_rfl)) (fun _ _ _ h => h) (Or.inl ⟨by rfl, ?_⟩) ?_ ?_
                                   rotate_left
                                   ·
                                    intro w'
                                    go_simp
                                    with_reducible rfl
                                   rotate_left
                                   ·
                                    simp only [Act.put, List.setIfInBounds_toArray, List.set_cons_zero, List.set_cons_succ, i64_w, i32_w]
                                    rfl
                                   refine pure_ (i := 8) (N := some 235) (v := ?_) (a' := ?_) #[true, true, true, true, true, true, true, true, true, false, false, false, false, false, false, false, false, false, false, false, false, false, false, false, false, false, false, false, false, false, false, false, false, false, false, false, false, false, false, false, false, false, false, false, false, false, false, false, false, false, false, false, false, false, false, false] rfl rfl (any_of HT_.out (by kernel_rfl)) (fun _ _ _ h => h) (Or.inl ⟨by rfl, ?_⟩) ?_ ?_
                                   rotate_left
                                   ·
                                    intro w'
                                    go_simp
                                    with_reducible rfl
                                   rotate_left
                                   ·
                                    simp only [Act.put, List.setIfInBounds_toArray, List.set_cons_zero, List.set_cons_succ, i64_w, i32_w]
                                    rfl
                                   refine pure_ (i := 9) (N := some 236) (v := ?_) (a' := ?_) #[true, true, true, true, true, true, true, true, true, true, false, false, false, false, false, false, false, false, false, false, false, false, false, false, false, false, false, false, false, false, false, false, false, false, false, false, false, false, false, false, false, false, false, false, false, false, false, false, false, false, false, false, false, false, false, false] rfl rfl (any_of HT_.out (by kernel_rfl)) (fun _ _ _ h => h) (Or.inl ⟨by rfl, ?_⟩) ?_ ?_
                                   rotate_left
                                   ·
                                    intro w'
                                    go_simp
                                    with_reducible rfl
                                   rotate_left
                                   ·
                                    simp only [Act.put, List.setIfInBounds_toArray, List.set_cons_zero, List.set_cons_succ, i64_w, i32_w]
                                    rfl
                                   refine pure_ (i := 10) (N := some 237) (v := ?_) (a' := ?_) #[true, true, true, true, true, true, true, true, true, true, true, false, false, false, false, false, false, false, false, false, false, false, false, false, false, false, false, false, false, false, false, false, false, false, false, false, false, false, false, false, false, false, false, false, false, false, false, false, false, false, false, false, false, false, false, false] rfl rfl (any_of HT_.out (by kernel_rfl)) (fun _ _ _ h => h) (Or.inl ⟨by rfl, ?_⟩) ?_ ?_
                                   rotate_left
                                   ·
                                    intro w'
                                    go_simp
                                    with_reducible rfl
                                   rotate_left
                                   ·
                                    simp only [Act.put, List.setIfInBounds_toArray, List.set_cons_zero, List.set_cons_succ, i64_w, i32_w]
                                    rfl
                                   refine pure_ (i := 11) (N := some 238) (v := ?_) (a' := ?_) #[true, true, true, true, true, true, true, true, true, true, true, true, false, false, false, false, false, false, false, false, false, false, false, false, false, false, false, false, false, false, false, false, false, false, false, false, false, false, false, false, false, false, false, false, false, false, false, false, false, false, false, false, false, false, false, false] rfl rfl (any_of HT_.out (by kernel_rfl)) (fun _ _ _ h => h) (Or.inl ⟨by rfl, ?_⟩) ?_ ?_
                                   rotate_left
                                   ·
                                    intro w'
                                    go_simp
                                    with_reducible rfl
                                   rotate_left
                                   ·
                                    simp only [Act.put, List.setIfInBounds_toArray, List.set_cons_zero, List.set_cons_succ, i64_w, i32_w]
                                    rfl
                                   refine pure_ (i := 13) (N := some 240) (v := ?_) (a' := ?_) #[true, true, true, true, true, true, true, true, true, true, true, true, false, true, false, false, false, false, false, false, false, false, false, false, false, false, false, false, false, false, false, false, false, false, false, false, false, false, false, false, false, false, false, false, false, false, false, false, false, false, false, false, false, false, false, false] rfl rfl (any_of HT_.out (by kernel_rfl)) (fun _ _ _ h => h) (Or.inl ⟨by rfl, ?_⟩) ?_ ?_
                                   rotate_left
                                   ·
                                    intro w'
                                    go_simp
                                    with_reducible rfl
                                   rotate_left
                                   ·
                                    simp only [Act.put, List.setIfInBounds_toArray, List.set_cons_zero, List.set_cons_succ, i64_w, i32_w]
                                    rfl
                                   refine pure_ (i := 14) (N := some 241) (v := ?_) (a' := ?_) #[true, true, true, true, true, true, true, true, true, true, true, true, false, true, true, false, false, false, false, false, false, false, false, false, false, false, false, false, false, false, false, false, false, false, false, false, false, false, false, false, false, false, false, false, false, false, false, false, false, false, false, false, false, false, false, false] rfl rfl (any_of HT_.out (by kernel_rfl)) (fun _ _ _ h => h) (Or.inl ⟨by rfl, ?_⟩) ?_ ?_
                                   rotate_left
                                   ·
                                    intro w'
                                    go_simp
                                    with_reducible rfl
                                   rotate_left
                                   ·
                                    simp only [Act.put, List.setIfInBounds_toArray, List.set_cons_zero, List.set_cons_succ, i64_w, i32_w]
                                    rfl
                                   refine take_ (i := 12) (N := some 239) (v := ?_) (a' := ?_) #[true, true, true, true, true, true, true, true, true, true, true, true, true, true, true, false, false, false, false, false, false, false, false, false, false, false, false, false, false, false, false, false, false, false, false, false, false, false, false, false, false, false, false, false, false, false, false, false, false, false, false, false, false, false, false, false] rfl rfl (take_ofW HT_.out HW_.out (by kernel_rfl)) (fun _ _ _ h => h) (Or.inl ⟨by rfl, ?_⟩) hHeld ?_ ?_
                                   rotate_left
                                   ·
                                    rintro w' ⟨s0, s1, s2, s3, s4, s5, s6, s7⟩
                                    go_simp
                                    with_reducible rfl
                                   rotate_left
                                   ·
                                    simp only [Act.put, List.setIfInBounds_toArray, List.set_cons_zero, List.set_cons_succ, i64_w, i32_w]
                                    rfl
                                   refine take_ (i := 15) (N := some 242) (v := ?_) (a' := ?_) #[true, true, true, true, true, true, true, true, true, true, true, true, true, true, true, true, false, false, false, false, false, false, false, false, false, false, false, false, false, false, false, false, false, false, false, false, false, false, false, false, false, false, false, false, false, false, false, false, false, false, false, false, false, false, false, false] rfl rfl (take_ofW HT_.out HW_.out (by kernel_rfl)) (fun _ _ _ h => h) (Or.inl ⟨by rfl, ?_⟩) hHeld ?_ ?_
                                   rotate_left
                                   ·
                                    rintro w' ⟨s0, s1, s2, s3, s4, s5, s6, s7⟩
                                    go_simp
                                    with_reducible rfl
                                   rotate_left
                                   ·
                                    simp only [Act.put, List.setIfInBounds_toArray, List.set_cons_zero, List.set_cons_succ, i64_w, i32_w]
                                    rfl
                                   refine pure_ (i := 16) (N := some 243) (v := ?_) (a' := ?_) #[true, true, true, true, true, true, true, true, true, true, true, true, true, true, true, true, true, false, false, false, false, false, false, false, false, false, false, false, false, false, false, false, false, false, false, false, false, false, false, false, false, false, false, false, false, false, false, false, false, false, false, false, false, false, false, false] rfl rfl (any_of HT_.out (by kernel_rfl)) (fun _ _ _ h => h) (Or.inl ⟨by rfl, ?_⟩) ?_ ?_
                                   rotate_left
                                   ·
                                    intro w'
                                    go_simp
                                    with_reducible rfl
                                   rotate_left
                                   ·
                                    simp only [Act.put, List.setIfInBounds_toArray, List.set_cons_zero, List.set_cons_succ, i64_w, i32_w]
                                    rfl
                                   refine pure_ (i := 17) (N := some 244) (v := ?_) (a' := ?_) #[true, true, true, true, true, true, true, true, true, true, true, true, true, true, true, true, true, true, false, false, false, false, false, false, false, false, false, false, false, false, false, false, false, false, false, false, false, false, false, false, false, false, false, false, false, false, false, false, false, false, false, false, false, false, false, false] rfl rfl (any_of HT_.out (by kernel_rfl)) (fun _ _ _ h => h) (Or.inl ⟨by rfl, ?_⟩) ?_ ?_
                                   rotate_left
                                   ·
                                    intro w'
                                    go_simp
                                    with_reducible rfl
                                   rotate_left
                                   ·
                                    simp only [Act.put, List.setIfInBounds_toArray, List.set_cons_zero, List.set_cons_succ, i64_w, i32_w]
                                    rfl
                                   refine pure_ (i := 18) (N := some 245) (v := ?_) (a' := ?_) #[true, true, true, true, true, true, true, true, true, true, true, true, true, true, true, true, true, true, true, false, false, false, false, false, false, false, false, false, false, false, false, false, false, false, false, false, false, false, false, false, false, false, false, false, false, false, false, false, false, false, false, false, false, false, false, false] rfl rfl (any_of HT_.out (by kernel_rfl)) (fun _ _ _ h => h) (Or.inl ⟨by rfl, ?_⟩) ?_ ?_
                                   rotate_left
                                   ·
                                    intro w'
                                    go_simp
                                    with_reducible rfl
                                   rotate_left
                                   ·
                                    simp only [Act.put, List.setIfInBounds_toArray, List.set_cons_zero, List.set_cons_succ, i64_w, i32_w]
                                    rfl
                                   refine pure_ (i := 19) (N := some 246) (v := ?_) (a' := ?_) #[true, true, true, true, true, true, true, true, true, true, true, true, true, true, true, true, true, true, true, true, false, false, false, false, false, false, false, false, false, false, false, false, false, false, false, false, false, false, false, false, false, false, false, false, false, false, false, false, false, false, false, false, false, false, false, false] rfl rfl (any_of HT_.out (by kernel_rfl)) (fun _ _ _ h => h) (Or.inl ⟨by rfl, ?_⟩) ?_ ?_
                                   rotate_left
                                   ·
                                    intro w'
                                    go_simp
                                    with_reducible rfl
                                   rotate_left
                                   ·
                                    simp only [Act.put, List.setIfInBounds_toArray, List.set_cons_zero, List.set_cons_succ, i64_w, i32_w]
                                    rfl
                                   refine pure_ (i := 20) (N := some 247) (v := ?_) (a' := ?_) #[true, true, true, true, true, true, true, true, true, true, true, true, true, true, true, true, true, true, true, true, true, false, false, false, false, false, false, false, false, false, false, false, false, false, false, false, false, false, false, false, false, false, false, false, false, false, false, false, false, false, false, false, false, false, false, false] rfl rfl (any_of HT_.out (by kernel_rfl)) (fun _ _ _ h => h) (Or.inl ⟨by rfl, ?_⟩) ?_ ?_
                                   rotate_left
                                   ·
                                    intro w'
                                    go_simp
                                    with_reducible rfl
                                   rotate_left
                                   ·
                                    simp only [Act.put, List.setIfInBounds_toArray, List.set_cons_zero, List.set_cons_succ, i64_w, i32_w]
                                    rfl
                                   refine pure_ (i := 22) (N := some 249) (v := ?_) (a' := ?_) #[true, true, true, true, true, true, true, true, true, true, true, true, true, true, true, true, true, true, true, true, true, false, true, false, false, false, false, false, false, false, false, false, false, false, false, false, false, false, false, false, false, false, false, false, false, false, false, false, false, false, false, false, false, false, false, false] rfl rfl (any_of HT_.out (by kernel_rfl)) (fun _ _ _ h => h) (Or.inl ⟨by rfl, ?_⟩) ?_ ?_
                                   rotate_left
                                   ·
                                    intro w'
                                    go_simp
                                    with_reducible rfl
                                   rotate_left
                                   ·
                                    simp only [Act.put, List.setIfInBounds_toArray, List.set_cons_zero, List.set_cons_succ, i64_w, i32_w]
                                    rfl
                                   refine pure_ (i := 23) (N := some 250) (v := ?_) (a' := ?_) #[true, true, true, true, true, true, true, true, true, true, true, true, true, true, true, true, true, true, true, true, true, false, true, true, false, false, false, false, false, false, false, false, false, false, false, false, false, false, false, false, false, false, false, false, false, false, false, false, false, false, false, false, false, false, false, false] rfl rfl (any_of HT_.out (by kernel_rfl)) (fun _ _ _ h => h) (Or.inl ⟨by rfl, ?_⟩) ?_ ?_
                                   rotate_left
                                   ·
                                    intro w'
                                    go_simp
                                    with_reducible rfl
                                   rotate_left
                                   ·
                                    simp only [Act.put, List.setIfInBounds_toArray, List.set_cons_zero, List.set_cons_succ, i64_w, i32_w]
                                    rfl
                                   refine take_ (i := 21) (N := some 248) (v := ?_) (a' := ?_) #[true, true, true, true, true, true, true, true, true, true, true, true, true, true, true, true, true, true, true, true, true, true, true, true, false, false, false, false, false, false, false, false, false, false, false, false, false, false, false, false, false, false, false, false, false, false, false, false, false, false, false, false, false, false, false, false] rfl rfl (take_ofW HT_.out HW_.out (by kernel_rfl)) (fun _ _ _ h => h) (Or.inl ⟨by rfl, ?_⟩) hHeld ?_ ?_
                                   rotate_left
                                   ·
                                    rintro w' ⟨s0, s1, s2, s3, s4, s5, s6, s7⟩
                                    go_simp
                                    with_reducible rfl
                                   rotate_left
                                   ·
                                    simp only [Act.put, List.setIfInBounds_toArray, List.set_cons_zero, List.set_cons_succ, i64_w, i32_w]
                                    rfl
                                   refine take_ (i := 24) (N := some 251) (v := ?_) (a' := ?_) #[true, true, true, true, true, true, true, true, true, true, true, true, true, true, true, true, true, true, true, true, true, true, true, true, true, false, false, false, false, false, false, false, false, false, false, false, false, false, false, false, false, false, false, false, false, false, false, false, false, false, false, false, false, false, false, false] rfl rfl (take_ofW HT_.out HW_.out (by kernel_rfl)) (fun _ _ _ h => h) (Or.inl ⟨by rfl, ?_⟩) hHeld ?_ ?_
                                   rotate_left
                                   ·
                                    rintro w' ⟨s0, s1, s2, s3, s4, s5, s6, s7⟩
                                    go_simp
                                    with_reducible rfl
                                   rotate_left
                                   ·
                                    simp only [Act.put, List.setIfInBounds_toArray, List.set_cons_zero, List.set_cons_succ, i64_w, i32_w]
                                    rfl
                                   refine pure_ (i := 25) (N := some 252) (v := ?_) (a' := ?_) #[true, true, true, true, true, true, true, true, true, true, true, true, true, true, true, true, true, true, true, true, true, true, true, true, true, true, false, false, false, false, false, false, false, false, false, false, false, false, false, false, false, false, false, false, false, false, false, false, false, false, false, false, false, false, false, false] rfl rfl (any_of HT_.out (by kernel_rfl)) (fun _ _ _ h => h) (Or.inl ⟨by rfl, ?_⟩) ?_ ?_
                                   rotate_left
                                   ·
                                    intro w'
                                    go_simp
                                    with_reducible rfl
                                   rotate_left
                                   ·
                                    simp only [Act.put, List.setIfInBounds_toArray, List.set_cons_zero, List.set_cons_succ, i64_w, i32_w]
                                    rfl
                                   refine pure_ (i := 26) (N := some 253) (v := ?_) (a' := ?_) #[true, true, true, true, true, true, true, true, true, true, true, true, true, true, true, true, true, true, true, true, true, true, true, true, true, true, true, false, false, false, false, false, false, false, false, false, false, false, false, false, false, false, false, false, false, false, false, false, false, false, false, false, false, false, false, false] rfl rfl (any_of HT_.out (by kernel_rfl)) (fun _ _ _ h => h) (Or.inl ⟨by rfl, ?_⟩) ?_ ?_
                                   rotate_left
                                   ·
                                    intro w'
                                    go_simp
                                    with_reducible rfl
                                   rotate_left
                                   ·
                                    simp only [Act.put, List.setIfInBounds_toArray, List.set_cons_zero, List.set_cons_succ, i64_w, i32_w]
                                    rfl
                                   refine pure_ (i := 27) (N := some 254) (v := ?_) (a' := ?_) #[true, true, true, true, true, true, true, true, true, true, true, true, true, true, true, true, true, true, true, true, true, true, true, true, true, true, true, true, false, false, false, false, false, false, false, false, false, false, false, false, false, false, false, false, false, false, false, false, false, false, false, false, false, false, false, false] rfl rfl (any_of HT_.out (by kernel_rfl)) (fun _ _ _ h => h) (Or.inl ⟨by rfl, ?_⟩) ?_ ?_
                                   rotate_left
                                   ·
                                    intro w'
                                    go_simp
                                    with_reducible rfl
                                   rotate_left
                                   ·
                                    simp only [Act.put, List.setIfInBounds_toArray, List.set_cons_zero, List.set_cons_succ, i64_w, i32_w]
                                    rfl
                                   refine pure_ (i := 28) (N := some 255) (v := ?_) (a' := ?_) #[true, true, true, true, true, true, true, true, true, true, true, true, true, true, true, true, true, true, true, true, true, true, true, true, true, true, true, true, true, false, false, false, false, false, false, false, false, false, false, false, false, false, false, false, false, false, false, false, false, false, false, false, false, false, false, false] rfl rfl (any_of HT_.out (by kernel_rfl)) (fun _ _ _ h => h) (Or.inl ⟨by rfl, ?_⟩) ?_ ?_
                                   rotate_left
                                   ·
                                    intro w'
                                    go_simp
                                    with_reducible rfl
                                   rotate_left
                                   ·
                                    simp only [Act.put, List.setIfInBounds_toArray, List.set_cons_zero, List.set_cons_succ, i64_w, i32_w]
                                    rfl
                                   refine pure_ (i := 29) (N := some 256) (v := ?_) (a' := ?_) #[true, true, true, true, true, true, true, true, true, true, true, true, true, true, true, true, true, true, true, true, true, true, true, true, true, true, true, true, true, true, false, false, false, false, false, false, false, false, false, false, false, false, false, false, false, false, false, false, false, false, false, false, false, false, false, false] rfl rfl (any_of HT_.out (by kernel_rfl)) (fun _ _ _ h => h) (Or.inl ⟨by rfl, ?_⟩) ?_ ?_
                                   rotate_left
                                   ·
                                    intro w'
                                    go_simp
                                    with_reducible rfl
                                   rotate_left
                                   ·
                                    simp only [Act.put, List.setIfInBounds_toArray, List.set_cons_zero, List.set_cons_succ, i64_w, i32_w]
                                    rfl
                                   refine pure_ (i := 31) (N := some 258) (v := ?_) (a' := ?_) #[true, true, true, true, true, true, true, true, true, true, true, true, true, true, true, true, true, true, true, true, true, true, true, true, true, true, true, true, true, true, false, true, false, false, false, false, false, false, false, false, false, false, false, false, false, false, false, false, false, false, false, false, false, false, false, false] rfl rfl (any_of HT_.out (by kernel_rfl)) (fun _ _ _ h => h) (Or.inl ⟨by rfl, ?_⟩) ?_ ?_
                                   rotate_left
                                   ·
                                    intro w'
                                    go_simp
                                    with_reducible rfl
                                   rotate_left
                                   ·
                                    simp only [Act.put, List.setIfInBounds_toArray, List.set_cons_zero, List.set_cons_succ, i64_w, i32_w]
                                    rfl
                                   refine pure_ (i := 32) (N := some 259) (v := ?_) (a' := ?_) #[true, true, true, true, true, true, true, true, true, true, true, true, true, true, true, true, true, true, true, true, true, true, true, true, true, true, true, true, true, true, false, true, true, false, false, false, false, false, false, false, false, false, false, false, false, false, false, false, false, false, false, false, false, false, false, false] rfl rfl (any_of HT_.out (by kernel_rfl)) (fun _ _ _ h => h) (Or.inl ⟨by rfl, ?_⟩) ?_ ?_
                                   rotate_left
                                   ·
                                    intro w'
                                    go_simp
                                    with_reducible rfl
                                   rotate_left
                                   ·
                                    simp only [Act.put, List.setIfInBounds_toArray, List.set_cons_zero, List.set_cons_succ, i64_w, i32_w]
                                    rfl
                                   refine take_ (i := 30) (N := some 257) (v := ?_) (a' := ?_) #[true, true, true, true, true, true, true, true, true, true, true, true, true, true, true, true, true, true, true, true, true, true, true, true, true, true, true, true, true, true, true, true, true, false, false, false, false, false, false, false, false, false, false, false, false, false, false, false, false, false, false, false, false, false, false, false] rfl rfl (take_ofW HT_.out HW_.out (by kernel_rfl)) (fun _ _ _ h => h) (Or.inl ⟨by rfl, ?_⟩) hHeld ?_ ?_
                                   rotate_left
                                   ·
                                    rintro w' ⟨s0, s1, s2, s3, s4, s5, s6, s7⟩
                                    go_simp
                                    with_reducible rfl
                                   rotate_left
                                   ·
                                    simp only [Act.put, List.setIfInBounds_toArray, List.set_cons_zero, List.set_cons_succ, i64_w, i32_w]
                                    rfl
                                   refine take_ (i := 33) (N := some 260) (v := ?_) (a' := ?_) #[true, true, true, true, true, true, true, true, true, true, true, true, true, true, true, true, true, true, true, true, true, true, true, true, true, true, true, true, true, true, true, true, true, true, false, false, false, false, false, false, false, false, false, false, false, false, false, false, false, false, false, false, false, false, false, false] rfl rfl (take_ofW HT_.out HW_.out (by kernel_rfl)) (fun _ _ _ h => h) (Or.inl ⟨by rfl, ?_⟩) hHeld ?_ ?_
                                   rotate_left
                                   ·
                                    rintro w' ⟨s0, s1, s2, s3, s4, s5, s6, s7⟩
                                    go_simp
                                    with_reducible rfl
                                   rotate_left
                                   ·
                                    simp only [Act.put, List.setIfInBounds_toArray, List.set_cons_zero, List.set_cons_succ, i64_w, i32_w]
                                    rfl
                                   refine pure_ (i := 34) (N := some 261) (v := ?_) (a' := ?_) #[true, true, true, true, true, true, true, true, true, true, true, true, true, true, true, true, true, true, true, true, true, true, true, true, true, true, true, true, true, true, true, true, true, true, true, false, false, false, false, false, false, false, false, false, false, false, false, false, false, false, false, false, false, false, false, false] rfl rfl (any_of HT_.out (by kernel_rfl)) (fun _ _ _ h => h) (Or.inl ⟨by rfl, ?_⟩) ?_ ?_
                                   rotate_left
                                   ·
                                    intro w'
                                    go_simp
                                    with_reducible rfl
                                   rotate_left
                                   ·
                                    simp only [Act.put, List.setIfInBounds_toArray, List.set_cons_zero, List.set_cons_succ, i64_w, i32_w]
                                    rfl
                                   refine pure_ (i := 35) (N := some 262) (v := ?_) (a' := ?_) #[true, true, true, true, true, true, true, true, true, true, true, true, true, true, true, true, true, true, true, true, true, true, true, true, true, true, true, true, true, true, true, true, true, true, true, true, false, false, false, false, false, false, false, false, false, false, false, false, false, false, false, false, false, false, false, false] rfl rfl (any_of HT_.out (by kernel_rfl)) (fun _ _ _ h => h) (Or.inl ⟨by rfl, ?_⟩) ?_ ?_
                                   rotate_left
                                   ·
                                    intro w'
                                    go_simp
                                    with_reducible rfl
                                   rotate_left
                                   ·
                                    simp only [Act.put, List.setIfInBounds_toArray, List.set_cons_zero, List.set_cons_succ, i64_w, i32_w]
                                    rfl
                                   refine pure_ (i := 36) (N := some 263) (v := ?_) (a' := ?_) #[true, true, true, true, true, true, true, true, true, true, true, true, true, true, true, true, true, true, true, true, true, true, true, true, true, true, true, true, true, true, true, true, true, true, true, true, true, false, false, false, false, false, false, false, false, false, false, false, false, false, false, false, false, false, false, false] rfl rfl (any_of HT_.out (by kernel_rfl)) (fun _ _ _ h => h) (Or.inl ⟨by rfl, ?_⟩) ?_ ?_
                                   rotate_left
                                   ·
                                    intro w'
                                    go_simp
                                    with_reducible rfl
                                   rotate_left
                                   ·
                                    simp only [Act.put, List.setIfInBounds_toArray, List.set_cons_zero, List.set_cons_succ, i64_w, i32_w]
                                    rfl
                                   refine pure_ (i := 37) (N := some 264) (v := ?_) (a' := ?_) #[true, true, true, true, true, true, true, true, true, true, true, true, true, true, true, true, true, true, true, true, true, true, true, true, true, true, true, true, true, true, true, true, true, true, true, true, true, true, false, false, false, false, false, false, false, false, false, false, false, false, false, false, false, false, false, false] rfl rfl (any_of HT_.out (by kernel_rfl)) (fun _ _ _ h => h) (Or.inl ⟨by rfl, ?_⟩) ?_ ?_
                                   rotate_left
                                   ·
                                    intro w'
                                    go_simp
                                    with_reducible rfl
                                   rotate_left
                                   ·
                                    simp only [Act.put, List.setIfInBounds_toArray, List.set_cons_zero, List.set_cons_succ, i64_w, i32_w]
                                    rfl
                                   refine pure_ (i := 38) (N := some 265) (v := ?_) (a' := ?_) #[true, true, true, true, true, true, true, true, true, true, true, true, true, true, true, true, true, true, true, true, true, true, true, true, true, true, true, true, true, true, true, true, true, true, true, true, true, true, true, false, false, false, false, false, false, false, false, false, false, false, false, false, false, false, false, false] rfl rfl (any_of HT_.out (by kernel_rfl)) (fun _ _ _ h => h) (Or.inl ⟨by rfl, ?_⟩) ?_ ?_
                                   rotate_left
                                   ·
                                    intro w'
                                    go_simp
                                    with_reducible rfl
                                   rotate_left
                                   ·
                                    simp only [Act.put, List.setIfInBounds_toArray, List.set_cons_zero, List.set_cons_succ, i64_w, i32_w]
                                    rfl
                                   refine take_ (i := 39) (N := some 266) (v := ?_) (a' := ?_) #[true, true, true, true, true, true, true, true, true, true, true, true, true, true, true, true, true, true, true, true, true, true, true, true, true, true, true, true, true, true, true, true, true, true, true, true, true, true, true, true, false, false, false, false, false, false, false, false, false, false, false, false, false, false, false, false] rfl rfl (take_ofW HT_.out HW_.out (by kernel_rfl)) (fun _ _ _ h => h) (Or.inl ⟨by rfl, ?_⟩) hHeld ?_ ?_
                                   rotate_left
                                   ·
                                    rintro w' ⟨s0, s1, s2, s3, s4, s5, s6, s7⟩
                                    go_simp
                                    with_reducible rfl
                                   rotate_left
                                   ·
                                    simp only [Act.put, List.setIfInBounds_toArray, List.set_cons_zero, List.set_cons_succ, i64_w, i32_w]
                                    rfl
                                   refine pure_ (i := 40) (N := some 267) (v := ?_) (a' := ?_) #[true, true, true, true, true, true, true, true, true, true, true, true, true, true, true, true, true, true, true, true, true, true, true, true, true, true, true, true, true, true, true, true, true, true, true, true, true, true, true, true, true, false, false, false, false, false, false, false, false, false, false, false, false, false, false, false] rfl rfl (any_of HT_.out (by kernel_rfl)) (fun _ _ _ h => h) (Or.inl ⟨by rfl, ?_⟩) ?_ ?_
                                   rotate_left
                                   ·
                                    intro w'
                                    go_simp
                                    with_reducible rfl
                                   rotate_left
                                   ·
                                    simp only [Act.put, List.setIfInBounds_toArray, List.set_cons_zero, List.set_cons_succ, i64_w, i32_w]
                                    rfl
                                   refine pure_ (i := 41) (N := some 268) (v := ?_) (a' := ?_) #[true, true, true, true, true, true, true, true, true, true, true, true, true, true, true, true, true, true, true, true, true, true, true, true, true, true, true, true, true, true, true, true, true, true, true, true, true, true, true, true, true, true, false, false, false, false, false, false, false, false, false, false, false, false, false, false] rfl rfl (any_of HT_.out (by kernel_rfl)) (fun _ _ _ h => h) (Or.inl ⟨by rfl, ?_⟩) ?_ ?_
                                   rotate_left
                                   ·
                                    intro w'
                                    go_simp
                                    with_reducible rfl
                                   rotate_left
                                   ·
                                    simp only [Act.put, List.setIfInBounds_toArray, List.set_cons_zero, List.set_cons_succ, i64_w, i32_w]
                                    rfl
                                   refine pure_ (i := 42) (N := some 269) (v := ?_) (a' := ?_) #[true, true, true, true, true, true, true, true, true, true, true, true, true, true, true, true, true, true, true, true, true, true, true, true, true, true, true, true, true, true, true, true, true, true, true, true, true, true, true, true, true, true, true, false, false, false, false, false, false, false, false, false, false, false, false, false] rfl rfl (any_of HT_.out (by kernel_rfl)) (fun _ _ _ h => h) (Or.inl ⟨by rfl, ?_⟩) ?_ ?_
                                   rotate_left
                                   ·
                                    intro w'
                                    go_simp
                                    with_reducible rfl
                                   rotate_left
                                   ·
                                    simp only [Act.put, List.setIfInBounds_toArray, List.set_cons_zero, List.set_cons_succ, i64_w, i32_w]
                                    rfl
                                   refine pure_ (i := 43) (N := some 270) (v := ?_) (a' := ?_) #[true, true, true, true, true, true, true, true, true, true, true, true, true, true, true, true, true, true, true, true, true, true, true, true, true, true, true, true, true, true, true, true, true, true, true, true, true, true, true, true, true, true, true, true, false, false, false, false, false, false, false, false, false, false, false, false] rfl rfl (any_of HT_.out (by kernel_rfl)) (fun _ _ _ h => h) (Or.inl ⟨by rfl, ?_⟩) ?_ ?_
                                   rotate_left
                                   ·
                                    intro w'
                                    go_simp
                                    with_reducible rfl
                                   rotate_left
                                   ·
                                    simp only [Act.put, List.setIfInBounds_toArray, List.set_cons_zero, List.set_cons_succ, i64_w, i32_w]
                                    rfl
                                   refine pure_ (i := 44) (N := some 271) (v := ?_) (a' := ?_) #[true, true, true, true, true, true, true, true, true, true, true, true, true, true, true, true, true, true, true, true, true, true, true, true, true, true, true, true, true, true, true, true, true, true, true, true, true, true, true, true, true, true, true, true, true, false, false, false, false, false, false, false, false, false, false, false] rfl rfl (any_of HT_.out (by kernel_rfl)) (fun _ _ _ h => h) (Or.inl ⟨by rfl, ?_⟩) ?_ ?_
                                   rotate_left
                                   ·
                                    intro w'
                                    go_simp
                                    with_reducible rfl
                                   rotate_left
                                   ·
                                    simp only [Act.put, List.setIfInBounds_toArray, List.set_cons_zero, List.set_cons_succ, i64_w, i32_w]
                                    rfl
                                   refine pure_ (i := 45) (N := some 272) (v := ?_) (a' := ?_) #[true, true, true, true, true, true, true, true, true, true, true, true, true, true, true, true, true, true, true, true, true, true, true, true, true, true, true, true, true, true, true, true, true, true, true, true, true, true, true, true, true, true, true, true, true, true, false, false, false, false, false, false, false, false, false, false] rfl rfl (any_of HT_.out (by kernel_rfl)) (fun _ _ _ h => h) (Or.inl ⟨by rfl, ?_⟩) ?_ ?_
                                   rotate_left
                                   ·
                                    intro w'
                                    go_simp
                                    with_reducible rfl
                                   rotate_left
                                   ·
                                    simp only [Act.put, List.setIfInBounds_toArray, List.set_cons_zero, List.set_cons_succ, i64_w, i32_w]
                                    rfl
                                   refine pure_ (i := 46) (N := some 273) (v := ?_) (a' := ?_) #[true, true, true, true, true, true, true, true, true, true, true, true, true, true, true, true, true, true, true, true, true, true, true, true, true, true, true, true, true, true, true, true, true, true, true, true, true, true, true, true, true, true, true, true, true, true, true, false, false, false, false, false, false, false, false, false] rfl rfl (any_of HT_.out (by kernel_rfl)) (fun _ _ _ h => h) (Or.inl ⟨by rfl, ?_⟩) ?_ ?_
                                   rotate_left
                                   ·
                                    intro w'
                                    go_simp
                                    with_reducible rfl
                                   rotate_left
                                   ·
                                    simp only [Act.put, List.setIfInBounds_toArray, List.set_cons_zero, List.set_cons_succ, i64_w, i32_w]
                                    rfl
                                   refine pure_ (i := 47) (N := some 274) (v := ?_) (a' := ?_) #[true, true, true, true, true, true, true, true, true, true, true, true, true, true, true, true, true, true, true, true, true, true, true, true, true, true, true, true, true, true, true, true, true, true, true, true, true, true, true, true, true, true, true, true, true, true, true, true, false, false, false, false, false, false, false, false] rfl rfl (any_of HT_.out (by kernel_rfl)) (fun _ _ _ h => h) (Or.inl ⟨by rfl, ?_⟩) ?_ ?_
                                   rotate_left
                                   ·
                                    intro w'
                                    go_simp
                                    with_reducible rfl
                                   rotate_left
                                   ·
                                    simp only [Act.put, List.setIfInBounds_toArray, List.set_cons_zero, List.set_cons_succ, i64_w, i32_w]
                                    rfl
                                   refine pure_ (i := 48) (N := some 275) (v := ?_) (a' := ?_) #[true, true, true, true, true, true, true, true, true, true, true, true, true, true, true, true, true, true, true, true, true, true, true, true, true, true, true, true, true, true, true, true, true, true, true, true, true, true, true, true, true, true, true, true, true, true, true, true, true, false, false, false, false, false, false, false] rfl rfl (any_of HT_.out (by kernel_rfl)) (fun _ _ _ h => h) (Or.inl ⟨by rfl, ?_⟩) ?_ ?_
                                   rotate_left
                                   ·
                                    intro w'
                                    go_simp
                                    with_reducible rfl
                                   rotate_left
                                   ·
                                    simp only [Act.put, List.setIfInBounds_toArray, List.set_cons_zero, List.set_cons_succ, i64_w, i32_w]
                                    rfl
                                   refine pure_ (i := 49) (N := some 276) (v := ?_) (a' := ?_) #[true, true, true, true, true, true, true, true, true, true, true, true, true, true, true, true, true, true, true, true, true, true, true, true, true, true, true, true, true, true, true, true, true, true, true, true, true, true, true, true, true, true, true, true, true, true, true, true, true, true, false, false, false, false, false, false] rfl rfl (any_of HT_.out (by kernel_rfl)) (fun _ _ _ h => h) (Or.inl ⟨by rfl, ?_⟩) ?_ ?_
                                   rotate_left
                                   ·
                                    intro w'
                                    go_simp
                                    with_reducible rfl
                                   rotate_left
                                   ·
                                    simp only [Act.put, List.setIfInBounds_toArray, List.set_cons_zero, List.set_cons_succ, i64_w, i32_w]
                                    rfl
                                   refine pure_ (i := 50) (N := some 277) (v := ?_) (a' := ?_) #[true, true, true, true, true, true, true, true, true, true, true, true, true, true, true, true, true, true, true, true, true, true, true, true, true, true, true, true, true, true, true, true, true, true, true, true, true, true, true, true, true, true, true, true, true, true, true, true, true, true, true, false, false, false, false, false] rfl rfl (any_of HT_.out (by kernel_rfl)) (fun _ _ _ h => h) (Or.inl ⟨by rfl, ?_⟩) ?_ ?_
                                   rotate_left
                                   ·
                                    intro w'
                                    go_simp
                                    with_reducible rfl
                                   rotate_left
                                   ·
                                    simp only [Act.put, List.setIfInBounds_toArray, List.set_cons_zero, List.set_cons_succ, i64_w, i32_w]
                                    rfl
                                   refine take_ (i := 51) (N := some 278) (v := ?_) (a' := ?_) #[true, true, true, true, true, true, true, true, true, true, true, true, true, true, true, true, true, true, true, true, true, true, true, true, true, true, true, true, true, true, true, true, true, true, true, true, true, true, true, true, true, true, true, true, true, true, true, true, true, true, true, true, false, false, false, false] rfl rfl (take_ofW HT_.out HW_.out (by kernel_rfl)) (fun _ _ _ h => h) (Or.inl ⟨by rfl, ?_⟩) hHeld ?_ ?_
                                   rotate_left
                                   ·
                                    rintro w' ⟨s0, s1, s2, s3, s4, s5, s6, s7⟩
                                    go_simp
                                    with_reducible rfl
                                   rotate_left
                                   ·
                                    simp only [Act.put, List.setIfInBounds_toArray, List.set_cons_zero, List.set_cons_succ, i64_w, i32_w]
                                    rfl
                                   refine one_ (i := 52) (N := some 279) #[true, true, true, true, true, true, true, true, true, true, true, true, true, true, true, true, true, true, true, true, true, true, true, true, true, true, true, true, true, true, true, true, true, true, true, true, true, true, true, true, true, true, true, true, true, true, true, true, true, true, true, true, true, false, false, false] rfl rfl (one_of HT_.out (by kernel_rfl)) (by decide) (fun K hK => ?_)
                                   refine goes_ Try.func47 (by kernel_rfl) rfl #[.slice (some ad294) (rd_L2 t248 x222_4).length c292_0, .slice A301_0 (rd_L2 t248 (ji152)).length c301_0] (by rfl) rfl rfl (by (try simp only [List.map_toArray, List.map_cons, List.map_nil]); first | done | (simp only [hji152]; rfl) | rfl | (simp only [List.length_drop, List.length_take]; rfl)) ?_
                                   with_reducible refine (laws_vBefore.calls k4 _ _ (rd_L2 t248 x222_4) _ _ (rd_L2 t248 (ji152)) true _ ?side1 ?side2 ?side3 ?side4 A155.out).mono ?_
                                   (case side1 => repeat (first | exact (by repeat (first | (with_reducible exact HR292_0.out) | (with_reducible refine Kd.C_alloc ?_ _) | (with_reducible refine Kd.C_drewN ?_ _) | (with_reducible refine Kd.C_drew ?_) | exact HR292_0.out)) | (with_reducible refine Kd.C_alloc ?_ _) | (with_reducible refine Kd.C_drewN ?_ _) | (with_reducible refine Kd.C_drew ?_)))
                                   (case side2 => exact HC292_0.out)
                                   (case side3 => repeat (first | exact (by repeat (first | (with_reducible exact HR301_0.out) | (with_reducible refine Kd.C_alloc ?_ _) | (with_reducible refine Kd.C_drewN ?_ _) | (with_reducible refine Kd.C_drew ?_) | exact HR301_0.out)) | (with_reducible refine Kd.C_alloc ?_ _) | (with_reducible refine Kd.C_drewN ?_ _) | (with_reducible refine Kd.C_drew ?_)))
                                   (case side4 => exact HC301_0.out)
                                   rintro e w' ⟨rfl, ⟨nd, rfl⟩⟩
                                   refine ⟨_, rfl, ?_⟩
                                   refine hK.out _ _ ⟨hHeld.1, hHeld.2.1, hHeld.2.2.1, hHeld.2.2.2.1, hHeld.2.2.2.2.1, hHeld.2.2.2.2.2.1, hHeld.2.2.2.2.2.2.1, hHeld.2.2.2.2.2.2.2⟩ (fun hHeld => ?_)
                                   clear hK K
                                   refine norm_ (a' := ?_) ?_ ?_
                                   rotate_left
                                   ·
                                    show Act.put _ (some 279) _ = _
                                    simp only [Act.put, List.setIfInBounds_toArray, List.set_cons_zero, List.set_cons_succ, i64_w, i32_w]
                                    rfl
                                   refine pure_ (i := 53) (N := some 280) (v := ?_) (a' := ?_) #[true, true, true, true, true, true, true, true, true, true, true, true, true, true, true, true, true, true, true, true, true, true, true, true, true, true, true, true, true, true, true, true, true, true, true, true, true, true, true, true, true, true, true, true, true, true, true, true, true, true, true, true, true, true, false, false] rfl rfl (any_of HT_.out (by kernel_rfl)) (fun _ _ _ h => h) (Or.inl ⟨by rfl, ?_⟩) ?_ ?_
                                   rotate_left
                                   ·
                                    intro w'
                                    go_simp
                                    with_reducible rfl
                                   rotate_left
                                   ·
                                    simp only [Act.put, List.setIfInBounds_toArray, List.set_cons_zero, List.set_cons_succ, i64_w, i32_w]
                                    rfl
                                   refine pure_ (i := 54) (N := some 281) (v := ?_) (a' := ?_) #[true, true, true, true, true, true, true, true, true, true, true, true, true, true, true, true, true, true, true, true, true, true, true, true, true, true, true, true, true, true, true, true, true, true, true, true, true, true, true, true, true, true, true, true, true, true, true, true, true, true, true, true, true, true, true, false] rfl rfl (any_of HT_.out (by kernel_rfl)) (fun _ _ _ h => h) (Or.inl ⟨by rfl, ?_⟩) ?_ ?_
                                   rotate_left
                                   ·
                                    intro w'
                                    go_simp
                                    with_reducible rfl
                                   rotate_left
                                   ·
                                    simp only [Act.put, List.setIfInBounds_toArray, List.set_cons_zero, List.set_cons_succ, i64_w, i32_w]
                                    rfl
                                   refine pure_ (i := 55) (N := some 282) (v := ?_) (a' := ?_) #[true, true, true, true, true, true, true, true, true, true, true, true, true, true, true, true, true, true, true, true, true, true, true, true, true, true, true, true, true, true, true, true, true, true, true, true, true, true, true, true, true, true, true, true, true, true, true, true, true, true, true, true, true, true, true, true] rfl rfl (any_of HT_.out (by kernel_rfl)) (fun _ _ _ h => h) (Or.inl ⟨by rfl, ?_⟩) ?_ ?_
                                   rotate_left
                                   ·
                                    intro w'
                                    go_simp
                                    with_reducible rfl
                                   rotate_left
                                   ·
                                    simp only [Act.put, List.setIfInBounds_toArray, List.set_cons_zero, List.set_cons_succ, i64_w, i32_w]
                                    rfl
                                   refine done_ (done_of HT_.out (by kernel_rfl)) ?_
                                   try go_wp2
                                   go_roundg k4
                                   case measure => have := HJ13.out; have := HJ66.out; have := HJ105.out; have := HK4.out; omega
                                   case rel => exact ⟨(wrap64 (x222_4 + 1)), (by first | rfl | (simp; done) | (simp [*]; done)), H', ⟨by have := HJ13.out; have := HJ66.out; have := HJ105.out; have := HK4.out; omega⟩, ⟨by (with_reducible repeat (first | apply Kd.S_alloc | apply Kd.S_drewN | apply Kd.S_drew)); exact HO_6.out⟩, ⟨by (with_reducible repeat (first | apply Kd.S_alloc | apply Kd.S_drewN | apply Kd.S_drew)); exact HO_220.out⟩, ⟨by repeat (first | (with_reducible first | exact HB.out | apply below_alloc | apply pw_below_drewN | apply below_drew1) | exact HB.out | exact Below.refl _ _)⟩⟩
                                  ·
                                   replace c156 := Bool.eq_false_iff.mpr c156
                                   subst c156
                                   have H1 : (some false) = some r := by rw [if_neg (show ¬ (false = true) by decide)] at H; exact H
                                   exact absurd (H1.trans (congrArg some hrT)) (by simp)
                                 ·
                                  rw [if_neg c154] at H
                                  exact absurd H (by simp)
                                ·
                                 rw [if_neg c153] at H
                                 exact absurd H (by simp)
                               ·
                                rw [if_neg c151] at H
                                have c151b0 : decide (0 < x222_4) = false := decide_eq_false c151
                                clear c151
                                have H' := Aside0.mk H
                                clear H
                                have p292 : 0 ≤ (x222_4 : Int) := of_decide_eq_true (by first | (with_reducible assumption) | assumption)
                                have q292 : x222_4 < (t248.length : Int) := of_decide_eq_true (by first | (with_reducible assumption) | assumption)
                                obtain ⟨ad292, A292_0, c292_0, e292, hx292_0, hl292_0, hi292_0⟩ := at_L2 (Kd.S_reads' HO_220.out).2.2 x222_4 p292 q292
                                cases e292
                                obtain ⟨ce292, hce292, hMe292, hcc292⟩ := Kd.S_get HO_220.out [] x222_4 p292 (by first | exact q292 | exact of_decide_eq_true (by first | (with_reducible assumption) | assumption) | (have e_ := (Kd.S_reads' HO_220.out).1; omega))
                                obtain ⟨ve292_0, rfl, ge292_0⟩ := hMe292
                                have hv292_0 := hcc292 0 _ rfl
                                rw [Nat.add_zero, show ((Kd.slice 3 (Kd.int .i64))).sz = 1 from rfl, Nat.mul_one] at hv292_0
                                replace hv292_0 := Option.some.inj (hv292_0.symm.trans hx292_0)
                                rw [hv292_0] at ge292_0
                                have HL292_0 := Aside0.mk (show Kd.R (Kd.int .i64) 3 _ _ _ _ (rd_L2 t248 x222_4) from ge292_0)
                                clear hv292_0 ge292_0
                                clear hcc292 hce292
                                have HR292_0 := Aside0.mk hi292_0
                                have HC292_0 := Aside0.mk hl292_0
                                clear hi292_0 hl292_0
                                replace p292 := eq_true p292
                                replace q292 := eq_true q292
                                try go_wp2
                                have n0_ := Aside0.mk (Kd.S_drew HO_6.out)
                                have n1_ := Aside0.mk (Kd.S_drew HO_220.out)
                                have n2_ := Aside0.mk (Kd.R_drew HL292_0.out)
                                have n3_ := Aside0.mk (Kd.C_drew HR292_0.out)
                                have n4_ := Aside0.mk (below_drew1 HB.out)
                                clear HO_6
                                clear HO_220
                                clear HL292_0
                                clear HR292_0
                                clear HB
                                have HO_6 := n0_
                                have HO_220 := n1_
                                have HL292_0 := n2_
                                have HR292_0 := n3_
                                have HB := n4_
                                clear n0_ n1_ n2_ n3_ n4_
                                have p294 : 0 ≤ (0 : Int) := (by omega)
                                have q294 : 0 < ((rd_L2 t248 x222_4).length : Int) := of_decide_eq_true (by first | (with_reducible assumption) | assumption)
                                obtain ⟨ad294, e294, hx294_0⟩ := Kd.at_int (by repeat (first | (with_reducible exact HR292_0.out) | (with_reducible refine Kd.C_alloc ?_ _) | (with_reducible refine Kd.C_drewN ?_ _) | (with_reducible refine Kd.C_drew ?_) | exact HR292_0.out)) 0 p294 q294
                                cases e294
                                have qi294 : (0 < (rd_L2 t248 x222_4).length) = True := eq_true (by omega)
                                (try rw [show ((0 : Int)).toNat = 0 from rfl] at hx294_0)
                                (try rw [Addr.add_zero'] at hx294_0)
                                replace p294 := eq_true p294
                                replace q294 := eq_true q294
                                have p295 : 0 ≤ (1 : Int) := (by omega)
                                have q295 : 1 < ((rd_L2 t248 x222_4).length : Int) := of_decide_eq_true (by first | (with_reducible assumption) | assumption)
                                obtain ⟨ad295, e295, hx295_0⟩ := Kd.at_int (by repeat (first | (with_reducible exact HR292_0.out) | (with_reducible refine Kd.C_alloc ?_ _) | (with_reducible refine Kd.C_drewN ?_ _) | (with_reducible refine Kd.C_drew ?_) | exact HR292_0.out)) 1 p295 q295
                                obtain rfl : ad294 = ad295 := (by injection e295)
                                (try simp only [show (1 : Int).toNat = 1 from rfl, Nat.reduceMul, Nat.reduceEqDiff, Go.Addr.add, ↓reduceIte] at hx295_0)
                                have qi295 : (1 < (rd_L2 t248 x222_4).length) = True := eq_true (by omega)
                                (try rw [show ((1 : Int)).toNat = 1 from rfl] at hx295_0)
                                replace p295 := eq_true p295
                                replace q295 := eq_true q295
                                have p296 : 0 ≤ (1 : Int) := (by omega)
                                have q296 : 1 < ((rd_L2 t248 x222_4).length : Int) := of_decide_eq_true (by first | (with_reducible assumption) | assumption)
                                obtain ⟨ad296, e296, hx296_0⟩ := Kd.at_int (by repeat (first | (with_reducible exact HR292_0.out) | (with_reducible refine Kd.C_alloc ?_ _) | (with_reducible refine Kd.C_drewN ?_ _) | (with_reducible refine Kd.C_drew ?_) | exact HR292_0.out)) 1 p296 q296
                                obtain rfl : ad294 = ad296 := (by injection e296)
                                (try simp only [show (1 : Int).toNat = 1 from rfl, Nat.reduceMul, Nat.reduceEqDiff, Go.Addr.add, ↓reduceIte] at hx296_0)
                                have qi296 : (1 < (rd_L2 t248 x222_4).length) = True := eq_true (by omega)
                                (try rw [show ((1 : Int)).toNat = 1 from rfl] at hx296_0)
                                replace p296 := eq_true p296
                                replace q296 := eq_true q296
                                have p297 : 0 ≤ (2 : Int) := (by omega)
                                have q297 : 2 < ((rd_L2 t248 x222_4).length : Int) := of_decide_eq_true (by first | (with_reducible assumption) | assumption)
                                obtain ⟨ad297, e297, hx297_0⟩ := Kd.at_int (by repeat (first | (with_reducible exact HR292_0.out) | (with_reducible refine Kd.C_alloc ?_ _) | (with_reducible refine Kd.C_drewN ?_ _) | (with_reducible refine Kd.C_drew ?_) | exact HR292_0.out)) 2 p297 q297
                                obtain rfl : ad294 = ad297 := (by injection e297)
                                (try simp only [show (2 : Int).toNat = 2 from rfl, Nat.reduceMul, Nat.reduceEqDiff, Go.Addr.add, ↓reduceIte] at hx297_0)
                                have qi297 : (2 < (rd_L2 t248 x222_4).length) = True := eq_true (by omega)
                                (try rw [show ((2 : Int)).toNat = 2 from rfl] at hx297_0)
                                replace p297 := eq_true p297
                                replace q297 := eq_true q297
                                have p298 : 0 ≤ (2 : Int) := (by omega)
                                have q298 : 2 < ((rd_L2 t248 x222_4).length : Int) := of_decide_eq_true (by first | (with_reducible assumption) | assumption)
                                obtain ⟨ad298, e298, hx298_0⟩ := Kd.at_int (by repeat (first | (with_reducible exact HR292_0.out) | (with_reducible refine Kd.C_alloc ?_ _) | (with_reducible refine Kd.C_drewN ?_ _) | (with_reducible refine Kd.C_drew ?_) | exact HR292_0.out)) 2 p298 q298
                                obtain rfl : ad294 = ad298 := (by injection e298)
                                (try simp only [show (2 : Int).toNat = 2 from rfl, Nat.reduceMul, Nat.reduceEqDiff, Go.Addr.add, ↓reduceIte] at hx298_0)
                                have qi298 : (2 < (rd_L2 t248 x222_4).length) = True := eq_true (by omega)
                                (try rw [show ((2 : Int)).toNat = 2 from rfl] at hx298_0)
                                replace p298 := eq_true p298
                                replace q298 := eq_true q298
                                have p299 : 0 ≤ (3 : Int) := (by omega)
                                have q299 : 3 < ((rd_L2 t248 x222_4).length : Int) := of_decide_eq_true (by first | (with_reducible assumption) | assumption)
                                obtain ⟨ad299, e299, hx299_0⟩ := Kd.at_int (by repeat (first | (with_reducible exact HR292_0.out) | (with_reducible refine Kd.C_alloc ?_ _) | (with_reducible refine Kd.C_drewN ?_ _) | (with_reducible refine Kd.C_drew ?_) | exact HR292_0.out)) 3 p299 q299
                                obtain rfl : ad294 = ad299 := (by injection e299)
                                (try simp only [show (3 : Int).toNat = 3 from rfl, Nat.reduceMul, Nat.reduceEqDiff, Go.Addr.add, ↓reduceIte] at hx299_0)
                                have qi299 : (3 < (rd_L2 t248 x222_4).length) = True := eq_true (by omega)
                                (try rw [show ((3 : Int)).toNat = 3 from rfl] at hx299_0)
                                replace p299 := eq_true p299
                                replace q299 := eq_true q299
                                have p300 : 0 ≤ (3 : Int) := (by omega)
                                have q300 : 3 < ((rd_L2 t248 x222_4).length : Int) := of_decide_eq_true (by first | (with_reducible assumption) | assumption)
                                obtain ⟨ad300, e300, hx300_0⟩ := Kd.at_int (by repeat (first | (with_reducible exact HR292_0.out) | (with_reducible refine Kd.C_alloc ?_ _) | (with_reducible refine Kd.C_drewN ?_ _) | (with_reducible refine Kd.C_drew ?_) | exact HR292_0.out)) 3 p300 q300
                                obtain rfl : ad294 = ad300 := (by injection e300)
                                (try simp only [show (3 : Int).toNat = 3 from rfl, Nat.reduceMul, Nat.reduceEqDiff, Go.Addr.add, ↓reduceIte] at hx300_0)
                                have qi300 : (3 < (rd_L2 t248 x222_4).length) = True := eq_true (by omega)
                                (try rw [show ((3 : Int)).toNat = 3 from rfl] at hx300_0)
                                replace p300 := eq_true p300
                                replace q300 := eq_true q300
                                refine start_ (n := 56) (S := fun w' => w'.cell? ad294 = some (.int .i64 (rd (rd_L2 t248 x222_4) 0)) ∧ w'.cell? ⟨ad294.block, ad294.off + 1, none⟩ = some (.int .i64 (rd (rd_L2 t248 x222_4) 1)) ∧ w'.cell? ⟨ad294.block, ad294.off + 1, none⟩ = some (.int .i64 (rd (rd_L2 t248 x222_4) 1)) ∧ w'.cell? ⟨ad294.block, ad294.off + 2, none⟩ = some (.int .i64 (rd (rd_L2 t248 x222_4) 2)) ∧ w'.cell? ⟨ad294.block, ad294.off + 2, none⟩ = some (.int .i64 (rd (rd_L2 t248 x222_4) 2)) ∧ w'.cell? ⟨ad294.block, ad294.off + 3, none⟩ = some (.int .i64 (rd (rd_L2 t248 x222_4) 3)) ∧ w'.cell? ⟨ad294.block, ad294.off + 3, none⟩ = some (.int .i64 (rd (rd_L2 t248 x222_4) 3))) (ds := []) #[false, false, false, false, false, false, false, false, false, false, false, false, false, false, false, false, false, false, false, false, false, false, false, false, false, false, false, false, false, false, false, false, false, false, false, false, false, false, false, false, false, false, false, false, false, false, false, false, false, false, false, false, false, false, false, false] (by kernel_rfl) rfl rfl ⟨hx294_0, hx295_0, hx296_0, hx297_0, hx298_0, hx299_0, hx300_0⟩ (fun hHeld => ?_); refine with_tabW laws_FnFourSquaresCounted.tab28 laws_FnFourSquaresCounted.bits28 (fun HT_ HW_ => ?_)
                                generalize wr.drew = w159 at HO_6 HO_220 HL292_0 HR292_0 HB hHeld ⊢
                                refine pure_ (i := 0) (N := some 227) (v := ?_) (a' := ?_) #[true, false, false, false, false, false, false, false, false, false, false, false, false, false, false, false, false, false, false, false, false, false, false, false, false, false, false, false, false, false, false, false, false, false, false, false, false, false, false, false, false, false, false, false, false, false, false, false, false, false, false, false, false, false, false, false] rfl rfl (any_of HT_.out (by kernel_rfl)) (fun _ _ _ h => h) (Or.inl ⟨by rfl, ?_⟩) ?_ ?_
                                rotate_left
                                ·
                                 intro w'
                                 go_simp
                                 with_reducible rfl
                                rotate_left
                                ·
                                 simp only [Act.put, List.setIfInBounds_toArray, List.set_cons_zero, List.set_cons_succ, i64_w, i32_w]
                                 rfl
                                refine pure_ (i := 1) (N := some 228) (v := ?_) (a' := ?_) #[true, true, false, false, false, false, false, false, false, false, false, false, false, false, false, false, false, false, false, false, false, false, false, false, false, false, false, false, false, false, false, false, false, false, false, false, false, false, false, false, false, false, false, false, false, false, false, false, false, false, false, false, false, false, false, false] rfl rfl (any_of HT_.out (by kernel_rfl)) (fun _ _ _ h => h) (Or.inl ⟨by rfl, ?_⟩) ?_ ?_
                                rotate_left
                                ·
                                 intro w'
                                 go_simp
                                 with_reducible rfl
                                rotate_left
                                ·
                                 simp only [Act.put, List.setIfInBounds_toArray, List.set_cons_zero, List.set_cons_succ, i64_w, i32_w]
                                 rfl
                                refine pure_ (i := 2) (N := some 229) (v := ?_) (a' := ?_) #[true, true, true, false, false, false, false, false, false, false, false, false, false, false, false, false, false, false, false, false, false, false, false, false, false, false, false, false, false, false, false, false, false, false, false, false, false, false, false, false, false, false, false, false, false, false, false, false, false, false, false, false, false, false, false, false] rfl rfl (any_of HT_.out (by kernel_rfl)) (fun _ _ _ h => h) (Or.inl ⟨by rfl, ?_⟩) ?_ ?_
                                rotate_left
                                ·
                                 intro w'
                                 go_simp
                                 with_reducible rfl
                                rotate_left
                                ·
                                 simp only [Act.put, List.setIfInBounds_toArray, List.set_cons_zero, List.set_cons_succ, i64_w, i32_w]
                                 rfl
                                refine pure_ (i := 3) (N := some 230) (v := ?_) (a' := ?_) #[true, true, true, true, false, false, false, false, false, false, false, false, false, false, false, false, false, false, false, false, false, false, false, false, false, false, false, false, false, false, false, false, false, false, false, false, false, false, false, false, false, false, false, false, false, false, false, false, false, false, false, false, false, false, false, false] rfl rfl (any_of HT_.out (by kernel_rfl)) (fun _ _ _ h => h) (Or.inl ⟨by rfl, ?_⟩) ?_ ?_
                                rotate_left
                                ·
                                 intro w'
                                 go_simp
                                 with_reducible rfl
                                rotate_left
                                ·
                                 simp only [Act.put, List.setIfInBounds_toArray, List.set_cons_zero, List.set_cons_succ, i64_w, i32_w]
                                 rfl
                                refine pure_ (i := 4) (N := some 231) (v := ?_) (a' := ?_) #[true, true, true, true, true, false, false, false, false, false, false, false, false, false, false, false, false, false, false, false, false, false, false, false, false, false, false, false, false, false, false, false, false, false, false, false, false, false, false, false, false, false, false, false, false, false, false, false, false, false, false, false, false, false, false, false] rfl rfl (any_of HT_.out (by kernel_rfl)) (fun _ _ _ h => h) (Or.inl ⟨by rfl, ?_⟩) ?_ ?_
                                rotate_left
                                ·
                                 intro w'
                                 go_simp
                                 with_reducible rfl
                                rotate_left
                                ·
                                 simp only [Act.put, List.setIfInBounds_toArray, List.set_cons_zero, List.set_cons_succ, i64_w, i32_w]
                                 rfl
                                refine pure_ (i := 6) (N := some 233) (v := ?_) (a' := ?_) #[true, true, true, true, true, false, true, false, false, false, false, false, false, false, false, false, false, false, false, false, false, false, false, false, false, false, false, false, false, false, false, false, false, false, false, false, false, false, false, false, false, false, false, false, false, false, false, false, false, false, false, false, false, false, false, false] rfl rfl (any_of HT_.out (by kernel_rfl)) (fun _ _ _ h => h) (Or.inl ⟨by rfl, ?_⟩) ?_ ?_
                                rotate_left
                                ·
                                 intro w'
                                 go_simp
                                 with_reducible rfl
                                rotate_left
                                ·
                                 simp only [Act.put, List.setIfInBounds_toArray, List.set_cons_zero, List.set_cons_succ, i64_w, i32_w]
                                 rfl
                                refine one_ (i := 5) (N := some 232) #[true, true, true, true, true, true, true, false, false, false, false, false, false, false, false, false, false, false, false, false, false, false, false, false, false, false, false, false, false, false, false, false, false, false, false, false, false, false, false, false, false, false, false, false, false, false, false, false, false, false, false, false, false, false, false, false] rfl rfl (one_of HT_.out (by kernel_rfl)) (by decide) (fun K hK => ?_)
                                refine goes_ Try.func32 (by kernel_rfl) rfl #[.slice (some ad294) (rd_L2 t248 x222_4).length c292_0] (by rfl) rfl rfl (by (try simp only [List.map_toArray, List.map_cons, List.map_nil]); first | done | rfl | (simp only [List.length_drop, List.length_take]; rfl)) ?_
                                with_reducible refine (laws_vSquares.calls k4 _ _ (rd_L2 t248 x222_4) t293 _ ?side1 ?side2 A137.out).mono ?_
                                (case side1 => repeat (first | exact (by repeat (first | (with_reducible exact HR292_0.out) | (with_reducible refine Kd.C_alloc ?_ _) | (with_reducible refine Kd.C_drewN ?_ _) | (with_reducible refine Kd.C_drew ?_) | exact HR292_0.out)) | (with_reducible refine Kd.C_alloc ?_ _) | (with_reducible refine Kd.C_drewN ?_ _) | (with_reducible refine Kd.C_drew ?_)))
                                (case side2 => exact HC292_0.out)
                                rintro e w' ⟨rfl, ⟨nd, rfl⟩⟩
                                refine ⟨_, rfl, ?_⟩
                                refine hK.out _ _ ⟨hHeld.1, hHeld.2.1, hHeld.2.2.1, hHeld.2.2.2.1, hHeld.2.2.2.2.1, hHeld.2.2.2.2.2.1, hHeld.2.2.2.2.2.2⟩ (fun hHeld => ?_)
                                clear hK K
                                refine norm_ (a' := ?_) ?_ ?_
                                rotate_left
                                ·
                                 show Act.put _ (some 232) _ = _
                                 simp only [Act.put, List.setIfInBounds_toArray, List.set_cons_zero, List.set_cons_succ, i64_w, i32_w]
                                 rfl
                                refine pure_ (i := 7) (N := some 234) (v := ?_) (a' := ?_) #[true, true, true, true, true, true, true, true, false, false, false, false, false, false, false, false, false, false, false, false, false, false, false, false, false, false, false, false, false, false, false, false, false, false, false, false, false, false, false, false, false, false, false, false, false, false, false, false, false, false, false, false, false, false, false, false] rfl rfl (any_of HT_.out (by kernel_rfl)) (fun _ _ _ h => h) (Or.inl ⟨by rfl, ?_⟩) ?_ ?_
                                rotate_left
                                ·
                                 intro w'
                                 go_simp
                                 with_reducible rfl
                                rotate_left
                                ·
                                 simp only [Act.put, List.setIfInBounds_toArray, List.set_cons_zero, List.set_cons_succ, i64_w, i32_w]
                                 rfl
                                refine pure_ (i := 8) (N := some 235) (v := ?_) (a' := ?_) #[true, true, true, true, true, true, true, true, true, false, false, false, false, false, false, false, false, false, false, false, false, false, false, false, false, false, false, false, false, false, false, false, false, false, false, false, false, false, false, false, false, false, false, false, false, false, false, false, false, false, false, false, false, false, false, false] rfl rfl (any_of HT_.out (by kernel_rfl)) (fun _ _ _ h => h) (Or.inl ⟨by rfl, ?_⟩) ?_ ?_
                                rotate_left
                                ·
                                 intro w'
                                 go_simp
                                 with_reducible rfl
                                rotate_left
                                ·
                                 simp only [Act.put, List.setIfInBounds_toArray, List.set_cons_zero, List.set_cons_succ, i64_w, i32_w]
                                 rfl
                                refine pure_ (i := 9) (N := some 236) (v := ?_) (a' := ?_) #[true, true, true, true, true, true, true, true, true, true, false, false, false, false, false, false, false, false, false, false, false, false, false, false, false, false, false, false, false, false, false, false, false, false, false, false, false, false, false, false, false, false, false, false, false, false, false, false, false, false, false, false, false, false, false, false] rfl rfl (any_of HT_.out (by kernel_rfl)) (fun _ _ _ h => h) (Or.inl ⟨by rfl, ?_⟩) ?_ ?_
                                rotate_left
                                ·
                                 intro w'
                                 go_simp
                                 with_reducible rfl
                                rotate_left
                                ·
                                 simp only [Act.put, List.setIfInBounds_toArray, List.set_cons_zero, List.set_cons_succ, i64_w, i32_w]
                                 rfl
                                refine pure_ (i := 10) (N := some 237) (v := ?_) (a' := ?_) #[true, true, true, true, true, true, true, true, true, true, true, false, false, false, false, false, false, false, false, false, false, false, false, false, false, false, false, false, false, false, false, false, false, false, false, false, false, false, false, false, false, false, false, false, false, false, false, false, false, false, false, false, false, false, false, false] rfl rfl (any_of HT_.out (by kernel_rfl)) (fun _ _ _ h => h) (Or.inl ⟨by rfl, ?_⟩) ?_ ?_
                                rotate_left
                                ·
                                 intro w'
                                 go_simp
                                 with_reducible rfl
                                rotate_left
                                ·
                                 simp only [Act.put, List.setIfInBounds_toArray, List.set_cons_zero, List.set_cons_succ, i64_w, i32_w]
                                 rfl
                                refine pure_ (i := 11) (N := some 238) (v := ?_) (a' := ?_) #[true, true, true, true, true, true, true, true, true, true, true, true, false, false, false, false, false, false, false, false, false, false, false, false, false, false, false, false, false, false, false, false, false, false, false, false, false, false, false, false, false, false, false, false, false, false, false, false, false, false, false, false, false, false, false, false] rfl rfl (any_of HT_.out (by kernel_rfl)) (fun _ _ _ h => h) (Or.inl ⟨by rfl, ?_⟩) ?_ ?_
                                rotate_left
                                ·
                                 intro w'
                                 go_simp
                                 with_reducible rfl
                                rotate_left
                                ·
                                 simp only [Act.put, List.setIfInBounds_toArray, List.set_cons_zero, List.set_cons_succ, i64_w, i32_w]
                                 rfl
                                refine pure_ (i := 13) (N := some 240) (v := ?_) (a' := ?_) #[true, true, true, true, true, true, true, true, true, true, true, true, false, true, false, false, false, false, false, false, false, false, false, false, false, false, false, false, false, false, false, false, false, false, false, false, false, false, false, false, false, false, false, false, false, false, false, false, false, false, false, false, false, false, false, false] rfl rfl (any_of HT_.out (by kernel_rfl)) (fun _ _ _ h => h) (Or.inl ⟨by rfl, ?_⟩) ?_ ?_
                                rotate_left
                                ·
                                 intro w'
                                 go_simp
                                 with_reducible rfl
                                rotate_left
                                ·
                                 simp only [Act.put, List.setIfInBounds_toArray, List.set_cons_zero, List.set_cons_succ, i64_w, i32_w]
                                 rfl
                                refine pure_ (i := 14) (N := some 241) (v := ?_) (a' := ?_) #[true, true, true, true, true, true, true, true, true, true, true, true, false, true, true, false, false, false, false, false, false, false, false, false, false, false, false, false, false, false, false, false, false, false, false, false, false, false, false, false, false, false, false, false, false, false, false, false, false, false, false, false, false, false, false, false] rfl rfl (any_of HT_.out (by kernel_rfl)) (fun _ _ _ h => h) (Or.inl ⟨by rfl, ?_⟩) ?_ ?_
                                rotate_left
                                ·
                                 intro w'
                                 go_simp
                                 with_reducible rfl
                                rotate_left
                                ·
                                 simp only [Act.put, List.setIfInBounds_toArray, List.set_cons_zero, List.set_cons_succ, i64_w, i32_w]
                                 rfl
                                refine take_ (i := 12) (N := some 239) (v := ?_) (a' := ?_) #[true, true, true, true, true, true, true, true, true, true, true, true, true, true, true, false, false, false, false, false, false, false, false, false, false, false, false, false, false, false, false, false, false, false, false, false, false, false, false, false, false, false, false, false, false, false, false, false, false, false, false, false, false, false, false, false] rfl rfl (take_ofW HT_.out HW_.out (by kernel_rfl)) (fun _ _ _ h => h) (Or.inl ⟨by rfl, ?_⟩) hHeld ?_ ?_
                                rotate_left
                                ·
                                 rintro w' ⟨s0, s1, s2, s3, s4, s5, s6⟩
                                 go_simp
                                 with_reducible rfl
                                rotate_left
                                ·
                                 simp only [Act.put, List.setIfInBounds_toArray, List.set_cons_zero, List.set_cons_succ, i64_w, i32_w]
                                 rfl
                                refine take_ (i := 15) (N := some 242) (v := ?_) (a' := ?_) #[true, true, true, true, true, true, true, true, true, true, true, true, true, true, true, true, false, false, false, false, false, false, false, false, false, false, false, false, false, false, false, false, false, false, false, false, false, false, false, false, false, false, false, false, false, false, false, false, false, false, false, false, false, false, false, false] rfl rfl (take_ofW HT_.out HW_.out (by kernel_rfl)) (fun _ _ _ h => h) (Or.inl ⟨by rfl, ?_⟩) hHeld ?_ ?_
                                rotate_left
                                ·
                                 rintro w' ⟨s0, s1, s2, s3, s4, s5, s6⟩
                                 go_simp
                                 with_reducible rfl
                                rotate_left
                                ·
                                 simp only [Act.put, List.setIfInBounds_toArray, List.set_cons_zero, List.set_cons_succ, i64_w, i32_w]
                                 rfl
                                refine pure_ (i := 16) (N := some 243) (v := ?_) (a' := ?_) #[true, true, true, true, true, true, true, true, true, true, true, true, true, true, true, true, true, false, false, false, false, false, false, false, false, false, false, false, false, false, false, false, false, false, false, false, false, false, false, false, false, false, false, false, false, false, false, false, false, false, false, false, false, false, false, false] rfl rfl (any_of HT_.out (by kernel_rfl)) (fun _ _ _ h => h) (Or.inl ⟨by rfl, ?_⟩) ?_ ?_
                                rotate_left
                                ·
                                 intro w'
                                 go_simp
                                 with_reducible rfl
                                rotate_left
                                ·
                                 simp only [Act.put, List.setIfInBounds_toArray, List.set_cons_zero, List.set_cons_succ, i64_w, i32_w]
                                 rfl
                                refine pure_ (i := 17) (N := some 244) (v := ?_) (a' := ?_) #[true, true, true, true, true, true, true, true, true, true, true, true, true, true, true, true, true, true, false, false, false, false, false, false, false, false, false, false, false, false, false, false, false, false, false, false, false, false, false, false, false, false, false, false, false, false, false, false, false, false, false, false, false, false, false, false] rfl rfl (any_of HT_.out (by kernel_rfl)) (fun _ _ _ h => h) (Or.inl ⟨by rfl, ?_⟩) ?_ ?_
                                rotate_left
                                ·
                                 intro w'
                                 go_simp
                                 with_reducible rfl
                                rotate_left
                                ·
                                 simp only [Act.put, List.setIfInBounds_toArray, List.set_cons_zero, List.set_cons_succ, i64_w, i32_w]
                                 rfl
                                refine pure_ (i := 18) (N := some 245) (v := ?_) (a' := ?_) #[true, true, true, true, true, true, true, true, true, true, true, true, true, true, true, true, true, true, true, false, false, false, false, false, false, false, false, false, false, false, false, false, false, false, false, false, false, false, false, false, false, false, false, false, false, false, false, false, false, false, false, false, false, false, false, false] rfl rfl (any_of HT_.out (by kernel_rfl)) (fun _ _ _ h => h) (Or.inl ⟨by rfl, ?_⟩) ?_ ?_
                                rotate_left
                                ·
                                 intro w'
                                 go_simp
                                 with_reducible rfl
                                rotate_left
                                ·
                                 simp only [Act.put, List.setIfInBounds_toArray, List.set_cons_zero, List.set_cons_succ, i64_w, i32_w]
                                 rfl
                                refine pure_ (i := 19) (N := some 246) (v := ?_) (a' := ?_) #[true, true, true, true, true, true, true, true, true, true, true, true, true, true, true, true, true, true, true, true, false, false, false, false, false, false, false, false, false, false, false, false, false, false, false, false, false, false, false, false, false, false, false, false, false, false, false, false, false, false, false, false, false, false, false, false] rfl rfl (any_of HT_.out (by kernel_rfl)) (fun _ _ _ h => h) (Or.inl ⟨by rfl, ?_⟩) ?_ ?_
                                rotate_left
                                ·
                                 intro w'
                                 go_simp
                                 with_reducible rfl
                                rotate_left
                                ·
                                 simp only [Act.put, List.setIfInBounds_toArray, List.set_cons_zero, List.set_cons_succ, i64_w, i32_w]
                                 rfl
                                refine pure_ (i := 20) (N := some 247) (v := ?_) (a' := ?_) #[true, true, true, true, true, true, true, true, true, true, true, true, true, true, true, true, true, true, true, true, true, false, false, false, false, false, false, false, false, false, false, false, false, false, false, false, false, false, false, false, false, false, false, false, false, false, false, false, false, false, false, false, false, false, false, false] rfl rfl (any_of HT_.out (by kernel_rfl)) (fun _ _ _ h => h) (Or.inl ⟨by rfl, ?_⟩) ?_ ?_
                                rotate_left
                                ·
                                 intro w'
                                 go_simp
                                 with_reducible rfl
                                rotate_left
                                ·
                                 simp only [Act.put, List.setIfInBounds_toArray, List.set_cons_zero, List.set_cons_succ, i64_w, i32_w]
                                 rfl
                                refine pure_ (i := 22) (N := some 249) (v := ?_) (a' := ?_) #[true, true, true, true, true, true, true, true, true, true, true, true, true, true, true, true, true, true, true, true, true, false, true, false, false, false, false, false, false, false, false, false, false, false, false, false, false, false, false, false, false, false, false, false, false, false, false, false, false, false, false, false, false, false, false, false] rfl rfl (any_of HT_.out (by kernel_rfl)) (fun _ _ _ h => h) (Or.inl ⟨by rfl, ?_⟩) ?_ ?_
                                rotate_left
                                ·
                                 intro w'
                                 go_simp
                                 with_reducible rfl
                                rotate_left
                                ·
                                 simp only [Act.put, List.setIfInBounds_toArray, List.set_cons_zero, List.set_cons_succ, i64_w, i32_w]
                                 rfl
                                refine pure_ (i := 23) (N := some 250) (v := ?_) (a' := ?_) #[true, true, true, true, true, true, true, true, true, true, true, true, true, true, true, true, true, true, true, true, true, false, true, true, false, false, false, false, false, false, false, false, false, false, false, false, false, false, false, false, false, false, false, false, false, false, false, false, false, false, false, false, false, false, false, false] rfl rfl (any_of HT_.out (by kernel_rfl)) (fun _ _ _ h => h) (Or.inl ⟨by rfl, ?_⟩) ?_ ?_
                                rotate_left
                                ·
                                 intro w'
                                 go_simp
                                 with_reducible rfl
                                rotate_left
                                ·
                                 simp only [Act.put, List.setIfInBounds_toArray, List.set_cons_zero, List.set_cons_succ, i64_w, i32_w]
                                 rfl
                                refine take_ (i := 21) (N := some 248) (v := ?_) (a' := ?_) #[true, true, true, true, true, true, true, true, true, true, true, true, true, true, true, true, true, true, true, true, true, true, true, true, false, false, false, false, false, false, false, false, false, false, false, false, false, false, false, false, false, false, false, false, false, false, false, false, false, false, false, false, false, false, false, false] rfl rfl (take_ofW HT_.out HW_.out (by kernel_rfl)) (fun _ _ _ h => h) (Or.inl ⟨by rfl, ?_⟩) hHeld ?_ ?_
                                rotate_left
                                ·
                                 rintro w' ⟨s0, s1, s2, s3, s4, s5, s6⟩
                                 go_simp
                                 with_reducible rfl
                                rotate_left
                                ·
                                 simp only [Act.put, List.setIfInBounds_toArray, List.set_cons_zero, List.set_cons_succ, i64_w, i32_w]
                                 rfl
                                refine take_ (i := 24) (N := some 251) (v := ?_) (a' := ?_) #[true, true, true, true, true, true, true, true, true, true, true, true, true, true, true, true, true, true, true, true, true, true, true, true, true, false, false, false, false, false, false, false, false, false, false, false, false, false, false, false, false, false, false, false, false, false, false, false, false, false, false, false, false, false, false, false] rfl rfl (take_ofW HT_.out HW_.out (by kernel_rfl)) (fun _ _ _ h => h) (Or.inl ⟨by rfl, ?_⟩) hHeld ?_ ?_
                                rotate_left
                                ·
                                 rintro w' ⟨s0, s1, s2, s3, s4, s5, s6⟩
                                 go_simp
                                 with_reducible rfl
                                rotate_left
                                ·
                                 simp only [Act.put, List.setIfInBounds_toArray, List.set_cons_zero, List.set_cons_succ, i64_w, i32_w]
                                 rfl
                                refine pure_ (i := 25) (N := some 252) (v := ?_) (a' := ?_) #[true, true, true, true, true, true, true, true, true, true, true, true, true, true, true, true, true, true, true, true, true, true, true, true, true, true, false, false, false, false, false, false, false, false, false, false, false, false, false, false, false, false, false, false, false, false, false, false, false, false, false, false, false, false, false, false] rfl rfl (any_of HT_.out (by kernel_rfl)) (fun _ _ _ h => h) (Or.inl ⟨by rfl, ?_⟩) ?_ ?_
                                rotate_left
                                ·
                                 intro w'
                                 go_simp
                                 with_reducible rfl
                                rotate_left
                                ·
                                 simp only [Act.put, List.setIfInBounds_toArray, List.set_cons_zero, List.set_cons_succ, i64_w, i32_w]
                                 rfl
                                refine pure_ (i := 26) (N := some 253) (v := ?_) (a' := ?_) #[true, true, true, true, true, true, true, true, true, true, true, true, true, true, true, true, true, true, true, true, true, true, true, true, true, true, true, false, false, false, false, false, false, false, false, false, false, false, false, false, false, false, false, false, false, false, false, false, false, false, false, false, false, false, false, false] rfl rfl (any_of HT_.out (by kernel_rfl)) (fun _ _ _ h => h) (Or.inl ⟨by rfl, ?_⟩) ?_ ?_
                                rotate_left
                                ·
                                 intro w'
                                 go_simp
                                 with_reducible rfl
                                rotate_left
                                ·
                                 simp only [Act.put, List.setIfInBounds_toArray, List.set_cons_zero, List.set_cons_succ, i64_w, i32_w]
                                 rfl
                                refine pure_ (i := 27) (N := some 254) (v := ?_) (a' := ?_) #[true, true, true, true, true, true, true, true, true, true, true, true, true, true, true, true, true, true, true, true, true, true, true, true, true, true, true, true, false, false, false, false, false, false, false, false, false, false, false, false, false, false, false, false, false, false, false, false, false, false, false, false, false, false, false, false] rfl rfl (any_of HT_.out (by kernel_rfl)) (fun _ _ _ h => h) (Or.inl ⟨by rfl, ?_⟩) ?_ ?_
                                rotate_left
                                ·
                                 intro w'
                                 go_simp
                                 with_reducible rfl
                                rotate_left
                                ·
                                 simp only [Act.put, List.setIfInBounds_toArray, List.set_cons_zero, List.set_cons_succ, i64_w, i32_w]
                                 rfl
                                refine pure_ (i := 28) (N := some 255) (v := ?_) (a' := ?_) #[true, true, true, true, true, true, true, true, true, true, true, true, true, true, true, true, true, true, true, true, true, true, true, true, true, true, true, true, true, false, false, false, false, false, false, false, false, false, false, false, false, false, false, false, false, false, false, false, false, false, false, false, false, false, false, false] rfl rfl (any_of HT_.out (by kernel_rfl)) (fun _ _ _ h => h) (Or.inl ⟨by rfl, ?_⟩) ?_ ?_
                                rotate_left
                                ·
                                 intro w'
                                 go_simp
                                 with_reducible rfl
                                rotate_left
                                ·
                                 simp only [Act.put, List.setIfInBounds_toArray, List.set_cons_zero, List.set_cons_succ, i64_w, i32_w]
                                 rfl
                                refine pure_ (i := 29) (N := some 256) (v := ?_) (a' := ?_) #[true, true, true, true, true, true, true, true, true, true, true, true, true, true, true, true, true, true, true, true, true, true, true, true, true, true, true, true, true, true, false, false, false, false, false, false, false, false, false, false, false, false, false, false, false, false, false, false, false, false, false, false, false, false, false, false] rfl rfl (any_of HT_.out (by kernel_rfl)) (fun _ _ _ h => h) (Or.inl ⟨by rfl, ?_⟩) ?_ ?_
                                rotate_left
                                ·
                                 intro w'
                                 go_simp
                                 with_reducible rfl
                                rotate_left
                                ·
                                 simp only [Act.put, List.setIfInBounds_toArray, List.set_cons_zero, List.set_cons_succ, i64_w, i32_w]
                                 rfl
                                refine pure_ (i := 31) (N := some 258) (v := ?_) (a' := ?_) #[true, true, true, true, true, true, true, true, true, true, true, true, true, true, true, true, true, true, true, true, true, true, true, true, true, true, true, true, true, true, false, true, false, false, false, false, false, false, false, false, false, false, false, false, false, false, false, false, false, false, false, false, false, false, false, false] rfl rfl (any_of HT_.out (by kernel_rfl)) (fun _ _ _ h => h) (Or.inl ⟨by rfl, ?_⟩) ?_ ?_
                                rotate_left
                                ·
                                 intro w'
                                 go_simp
                                 with_reducible rfl
                                rotate_left
                                ·
                                 simp only [Act.put, List.setIfInBounds_toArray, List.set_cons_zero, List.set_cons_succ, i64_w, i32_w]
                                 rfl
                                refine pure_ (i := 32) (N := some 259) (v := ?_) (a' := ?_) #[true, true, true, true, true, true, true, true, true, true, true, true, true, true, true, true, true, true, true, true, true, true, true, true, true, true, true, true, true, true, false, true, true, false, false, false, false, false, false, false, false, false, false, false, false, false, false, false, false, false, false, false, false, false, false, false] rfl rfl (any_of HT_.out (by kernel_rfl)) (fun _ _ _ h => h) (Or.inl ⟨by rfl, ?_⟩) ?_ ?_
                                rotate_left
                                ·
                                 intro w'
                                 go_simp
                                 with_reducible rfl
                                rotate_left
                                ·
                                 simp only [Act.put, List.setIfInBounds_toArray, List.set_cons_zero, List.set_cons_succ, i64_w, i32_w]
                                 rfl
                                refine take_ (i := 30) (N := some 257) (v := ?_) (a' := ?_) #[true, true, true, true, true, true, true, true, true, true, true, true, true, true, true, true, true, true, true, true, true, true, true, true, true, true, true, true, true, true, true, true, true, false, false, false, false, false, false, false, false, false, false, false, false, false, false, false, false, false, false, false, false, false, false, false] rfl rfl (take_ofW HT_.out HW_.out (by kernel_rfl)) (fun _ _ _ h => h) (Or.inl ⟨by rfl, ?_⟩) hHeld ?_ ?_
                                rotate_left
                                ·
                                 rintro w' ⟨s0, s1, s2, s3, s4, s5, s6⟩
                                 go_simp
                                 with_reducible rfl
                                rotate_left
                                ·
                                 simp only [Act.put, List.setIfInBounds_toArray, List.set_cons_zero, List.set_cons_succ, i64_w, i32_w]
                                 rfl
                                refine take_ (i := 33) (N := some 260) (v := ?_) (a' := ?_) #[true, true, true, true, true, true, true, true, true, true, true, true, true, true, true, true, true, true, true, true, true, true, true, true, true, true, true, true, true, true, true, true, true, true, false, false, false, false, false, false, false, false, false, false, false, false, false, false, false, false, false, false, false, false, false, false] rfl rfl (take_ofW HT_.out HW_.out (by kernel_rfl)) (fun _ _ _ h => h) (Or.inl ⟨by rfl, ?_⟩) hHeld ?_ ?_
                                rotate_left
                                ·
                                 rintro w' ⟨s0, s1, s2, s3, s4, s5, s6⟩
                                 go_simp
                                 with_reducible rfl
                                rotate_left
                                ·
                                 simp only [Act.put, List.setIfInBounds_toArray, List.set_cons_zero, List.set_cons_succ, i64_w, i32_w]
                                 rfl
                                refine pure_ (i := 34) (N := some 261) (v := ?_) (a' := ?_) #[true, true, true, true, true, true, true, true, true, true, true, true, true, true, true, true, true, true, true, true, true, true, true, true, true, true, true, true, true, true, true, true, true, true, true, false, false, false, false, false, false, false, false, false, false, false, false, false, false, false, false, false, false, false, false, false] rfl rfl (any_of HT_.out (by kernel_rfl)) (fun _ _ _ h => h) (Or.inl ⟨by rfl, ?_⟩) ?_ ?_
                                rotate_left
                                ·
                                 intro w'
                                 go_simp
                                 with_reducible rfl
                                rotate_left
                                ·
                                 simp only [Act.put, List.setIfInBounds_toArray, List.set_cons_zero, List.set_cons_succ, i64_w, i32_w]
                                 rfl
                                refine pure_ (i := 35) (N := some 262) (v := ?_) (a' := ?_) #[true, true, true, true, true, true, true, true, true, true, true, true, true, true, true, true, true, true, true, true, true, true, true, true, true, true, true, true, true, true, true, true, true, true, true, true, false, false, false, false, false, false, false, false, false, false, false, false, false, false, false, false, false, false, false, false] rfl rfl (any_of HT_.out (by kernel_rfl)) (fun _ _ _ h => h) (Or.inl ⟨by rfl, ?_⟩) ?_ ?_
                                rotate_left
                                ·
                                 intro w'
                                 go_simp
                                 with_reducible rfl
                                rotate_left
                                ·
                                 simp only [Act.put, List.setIfInBounds_toArray, List.set_cons_zero, List.set_cons_succ, i64_w, i32_w]
                                 rfl
                                refine pure_ (i := 36) (N := some 263) (v := ?_) (a' := ?_) #[true, true, true, true, true, true, true, true, true, true, true, true, true, true, true, true, true, true, true, true, true, true, true, true, true, true, true, true, true, true, true, true, true, true, true, true, true, false, false, false, false, false, false, false, false, false, false, false, false, false, false, false, false, false, false, false] rfl rfl (any_of HT_.out (by kernel_rfl)) (fun _ _ _ h => h) (Or.inl ⟨by rfl, ?_⟩) ?_ ?_
                                rotate_left
                                ·
                                 intro w'
                                 go_simp
                                 with_reducible rfl
                                rotate_left
                                ·
                                 simp only [Act.put, List.setIfInBounds_toArray, List.set_cons_zero, List.set_cons_succ, i64_w, i32_w]
                                 rfl
                                refine pure_ (i := 37) (N := some 264) (v := ?_) (a' := ?_) #[true, true, true, true, true, true, true, true, true, true, true, true, true, true, true, true, true, true, true, true, true, true, true, true, true, true, true, true, true, true, true, true, true, true, true, true, true, true, false, false, false, false, false, false, false, false, false, false, false, false, false, false, false, false, false, false] rfl rfl (any_of HT_.out (by kernel_rfl)) (fun _ _ _ h => h) (Or.inl ⟨by rfl, ?_⟩) ?_ ?_
                                rotate_left
                                ·
                                 intro w'
                                 go_simp
                                 with_reducible rfl
                                rotate_left
                                ·
                                 simp only [Act.put, List.setIfInBounds_toArray, List.set_cons_zero, List.set_cons_succ, i64_w, i32_w]
                                 rfl
                                refine pure_ (i := 38) (N := some 265) (v := ?_) (a' := ?_) #[true, true, true, true, true, true, true, true, true, true, true, true, true, true, true, true, true, true, true, true, true, true, true, true, true, true, true, true, true, true, true, true, true, true, true, true, true, true, true, false, false, false, false, false, false, false, false, false, false, false, false, false, false, false, false, false] rfl rfl (any_of HT_.out (by kernel_rfl)) (fun _ _ _ h => h) (Or.inl ⟨by rfl, ?_⟩) ?_ ?_
                                rotate_left
                                ·
                                 intro w'
                                 go_simp
                                 with_reducible rfl
                                rotate_left
                                ·
                                 simp only [Act.put, List.setIfInBounds_toArray, List.set_cons_zero, List.set_cons_succ, i64_w, i32_w]
                                 rfl
                                refine take_ (i := 39) (N := some 266) (v := ?_) (a' := ?_) #[true, true, true, true, true, true, true, true, true, true, true, true, true, true, true, true, true, true, true, true, true, true, true, true, true, true, true, true, true, true, true, true, true, true, true, true, true, true, true, true, false, false, false, false, false, false, false, false, false, false, false, false, false, false, false, false] rfl rfl (take_ofW HT_.out HW_.out (by kernel_rfl)) (fun _ _ _ h => h) (Or.inl ⟨by rfl, ?_⟩) hHeld ?_ ?_
                                rotate_left
                                ·
                                 rintro w' ⟨s0, s1, s2, s3, s4, s5, s6⟩
                                 go_simp
                                 with_reducible rfl
                                rotate_left
                                ·
                                 simp only [Act.put, List.setIfInBounds_toArray, List.set_cons_zero, List.set_cons_succ, i64_w, i32_w]
                                 rfl
                                refine pure_ (i := 40) (N := some 267) (v := ?_) (a' := ?_) #[true, true, true, true, true, true, true, true, true, true, true, true, true, true, true, true, true, true, true, true, true, true, true, true, true, true, true, true, true, true, true, true, true, true, true, true, true, true, true, true, true, false, false, false, false, false, false, false, false, false, false, false, false, false, false, false] rfl rfl (any_of HT_.out (by kernel_rfl)) (fun _ _ _ h => h) (Or.inl ⟨by rfl, ?_⟩) ?_ ?_
                                rotate_left
                                ·
                                 intro w'
                                 go_simp
                                 with_reducible rfl
                                rotate_left
                                ·
                                 simp only [Act.put, List.setIfInBounds_toArray, List.set_cons_zero, List.set_cons_succ, i64_w, i32_w]
                                 rfl
                                refine pure_ (i := 41) (N := some 268) (v := ?_) (a' := ?_) #[true, true, true, true, true, true, true, true, true, true, true, true, true, true, true, true, true, true, true, true, true, true, true, true, true, true, true, true, true, true, true, true, true, true, true, true, true, true, true, true, true, true, false, false, false, false, false, false, false, false, false, false, false, false, false, false] rfl rfl (any_of HT_.out (by kernel_rfl)) (fun _ _ _ h => h) (Or.inl ⟨by rfl, ?_⟩) ?_ ?_
                                rotate_left
                                ·
                                 intro w'
                                 go_simp
                                 with_reducible rfl
                                rotate_left
                                ·
                                 simp only [Act.put, List.setIfInBounds_toArray, List.set_cons_zero, List.set_cons_succ, i64_w, i32_w]
                                 rfl
                                refine pure_ (i := 42) (N := some 269) (v := ?_) (a' := ?_) #[true, true, true, true, true, true, true, true, true, true, true, true, true, true, true, true, true, true, true, true, true, true, true, true, true, true, true, true, true, true, true, true, true, true, true, true, true, true, true, true, true, true, true, false, false, false, false, false, false, false, false, false, false, false, false, false] rfl rfl (any_of HT_.out (by kernel_rfl)) (fun _ _ _ h => h) (Or.inl ⟨by rfl, ?_⟩) ?_ ?_
                                rotate_left
                                ·
                                 intro w'
                                 go_simp
                                 with_reducible rfl
                                rotate_left
                                ·
                                 simp only [Act.put, List.setIfInBounds_toArray, List.set_cons_zero, List.set_cons_succ, i64_w, i32_w]
                                 rfl
                                refine pure_ (i := 43) (N := some 270) (v := ?_) (a' := ?_) #[true, true, true, true, true, true, true, true, true, true, true, true, true, true, true, true, true, true, true, true, true, true, true, true, true, true, true, true, true, true, true, true, true, true, true, true, true, true, true, true, true, true, true, true, false, false, false, false, false, false, false, false, false, false, false, false] rfl rfl (any_of HT_.out (by kernel_rfl)) (fun _ _ _ h => h) (Or.inl ⟨by rfl, ?_⟩) ?_ ?_
                                rotate_left
                                ·
                                 intro w'
                                 go_simp
                                 with_reducible rfl
                                rotate_left
                                ·
                                 simp only [Act.put, List.setIfInBounds_toArray, List.set_cons_zero, List.set_cons_succ, i64_w, i32_w]
                                 rfl
                                refine pure_ (i := 44) (N := some 271) (v := ?_) (a' := ?_) #[true, true, true, true, true, true, true, true, true, true, true, true, true, true, true, true, true, true, true, true, true, true, true, true, true, true, true, true, true, true, true, true, true, true, true, true, true, true, true, true, true, true, true, true, true, false, false, false, false, false, false, false, false, false, false, false] rfl rfl (any_of HT_.out (by kernel_rfl)) (fun _ _ _ h => h) (Or.inl ⟨by rfl, ?_⟩) ?_ ?_
                                rotate_left
                                ·
                                 intro w'
                                 go_simp
                                 with_reducible rfl
                                rotate_left
                                ·
                                 simp only [Act.put, List.setIfInBounds_toArray, List.set_cons_zero, List.set_cons_succ, i64_w, i32_w]
                                 rfl
                                refine pure_ (i := 45) (N := some 272) (v := ?_) (a' := ?_) #[true, true, true, true, true, true, true, true, true, true, true, true, true, true, true, true, true, true, true, true, true, true, true, true, true, true, true, true, true, true, true, true, true, true, true, true, true, true, true, true, true, true, true, true, true, true, false, false, false, false, false, false, false, false, false, false] rfl rfl (any_of HT_.out (by kernel_rfl)) (fun _ _ _ h => h) (Or.inl ⟨by rfl, ?_⟩) ?_ ?_
                                rotate_left
                                ·
                                 intro w'
                                 go_simp
                                 with_reducible rfl
                                rotate_left
                                ·
                                 simp only [Act.put, List.setIfInBounds_toArray, List.set_cons_zero, List.set_cons_succ, i64_w, i32_w]
                                 rfl
                                refine pure_ (i := 46) (N := some 273) (v := undef) (a' := ?_) #[true, true, true, true, true, true, true, true, true, true, true, true, true, true, true, true, true, true, true, true, true, true, true, true, true, true, true, true, true, true, true, true, true, true, true, true, true, true, true, true, true, true, true, true, true, true, true, false, false, false, false, false, false, false, false, false] rfl rfl (any_of HT_.out (by kernel_rfl)) (fun _ _ _ h => h) (Or.inr ⟨by rfl, rfl⟩) ?_ ?_
                                rotate_left
                                ·
                                 simp only [Act.put, List.setIfInBounds_toArray, List.set_cons_zero, List.set_cons_succ, i64_w, i32_w]
                                 rfl
                                refine pure_ (i := 47) (N := some 274) (v := undef) (a' := ?_) #[true, true, true, true, true, true, true, true, true, true, true, true, true, true, true, true, true, true, true, true, true, true, true, true, true, true, true, true, true, true, true, true, true, true, true, true, true, true, true, true, true, true, true, true, true, true, true, true, false, false, false, false, false, false, false, false] rfl rfl (any_of HT_.out (by kernel_rfl)) (fun _ _ _ h => h) (Or.inr ⟨by rfl, rfl⟩) ?_ ?_
                                rotate_left
                                ·
                                 simp only [Act.put, List.setIfInBounds_toArray, List.set_cons_zero, List.set_cons_succ, i64_w, i32_w]
                                 rfl
                                refine pure_ (i := 48) (N := some 275) (v := undef) (a' := ?_) #[true, true, true, true, true, true, true, true, true, true, true, true, true, true, true, true, true, true, true, true, true, true, true, true, true, true, true, true, true, true, true, true, true, true, true, true, true, true, true, true, true, true, true, true, true, true, true, true, true, false, false, false, false, false, false, false] rfl rfl (any_of HT_.out (by kernel_rfl)) (fun _ _ _ h => h) (Or.inr ⟨by rfl, rfl⟩) ?_ ?_
                                rotate_left
                                ·
                                 simp only [Act.put, List.setIfInBounds_toArray, List.set_cons_zero, List.set_cons_succ, i64_w, i32_w]
                                 rfl
                                refine pure_ (i := 49) (N := some 276) (v := undef) (a' := ?_) #[true, true, true, true, true, true, true, true, true, true, true, true, true, true, true, true, true, true, true, true, true, true, true, true, true, true, true, true, true, true, true, true, true, true, true, true, true, true, true, true, true, true, true, true, true, true, true, true, true, true, false, false, false, false, false, false] rfl rfl (any_of HT_.out (by kernel_rfl)) (fun _ _ _ h => h) (Or.inr ⟨by rfl, rfl⟩) ?_ ?_
                                rotate_left
                                ·
                                 simp only [Act.put, List.setIfInBounds_toArray, List.set_cons_zero, List.set_cons_succ, i64_w, i32_w]
                                 rfl
                                refine pure_ (i := 50) (N := some 277) (v := undef) (a' := ?_) #[true, true, true, true, true, true, true, true, true, true, true, true, true, true, true, true, true, true, true, true, true, true, true, true, true, true, true, true, true, true, true, true, true, true, true, true, true, true, true, true, true, true, true, true, true, true, true, true, true, true, true, false, false, false, false, false] rfl rfl (any_of HT_.out (by kernel_rfl)) (fun _ _ _ h => h) (Or.inr ⟨by rfl, rfl⟩) ?_ ?_
                                rotate_left
                                ·
                                 simp only [Act.put, List.setIfInBounds_toArray, List.set_cons_zero, List.set_cons_succ, i64_w, i32_w]
                                 rfl
                                refine pure_ (i := 51) (N := some 278) (v := undef) (a' := ?_) #[true, true, true, true, true, true, true, true, true, true, true, true, true, true, true, true, true, true, true, true, true, true, true, true, true, true, true, true, true, true, true, true, true, true, true, true, true, true, true, true, true, true, true, true, true, true, true, true, true, true, true, true, false, false, false, false] rfl rfl (any_of HT_.out (by kernel_rfl)) (fun _ _ _ h => h) (Or.inr ⟨by rfl, rfl⟩) ?_ ?_
                                rotate_left
                                ·
                                 simp only [Act.put, List.setIfInBounds_toArray, List.set_cons_zero, List.set_cons_succ, i64_w, i32_w]
                                 rfl
                                refine pure_ (i := 52) (N := some 279) (v := undef) (a' := ?_) #[true, true, true, true, true, true, true, true, true, true, true, true, true, true, true, true, true, true, true, true, true, true, true, true, true, true, true, true, true, true, true, true, true, true, true, true, true, true, true, true, true, true, true, true, true, true, true, true, true, true, true, true, true, false, false, false] rfl rfl (any_of HT_.out (by kernel_rfl)) (fun _ _ _ h => h) (Or.inr ⟨by rfl, rfl⟩) ?_ ?_
                                rotate_left
                                ·
                                 simp only [Act.put, List.setIfInBounds_toArray, List.set_cons_zero, List.set_cons_succ, i64_w, i32_w]
                                 rfl
                                refine pure_ (i := 53) (N := some 280) (v := undef) (a' := ?_) #[true, true, true, true, true, true, true, true, true, true, true, true, true, true, true, true, true, true, true, true, true, true, true, true, true, true, true, true, true, true, true, true, true, true, true, true, true, true, true, true, true, true, true, true, true, true, true, true, true, true, true, true, true, true, false, false] rfl rfl (any_of HT_.out (by kernel_rfl)) (fun _ _ _ h => h) (Or.inr ⟨by rfl, rfl⟩) ?_ ?_
                                rotate_left
                                ·
                                 simp only [Act.put, List.setIfInBounds_toArray, List.set_cons_zero, List.set_cons_succ, i64_w, i32_w]
                                 rfl
                                refine pure_ (i := 54) (N := some 281) (v := ?_) (a' := ?_) #[true, true, true, true, true, true, true, true, true, true, true, true, true, true, true, true, true, true, true, true, true, true, true, true, true, true, true, true, true, true, true, true, true, true, true, true, true, true, true, true, true, true, true, true, true, true, true, true, true, true, true, true, true, true, true, false] rfl rfl (any_of HT_.out (by kernel_rfl)) (fun _ _ _ h => h) (Or.inl ⟨by rfl, ?_⟩) ?_ ?_
                                rotate_left
                                ·
                                 intro w'
                                 go_simp
                                 with_reducible rfl
                                rotate_left
                                ·
                                 simp only [Act.put, List.setIfInBounds_toArray, List.set_cons_zero, List.set_cons_succ, i64_w, i32_w]
                                 rfl
                                refine pure_ (i := 55) (N := some 282) (v := ?_) (a' := ?_) #[true, true, true, true, true, true, true, true, true, true, true, true, true, true, true, true, true, true, true, true, true, true, true, true, true, true, true, true, true, true, true, true, true, true, true, true, true, true, true, true, true, true, true, true, true, true, true, true, true, true, true, true, true, true, true, true] rfl rfl (any_of HT_.out (by kernel_rfl)) (fun _ _ _ h => h) (Or.inl ⟨by rfl, ?_⟩) ?_ ?_
                                rotate_left
                                ·
                                 intro w'
                                 go_simp
                                 with_reducible rfl
                                rotate_left
                                ·
                                 simp only [Act.put, List.setIfInBounds_toArray, List.set_cons_zero, List.set_cons_succ, i64_w, i32_w]
                                 rfl
                                refine done_ (done_of HT_.out (by kernel_rfl)) ?_
                                try go_wp2
                                go_roundg k4
                                case measure => have := HJ13.out; have := HJ66.out; have := HJ105.out; have := HK4.out; omega
                                case rel => exact ⟨(wrap64 (x222_4 + 1)), (by first | rfl | (simp; done) | (simp [*]; done)), H', ⟨by have := HJ13.out; have := HJ66.out; have := HJ105.out; have := HK4.out; omega⟩, ⟨by (with_reducible repeat (first | apply Kd.S_alloc | apply Kd.S_drewN | apply Kd.S_drew)); exact HO_6.out⟩, ⟨by (with_reducible repeat (first | apply Kd.S_alloc | apply Kd.S_drewN | apply Kd.S_drew)); exact HO_220.out⟩, ⟨by repeat (first | (with_reducible first | exact HB.out | apply below_alloc | apply pw_below_drewN | apply below_drew1) | exact HB.out | exact Below.refl _ _)⟩⟩
                            ·
                             rw [if_neg c146] at H
                             exact absurd H (by simp)
                          ·
                           rw [if_neg c143] at H
                           exact absurd H (by simp)
                        ·
                         rw [if_neg c140] at H
                         exact absurd H (by simp)
                       ·
                        rw [if_neg c139] at H
                        exact absurd H (by simp)
                      ·
                       rw [if_neg c138] at H
                       exact absurd (H.trans (congrArg some hrT)) (by simp)
                     ·
                      rw [if_neg c136] at H
                      exact absurd (H.trans (congrArg some hrT)) (by simp)
                    ·
                     rw [if_neg c135] at H
                     exact absurd H (by simp)
                   ·
                    rw [if_neg c134] at H
                    exact absurd H (by simp)
                  ·
                   rw [if_neg c133] at H
                   have c133b0 : decide (x222_4 < (t248.length : Int)) = false := decide_eq_false c133
                   clear c133
                   obtain rfl := Option.some.inj H
                   go_wp2
                   go_ret
                   exact ⟨by first | rfl | (simp [errW_none, errW_some] <;> rfl) | (simp [*, errW_none, errW_some] <;> rfl), by repeat (first | (with_reducible first | exact HB.out | apply below_alloc | apply pw_below_drewN | apply below_drew1) | exact HB.out | exact Below.refl _ _)⟩
          ·
           replace c105 := Bool.eq_false_iff.mpr c105
           subst c105
           have H1 : (some true) = some r := by rw [if_neg (show ¬ (false = true) by decide)] at H; exact H
           clear H
           have H := H1
           clear H1
           obtain rfl := Option.some.inj H
           go_wp2
           go_ret
           exact ⟨by first | rfl | (simp [errW_none, errW_some] <;> rfl) | (simp [*, errW_none, errW_some] <;> rfl), by repeat (first | (with_reducible first | exact HB.out | apply below_alloc | apply pw_below_drewN | apply below_drew1) | exact HB.out | exact Below.refl _ _)⟩

/-- THE ONE PURE STATEMENT of laws_FnFourSquaresCounted: yours. -/
def laws_FnFourSquaresCounted.Pure : Prop := ∀ (l0 : List Int) (l1 : List Int), l0.length ≤ maxLen → l0.length * 1 ≤ 140737488351232 → (∀ x ∈ l0, (Lit.int .u8 x).wf = true) → l1.length ≤ maxLen → l1.length * 1 ≤ 140737488351232 → (∀ x ∈ l1, (Lit.int .u8 x).wf = true) → ∃ k, laws_FnFourSquaresCounted.f k l0 l1 = some true
theorem laws_FnFourSquaresCounted.walk (P : laws_FnFourSquaresCounted.Pure) (a0 : Option Addr) (len0 cap0 : Nat) (z0 : List Int) (a1 : Option Addr) (len1 cap1 : Nat) (z1 : List Int) (w : World) (w0 : (a0 = none ∧ len0 = 0 ∧ cap0 = 0 ∧ z0 = []) ∨ ∃ x, a0 = some x ∧ len0 ≤ cap0 ∧ cap0 ≤ maxLen ∧ z0.length = cap0 ∧ (∀ i, i < z0.length → w.cell? (x.add i) = some (.int .u8 (z0.getD i 0))) ∧ ∀ n ∈ z0, (Lit.int .u8 n).wf = true) (y0 : len0 * 1 ≤ 140737488351232) (w1 : (a1 = none ∧ len1 = 0 ∧ cap1 = 0 ∧ z1 = []) ∨ ∃ x, a1 = some x ∧ len1 ≤ cap1 ∧ cap1 ≤ maxLen ∧ z1.length = cap1 ∧ (∀ i, i < z1.length → w.cell? (x.add i) = some (.int .u8 (z1.getD i 0))) ∧ ∀ n ∈ z1, (Lit.int .u8 n).wf = true) (y1 : len1 * 1 ≤ 140737488351232) :
 Calls Try.prog 6 #[.slice a0 len0 cap0, .slice a1 len1 cap1] w fun e w' => e = .returned (.bool true) ∧ Below w.heap.size w w' := by
 obtain ⟨l0, rfl, hr0, hm0, hw0, hc0⟩ := ReadsInt.ofRowC w0
 obtain ⟨l1, rfl, hr1, hm1, hw1, hc1⟩ := ReadsInt.ofRowC w1
 obtain ⟨k, h⟩ := P l0 l1 hm0 y0 hw0 hm1 y1 hw1
 refine (laws_FnFourSquaresCounted.calls k _ _ l0 _ _ l1 true w (Kd.C_of_reads (d := (0 : Int)) (h1 := fun _ => rfl) hr0) hc0 (Kd.C_of_reads (d := (0 : Int)) (h1 := fun _ => rfl) hr1) hc1 h rfl).mono ?_
 rintro e w' ⟨rfl, hd⟩
 exact ⟨rfl, hd⟩

end Go.Proofs.Ytpmbffchkcemoaa.P
