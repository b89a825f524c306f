-- Written by a program of this session (wip/mkprint.py over the kit's print), out of the translation. Not trusted: Lean checks it.
import Derived.Test.YtpmbffchkcemoaaIx0
import Derived.Test.YtpmbffchkcemoaaIx1
import Derived.Test.YtpmbffchkcemoaaIx2
import Derived.Test.YtpmbffchkcemoaaIx3
import Derived.Test.YtpmbffchkcemoaaIx4
import Derived.Test.YtpmbffchkcemoaaIx5
import Derived.Test.YtpmbffchkcemoaaIx6
import Derived.Test.YtpmbffchkcemoaaIx7
namespace Go.Proofs.Ytpmbffchkcemoaa.P
open Go.RowKit Go.Proofs.YtpmbffchkcemoaaW.PrintWords Go.Proofs.YtpmbffchkcemoaaW.PrintLast Go.Proofs.YtpmbffchkcemoaaW.PrintMore
attribute [local go_sem] max2_int min2_int max_two min_two max_three min_three max_four min_four   -- for this text's walks alone
set_option linter.unusedVariables false
set_option linter.unusedSimpArgs false

/-! ### laws_FnTwoSquaresCounted: function 7 -/
mutual
def laws_FnTwoSquaresCounted.j0 : Nat → List Int → Int → List (List Int) → Bool → List Int → Bool → Int → Bool → Int → Bool → Int → Bool → Bool → Option (Bool)
 | 0, _, _, _, _, _, _, _, _, _, _, _, _, _ => none
 | k + 1, x1, x5, x6, x9, x10, x11, x14, x15, x18, x19, x22, x23, x140 => if x140 = true then (some false) else ((spec_DrawMultiplyTwo.f k x1).bind fun bt313 => ((impl_MultiplyTwo.f bt313.1 bt313.2).bind fun bt319 => ((spec_MultiplyTwo.f k bt313.1 bt313.2).bind fun bt323 => (if (bt319.2 != bt323.2) = true then (laws_FnTwoSquaresCounted.j1 k x5 x6 x9 x10 x11 x14 x15 x18 x19 x22 x23 true) else ((laws_vSame.f k bt319.1 bt323.1).bind fun t327 => (if t327 = true then (if bt319.2 = true then ((laws_vSquares.f k bt319.1).bind fun t328 => ((laws_vSquares.f k bt313.1).bind fun t329 => ((laws_vSquares.f k bt313.2).bind fun t330 => (laws_FnTwoSquaresCounted.j1 k x5 x6 x9 x10 x11 x14 x15 x18 x19 x22 x23 (t328 != (wrap64 (t329 * t330))))))) else (laws_FnTwoSquaresCounted.j1 k x5 x6 x9 x10 x11 x14 x15 x18 x19 x22 x23 false)) else (laws_FnTwoSquaresCounted.j1 k x5 x6 x9 x10 x11 x14 x15 x18 x19 x22 x23 true)))))))
def laws_FnTwoSquaresCounted.j1 : Nat → Int → List (List Int) → Bool → List Int → Bool → Int → Bool → Int → Bool → Int → Bool → Bool → Option (Bool)
 | 0, _, _, _, _, _, _, _, _, _, _, _, _ => none
 | k + 1, x5, x6, x9, x10, x11, x14, x15, x18, x19, x22, x23, x179 => if x179 = true then (some false) else (if x9 = true then (if (x11 != (decide ((x6.length : Int) > 0))) = true then (laws_FnTwoSquaresCounted.j2 k x5 x6 x14 x15 true) else (if x11 = true then (if 0 < (x6.length : Int) then ((laws_vSame.f k x10 (rd_L2 x6 0)).bind fun t332 => (if t332 = true then (if x5 > 0 then (if (x15 == x11) = true then (laws_FnTwoSquaresCounted.j2 k x5 x6 x14 x15 true) else (if x19 = true then (if x23 = true then (laws_FnTwoSquaresCounted.j2 k x5 x6 x14 x15 (x18 != x22)) else (laws_FnTwoSquaresCounted.j2 k x5 x6 x14 x15 false)) else (laws_FnTwoSquaresCounted.j2 k x5 x6 x14 x15 false))) else (if x19 = true then (if x23 = true then (laws_FnTwoSquaresCounted.j2 k x5 x6 x14 x15 (x18 != x22)) else (laws_FnTwoSquaresCounted.j2 k x5 x6 x14 x15 false)) else (laws_FnTwoSquaresCounted.j2 k x5 x6 x14 x15 false))) else (laws_FnTwoSquaresCounted.j2 k x5 x6 x14 x15 true))) else (none)) else (if x5 > 0 then (if (x15 == x11) = true then (laws_FnTwoSquaresCounted.j2 k x5 x6 x14 x15 true) else (if x19 = true then (if x23 = true then (laws_FnTwoSquaresCounted.j2 k x5 x6 x14 x15 (x18 != x22)) else (laws_FnTwoSquaresCounted.j2 k x5 x6 x14 x15 false)) else (laws_FnTwoSquaresCounted.j2 k x5 x6 x14 x15 false))) else (if x19 = true then (if x23 = true then (laws_FnTwoSquaresCounted.j2 k x5 x6 x14 x15 (x18 != x22)) else (laws_FnTwoSquaresCounted.j2 k x5 x6 x14 x15 false)) else (laws_FnTwoSquaresCounted.j2 k x5 x6 x14 x15 false))))) else (some true))
def laws_FnTwoSquaresCounted.j2 : Nat → Int → List (List Int) → Int → Bool → Bool → Option (Bool)
 | 0, _, _, _, _, _ => none
 | k + 1, x5, x6, x14, x15, x217 => if x217 = true then (some false) else (if x15 = true then (laws_FnTwoSquaresCounted.l0 k x5 x6 x14 0 x5) else (laws_FnTwoSquaresCounted.j4 k x5 x6))
def laws_FnTwoSquaresCounted.j4 : Nat → Int → List (List Int) → Option (Bool)
 | 0, _, _ => none
 | k + 1, x5, x6 => laws_FnTwoSquaresCounted.l1 k x5 x6 x6 (x6.length : Int) 0
def laws_FnTwoSquaresCounted.l1 : Nat → Int → List (List Int) → List (List Int) → Int → Int → Option (Bool)
 | 0, _, _, _, _, _ => none
 | k + 1, x5, x6, x237, x238, x239 => if x239 < x238 then (if 0 ≤ x239 then (if x239 < (x237.length : Int) then (if ((rd_L2 x237 x239).length : Int) = 2 then (if 0 < ((rd_L2 x237 x239).length : Int) then (if 1 < ((rd_L2 x237 x239).length : Int) then (if (rd (rd_L2 x237 x239) 0) < (rd (rd_L2 x237 x239) 1) then (some false) else (if (rd (rd_L2 x237 x239) 1) < 0 then (some false) else ((laws_vSquares.f k (rd_L2 x237 x239)).bind fun t337 => (if t337 = x5 then (if x239 > 0 then (if 0 ≤ (wrap64 (x239 - 1)) then (if (wrap64 (x239 - 1)) < (x6.length : Int) then ((laws_vBefore.f k (rd_L2 x237 x239) (rd_L2 x6 (wrap64 (x239 - 1)))).bind fun t339 => (if t339 = true then (laws_FnTwoSquaresCounted.l1 k x5 x6 x237 x238 (wrap64 (x239 + 1))) else (some false))) else (none)) else (none)) else (laws_FnTwoSquaresCounted.l1 k x5 x6 x237 x238 (wrap64 (x239 + 1)))) else (some false))))) else (none)) else (none)) else (some false)) else (none)) else (none)) else (some true)
def laws_FnTwoSquaresCounted.l0 : Nat → Int → List (List Int) → Int → Int → Int → Option (Bool)
 | 0, _, _, _, _, _ => none
 | k + 1, x5, x6, x14, x32, x33 => if x14 = 0 then (none) else (if (Int.tmod x33 x14) = 0 then (laws_FnTwoSquaresCounted.l0 k x5 x6 x14 (wrap64 (x32 + 1)) (wrap64 (Int.tdiv x33 x14))) else (if (Int.tmod x14 4) = 3 then (if (Int.tmod x32 2) = 0 then (some false) else (laws_FnTwoSquaresCounted.j4 k x5 x6)) else (some false)))
end
def laws_FnTwoSquaresCounted.f (k : Nat) (l0 : List Int) (l1 : List Int) : Option (Bool) := (laws_big.f l0 l1).bind fun t281 => (if t281 = true then (some true) else ((spec_DrawAllTwoSquares.f l0).bind fun t282 => ((impl_AllTwoSquares.f k t282).bind fun bt283 => ((spec_AllTwoSquares.f k t282).bind fun bt287 => ((impl_TwoSquares.f k t282).bind fun bt291 => ((spec_TwoSquares.f k t282).bind fun bt295 => ((impl_RefusingPrime.f k t282).bind fun bt299 => ((spec_RefusingPrime.f k t282).bind fun bt301 => ((impl_CountTwo.f k t282).bind fun bt303 => ((spec_CountTwo.f k t282).bind fun bt305 => ((impl_DivisorBalance.f k t282).bind fun bt307 => ((spec_DivisorBalance.f k t282).bind fun bt309 => (if (bt283.2 != bt287.2) = true then (laws_FnTwoSquaresCounted.j0 k l1 t282 bt283.1 bt287.2 bt291.1 bt291.2 bt299.1 bt299.2 bt303.1 bt303.2 bt307.1 bt307.2 true) else ((laws_vSameLists.f k bt283.1 bt287.1).bind fun t311 => (if t311 = true then (if (bt291.2 != bt295.2) = true then (laws_FnTwoSquaresCounted.j0 k l1 t282 bt283.1 bt287.2 bt291.1 bt291.2 bt299.1 bt299.2 bt303.1 bt303.2 bt307.1 bt307.2 true) else ((laws_vSame.f k bt291.1 bt295.1).bind fun t312 => (if t312 = true then (if (bt299.2 != bt301.2) = true then (laws_FnTwoSquaresCounted.j0 k l1 t282 bt283.1 bt287.2 bt291.1 bt291.2 bt299.1 bt299.2 bt303.1 bt303.2 bt307.1 bt307.2 true) else (if bt299.1 = bt301.1 then (if (bt303.2 != bt305.2) = true then (laws_FnTwoSquaresCounted.j0 k l1 t282 bt283.1 bt287.2 bt291.1 bt291.2 bt299.1 bt299.2 bt303.1 bt303.2 bt307.1 bt307.2 true) else (if bt303.1 = bt305.1 then (if (bt307.2 != bt309.2) = true then (laws_FnTwoSquaresCounted.j0 k l1 t282 bt283.1 bt287.2 bt291.1 bt291.2 bt299.1 bt299.2 bt303.1 bt303.2 bt307.1 bt307.2 true) else (laws_FnTwoSquaresCounted.j0 k l1 t282 bt283.1 bt287.2 bt291.1 bt291.2 bt299.1 bt299.2 bt303.1 bt303.2 bt307.1 bt307.2 (bt307.1 != bt309.1))) else (laws_FnTwoSquaresCounted.j0 k l1 t282 bt283.1 bt287.2 bt291.1 bt291.2 bt299.1 bt299.2 bt303.1 bt303.2 bt307.1 bt307.2 true))) else (laws_FnTwoSquaresCounted.j0 k l1 t282 bt283.1 bt287.2 bt291.1 bt291.2 bt299.1 bt299.2 bt303.1 bt303.2 bt307.1 bt307.2 true))) else (laws_FnTwoSquaresCounted.j0 k l1 t282 bt283.1 bt287.2 bt291.1 bt291.2 bt299.1 bt299.2 bt303.1 bt303.2 bt307.1 bt307.2 true)))) else (laws_FnTwoSquaresCounted.j0 k l1 t282 bt283.1 bt287.2 bt291.1 bt291.2 bt299.1 bt299.2 bt303.1 bt303.2 bt307.1 bt307.2 true))))))))))))))))
theorem laws_FnTwoSquaresCounted.mono_l : ∀ k, (∀ y0 y1 y2 y3 y4 y5 y6 y7 y8 y9 y10 y11 y12, LeO (laws_FnTwoSquaresCounted.j0 k y0 y1 y2 y3 y4 y5 y6 y7 y8 y9 y10 y11 y12) (laws_FnTwoSquaresCounted.j0 (k + 1) y0 y1 y2 y3 y4 y5 y6 y7 y8 y9 y10 y11 y12)) ∧ (∀ y0 y1 y2 y3 y4 y5 y6 y7 y8 y9 y10 y11, LeO (laws_FnTwoSquaresCounted.j1 k y0 y1 y2 y3 y4 y5 y6 y7 y8 y9 y10 y11) (laws_FnTwoSquaresCounted.j1 (k + 1) y0 y1 y2 y3 y4 y5 y6 y7 y8 y9 y10 y11)) ∧ (∀ y0 y1 y2 y3 y4, LeO (laws_FnTwoSquaresCounted.j2 k y0 y1 y2 y3 y4) (laws_FnTwoSquaresCounted.j2 (k + 1) y0 y1 y2 y3 y4)) ∧ (∀ y0 y1, LeO (laws_FnTwoSquaresCounted.j4 k y0 y1) (laws_FnTwoSquaresCounted.j4 (k + 1) y0 y1)) ∧ (∀ y0 y1 y2 y3 y4, LeO (laws_FnTwoSquaresCounted.l1 k y0 y1 y2 y3 y4) (laws_FnTwoSquaresCounted.l1 (k + 1) y0 y1 y2 y3 y4)) ∧ (∀ y0 y1 y2 y3 y4, LeO (laws_FnTwoSquaresCounted.l0 k y0 y1 y2 y3 y4) (laws_FnTwoSquaresCounted.l0 (k + 1) y0 y1 y2 y3 y4))
 | 0 => ⟨fun _ _ _ _ _ _ _ _ _ _ _ _ _ r h => by simp [laws_FnTwoSquaresCounted.j0] at h, fun _ _ _ _ _ _ _ _ _ _ _ _ r h => by simp [laws_FnTwoSquaresCounted.j1] at h, fun _ _ _ _ _ r h => by simp [laws_FnTwoSquaresCounted.j2] at h, fun _ _ r h => by simp [laws_FnTwoSquaresCounted.j4] at h, fun _ _ _ _ _ r h => by simp [laws_FnTwoSquaresCounted.l1] at h, fun _ _ _ _ _ r h => by simp [laws_FnTwoSquaresCounted.l0] at h⟩
 | k + 1 => by
  obtain ⟨ih0, ih1, ih2, ih3, ih4, ih5⟩ := laws_FnTwoSquaresCounted.mono_l k
  refine ⟨?_, ?_, ?_, ?_, ?_, ?_⟩
  ·
   intro y0 y1 y2 y3 y4 y5 y6 y7 y8 y9 y10 y11 y12
   unfold laws_FnTwoSquaresCounted.j0
   repeat' first
   | (with_reducible exact ih0 _ _ _ _ _ _ _ _ _ _ _ _ _)
   | (with_reducible exact ih1 _ _ _ _ _ _ _ _ _ _ _ _)
   | (with_reducible exact ih2 _ _ _ _ _)
   | (with_reducible exact ih3 _ _)
   | (with_reducible exact ih4 _ _ _ _ _)
   | (with_reducible exact ih5 _ _ _ _ _)
   | (with_reducible exact impl_AllTwoSquares.mono _ _)
   | (with_reducible exact impl_CountTwo.mono _ _)
   | (with_reducible exact impl_DivisorBalance.mono _ _)
   | (with_reducible exact impl_RefusingPrime.mono _ _)
   | (with_reducible exact impl_TwoSquares.mono _ _)
   | (with_reducible exact laws_vBefore.mono _ _ _)
   | (with_reducible exact laws_vSame.mono _ _ _)
   | (with_reducible exact laws_vSameLists.mono _ _ _)
   | (with_reducible exact laws_vSquares.mono _ _)
   | (with_reducible exact spec_AllTwoSquares.mono _ _)
   | (with_reducible exact spec_CountTwo.mono _ _)
   | (with_reducible exact spec_DivisorBalance.mono _ _)
   | (with_reducible exact spec_DrawMultiplyTwo.mono _ _)
   | (with_reducible exact spec_MultiplyTwo.mono _ _ _)
   | (with_reducible exact spec_RefusingPrime.mono _ _)
   | (with_reducible exact spec_TwoSquares.mono _ _)
   | (with_reducible exact LeO.refl _)
   | (with_reducible exact LeO.none _)
   | (with_reducible refine LeO.ite ?_ ?_)
   | (with_reducible refine LeO.bind ?_ (fun _ => ?_))
   | exact ih0 _ _ _ _ _ _ _ _ _ _ _ _ _
   | exact ih1 _ _ _ _ _ _ _ _ _ _ _ _
   | exact ih2 _ _ _ _ _
   | exact ih3 _ _
   | exact ih4 _ _ _ _ _
   | exact ih5 _ _ _ _ _
   | exact impl_AllTwoSquares.mono _ _
   | exact impl_CountTwo.mono _ _
   | exact impl_DivisorBalance.mono _ _
   | exact impl_RefusingPrime.mono _ _
   | exact impl_TwoSquares.mono _ _
   | exact laws_vBefore.mono _ _ _
   | exact laws_vSame.mono _ _ _
   | exact laws_vSameLists.mono _ _ _
   | exact laws_vSquares.mono _ _
   | exact spec_AllTwoSquares.mono _ _
   | exact spec_CountTwo.mono _ _
   | exact spec_DivisorBalance.mono _ _
   | exact spec_DrawMultiplyTwo.mono _ _
   | exact spec_MultiplyTwo.mono _ _ _
   | exact spec_RefusingPrime.mono _ _
   | exact spec_TwoSquares.mono _ _
   | exact LeO.none _
   | refine LeO.ite ?_ ?_
   | refine LeO.bind ?_ (fun _ => ?_)
  ·
   intro y0 y1 y2 y3 y4 y5 y6 y7 y8 y9 y10 y11
   unfold laws_FnTwoSquaresCounted.j1
   repeat' first
   | (with_reducible exact ih0 _ _ _ _ _ _ _ _ _ _ _ _ _)
   | (with_reducible exact ih1 _ _ _ _ _ _ _ _ _ _ _ _)
   | (with_reducible exact ih2 _ _ _ _ _)
   | (with_reducible exact ih3 _ _)
   | (with_reducible exact ih4 _ _ _ _ _)
   | (with_reducible exact ih5 _ _ _ _ _)
   | (with_reducible exact impl_AllTwoSquares.mono _ _)
   | (with_reducible exact impl_CountTwo.mono _ _)
   | (with_reducible exact impl_DivisorBalance.mono _ _)
   | (with_reducible exact impl_RefusingPrime.mono _ _)
   | (with_reducible exact impl_TwoSquares.mono _ _)
   | (with_reducible exact laws_vBefore.mono _ _ _)
   | (with_reducible exact laws_vSame.mono _ _ _)
   | (with_reducible exact laws_vSameLists.mono _ _ _)
   | (with_reducible exact laws_vSquares.mono _ _)
   | (with_reducible exact spec_AllTwoSquares.mono _ _)
   | (with_reducible exact spec_CountTwo.mono _ _)
   | (with_reducible exact spec_DivisorBalance.mono _ _)
   | (with_reducible exact spec_DrawMultiplyTwo.mono _ _)
   | (with_reducible exact spec_MultiplyTwo.mono _ _ _)
   | (with_reducible exact spec_RefusingPrime.mono _ _)
   | (with_reducible exact spec_TwoSquares.mono _ _)
   | (with_reducible exact LeO.refl _)
   | (with_reducible exact LeO.none _)
   | (with_reducible refine LeO.ite ?_ ?_)
   | (with_reducible refine LeO.bind ?_ (fun _ => ?_))
   | exact ih0 _ _ _ _ _ _ _ _ _ _ _ _ _
   | exact ih1 _ _ _ _ _ _ _ _ _ _ _ _
   | exact ih2 _ _ _ _ _
   | exact ih3 _ _
   | exact ih4 _ _ _ _ _
   | exact ih5 _ _ _ _ _
   | exact impl_AllTwoSquares.mono _ _
   | exact impl_CountTwo.mono _ _
   | exact impl_DivisorBalance.mono _ _
   | exact impl_RefusingPrime.mono _ _
   | exact impl_TwoSquares.mono _ _
   | exact laws_vBefore.mono _ _ _
   | exact laws_vSame.mono _ _ _
   | exact laws_vSameLists.mono _ _ _
   | exact laws_vSquares.mono _ _
   | exact spec_AllTwoSquares.mono _ _
   | exact spec_CountTwo.mono _ _
   | exact spec_DivisorBalance.mono _ _
   | exact spec_DrawMultiplyTwo.mono _ _
   | exact spec_MultiplyTwo.mono _ _ _
   | exact spec_RefusingPrime.mono _ _
   | exact spec_TwoSquares.mono _ _
   | exact LeO.none _
   | refine LeO.ite ?_ ?_
   | refine LeO.bind ?_ (fun _ => ?_)
  ·
   intro y0 y1 y2 y3 y4
   unfold laws_FnTwoSquaresCounted.j2
   repeat' first
   | (with_reducible exact ih0 _ _ _ _ _ _ _ _ _ _ _ _ _)
   | (with_reducible exact ih1 _ _ _ _ _ _ _ _ _ _ _ _)
   | (with_reducible exact ih2 _ _ _ _ _)
   | (with_reducible exact ih3 _ _)
   | (with_reducible exact ih4 _ _ _ _ _)
   | (with_reducible exact ih5 _ _ _ _ _)
   | (with_reducible exact impl_AllTwoSquares.mono _ _)
   | (with_reducible exact impl_CountTwo.mono _ _)
   | (with_reducible exact impl_DivisorBalance.mono _ _)
   | (with_reducible exact impl_RefusingPrime.mono _ _)
   | (with_reducible exact impl_TwoSquares.mono _ _)
   | (with_reducible exact laws_vBefore.mono _ _ _)
   | (with_reducible exact laws_vSame.mono _ _ _)
   | (with_reducible exact laws_vSameLists.mono _ _ _)
   | (with_reducible exact laws_vSquares.mono _ _)
   | (with_reducible exact spec_AllTwoSquares.mono _ _)
   | (with_reducible exact spec_CountTwo.mono _ _)
   | (with_reducible exact spec_DivisorBalance.mono _ _)
   | (with_reducible exact spec_DrawMultiplyTwo.mono _ _)
   | (with_reducible exact spec_MultiplyTwo.mono _ _ _)
   | (with_reducible exact spec_RefusingPrime.mono _ _)
   | (with_reducible exact spec_TwoSquares.mono _ _)
   | (with_reducible exact LeO.refl _)
   | (with_reducible exact LeO.none _)
   | (with_reducible refine LeO.ite ?_ ?_)
   | (with_reducible refine LeO.bind ?_ (fun _ => ?_))
   | exact ih0 _ _ _ _ _ _ _ _ _ _ _ _ _
   | exact ih1 _ _ _ _ _ _ _ _ _ _ _ _
   | exact ih2 _ _ _ _ _
   | exact ih3 _ _
   | exact ih4 _ _ _ _ _
   | exact ih5 _ _ _ _ _
   | exact impl_AllTwoSquares.mono _ _
   | exact impl_CountTwo.mono _ _
   | exact impl_DivisorBalance.mono _ _
   | exact impl_RefusingPrime.mono _ _
   | exact impl_TwoSquares.mono _ _
   | exact laws_vBefore.mono _ _ _
   | exact laws_vSame.mono _ _ _
   | exact laws_vSameLists.mono _ _ _
   | exact laws_vSquares.mono _ _
   | exact spec_AllTwoSquares.mono _ _
   | exact spec_CountTwo.mono _ _
   | exact spec_DivisorBalance.mono _ _
   | exact spec_DrawMultiplyTwo.mono _ _
   | exact spec_MultiplyTwo.mono _ _ _
   | exact spec_RefusingPrime.mono _ _
   | exact spec_TwoSquares.mono _ _
   | exact LeO.none _
   | refine LeO.ite ?_ ?_
   | refine LeO.bind ?_ (fun _ => ?_)
  ·
   intro y0 y1
   unfold laws_FnTwoSquaresCounted.j4
   repeat' first
   | (with_reducible exact ih0 _ _ _ _ _ _ _ _ _ _ _ _ _)
   | (with_reducible exact ih1 _ _ _ _ _ _ _ _ _ _ _ _)
   | (with_reducible exact ih2 _ _ _ _ _)
   | (with_reducible exact ih3 _ _)
   | (with_reducible exact ih4 _ _ _ _ _)
   | (with_reducible exact ih5 _ _ _ _ _)
   | (with_reducible exact impl_AllTwoSquares.mono _ _)
   | (with_reducible exact impl_CountTwo.mono _ _)
   | (with_reducible exact impl_DivisorBalance.mono _ _)
   | (with_reducible exact impl_RefusingPrime.mono _ _)
   | (with_reducible exact impl_TwoSquares.mono _ _)
   | (with_reducible exact laws_vBefore.mono _ _ _)
   | (with_reducible exact laws_vSame.mono _ _ _)
   | (with_reducible exact laws_vSameLists.mono _ _ _)
   | (with_reducible exact laws_vSquares.mono _ _)
   | (with_reducible exact spec_AllTwoSquares.mono _ _)
   | (with_reducible exact spec_CountTwo.mono _ _)
   | (with_reducible exact spec_DivisorBalance.mono _ _)
   | (with_reducible exact spec_DrawMultiplyTwo.mono _ _)
   | (with_reducible exact spec_MultiplyTwo.mono _ _ _)
   | (with_reducible exact spec_RefusingPrime.mono _ _)
   | (with_reducible exact spec_TwoSquares.mono _ _)
   | (with_reducible exact LeO.refl _)
   | (with_reducible exact LeO.none _)
   | (with_reducible refine LeO.ite ?_ ?_)
   | (with_reducible refine LeO.bind ?_ (fun _ => ?_))
   | exact ih0 _ _ _ _ _ _ _ _ _ _ _ _ _
   | exact ih1 _ _ _ _ _ _ _ _ _ _ _ _
   | exact ih2 _ _ _ _ _
   | exact ih3 _ _
   | exact ih4 _ _ _ _ _
   | exact ih5 _ _ _ _ _
   | exact impl_AllTwoSquares.mono _ _
   | exact impl_CountTwo.mono _ _
   | exact impl_DivisorBalance.mono _ _
   | exact impl_RefusingPrime.mono _ _
   | exact impl_TwoSquares.mono _ _
   | exact laws_vBefore.mono _ _ _
   | exact laws_vSame.mono _ _ _
   | exact laws_vSameLists.mono _ _ _
   | exact laws_vSquares.mono _ _
   | exact spec_AllTwoSquares.mono _ _
   | exact spec_CountTwo.mono _ _
   | exact spec_DivisorBalance.mono _ _
   | exact spec_DrawMultiplyTwo.mono _ _
   | exact spec_MultiplyTwo.mono _ _ _
   | exact spec_RefusingPrime.mono _ _
   | exact spec_TwoSquares.mono _ _
   | exact LeO.none _
   | refine LeO.ite ?_ ?_
   | refine LeO.bind ?_ (fun _ => ?_)
  ·
   intro y0 y1 y2 y3 y4
   unfold laws_FnTwoSquaresCounted.l1
   repeat' first
   | (with_reducible exact ih0 _ _ _ _ _ _ _ _ _ _ _ _ _)
   | (with_reducible exact ih1 _ _ _ _ _ _ _ _ _ _ _ _)
   | (with_reducible exact ih2 _ _ _ _ _)
   | (with_reducible exact ih3 _ _)
   | (with_reducible exact ih4 _ _ _ _ _)
   | (with_reducible exact ih5 _ _ _ _ _)
   | (with_reducible exact impl_AllTwoSquares.mono _ _)
   | (with_reducible exact impl_CountTwo.mono _ _)
   | (with_reducible exact impl_DivisorBalance.mono _ _)
   | (with_reducible exact impl_RefusingPrime.mono _ _)
   | (with_reducible exact impl_TwoSquares.mono _ _)
   | (with_reducible exact laws_vBefore.mono _ _ _)
   | (with_reducible exact laws_vSame.mono _ _ _)
   | (with_reducible exact laws_vSameLists.mono _ _ _)
   | (with_reducible exact laws_vSquares.mono _ _)
   | (with_reducible exact spec_AllTwoSquares.mono _ _)
   | (with_reducible exact spec_CountTwo.mono _ _)
   | (with_reducible exact spec_DivisorBalance.mono _ _)
   | (with_reducible exact spec_DrawMultiplyTwo.mono _ _)
   | (with_reducible exact spec_MultiplyTwo.mono _ _ _)
   | (with_reducible exact spec_RefusingPrime.mono _ _)
   | (with_reducible exact spec_TwoSquares.mono _ _)
   | (with_reducible exact LeO.refl _)
   | (with_reducible exact LeO.none _)
   | (with_reducible refine LeO.ite ?_ ?_)
   | (with_reducible refine LeO.bind ?_ (fun _ => ?_))
   | exact ih0 _ _ _ _ _ _ _ _ _ _ _ _ _
   | exact ih1 _ _ _ _ _ _ _ _ _ _ _ _
   | exact ih2 _ _ _ _ _
   | exact ih3 _ _
   | exact ih4 _ _ _ _ _
   | exact ih5 _ _ _ _ _
   | exact impl_AllTwoSquares.mono _ _
   | exact impl_CountTwo.mono _ _
   | exact impl_DivisorBalance.mono _ _
   | exact impl_RefusingPrime.mono _ _
   | exact impl_TwoSquares.mono _ _
   | exact laws_vBefore.mono _ _ _
   | exact laws_vSame.mono _ _ _
   | exact laws_vSameLists.mono _ _ _
   | exact laws_vSquares.mono _ _
   | exact spec_AllTwoSquares.mono _ _
   | exact spec_CountTwo.mono _ _
   | exact spec_DivisorBalance.mono _ _
   | exact spec_DrawMultiplyTwo.mono _ _
   | exact spec_MultiplyTwo.mono _ _ _
   | exact spec_RefusingPrime.mono _ _
   | exact spec_TwoSquares.mono _ _
   | exact LeO.none _
   | refine LeO.ite ?_ ?_
   | refine LeO.bind ?_ (fun _ => ?_)
  ·
   intro y0 y1 y2 y3 y4
   unfold laws_FnTwoSquaresCounted.l0
   repeat' first
   | (with_reducible exact ih0 _ _ _ _ _ _ _ _ _ _ _ _ _)
   | (with_reducible exact ih1 _ _ _ _ _ _ _ _ _ _ _ _)
   | (with_reducible exact ih2 _ _ _ _ _)
   | (with_reducible exact ih3 _ _)
   | (with_reducible exact ih4 _ _ _ _ _)
   | (with_reducible exact ih5 _ _ _ _ _)
   | (with_reducible exact impl_AllTwoSquares.mono _ _)
   | (with_reducible exact impl_CountTwo.mono _ _)
   | (with_reducible exact impl_DivisorBalance.mono _ _)
   | (with_reducible exact impl_RefusingPrime.mono _ _)
   | (with_reducible exact impl_TwoSquares.mono _ _)
   | (with_reducible exact laws_vBefore.mono _ _ _)
   | (with_reducible exact laws_vSame.mono _ _ _)
   | (with_reducible exact laws_vSameLists.mono _ _ _)
   | (with_reducible exact laws_vSquares.mono _ _)
   | (with_reducible exact spec_AllTwoSquares.mono _ _)
   | (with_reducible exact spec_CountTwo.mono _ _)
   | (with_reducible exact spec_DivisorBalance.mono _ _)
   | (with_reducible exact spec_DrawMultiplyTwo.mono _ _)
   | (with_reducible exact spec_MultiplyTwo.mono _ _ _)
   | (with_reducible exact spec_RefusingPrime.mono _ _)
   | (with_reducible exact spec_TwoSquares.mono _ _)
   | (with_reducible exact LeO.refl _)
   | (with_reducible exact LeO.none _)
   | (with_reducible refine LeO.ite ?_ ?_)
   | (with_reducible refine LeO.bind ?_ (fun _ => ?_))
   | exact ih0 _ _ _ _ _ _ _ _ _ _ _ _ _
   | exact ih1 _ _ _ _ _ _ _ _ _ _ _ _
   | exact ih2 _ _ _ _ _
   | exact ih3 _ _
   | exact ih4 _ _ _ _ _
   | exact ih5 _ _ _ _ _
   | exact impl_AllTwoSquares.mono _ _
   | exact impl_CountTwo.mono _ _
   | exact impl_DivisorBalance.mono _ _
   | exact impl_RefusingPrime.mono _ _
   | exact impl_TwoSquares.mono _ _
   | exact laws_vBefore.mono _ _ _
   | exact laws_vSame.mono _ _ _
   | exact laws_vSameLists.mono _ _ _
   | exact laws_vSquares.mono _ _
   | exact spec_AllTwoSquares.mono _ _
   | exact spec_CountTwo.mono _ _
   | exact spec_DivisorBalance.mono _ _
   | exact spec_DrawMultiplyTwo.mono _ _
   | exact spec_MultiplyTwo.mono _ _ _
   | exact spec_RefusingPrime.mono _ _
   | exact spec_TwoSquares.mono _ _
   | exact LeO.none _
   | refine LeO.ite ?_ ?_
   | refine LeO.bind ?_ (fun _ => ?_)
theorem laws_FnTwoSquaresCounted.mono : ∀ a0 a1 k, LeO (laws_FnTwoSquaresCounted.f k a0 a1) (laws_FnTwoSquaresCounted.f (k + 1) a0 a1) := by
 intro a0 a1 k
 obtain ⟨ih0, ih1, ih2, ih3, ih4, ih5⟩ := laws_FnTwoSquaresCounted.mono_l k
 unfold laws_FnTwoSquaresCounted.f
 repeat' first
  | (with_reducible exact ih0 _ _ _ _ _ _ _ _ _ _ _ _ _)
  | (with_reducible exact ih1 _ _ _ _ _ _ _ _ _ _ _ _)
  | (with_reducible exact ih2 _ _ _ _ _)
  | (with_reducible exact ih3 _ _)
  | (with_reducible exact ih4 _ _ _ _ _)
  | (with_reducible exact ih5 _ _ _ _ _)
  | (with_reducible exact impl_AllTwoSquares.mono _ _)
  | (with_reducible exact impl_CountTwo.mono _ _)
  | (with_reducible exact impl_DivisorBalance.mono _ _)
  | (with_reducible exact impl_RefusingPrime.mono _ _)
  | (with_reducible exact impl_TwoSquares.mono _ _)
  | (with_reducible exact laws_vBefore.mono _ _ _)
  | (with_reducible exact laws_vSame.mono _ _ _)
  | (with_reducible exact laws_vSameLists.mono _ _ _)
  | (with_reducible exact laws_vSquares.mono _ _)
  | (with_reducible exact spec_AllTwoSquares.mono _ _)
  | (with_reducible exact spec_CountTwo.mono _ _)
  | (with_reducible exact spec_DivisorBalance.mono _ _)
  | (with_reducible exact spec_DrawMultiplyTwo.mono _ _)
  | (with_reducible exact spec_MultiplyTwo.mono _ _ _)
  | (with_reducible exact spec_RefusingPrime.mono _ _)
  | (with_reducible exact spec_TwoSquares.mono _ _)
  | (with_reducible exact LeO.refl _)
  | (with_reducible exact LeO.none _)
  | (with_reducible refine LeO.ite ?_ ?_)
  | (with_reducible refine LeO.bind ?_ (fun _ => ?_))
  | exact ih0 _ _ _ _ _ _ _ _ _ _ _ _ _
  | exact ih1 _ _ _ _ _ _ _ _ _ _ _ _
  | exact ih2 _ _ _ _ _
  | exact ih3 _ _
  | exact ih4 _ _ _ _ _
  | exact ih5 _ _ _ _ _
  | exact impl_AllTwoSquares.mono _ _
  | exact impl_CountTwo.mono _ _
  | exact impl_DivisorBalance.mono _ _
  | exact impl_RefusingPrime.mono _ _
  | exact impl_TwoSquares.mono _ _
  | exact laws_vBefore.mono _ _ _
  | exact laws_vSame.mono _ _ _
  | exact laws_vSameLists.mono _ _ _
  | exact laws_vSquares.mono _ _
  | exact spec_AllTwoSquares.mono _ _
  | exact spec_CountTwo.mono _ _
  | exact spec_DivisorBalance.mono _ _
  | exact spec_DrawMultiplyTwo.mono _ _
  | exact spec_MultiplyTwo.mono _ _ _
  | exact spec_RefusingPrime.mono _ _
  | exact spec_TwoSquares.mono _ _
  | exact LeO.none _
  | refine LeO.ite ?_ ?_
  | refine LeO.bind ?_ (fun _ => ?_)
def laws_FnTwoSquaresCounted.T36 : Bool × List (List Nat × List Nat) := (true, [([], []), ([0], [0]), ([1], [1]), ([2], [2]), ([3], [3]), ([4, 3], [3, 4]), ([5, 3], [3, 5]), ([3], [3]), ([7, 3], [3, 7]), ([8, 3], [3, 8]), ([6, 9, 3], [3, 6, 9]), ([3, 10], [3, 10]), ([11, 3], [11]), ([12], [12]), ([13, 12], [12, 13]), ([14, 12], [12, 14]), ([15, 12], [12, 15]), ([12, 16], [12, 16]), ([17, 12], [17]), ([18], [18]), ([19, 18, 18], [18, 19]), ([18], [18]), ([20, 21, 18], [18, 20, 21]), ([18, 22], [18, 22]), ([23, 20], [23]), ([24], [24]), ([25, 24], [24, 25]), ([26, 24, 24], [24, 26]), ([27], [27]), ([27], [27]), ([27], [27]), ([30, 27], [27, 30]), ([29, 31, 27], [27, 29, 31]), ([32, 27], [27, 32]), ([28, 33, 27, 27], [27, 28, 33]), ([34, 27], [27, 34]), ([27, 35, 24], [24, 27, 35]), ([24, 36], [24, 36])])
def laws_FnTwoSquaresCounted.B36 : List Nat := [0, 1, 3, 7, 15, 31, 63, 15, 143, 399, 1023, 2047, 4095, 8191, 16383, 32767, 65535, 131071, 262143, 524287, 1048575, 524287, 4194303, 8388607, 16777215, 33554431, 67108863, 134217727, 268435455, 268435455, 268435455, 1342177279, 4026531839, 8321499135, 17179869183, 34359738367, 68719476735, 137438953471]
theorem laws_FnTwoSquaresCounted.tab36 : rtab .any (opsOf Try.f7 36) = laws_FnTwoSquaresCounted.T36 := by kernel_rfl
theorem laws_FnTwoSquaresCounted.bits36 : waitsOk laws_FnTwoSquaresCounted.T36.2 laws_FnTwoSquaresCounted.B36 = true := by kernel_rfl
theorem laws_FnTwoSquaresCounted.j0_no : ∀ {k y0 y1 y2 y3 y4 y5 y6 y7 y8 y9 y10 y11}, laws_FnTwoSquaresCounted.j0 k y0 y1 y2 y3 y4 y5 y6 y7 y8 y9 y10 y11 true = some true → False := by
 intro k y0 y1 y2 y3 y4 y5 y6 y7 y8 y9 y10 y11 h
 cases k <;> simp [laws_FnTwoSquaresCounted.j0] at h
theorem laws_FnTwoSquaresCounted.j1_no : ∀ {k y0 y1 y2 y3 y4 y5 y6 y7 y8 y9 y10}, laws_FnTwoSquaresCounted.j1 k y0 y1 y2 y3 y4 y5 y6 y7 y8 y9 y10 true = some true → False := by
 intro k y0 y1 y2 y3 y4 y5 y6 y7 y8 y9 y10 h
 cases k <;> simp [laws_FnTwoSquaresCounted.j1] at h
theorem laws_FnTwoSquaresCounted.j2_no : ∀ {k y0 y1 y2 y3}, laws_FnTwoSquaresCounted.j2 k y0 y1 y2 y3 true = some true → False := by
 intro k y0 y1 y2 y3 h
 cases k <;> simp [laws_FnTwoSquaresCounted.j2] at h
set_option maxHeartbeats 8000000 in
set_option maxRecDepth 100000 in
theorem laws_FnTwoSquaresCounted.calls (k : Nat) (A0 : Option Addr) (c0 : Nat) (l0 : List Int) (A1 : Option Addr) (c1 : Nat) (l1 : List Int) (r : Bool) (w : World) (hr0 : Kd.C (Kd.int .u8) w A0 l0.length l0) (hc0 : l0.length ≤ c0) (hr1 : Kd.C (Kd.int .u8) w A1 l1.length l1) (hc1 : l1.length ≤ c1) (h : laws_FnTwoSquaresCounted.f k l0 l1 = some r) (hrT : r = true) :
 Calls Try.prog 7 #[.slice A0 l0.length c0, .slice A1 l1.length c1] w fun e w' => e = .returned (.bool r) ∧ Below w.heap.size w w' := by
 have HR0 := Aside0.mk hr0
 have HC0 := Aside0.mk hc0
 clear hr0 hc0
 have HR1 := Aside0.mk hr1
 have HC1 := Aside0.mk hc1
 clear hr1 hc1
 have HB := Aside0.mk (Below.refl w.heap.size w)
 have H : ((laws_big.f l0 l1).bind fun t281 => (if t281 = true then (some true) else ((spec_DrawAllTwoSquares.f l0).bind fun t282 => ((impl_AllTwoSquares.f k t282).bind fun bt283 => ((spec_AllTwoSquares.f k t282).bind fun bt287 => ((impl_TwoSquares.f k t282).bind fun bt291 => ((spec_TwoSquares.f k t282).bind fun bt295 => ((impl_RefusingPrime.f k t282).bind fun bt299 => ((spec_RefusingPrime.f k t282).bind fun bt301 => ((impl_CountTwo.f k t282).bind fun bt303 => ((spec_CountTwo.f k t282).bind fun bt305 => ((impl_DivisorBalance.f k t282).bind fun bt307 => ((spec_DivisorBalance.f k t282).bind fun bt309 => (if (bt283.2 != bt287.2) = true then (laws_FnTwoSquaresCounted.j0 k l1 t282 bt283.1 bt287.2 bt291.1 bt291.2 bt299.1 bt299.2 bt303.1 bt303.2 bt307.1 bt307.2 true) else ((laws_vSameLists.f k bt283.1 bt287.1).bind fun t311 => (if t311 = true then (if (bt291.2 != bt295.2) = true then (laws_FnTwoSquaresCounted.j0 k l1 t282 bt283.1 bt287.2 bt291.1 bt291.2 bt299.1 bt299.2 bt303.1 bt303.2 bt307.1 bt307.2 true) else ((laws_vSame.f k bt291.1 bt295.1).bind fun t312 => (if t312 = true then (if (bt299.2 != bt301.2) = true then (laws_FnTwoSquaresCounted.j0 k l1 t282 bt283.1 bt287.2 bt291.1 bt291.2 bt299.1 bt299.2 bt303.1 bt303.2 bt307.1 bt307.2 true) else (if bt299.1 = bt301.1 then (if (bt303.2 != bt305.2) = true then (laws_FnTwoSquaresCounted.j0 k l1 t282 bt283.1 bt287.2 bt291.1 bt291.2 bt299.1 bt299.2 bt303.1 bt303.2 bt307.1 bt307.2 true) else (if bt303.1 = bt305.1 then (if (bt307.2 != bt309.2) = true then (laws_FnTwoSquaresCounted.j0 k l1 t282 bt283.1 bt287.2 bt291.1 bt291.2 bt299.1 bt299.2 bt303.1 bt303.2 bt307.1 bt307.2 true) else (laws_FnTwoSquaresCounted.j0 k l1 t282 bt283.1 bt287.2 bt291.1 bt291.2 bt299.1 bt299.2 bt303.1 bt303.2 bt307.1 bt307.2 (bt307.1 != bt309.1))) else (laws_FnTwoSquaresCounted.j0 k l1 t282 bt283.1 bt287.2 bt291.1 bt291.2 bt299.1 bt299.2 bt303.1 bt303.2 bt307.1 bt307.2 true))) else (laws_FnTwoSquaresCounted.j0 k l1 t282 bt283.1 bt287.2 bt291.1 bt291.2 bt299.1 bt299.2 bt303.1 bt303.2 bt307.1 bt307.2 true))) else (laws_FnTwoSquaresCounted.j0 k l1 t282 bt283.1 bt287.2 bt291.1 bt291.2 bt299.1 bt299.2 bt303.1 bt303.2 bt307.1 bt307.2 true)))) else (laws_FnTwoSquaresCounted.j0 k l1 t282 bt283.1 bt287.2 bt291.1 bt291.2 bt299.1 bt299.2 bt303.1 bt303.2 bt307.1 bt307.2 true))))))))))))))))) = some r := h
 clear h
 replace H := Option.bind_eq_some_iff.mp H
 obtain ⟨t281, A30, H⟩ := H
 replace H : (if t281 = true then (some true) else ((spec_DrawAllTwoSquares.f l0).bind fun t282 => ((impl_AllTwoSquares.f k t282).bind fun bt283 => ((spec_AllTwoSquares.f k t282).bind fun bt287 => ((impl_TwoSquares.f k t282).bind fun bt291 => ((spec_TwoSquares.f k t282).bind fun bt295 => ((impl_RefusingPrime.f k t282).bind fun bt299 => ((spec_RefusingPrime.f k t282).bind fun bt301 => ((impl_CountTwo.f k t282).bind fun bt303 => ((spec_CountTwo.f k t282).bind fun bt305 => ((impl_DivisorBalance.f k t282).bind fun bt307 => ((spec_DivisorBalance.f k t282).bind fun bt309 => (if (bt283.2 != bt287.2) = true then (laws_FnTwoSquaresCounted.j0 k l1 t282 bt283.1 bt287.2 bt291.1 bt291.2 bt299.1 bt299.2 bt303.1 bt303.2 bt307.1 bt307.2 true) else ((laws_vSameLists.f k bt283.1 bt287.1).bind fun t311 => (if t311 = true then (if (bt291.2 != bt295.2) = true then (laws_FnTwoSquaresCounted.j0 k l1 t282 bt283.1 bt287.2 bt291.1 bt291.2 bt299.1 bt299.2 bt303.1 bt303.2 bt307.1 bt307.2 true) else ((laws_vSame.f k bt291.1 bt295.1).bind fun t312 => (if t312 = true then (if (bt299.2 != bt301.2) = true then (laws_FnTwoSquaresCounted.j0 k l1 t282 bt283.1 bt287.2 bt291.1 bt291.2 bt299.1 bt299.2 bt303.1 bt303.2 bt307.1 bt307.2 true) else (if bt299.1 = bt301.1 then (if (bt303.2 != bt305.2) = true then (laws_FnTwoSquaresCounted.j0 k l1 t282 bt283.1 bt287.2 bt291.1 bt291.2 bt299.1 bt299.2 bt303.1 bt303.2 bt307.1 bt307.2 true) else (if bt303.1 = bt305.1 then (if (bt307.2 != bt309.2) = true then (laws_FnTwoSquaresCounted.j0 k l1 t282 bt283.1 bt287.2 bt291.1 bt291.2 bt299.1 bt299.2 bt303.1 bt303.2 bt307.1 bt307.2 true) else (laws_FnTwoSquaresCounted.j0 k l1 t282 bt283.1 bt287.2 bt291.1 bt291.2 bt299.1 bt299.2 bt303.1 bt303.2 bt307.1 bt307.2 (bt307.1 != bt309.1))) else (laws_FnTwoSquaresCounted.j0 k l1 t282 bt283.1 bt287.2 bt291.1 bt291.2 bt299.1 bt299.2 bt303.1 bt303.2 bt307.1 bt307.2 true))) else (laws_FnTwoSquaresCounted.j0 k l1 t282 bt283.1 bt287.2 bt291.1 bt291.2 bt299.1 bt299.2 bt303.1 bt303.2 bt307.1 bt307.2 true))) else (laws_FnTwoSquaresCounted.j0 k l1 t282 bt283.1 bt287.2 bt291.1 bt291.2 bt299.1 bt299.2 bt303.1 bt303.2 bt307.1 bt307.2 true)))) else (laws_FnTwoSquaresCounted.j0 k l1 t282 bt283.1 bt287.2 bt291.1 bt291.2 bt299.1 bt299.2 bt303.1 bt303.2 bt307.1 bt307.2 true)))))))))))))))) = some r := H
 have A3 := Aside0.mk A30
 clear A30
 by_cases c4 : t281 = true
 ·
  subst c4
  have H1 : (some true) = some r := by rw [if_pos rfl] at H; exact H
  clear H
  have H := H1
  clear H1
  obtain rfl := Option.some.inj H
  go_enter Try.func7, Try.ntmps7
  go_wp2_with (first | ((with_reducible refine gate_callee (f := 13) rfl ?_); refine goesL_ (some 38) rfl rfl Try.func13 (by kernel_rfl) rfl #[.slice A0 l0.length c0, .slice A1 l1.length c1] rfl (by (try simp only [List.map_toArray, List.map_cons, List.map_nil]); first | done | rfl | (simp only [List.length_drop, List.length_take]; rfl)) ?_; (with_reducible refine (laws_big.calls _ _ l0 _ _ l1 true _ ?side1 ?side2 ?side3 ?side4 A3.out).mono ?_); (case side1 => repeat (first | exact HR0.out | (with_reducible refine Kd.C_alloc ?_ _) | (with_reducible refine Kd.C_drewN ?_ _) | (with_reducible refine Kd.C_drew ?_))); (case side2 => exact HC0.out); (case side3 => repeat (first | exact HR1.out | (with_reducible refine Kd.C_alloc ?_ _) | (with_reducible refine Kd.C_drewN ?_ _) | (with_reducible refine Kd.C_drew ?_))); (case side4 => exact HC1.out); rintro e w' ⟨rfl, ⟨nd, rfl⟩⟩; refine ⟨_, rfl, ?_⟩))
  go_ret
  exact ⟨by first | rfl | (simp [errW_none, errW_some] <;> rfl) | (simp [*, errW_none, errW_some] <;> rfl), by repeat (first | (with_reducible first | exact HB.out | apply below_alloc | apply pw_below_drewN | apply below_drew1) | exact HB.out | exact Below.refl _ _)⟩
 ·
  as_aux_lemma =>
   replace c4 := Bool.eq_false_iff.mpr c4
   subst c4
   have H1 : ((spec_DrawAllTwoSquares.f l0).bind fun t282 => ((impl_AllTwoSquares.f k t282).bind fun bt283 => ((spec_AllTwoSquares.f k t282).bind fun bt287 => ((impl_TwoSquares.f k t282).bind fun bt291 => ((spec_TwoSquares.f k t282).bind fun bt295 => ((impl_RefusingPrime.f k t282).bind fun bt299 => ((spec_RefusingPrime.f k t282).bind fun bt301 => ((impl_CountTwo.f k t282).bind fun bt303 => ((spec_CountTwo.f k t282).bind fun bt305 => ((impl_DivisorBalance.f k t282).bind fun bt307 => ((spec_DivisorBalance.f k t282).bind fun bt309 => (if (bt283.2 != bt287.2) = true then (laws_FnTwoSquaresCounted.j0 k l1 t282 bt283.1 bt287.2 bt291.1 bt291.2 bt299.1 bt299.2 bt303.1 bt303.2 bt307.1 bt307.2 true) else ((laws_vSameLists.f k bt283.1 bt287.1).bind fun t311 => (if t311 = true then (if (bt291.2 != bt295.2) = true then (laws_FnTwoSquaresCounted.j0 k l1 t282 bt283.1 bt287.2 bt291.1 bt291.2 bt299.1 bt299.2 bt303.1 bt303.2 bt307.1 bt307.2 true) else ((laws_vSame.f k bt291.1 bt295.1).bind fun t312 => (if t312 = true then (if (bt299.2 != bt301.2) = true then (laws_FnTwoSquaresCounted.j0 k l1 t282 bt283.1 bt287.2 bt291.1 bt291.2 bt299.1 bt299.2 bt303.1 bt303.2 bt307.1 bt307.2 true) else (if bt299.1 = bt301.1 then (if (bt303.2 != bt305.2) = true then (laws_FnTwoSquaresCounted.j0 k l1 t282 bt283.1 bt287.2 bt291.1 bt291.2 bt299.1 bt299.2 bt303.1 bt303.2 bt307.1 bt307.2 true) else (if bt303.1 = bt305.1 then (if (bt307.2 != bt309.2) = true then (laws_FnTwoSquaresCounted.j0 k l1 t282 bt283.1 bt287.2 bt291.1 bt291.2 bt299.1 bt299.2 bt303.1 bt303.2 bt307.1 bt307.2 true) else (laws_FnTwoSquaresCounted.j0 k l1 t282 bt283.1 bt287.2 bt291.1 bt291.2 bt299.1 bt299.2 bt303.1 bt303.2 bt307.1 bt307.2 (bt307.1 != bt309.1))) else (laws_FnTwoSquaresCounted.j0 k l1 t282 bt283.1 bt287.2 bt291.1 bt291.2 bt299.1 bt299.2 bt303.1 bt303.2 bt307.1 bt307.2 true))) else (laws_FnTwoSquaresCounted.j0 k l1 t282 bt283.1 bt287.2 bt291.1 bt291.2 bt299.1 bt299.2 bt303.1 bt303.2 bt307.1 bt307.2 true))) else (laws_FnTwoSquaresCounted.j0 k l1 t282 bt283.1 bt287.2 bt291.1 bt291.2 bt299.1 bt299.2 bt303.1 bt303.2 bt307.1 bt307.2 true)))) else (laws_FnTwoSquaresCounted.j0 k l1 t282 bt283.1 bt287.2 bt291.1 bt291.2 bt299.1 bt299.2 bt303.1 bt303.2 bt307.1 bt307.2 true))))))))))))))) = some r := by rw [if_neg (show ¬ (false = true) by decide)] at H; exact H
   clear H
   have H := H1
   clear H1
   replace H := Option.bind_eq_some_iff.mp H
   obtain ⟨t282, A50, H⟩ := H
   replace H : ((impl_AllTwoSquares.f k t282).bind fun bt283 => ((spec_AllTwoSquares.f k t282).bind fun bt287 => ((impl_TwoSquares.f k t282).bind fun bt291 => ((spec_TwoSquares.f k t282).bind fun bt295 => ((impl_RefusingPrime.f k t282).bind fun bt299 => ((spec_RefusingPrime.f k t282).bind fun bt301 => ((impl_CountTwo.f k t282).bind fun bt303 => ((spec_CountTwo.f k t282).bind fun bt305 => ((impl_DivisorBalance.f k t282).bind fun bt307 => ((spec_DivisorBalance.f k t282).bind fun bt309 => (if (bt283.2 != bt287.2) = true then (laws_FnTwoSquaresCounted.j0 k l1 t282 bt283.1 bt287.2 bt291.1 bt291.2 bt299.1 bt299.2 bt303.1 bt303.2 bt307.1 bt307.2 true) else ((laws_vSameLists.f k bt283.1 bt287.1).bind fun t311 => (if t311 = true then (if (bt291.2 != bt295.2) = true then (laws_FnTwoSquaresCounted.j0 k l1 t282 bt283.1 bt287.2 bt291.1 bt291.2 bt299.1 bt299.2 bt303.1 bt303.2 bt307.1 bt307.2 true) else ((laws_vSame.f k bt291.1 bt295.1).bind fun t312 => (if t312 = true then (if (bt299.2 != bt301.2) = true then (laws_FnTwoSquaresCounted.j0 k l1 t282 bt283.1 bt287.2 bt291.1 bt291.2 bt299.1 bt299.2 bt303.1 bt303.2 bt307.1 bt307.2 true) else (if bt299.1 = bt301.1 then (if (bt303.2 != bt305.2) = true then (laws_FnTwoSquaresCounted.j0 k l1 t282 bt283.1 bt287.2 bt291.1 bt291.2 bt299.1 bt299.2 bt303.1 bt303.2 bt307.1 bt307.2 true) else (if bt303.1 = bt305.1 then (if (bt307.2 != bt309.2) = true then (laws_FnTwoSquaresCounted.j0 k l1 t282 bt283.1 bt287.2 bt291.1 bt291.2 bt299.1 bt299.2 bt303.1 bt303.2 bt307.1 bt307.2 true) else (laws_FnTwoSquaresCounted.j0 k l1 t282 bt283.1 bt287.2 bt291.1 bt291.2 bt299.1 bt299.2 bt303.1 bt303.2 bt307.1 bt307.2 (bt307.1 != bt309.1))) else (laws_FnTwoSquaresCounted.j0 k l1 t282 bt283.1 bt287.2 bt291.1 bt291.2 bt299.1 bt299.2 bt303.1 bt303.2 bt307.1 bt307.2 true))) else (laws_FnTwoSquaresCounted.j0 k l1 t282 bt283.1 bt287.2 bt291.1 bt291.2 bt299.1 bt299.2 bt303.1 bt303.2 bt307.1 bt307.2 true))) else (laws_FnTwoSquaresCounted.j0 k l1 t282 bt283.1 bt287.2 bt291.1 bt291.2 bt299.1 bt299.2 bt303.1 bt303.2 bt307.1 bt307.2 true)))) else (laws_FnTwoSquaresCounted.j0 k l1 t282 bt283.1 bt287.2 bt291.1 bt291.2 bt299.1 bt299.2 bt303.1 bt303.2 bt307.1 bt307.2 true)))))))))))))) = some r := H
   have A5 := Aside0.mk A50
   clear A50
   replace H := Option.bind_eq_some_iff.mp H
   obtain ⟨⟨t283, t284⟩, A60, H⟩ := H
   replace H : ((spec_AllTwoSquares.f k t282).bind fun bt287 => ((impl_TwoSquares.f k t282).bind fun bt291 => ((spec_TwoSquares.f k t282).bind fun bt295 => ((impl_RefusingPrime.f k t282).bind fun bt299 => ((spec_RefusingPrime.f k t282).bind fun bt301 => ((impl_CountTwo.f k t282).bind fun bt303 => ((spec_CountTwo.f k t282).bind fun bt305 => ((impl_DivisorBalance.f k t282).bind fun bt307 => ((spec_DivisorBalance.f k t282).bind fun bt309 => (if (t284 != bt287.2) = true then (laws_FnTwoSquaresCounted.j0 k l1 t282 t283 bt287.2 bt291.1 bt291.2 bt299.1 bt299.2 bt303.1 bt303.2 bt307.1 bt307.2 true) else ((laws_vSameLists.f k t283 bt287.1).bind fun t311 => (if t311 = true then (if (bt291.2 != bt295.2) = true then (laws_FnTwoSquaresCounted.j0 k l1 t282 t283 bt287.2 bt291.1 bt291.2 bt299.1 bt299.2 bt303.1 bt303.2 bt307.1 bt307.2 true) else ((laws_vSame.f k bt291.1 bt295.1).bind fun t312 => (if t312 = true then (if (bt299.2 != bt301.2) = true then (laws_FnTwoSquaresCounted.j0 k l1 t282 t283 bt287.2 bt291.1 bt291.2 bt299.1 bt299.2 bt303.1 bt303.2 bt307.1 bt307.2 true) else (if bt299.1 = bt301.1 then (if (bt303.2 != bt305.2) = true then (laws_FnTwoSquaresCounted.j0 k l1 t282 t283 bt287.2 bt291.1 bt291.2 bt299.1 bt299.2 bt303.1 bt303.2 bt307.1 bt307.2 true) else (if bt303.1 = bt305.1 then (if (bt307.2 != bt309.2) = true then (laws_FnTwoSquaresCounted.j0 k l1 t282 t283 bt287.2 bt291.1 bt291.2 bt299.1 bt299.2 bt303.1 bt303.2 bt307.1 bt307.2 true) else (laws_FnTwoSquaresCounted.j0 k l1 t282 t283 bt287.2 bt291.1 bt291.2 bt299.1 bt299.2 bt303.1 bt303.2 bt307.1 bt307.2 (bt307.1 != bt309.1))) else (laws_FnTwoSquaresCounted.j0 k l1 t282 t283 bt287.2 bt291.1 bt291.2 bt299.1 bt299.2 bt303.1 bt303.2 bt307.1 bt307.2 true))) else (laws_FnTwoSquaresCounted.j0 k l1 t282 t283 bt287.2 bt291.1 bt291.2 bt299.1 bt299.2 bt303.1 bt303.2 bt307.1 bt307.2 true))) else (laws_FnTwoSquaresCounted.j0 k l1 t282 t283 bt287.2 bt291.1 bt291.2 bt299.1 bt299.2 bt303.1 bt303.2 bt307.1 bt307.2 true)))) else (laws_FnTwoSquaresCounted.j0 k l1 t282 t283 bt287.2 bt291.1 bt291.2 bt299.1 bt299.2 bt303.1 bt303.2 bt307.1 bt307.2 true))))))))))))) = some r := H
   have A6 := Aside0.mk A60
   clear A60
   replace H := Option.bind_eq_some_iff.mp H
   obtain ⟨⟨t287, t288⟩, A70, H⟩ := H
   replace H : ((impl_TwoSquares.f k t282).bind fun bt291 => ((spec_TwoSquares.f k t282).bind fun bt295 => ((impl_RefusingPrime.f k t282).bind fun bt299 => ((spec_RefusingPrime.f k t282).bind fun bt301 => ((impl_CountTwo.f k t282).bind fun bt303 => ((spec_CountTwo.f k t282).bind fun bt305 => ((impl_DivisorBalance.f k t282).bind fun bt307 => ((spec_DivisorBalance.f k t282).bind fun bt309 => (if (t284 != t288) = true then (laws_FnTwoSquaresCounted.j0 k l1 t282 t283 t288 bt291.1 bt291.2 bt299.1 bt299.2 bt303.1 bt303.2 bt307.1 bt307.2 true) else ((laws_vSameLists.f k t283 t287).bind fun t311 => (if t311 = true then (if (bt291.2 != bt295.2) = true then (laws_FnTwoSquaresCounted.j0 k l1 t282 t283 t288 bt291.1 bt291.2 bt299.1 bt299.2 bt303.1 bt303.2 bt307.1 bt307.2 true) else ((laws_vSame.f k bt291.1 bt295.1).bind fun t312 => (if t312 = true then (if (bt299.2 != bt301.2) = true then (laws_FnTwoSquaresCounted.j0 k l1 t282 t283 t288 bt291.1 bt291.2 bt299.1 bt299.2 bt303.1 bt303.2 bt307.1 bt307.2 true) else (if bt299.1 = bt301.1 then (if (bt303.2 != bt305.2) = true then (laws_FnTwoSquaresCounted.j0 k l1 t282 t283 t288 bt291.1 bt291.2 bt299.1 bt299.2 bt303.1 bt303.2 bt307.1 bt307.2 true) else (if bt303.1 = bt305.1 then (if (bt307.2 != bt309.2) = true then (laws_FnTwoSquaresCounted.j0 k l1 t282 t283 t288 bt291.1 bt291.2 bt299.1 bt299.2 bt303.1 bt303.2 bt307.1 bt307.2 true) else (laws_FnTwoSquaresCounted.j0 k l1 t282 t283 t288 bt291.1 bt291.2 bt299.1 bt299.2 bt303.1 bt303.2 bt307.1 bt307.2 (bt307.1 != bt309.1))) else (laws_FnTwoSquaresCounted.j0 k l1 t282 t283 t288 bt291.1 bt291.2 bt299.1 bt299.2 bt303.1 bt303.2 bt307.1 bt307.2 true))) else (laws_FnTwoSquaresCounted.j0 k l1 t282 t283 t288 bt291.1 bt291.2 bt299.1 bt299.2 bt303.1 bt303.2 bt307.1 bt307.2 true))) else (laws_FnTwoSquaresCounted.j0 k l1 t282 t283 t288 bt291.1 bt291.2 bt299.1 bt299.2 bt303.1 bt303.2 bt307.1 bt307.2 true)))) else (laws_FnTwoSquaresCounted.j0 k l1 t282 t283 t288 bt291.1 bt291.2 bt299.1 bt299.2 bt303.1 bt303.2 bt307.1 bt307.2 true)))))))))))) = some r := H
   have A7 := Aside0.mk A70
   clear A70
   replace H := Option.bind_eq_some_iff.mp H
   obtain ⟨⟨t291, t292⟩, A80, H⟩ := H
   replace H : ((spec_TwoSquares.f k t282).bind fun bt295 => ((impl_RefusingPrime.f k t282).bind fun bt299 => ((spec_RefusingPrime.f k t282).bind fun bt301 => ((impl_CountTwo.f k t282).bind fun bt303 => ((spec_CountTwo.f k t282).bind fun bt305 => ((impl_DivisorBalance.f k t282).bind fun bt307 => ((spec_DivisorBalance.f k t282).bind fun bt309 => (if (t284 != t288) = true then (laws_FnTwoSquaresCounted.j0 k l1 t282 t283 t288 t291 t292 bt299.1 bt299.2 bt303.1 bt303.2 bt307.1 bt307.2 true) else ((laws_vSameLists.f k t283 t287).bind fun t311 => (if t311 = true then (if (t292 != bt295.2) = true then (laws_FnTwoSquaresCounted.j0 k l1 t282 t283 t288 t291 t292 bt299.1 bt299.2 bt303.1 bt303.2 bt307.1 bt307.2 true) else ((laws_vSame.f k t291 bt295.1).bind fun t312 => (if t312 = true then (if (bt299.2 != bt301.2) = true then (laws_FnTwoSquaresCounted.j0 k l1 t282 t283 t288 t291 t292 bt299.1 bt299.2 bt303.1 bt303.2 bt307.1 bt307.2 true) else (if bt299.1 = bt301.1 then (if (bt303.2 != bt305.2) = true then (laws_FnTwoSquaresCounted.j0 k l1 t282 t283 t288 t291 t292 bt299.1 bt299.2 bt303.1 bt303.2 bt307.1 bt307.2 true) else (if bt303.1 = bt305.1 then (if (bt307.2 != bt309.2) = true then (laws_FnTwoSquaresCounted.j0 k l1 t282 t283 t288 t291 t292 bt299.1 bt299.2 bt303.1 bt303.2 bt307.1 bt307.2 true) else (laws_FnTwoSquaresCounted.j0 k l1 t282 t283 t288 t291 t292 bt299.1 bt299.2 bt303.1 bt303.2 bt307.1 bt307.2 (bt307.1 != bt309.1))) else (laws_FnTwoSquaresCounted.j0 k l1 t282 t283 t288 t291 t292 bt299.1 bt299.2 bt303.1 bt303.2 bt307.1 bt307.2 true))) else (laws_FnTwoSquaresCounted.j0 k l1 t282 t283 t288 t291 t292 bt299.1 bt299.2 bt303.1 bt303.2 bt307.1 bt307.2 true))) else (laws_FnTwoSquaresCounted.j0 k l1 t282 t283 t288 t291 t292 bt299.1 bt299.2 bt303.1 bt303.2 bt307.1 bt307.2 true)))) else (laws_FnTwoSquaresCounted.j0 k l1 t282 t283 t288 t291 t292 bt299.1 bt299.2 bt303.1 bt303.2 bt307.1 bt307.2 true))))))))))) = some r := H
   have A8 := Aside0.mk A80
   clear A80
   replace H := Option.bind_eq_some_iff.mp H
   obtain ⟨⟨t295, t296⟩, A90, H⟩ := H
   replace H : ((impl_RefusingPrime.f k t282).bind fun bt299 => ((spec_RefusingPrime.f k t282).bind fun bt301 => ((impl_CountTwo.f k t282).bind fun bt303 => ((spec_CountTwo.f k t282).bind fun bt305 => ((impl_DivisorBalance.f k t282).bind fun bt307 => ((spec_DivisorBalance.f k t282).bind fun bt309 => (if (t284 != t288) = true then (laws_FnTwoSquaresCounted.j0 k l1 t282 t283 t288 t291 t292 bt299.1 bt299.2 bt303.1 bt303.2 bt307.1 bt307.2 true) else ((laws_vSameLists.f k t283 t287).bind fun t311 => (if t311 = true then (if (t292 != t296) = true then (laws_FnTwoSquaresCounted.j0 k l1 t282 t283 t288 t291 t292 bt299.1 bt299.2 bt303.1 bt303.2 bt307.1 bt307.2 true) else ((laws_vSame.f k t291 t295).bind fun t312 => (if t312 = true then (if (bt299.2 != bt301.2) = true then (laws_FnTwoSquaresCounted.j0 k l1 t282 t283 t288 t291 t292 bt299.1 bt299.2 bt303.1 bt303.2 bt307.1 bt307.2 true) else (if bt299.1 = bt301.1 then (if (bt303.2 != bt305.2) = true then (laws_FnTwoSquaresCounted.j0 k l1 t282 t283 t288 t291 t292 bt299.1 bt299.2 bt303.1 bt303.2 bt307.1 bt307.2 true) else (if bt303.1 = bt305.1 then (if (bt307.2 != bt309.2) = true then (laws_FnTwoSquaresCounted.j0 k l1 t282 t283 t288 t291 t292 bt299.1 bt299.2 bt303.1 bt303.2 bt307.1 bt307.2 true) else (laws_FnTwoSquaresCounted.j0 k l1 t282 t283 t288 t291 t292 bt299.1 bt299.2 bt303.1 bt303.2 bt307.1 bt307.2 (bt307.1 != bt309.1))) else (laws_FnTwoSquaresCounted.j0 k l1 t282 t283 t288 t291 t292 bt299.1 bt299.2 bt303.1 bt303.2 bt307.1 bt307.2 true))) else (laws_FnTwoSquaresCounted.j0 k l1 t282 t283 t288 t291 t292 bt299.1 bt299.2 bt303.1 bt303.2 bt307.1 bt307.2 true))) else (laws_FnTwoSquaresCounted.j0 k l1 t282 t283 t288 t291 t292 bt299.1 bt299.2 bt303.1 bt303.2 bt307.1 bt307.2 true)))) else (laws_FnTwoSquaresCounted.j0 k l1 t282 t283 t288 t291 t292 bt299.1 bt299.2 bt303.1 bt303.2 bt307.1 bt307.2 true)))))))))) = some r := H
   have A9 := Aside0.mk A90
   clear A90
   replace H := Option.bind_eq_some_iff.mp H
   obtain ⟨⟨t299, t300⟩, A100, H⟩ := H
   replace H : ((spec_RefusingPrime.f k t282).bind fun bt301 => ((impl_CountTwo.f k t282).bind fun bt303 => ((spec_CountTwo.f k t282).bind fun bt305 => ((impl_DivisorBalance.f k t282).bind fun bt307 => ((spec_DivisorBalance.f k t282).bind fun bt309 => (if (t284 != t288) = true then (laws_FnTwoSquaresCounted.j0 k l1 t282 t283 t288 t291 t292 t299 t300 bt303.1 bt303.2 bt307.1 bt307.2 true) else ((laws_vSameLists.f k t283 t287).bind fun t311 => (if t311 = true then (if (t292 != t296) = true then (laws_FnTwoSquaresCounted.j0 k l1 t282 t283 t288 t291 t292 t299 t300 bt303.1 bt303.2 bt307.1 bt307.2 true) else ((laws_vSame.f k t291 t295).bind fun t312 => (if t312 = true then (if (t300 != bt301.2) = true then (laws_FnTwoSquaresCounted.j0 k l1 t282 t283 t288 t291 t292 t299 t300 bt303.1 bt303.2 bt307.1 bt307.2 true) else (if t299 = bt301.1 then (if (bt303.2 != bt305.2) = true then (laws_FnTwoSquaresCounted.j0 k l1 t282 t283 t288 t291 t292 t299 t300 bt303.1 bt303.2 bt307.1 bt307.2 true) else (if bt303.1 = bt305.1 then (if (bt307.2 != bt309.2) = true then (laws_FnTwoSquaresCounted.j0 k l1 t282 t283 t288 t291 t292 t299 t300 bt303.1 bt303.2 bt307.1 bt307.2 true) else (laws_FnTwoSquaresCounted.j0 k l1 t282 t283 t288 t291 t292 t299 t300 bt303.1 bt303.2 bt307.1 bt307.2 (bt307.1 != bt309.1))) else (laws_FnTwoSquaresCounted.j0 k l1 t282 t283 t288 t291 t292 t299 t300 bt303.1 bt303.2 bt307.1 bt307.2 true))) else (laws_FnTwoSquaresCounted.j0 k l1 t282 t283 t288 t291 t292 t299 t300 bt303.1 bt303.2 bt307.1 bt307.2 true))) else (laws_FnTwoSquaresCounted.j0 k l1 t282 t283 t288 t291 t292 t299 t300 bt303.1 bt303.2 bt307.1 bt307.2 true)))) else (laws_FnTwoSquaresCounted.j0 k l1 t282 t283 t288 t291 t292 t299 t300 bt303.1 bt303.2 bt307.1 bt307.2 true))))))))) = some r := H
   have A10 := Aside0.mk A100
   clear A100
   replace H := Option.bind_eq_some_iff.mp H
   obtain ⟨⟨t301, t302⟩, A110, H⟩ := H
   replace H : ((impl_CountTwo.f k t282).bind fun bt303 => ((spec_CountTwo.f k t282).bind fun bt305 => ((impl_DivisorBalance.f k t282).bind fun bt307 => ((spec_DivisorBalance.f k t282).bind fun bt309 => (if (t284 != t288) = true then (laws_FnTwoSquaresCounted.j0 k l1 t282 t283 t288 t291 t292 t299 t300 bt303.1 bt303.2 bt307.1 bt307.2 true) else ((laws_vSameLists.f k t283 t287).bind fun t311 => (if t311 = true then (if (t292 != t296) = true then (laws_FnTwoSquaresCounted.j0 k l1 t282 t283 t288 t291 t292 t299 t300 bt303.1 bt303.2 bt307.1 bt307.2 true) else ((laws_vSame.f k t291 t295).bind fun t312 => (if t312 = true then (if (t300 != t302) = true then (laws_FnTwoSquaresCounted.j0 k l1 t282 t283 t288 t291 t292 t299 t300 bt303.1 bt303.2 bt307.1 bt307.2 true) else (if t299 = t301 then (if (bt303.2 != bt305.2) = true then (laws_FnTwoSquaresCounted.j0 k l1 t282 t283 t288 t291 t292 t299 t300 bt303.1 bt303.2 bt307.1 bt307.2 true) else (if bt303.1 = bt305.1 then (if (bt307.2 != bt309.2) = true then (laws_FnTwoSquaresCounted.j0 k l1 t282 t283 t288 t291 t292 t299 t300 bt303.1 bt303.2 bt307.1 bt307.2 true) else (laws_FnTwoSquaresCounted.j0 k l1 t282 t283 t288 t291 t292 t299 t300 bt303.1 bt303.2 bt307.1 bt307.2 (bt307.1 != bt309.1))) else (laws_FnTwoSquaresCounted.j0 k l1 t282 t283 t288 t291 t292 t299 t300 bt303.1 bt303.2 bt307.1 bt307.2 true))) else (laws_FnTwoSquaresCounted.j0 k l1 t282 t283 t288 t291 t292 t299 t300 bt303.1 bt303.2 bt307.1 bt307.2 true))) else (laws_FnTwoSquaresCounted.j0 k l1 t282 t283 t288 t291 t292 t299 t300 bt303.1 bt303.2 bt307.1 bt307.2 true)))) else (laws_FnTwoSquaresCounted.j0 k l1 t282 t283 t288 t291 t292 t299 t300 bt303.1 bt303.2 bt307.1 bt307.2 true)))))))) = some r := H
   have A11 := Aside0.mk A110
   clear A110
   replace H := Option.bind_eq_some_iff.mp H
   obtain ⟨⟨t303, t304⟩, A120, H⟩ := H
   replace H : ((spec_CountTwo.f k t282).bind fun bt305 => ((impl_DivisorBalance.f k t282).bind fun bt307 => ((spec_DivisorBalance.f k t282).bind fun bt309 => (if (t284 != t288) = true then (laws_FnTwoSquaresCounted.j0 k l1 t282 t283 t288 t291 t292 t299 t300 t303 t304 bt307.1 bt307.2 true) else ((laws_vSameLists.f k t283 t287).bind fun t311 => (if t311 = true then (if (t292 != t296) = true then (laws_FnTwoSquaresCounted.j0 k l1 t282 t283 t288 t291 t292 t299 t300 t303 t304 bt307.1 bt307.2 true) else ((laws_vSame.f k t291 t295).bind fun t312 => (if t312 = true then (if (t300 != t302) = true then (laws_FnTwoSquaresCounted.j0 k l1 t282 t283 t288 t291 t292 t299 t300 t303 t304 bt307.1 bt307.2 true) else (if t299 = t301 then (if (t304 != bt305.2) = true then (laws_FnTwoSquaresCounted.j0 k l1 t282 t283 t288 t291 t292 t299 t300 t303 t304 bt307.1 bt307.2 true) else (if t303 = bt305.1 then (if (bt307.2 != bt309.2) = true then (laws_FnTwoSquaresCounted.j0 k l1 t282 t283 t288 t291 t292 t299 t300 t303 t304 bt307.1 bt307.2 true) else (laws_FnTwoSquaresCounted.j0 k l1 t282 t283 t288 t291 t292 t299 t300 t303 t304 bt307.1 bt307.2 (bt307.1 != bt309.1))) else (laws_FnTwoSquaresCounted.j0 k l1 t282 t283 t288 t291 t292 t299 t300 t303 t304 bt307.1 bt307.2 true))) else (laws_FnTwoSquaresCounted.j0 k l1 t282 t283 t288 t291 t292 t299 t300 t303 t304 bt307.1 bt307.2 true))) else (laws_FnTwoSquaresCounted.j0 k l1 t282 t283 t288 t291 t292 t299 t300 t303 t304 bt307.1 bt307.2 true)))) else (laws_FnTwoSquaresCounted.j0 k l1 t282 t283 t288 t291 t292 t299 t300 t303 t304 bt307.1 bt307.2 true))))))) = some r := H
   have A12 := Aside0.mk A120
   clear A120
   replace H := Option.bind_eq_some_iff.mp H
   obtain ⟨⟨t305, t306⟩, A130, H⟩ := H
   replace H : ((impl_DivisorBalance.f k t282).bind fun bt307 => ((spec_DivisorBalance.f k t282).bind fun bt309 => (if (t284 != t288) = true then (laws_FnTwoSquaresCounted.j0 k l1 t282 t283 t288 t291 t292 t299 t300 t303 t304 bt307.1 bt307.2 true) else ((laws_vSameLists.f k t283 t287).bind fun t311 => (if t311 = true then (if (t292 != t296) = true then (laws_FnTwoSquaresCounted.j0 k l1 t282 t283 t288 t291 t292 t299 t300 t303 t304 bt307.1 bt307.2 true) else ((laws_vSame.f k t291 t295).bind fun t312 => (if t312 = true then (if (t300 != t302) = true then (laws_FnTwoSquaresCounted.j0 k l1 t282 t283 t288 t291 t292 t299 t300 t303 t304 bt307.1 bt307.2 true) else (if t299 = t301 then (if (t304 != t306) = true then (laws_FnTwoSquaresCounted.j0 k l1 t282 t283 t288 t291 t292 t299 t300 t303 t304 bt307.1 bt307.2 true) else (if t303 = t305 then (if (bt307.2 != bt309.2) = true then (laws_FnTwoSquaresCounted.j0 k l1 t282 t283 t288 t291 t292 t299 t300 t303 t304 bt307.1 bt307.2 true) else (laws_FnTwoSquaresCounted.j0 k l1 t282 t283 t288 t291 t292 t299 t300 t303 t304 bt307.1 bt307.2 (bt307.1 != bt309.1))) else (laws_FnTwoSquaresCounted.j0 k l1 t282 t283 t288 t291 t292 t299 t300 t303 t304 bt307.1 bt307.2 true))) else (laws_FnTwoSquaresCounted.j0 k l1 t282 t283 t288 t291 t292 t299 t300 t303 t304 bt307.1 bt307.2 true))) else (laws_FnTwoSquaresCounted.j0 k l1 t282 t283 t288 t291 t292 t299 t300 t303 t304 bt307.1 bt307.2 true)))) else (laws_FnTwoSquaresCounted.j0 k l1 t282 t283 t288 t291 t292 t299 t300 t303 t304 bt307.1 bt307.2 true)))))) = some r := H
   have A13 := Aside0.mk A130
   clear A130
   replace H := Option.bind_eq_some_iff.mp H
   obtain ⟨⟨t307, t308⟩, A140, H⟩ := H
   replace H : ((spec_DivisorBalance.f k t282).bind fun bt309 => (if (t284 != t288) = true then (laws_FnTwoSquaresCounted.j0 k l1 t282 t283 t288 t291 t292 t299 t300 t303 t304 t307 t308 true) else ((laws_vSameLists.f k t283 t287).bind fun t311 => (if t311 = true then (if (t292 != t296) = true then (laws_FnTwoSquaresCounted.j0 k l1 t282 t283 t288 t291 t292 t299 t300 t303 t304 t307 t308 true) else ((laws_vSame.f k t291 t295).bind fun t312 => (if t312 = true then (if (t300 != t302) = true then (laws_FnTwoSquaresCounted.j0 k l1 t282 t283 t288 t291 t292 t299 t300 t303 t304 t307 t308 true) else (if t299 = t301 then (if (t304 != t306) = true then (laws_FnTwoSquaresCounted.j0 k l1 t282 t283 t288 t291 t292 t299 t300 t303 t304 t307 t308 true) else (if t303 = t305 then (if (t308 != bt309.2) = true then (laws_FnTwoSquaresCounted.j0 k l1 t282 t283 t288 t291 t292 t299 t300 t303 t304 t307 t308 true) else (laws_FnTwoSquaresCounted.j0 k l1 t282 t283 t288 t291 t292 t299 t300 t303 t304 t307 t308 (t307 != bt309.1))) else (laws_FnTwoSquaresCounted.j0 k l1 t282 t283 t288 t291 t292 t299 t300 t303 t304 t307 t308 true))) else (laws_FnTwoSquaresCounted.j0 k l1 t282 t283 t288 t291 t292 t299 t300 t303 t304 t307 t308 true))) else (laws_FnTwoSquaresCounted.j0 k l1 t282 t283 t288 t291 t292 t299 t300 t303 t304 t307 t308 true)))) else (laws_FnTwoSquaresCounted.j0 k l1 t282 t283 t288 t291 t292 t299 t300 t303 t304 t307 t308 true))))) = some r := H
   have A14 := Aside0.mk A140
   clear A140
   replace H := Option.bind_eq_some_iff.mp H
   obtain ⟨⟨t309, t310⟩, A150, H⟩ := H
   replace H : (if (t284 != t288) = true then (laws_FnTwoSquaresCounted.j0 k l1 t282 t283 t288 t291 t292 t299 t300 t303 t304 t307 t308 true) else ((laws_vSameLists.f k t283 t287).bind fun t311 => (if t311 = true then (if (t292 != t296) = true then (laws_FnTwoSquaresCounted.j0 k l1 t282 t283 t288 t291 t292 t299 t300 t303 t304 t307 t308 true) else ((laws_vSame.f k t291 t295).bind fun t312 => (if t312 = true then (if (t300 != t302) = true then (laws_FnTwoSquaresCounted.j0 k l1 t282 t283 t288 t291 t292 t299 t300 t303 t304 t307 t308 true) else (if t299 = t301 then (if (t304 != t306) = true then (laws_FnTwoSquaresCounted.j0 k l1 t282 t283 t288 t291 t292 t299 t300 t303 t304 t307 t308 true) else (if t303 = t305 then (if (t308 != t310) = true then (laws_FnTwoSquaresCounted.j0 k l1 t282 t283 t288 t291 t292 t299 t300 t303 t304 t307 t308 true) else (laws_FnTwoSquaresCounted.j0 k l1 t282 t283 t288 t291 t292 t299 t300 t303 t304 t307 t308 (t307 != t309))) else (laws_FnTwoSquaresCounted.j0 k l1 t282 t283 t288 t291 t292 t299 t300 t303 t304 t307 t308 true))) else (laws_FnTwoSquaresCounted.j0 k l1 t282 t283 t288 t291 t292 t299 t300 t303 t304 t307 t308 true))) else (laws_FnTwoSquaresCounted.j0 k l1 t282 t283 t288 t291 t292 t299 t300 t303 t304 t307 t308 true)))) else (laws_FnTwoSquaresCounted.j0 k l1 t282 t283 t288 t291 t292 t299 t300 t303 t304 t307 t308 true)))) = some r := H
   have A15 := Aside0.mk A150
   clear A150
   have HC16 := Aside0.mk H
   clear H
   go_enter Try.func7, Try.ntmps7
   go_upto_region 14 with (first | ((with_reducible refine gate_callee (f := 13) rfl ?_); refine goesL_ (some 38) rfl rfl Try.func13 (by kernel_rfl) rfl #[.slice A0 l0.length c0, .slice A1 l1.length c1] rfl (by (try simp only [List.map_toArray, List.map_cons, List.map_nil]); first | done | rfl | (simp only [List.length_drop, List.length_take]; rfl)) ?_; (with_reducible refine (laws_big.calls _ _ l0 _ _ l1 false _ ?side1 ?side2 ?side3 ?side4 A3.out).mono ?_); (case side1 => repeat (first | exact HR0.out | (with_reducible refine Kd.C_alloc ?_ _) | (with_reducible refine Kd.C_drewN ?_ _) | (with_reducible refine Kd.C_drew ?_))); (case side2 => exact HC0.out); (case side3 => repeat (first | exact HR1.out | (with_reducible refine Kd.C_alloc ?_ _) | (with_reducible refine Kd.C_drewN ?_ _) | (with_reducible refine Kd.C_drew ?_))); (case side4 => exact HC1.out); rintro e w' ⟨rfl, ⟨nd, rfl⟩⟩; refine ⟨_, rfl, ?_⟩) | ((with_reducible refine gate_callee (f := 48) rfl ?_); refine goesL_ (some 40) rfl rfl Try.func48 (by kernel_rfl) rfl #[.slice A0 l0.length c0] rfl (by (try simp only [List.map_toArray, List.map_cons, List.map_nil]); first | done | rfl | (simp only [List.length_drop, List.length_take]; rfl)) ?_; (with_reducible refine (spec_DrawAllTwoSquares.calls _ _ l0 t282 _ ?side1 ?side2 A5.out).mono ?_); (case side1 => repeat (first | exact HR0.out | (with_reducible refine Kd.C_alloc ?_ _) | (with_reducible refine Kd.C_drewN ?_ _) | (with_reducible refine Kd.C_drew ?_))); (case side2 => exact HC0.out); rintro e w17 ⟨rfl, hb⟩; refine ⟨_, rfl, ?_⟩; have n0_ := Aside0.mk (below_step (by repeat (first | (with_reducible first | exact HB.out | apply below_alloc | apply pw_below_drewN | apply below_drew1) | exact HB.out | exact Below.refl _ _)) hb); clear HB; have HB := n0_; clear n0_; (try clear hb); (try clear hb2); (try clear hk); (try clear hi)) | ((with_reducible refine gate_callee (f := 24) rfl ?_); refine goesL_ (some 43) rfl rfl Try.func24 (by kernel_rfl) rfl #[.int .i64 t282] rfl (by (try simp only [List.map_toArray, List.map_cons, List.map_nil]); first | done | rfl | (simp only [List.length_drop, List.length_take]; rfl)) ?_; (with_reducible refine (impl_AllTwoSquares.calls k t282 t283 t284 _ A6.out).mono ?_); rintro e w18 ⟨v285, rfl, ho0, hb⟩; refine ⟨_, rfl, ?_⟩; have n0_ := Aside0.mk (Kd.S_lower ho0 (below_size (by repeat (first | (with_reducible first | exact HB.out | apply below_alloc | apply pw_below_drewN | apply below_drew1) | exact HB.out | exact Below.refl _ _)))); have n1_ := Aside0.mk (below_step (by repeat (first | (with_reducible first | exact HB.out | apply below_alloc | apply pw_below_drewN | apply below_drew1) | exact HB.out | exact Below.refl _ _)) hb); clear HB; have HO286 := n0_; have HB := n1_; clear n0_ n1_; (try clear hb); (try clear hb2); (try clear hk); (try clear hi); (try clear ho0)) | ((with_reducible refine gate_callee (f := 49) rfl ?_); refine goesL_ (some 48) rfl rfl Try.func49 (by kernel_rfl) rfl #[.int .i64 t282] rfl (by (try simp only [List.map_toArray, List.map_cons, List.map_nil]); first | done | rfl | (simp only [List.length_drop, List.length_take]; rfl)) ?_; (with_reducible refine (spec_AllTwoSquares.calls k t282 t287 t288 _ A7.out).mono ?_); rintro e w19 ⟨v289, rfl, ho0, hb⟩; refine ⟨_, rfl, ?_⟩; have n0_ := Aside0.mk (Kd.S_elder' (by (with_reducible repeat (first | apply Kd.S_alloc | apply Kd.S_drewN | apply Kd.S_drew)); exact HO286.out) (Kd.S_base ho0) hb); have n1_ := Aside0.mk (Kd.S_lower (Kd.S_new' ho0 (Kd.S_lt (by (with_reducible repeat (first | apply Kd.S_alloc | apply Kd.S_drewN | apply Kd.S_drew)); exact HO286.out))) (below_size (by repeat (first | (with_reducible first | exact HB.out | apply below_alloc | apply pw_below_drewN | apply below_drew1) | exact HB.out | exact Below.refl _ _)))); have n2_ := Aside0.mk (below_step (by repeat (first | (with_reducible first | exact HB.out | apply below_alloc | apply pw_below_drewN | apply below_drew1) | exact HB.out | exact Below.refl _ _)) hb); clear HO286; clear HB; have HO286 := n0_; have HO290 := n1_; have HB := n2_; clear n0_ n1_ n2_; (try clear hb); (try clear hb2); (try clear hk); (try clear hi); (try clear ho0)) | ((with_reducible refine gate_callee (f := 23) rfl ?_); refine goesL_ (some 53) rfl rfl Try.func23 (by kernel_rfl) rfl #[.int .i64 t282] rfl (by (try simp only [List.map_toArray, List.map_cons, List.map_nil]); first | done | rfl | (simp only [List.length_drop, List.length_take]; rfl)) ?_; (with_reducible refine (impl_TwoSquares.calls k t282 t291 t292 _ A8.out).mono ?_); rintro e w20 ⟨v293, rfl, ho0, hb⟩; refine ⟨_, rfl, ?_⟩; have n0_ := Aside0.mk (Kd.S_elder' (by (with_reducible repeat (first | apply Kd.S_alloc | apply Kd.S_drewN | apply Kd.S_drew)); exact HO286.out) (Kd.R_base ho0) hb); have n1_ := Aside0.mk (Kd.S_elder' (by (with_reducible repeat (first | apply Kd.S_alloc | apply Kd.S_drewN | apply Kd.S_drew)); exact HO290.out) (Kd.R_base ho0) hb); have n2_ := Aside0.mk (Kd.R_lower ho0 (below_size (by repeat (first | (with_reducible first | exact HB.out | apply below_alloc | apply pw_below_drewN | apply below_drew1) | exact HB.out | exact Below.refl _ _)))); have n3_ := Aside0.mk (below_step (by repeat (first | (with_reducible first | exact HB.out | apply below_alloc | apply pw_below_drewN | apply below_drew1) | exact HB.out | exact Below.refl _ _)) hb); clear HO286; clear HO290; clear HB; have HO286 := n0_; have HO290 := n1_; have HO294 := n2_; have HB := n3_; clear n0_ n1_ n2_ n3_; (try clear hb); (try clear hb2); (try clear hk); (try clear hi); (try clear ho0)) | ((with_reducible refine gate_callee (f := 50) rfl ?_); refine goesL_ (some 58) rfl rfl Try.func50 (by kernel_rfl) rfl #[.int .i64 t282] rfl (by (try simp only [List.map_toArray, List.map_cons, List.map_nil]); first | done | rfl | (simp only [List.length_drop, List.length_take]; rfl)) ?_; (with_reducible refine (spec_TwoSquares.calls k t282 t295 t296 _ A9.out).mono ?_); rintro e w21 ⟨v297, rfl, ho0, hb⟩; refine ⟨_, rfl, ?_⟩; have n0_ := Aside0.mk (Kd.S_elder' (by (with_reducible repeat (first | apply Kd.S_alloc | apply Kd.S_drewN | apply Kd.S_drew)); exact HO286.out) (Kd.R_base ho0) hb); have n1_ := Aside0.mk (Kd.S_elder' (by (with_reducible repeat (first | apply Kd.S_alloc | apply Kd.S_drewN | apply Kd.S_drew)); exact HO290.out) (Kd.R_base ho0) hb); have n2_ := Aside0.mk (Kd.R_elder' (by (with_reducible repeat (first | apply Kd.R_alloc | apply Kd.R_drewN | apply Kd.R_drew)); exact HO294.out) (Kd.R_base ho0) hb); have n3_ := Aside0.mk (Kd.R_lower (Kd.R_new' ho0 (Kd.R_lt (by (with_reducible repeat (first | apply Kd.R_alloc | apply Kd.R_drewN | apply Kd.R_drew)); exact HO294.out))) (below_size (by repeat (first | (with_reducible first | exact HB.out | apply below_alloc | apply pw_below_drewN | apply below_drew1) | exact HB.out | exact Below.refl _ _)))); have n4_ := Aside0.mk (below_step (by repeat (first | (with_reducible first | exact HB.out | apply below_alloc | apply pw_below_drewN | apply below_drew1) | exact HB.out | exact Below.refl _ _)) hb); clear HO286; clear HO290; clear HO294; clear HB; have HO286 := n0_; have HO290 := n1_; have HO294 := n2_; have HO298 := n3_; have HB := n4_; clear n0_ n1_ n2_ n3_ n4_; (try clear hb); (try clear hb2); (try clear hk); (try clear hi); (try clear ho0)) | ((with_reducible refine gate_callee (f := 51) rfl ?_); refine goesL_ (some 63) rfl rfl Try.func51 (by kernel_rfl) rfl #[.int .i64 t282] rfl (by (try simp only [List.map_toArray, List.map_cons, List.map_nil]); first | done | rfl | (simp only [List.length_drop, List.length_take]; rfl)) ?_; (with_reducible refine (impl_RefusingPrime.calls k t282 t299 t300 _ A10.out).mono ?_); rintro e w' ⟨rfl, ⟨nd, rfl⟩⟩; refine ⟨_, rfl, ?_⟩) | ((with_reducible refine gate_callee (f := 52) rfl ?_); refine goesL_ (some 68) rfl rfl Try.func52 (by kernel_rfl) rfl #[.int .i64 t282] rfl (by (try simp only [List.map_toArray, List.map_cons, List.map_nil]); first | done | rfl | (simp only [List.length_drop, List.length_take]; rfl)) ?_; (with_reducible refine (spec_RefusingPrime.calls k t282 t301 t302 _ A11.out).mono ?_); rintro e w' ⟨rfl, ⟨nd, rfl⟩⟩; refine ⟨_, rfl, ?_⟩) | ((with_reducible refine gate_callee (f := 53) rfl ?_); refine goesL_ (some 73) rfl rfl Try.func53 (by kernel_rfl) rfl #[.int .i64 t282] rfl (by (try simp only [List.map_toArray, List.map_cons, List.map_nil]); first | done | rfl | (simp only [List.length_drop, List.length_take]; rfl)) ?_; (with_reducible refine (impl_CountTwo.calls k t282 t303 t304 _ A12.out).mono ?_); rintro e w22 ⟨rfl, hb⟩; refine ⟨_, rfl, ?_⟩; have n0_ := Aside0.mk (Kd.S_below (by (with_reducible repeat (first | apply Kd.S_alloc | apply Kd.S_drewN | apply Kd.S_drew)); exact HO286.out) hb); have n1_ := Aside0.mk (Kd.S_below (by (with_reducible repeat (first | apply Kd.S_alloc | apply Kd.S_drewN | apply Kd.S_drew)); exact HO290.out) hb); have n2_ := Aside0.mk (Kd.R_below (by (with_reducible repeat (first | apply Kd.R_alloc | apply Kd.R_drewN | apply Kd.R_drew)); exact HO294.out) hb); have n3_ := Aside0.mk (Kd.R_below (by (with_reducible repeat (first | apply Kd.R_alloc | apply Kd.R_drewN | apply Kd.R_drew)); exact HO298.out) hb); have n4_ := Aside0.mk (below_step (by repeat (first | (with_reducible first | exact HB.out | apply below_alloc | apply pw_below_drewN | apply below_drew1) | exact HB.out | exact Below.refl _ _)) hb); clear HO286; clear HO290; clear HO294; clear HO298; clear HB; have HO286 := n0_; have HO290 := n1_; have HO294 := n2_; have HO298 := n3_; have HB := n4_; clear n0_ n1_ n2_ n3_ n4_; (try clear hb); (try clear hb2); (try clear hk); (try clear hi)) | ((with_reducible refine gate_callee (f := 54) rfl ?_); refine goesL_ (some 78) rfl rfl Try.func54 (by kernel_rfl) rfl #[.int .i64 t282] rfl (by (try simp only [List.map_toArray, List.map_cons, List.map_nil]); first | done | rfl | (simp only [List.length_drop, List.length_take]; rfl)) ?_; (with_reducible refine (spec_CountTwo.calls k t282 t305 t306 _ A13.out).mono ?_); rintro e w23 ⟨rfl, hb⟩; refine ⟨_, rfl, ?_⟩; have n0_ := Aside0.mk (Kd.S_below (by (with_reducible repeat (first | apply Kd.S_alloc | apply Kd.S_drewN | apply Kd.S_drew)); exact HO286.out) hb); have n1_ := Aside0.mk (Kd.S_below (by (with_reducible repeat (first | apply Kd.S_alloc | apply Kd.S_drewN | apply Kd.S_drew)); exact HO290.out) hb); have n2_ := Aside0.mk (Kd.R_below (by (with_reducible repeat (first | apply Kd.R_alloc | apply Kd.R_drewN | apply Kd.R_drew)); exact HO294.out) hb); have n3_ := Aside0.mk (Kd.R_below (by (with_reducible repeat (first | apply Kd.R_alloc | apply Kd.R_drewN | apply Kd.R_drew)); exact HO298.out) hb); have n4_ := Aside0.mk (below_step (by repeat (first | (with_reducible first | exact HB.out | apply below_alloc | apply pw_below_drewN | apply below_drew1) | exact HB.out | exact Below.refl _ _)) hb); clear HO286; clear HO290; clear HO294; clear HO298; clear HB; have HO286 := n0_; have HO290 := n1_; have HO294 := n2_; have HO298 := n3_; have HB := n4_; clear n0_ n1_ n2_ n3_ n4_; (try clear hb); (try clear hb2); (try clear hk); (try clear hi)) | ((with_reducible refine gate_callee (f := 55) rfl ?_); refine goesL_ (some 83) rfl rfl Try.func55 (by kernel_rfl) rfl #[.int .i64 t282] rfl (by (try simp only [List.map_toArray, List.map_cons, List.map_nil]); first | done | rfl | (simp only [List.length_drop, List.length_take]; rfl)) ?_; (with_reducible refine (impl_DivisorBalance.calls k t282 t307 t308 _ A14.out).mono ?_); rintro e w24 ⟨rfl, hb⟩; refine ⟨_, rfl, ?_⟩; have n0_ := Aside0.mk (Kd.S_below (by (with_reducible repeat (first | apply Kd.S_alloc | apply Kd.S_drewN | apply Kd.S_drew)); exact HO286.out) hb); have n1_ := Aside0.mk (Kd.S_below (by (with_reducible repeat (first | apply Kd.S_alloc | apply Kd.S_drewN | apply Kd.S_drew)); exact HO290.out) hb); have n2_ := Aside0.mk (Kd.R_below (by (with_reducible repeat (first | apply Kd.R_alloc | apply Kd.R_drewN | apply Kd.R_drew)); exact HO294.out) hb); have n3_ := Aside0.mk (Kd.R_below (by (with_reducible repeat (first | apply Kd.R_alloc | apply Kd.R_drewN | apply Kd.R_drew)); exact HO298.out) hb); have n4_ := Aside0.mk (below_step (by repeat (first | (with_reducible first | exact HB.out | apply below_alloc | apply pw_below_drewN | apply below_drew1) | exact HB.out | exact Below.refl _ _)) hb); clear HO286; clear HO290; clear HO294; clear HO298; clear HB; have HO286 := n0_; have HO290 := n1_; have HO294 := n2_; have HO298 := n3_; have HB := n4_; clear n0_ n1_ n2_ n3_ n4_; (try clear hb); (try clear hb2); (try clear hk); (try clear hi)) | ((with_reducible refine gate_callee (f := 56) rfl ?_); refine goesL_ (some 88) rfl rfl Try.func56 (by kernel_rfl) rfl #[.int .i64 t282] rfl (by (try simp only [List.map_toArray, List.map_cons, List.map_nil]); first | done | rfl | (simp only [List.length_drop, List.length_take]; rfl)) ?_; (with_reducible refine (spec_DivisorBalance.calls k t282 t309 t310 _ A15.out).mono ?_); rintro e w' ⟨rfl, ⟨nd, rfl⟩⟩; refine ⟨_, rfl, ?_⟩))
   (try simp only [Act.put, List.setIfInBounds_toArray, List.set_cons_zero, List.set_cons_succ])
   go_cut [140] (fun v140 wc => ∃ (kq : Nat) (x140_15 : Bool), v140 = .bool x140_15 ∧ Aside0 (laws_FnTwoSquaresCounted.j0 kq l1 t282 t283 t288 t291 t292 t299 t300 t303 t304 t307 t308 x140_15 = some r) ∧ Aside0 (kq ≤ k) ∧ Aside0 (Kd.S (Kd.slice 3 (Kd.int .i64)) 35 wc w.heap.size (fun k_ => some k_ ≠ (v293 : Value).ownBlock) v285 t283) ∧ Aside0 (Kd.R (Kd.int .i64) 3 wc w.heap.size (fun _ => True) v293 t291) ∧ Aside0 (Below w.heap.size w wc))
   case first =>
    as_aux_lemma =>
     have H := HC16.out
     clear HC16
     by_cases c25 : (t284 != t288) = true
     ·
      rw [if_pos c25] at H
      exact absurd (H.trans (congrArg some hrT)) (fun h_ => laws_FnTwoSquaresCounted.j0_no h_)
     ·
      as_aux_lemma =>
       rw [if_neg c25] at H
       have c25b0 : (t284 != t288) = false := by simpa using c25
       (try (have c25b1 : decide (t284 = t288) = true := by simpa using c25))
       (try (have c25b2 : (t284 == t288) = true := by simpa using c25))
       clear c25
       (first | rw [c25b0] | (simp only [i64_w, i32_w]; rw [c25b0]) | skip)
       replace H := Option.bind_eq_some_iff.mp H
       obtain ⟨t311, A260, H⟩ := H
       replace H : (if t311 = true then (if (t292 != t296) = true then (laws_FnTwoSquaresCounted.j0 k l1 t282 t283 t288 t291 t292 t299 t300 t303 t304 t307 t308 true) else ((laws_vSame.f k t291 t295).bind fun t312 => (if t312 = true then (if (t300 != t302) = true then (laws_FnTwoSquaresCounted.j0 k l1 t282 t283 t288 t291 t292 t299 t300 t303 t304 t307 t308 true) else (if t299 = t301 then (if (t304 != t306) = true then (laws_FnTwoSquaresCounted.j0 k l1 t282 t283 t288 t291 t292 t299 t300 t303 t304 t307 t308 true) else (if t303 = t305 then (if (t308 != t310) = true then (laws_FnTwoSquaresCounted.j0 k l1 t282 t283 t288 t291 t292 t299 t300 t303 t304 t307 t308 true) else (laws_FnTwoSquaresCounted.j0 k l1 t282 t283 t288 t291 t292 t299 t300 t303 t304 t307 t308 (t307 != t309))) else (laws_FnTwoSquaresCounted.j0 k l1 t282 t283 t288 t291 t292 t299 t300 t303 t304 t307 t308 true))) else (laws_FnTwoSquaresCounted.j0 k l1 t282 t283 t288 t291 t292 t299 t300 t303 t304 t307 t308 true))) else (laws_FnTwoSquaresCounted.j0 k l1 t282 t283 t288 t291 t292 t299 t300 t303 t304 t307 t308 true)))) else (laws_FnTwoSquaresCounted.j0 k l1 t282 t283 t288 t291 t292 t299 t300 t303 t304 t307 t308 true)) = some r := H
       have A26 := Aside0.mk A260
       clear A260
       by_cases c27 : t311 = true
       ·
        subst c27
        have H1 : (if (t292 != t296) = true then (laws_FnTwoSquaresCounted.j0 k l1 t282 t283 t288 t291 t292 t299 t300 t303 t304 t307 t308 true) else ((laws_vSame.f k t291 t295).bind fun t312 => (if t312 = true then (if (t300 != t302) = true then (laws_FnTwoSquaresCounted.j0 k l1 t282 t283 t288 t291 t292 t299 t300 t303 t304 t307 t308 true) else (if t299 = t301 then (if (t304 != t306) = true then (laws_FnTwoSquaresCounted.j0 k l1 t282 t283 t288 t291 t292 t299 t300 t303 t304 t307 t308 true) else (if t303 = t305 then (if (t308 != t310) = true then (laws_FnTwoSquaresCounted.j0 k l1 t282 t283 t288 t291 t292 t299 t300 t303 t304 t307 t308 true) else (laws_FnTwoSquaresCounted.j0 k l1 t282 t283 t288 t291 t292 t299 t300 t303 t304 t307 t308 (t307 != t309))) else (laws_FnTwoSquaresCounted.j0 k l1 t282 t283 t288 t291 t292 t299 t300 t303 t304 t307 t308 true))) else (laws_FnTwoSquaresCounted.j0 k l1 t282 t283 t288 t291 t292 t299 t300 t303 t304 t307 t308 true))) else (laws_FnTwoSquaresCounted.j0 k l1 t282 t283 t288 t291 t292 t299 t300 t303 t304 t307 t308 true)))) = some r := by rw [if_pos rfl] at H; exact H
        clear H
        have H := H1
        clear H1
        by_cases c28 : (t292 != t296) = true
        ·
         rw [if_pos c28] at H
         exact absurd (H.trans (congrArg some hrT)) (fun h_ => laws_FnTwoSquaresCounted.j0_no h_)
        ·
         rw [if_neg c28] at H
         have c28b0 : (t292 != t296) = false := by simpa using c28
         (try (have c28b1 : decide (t292 = t296) = true := by simpa using c28))
         (try (have c28b2 : (t292 == t296) = true := by simpa using c28))
         clear c28
         replace H := Option.bind_eq_some_iff.mp H
         obtain ⟨t312, A310, H⟩ := H
         replace H : (if t312 = true then (if (t300 != t302) = true then (laws_FnTwoSquaresCounted.j0 k l1 t282 t283 t288 t291 t292 t299 t300 t303 t304 t307 t308 true) else (if t299 = t301 then (if (t304 != t306) = true then (laws_FnTwoSquaresCounted.j0 k l1 t282 t283 t288 t291 t292 t299 t300 t303 t304 t307 t308 true) else (if t303 = t305 then (if (t308 != t310) = true then (laws_FnTwoSquaresCounted.j0 k l1 t282 t283 t288 t291 t292 t299 t300 t303 t304 t307 t308 true) else (laws_FnTwoSquaresCounted.j0 k l1 t282 t283 t288 t291 t292 t299 t300 t303 t304 t307 t308 (t307 != t309))) else (laws_FnTwoSquaresCounted.j0 k l1 t282 t283 t288 t291 t292 t299 t300 t303 t304 t307 t308 true))) else (laws_FnTwoSquaresCounted.j0 k l1 t282 t283 t288 t291 t292 t299 t300 t303 t304 t307 t308 true))) else (laws_FnTwoSquaresCounted.j0 k l1 t282 t283 t288 t291 t292 t299 t300 t303 t304 t307 t308 true)) = some r := H
         have A31 := Aside0.mk A310
         clear A310
         by_cases c32 : t312 = true
         ·
          subst c32
          have H1 : (if (t300 != t302) = true then (laws_FnTwoSquaresCounted.j0 k l1 t282 t283 t288 t291 t292 t299 t300 t303 t304 t307 t308 true) else (if t299 = t301 then (if (t304 != t306) = true then (laws_FnTwoSquaresCounted.j0 k l1 t282 t283 t288 t291 t292 t299 t300 t303 t304 t307 t308 true) else (if t303 = t305 then (if (t308 != t310) = true then (laws_FnTwoSquaresCounted.j0 k l1 t282 t283 t288 t291 t292 t299 t300 t303 t304 t307 t308 true) else (laws_FnTwoSquaresCounted.j0 k l1 t282 t283 t288 t291 t292 t299 t300 t303 t304 t307 t308 (t307 != t309))) else (laws_FnTwoSquaresCounted.j0 k l1 t282 t283 t288 t291 t292 t299 t300 t303 t304 t307 t308 true))) else (laws_FnTwoSquaresCounted.j0 k l1 t282 t283 t288 t291 t292 t299 t300 t303 t304 t307 t308 true))) = some r := by rw [if_pos rfl] at H; exact H
          clear H
          have H := H1
          clear H1
          by_cases c33 : (t300 != t302) = true
          ·
           rw [if_pos c33] at H
           exact absurd (H.trans (congrArg some hrT)) (fun h_ => laws_FnTwoSquaresCounted.j0_no h_)
          ·
           rw [if_neg c33] at H
           have c33b0 : (t300 != t302) = false := by simpa using c33
           (try (have c33b1 : decide (t300 = t302) = true := by simpa using c33))
           (try (have c33b2 : (t300 == t302) = true := by simpa using c33))
           clear c33
           by_cases c38 : t299 = t301
           ·
            rw [if_pos c38] at H
            have c38b0 : (t299 == t301) = true := beq_iff_eq.mpr c38
            have c38b1 : (t299 != t301) = false := bne_eq_false_iff_eq.mpr c38
            clear c38
            by_cases c39 : (t304 != t306) = true
            ·
             rw [if_pos c39] at H
             exact absurd (H.trans (congrArg some hrT)) (fun h_ => laws_FnTwoSquaresCounted.j0_no h_)
            ·
             rw [if_neg c39] at H
             have c39b0 : (t304 != t306) = false := by simpa using c39
             (try (have c39b1 : decide (t304 = t306) = true := by simpa using c39))
             (try (have c39b2 : (t304 == t306) = true := by simpa using c39))
             clear c39
             by_cases c44 : t303 = t305
             ·
              rw [if_pos c44] at H
              have c44b0 : (t303 == t305) = true := beq_iff_eq.mpr c44
              have c44b1 : (t303 != t305) = false := bne_eq_false_iff_eq.mpr c44
              clear c44
              by_cases c45 : (t308 != t310) = true
              ·
               rw [if_pos c45] at H
               exact absurd (H.trans (congrArg some hrT)) (fun h_ => laws_FnTwoSquaresCounted.j0_no h_)
              ·
               rw [if_neg c45] at H
               have c45b0 : (t308 != t310) = false := by simpa using c45
               (try (have c45b1 : decide (t308 = t310) = true := by simpa using c45))
               (try (have c45b2 : (t308 == t310) = true := by simpa using c45))
               clear c45
               have H' := Aside0.mk H
               clear H
               obtain ⟨Ao50, co50, eo50⟩ := Kd.S_slice HO286.out
               subst eo50
               obtain ⟨Ao51, co51, eo51⟩ := Kd.S_slice HO290.out
               subst eo51
               go_wp2_with (first | (go_at_call 19; (with_reducible refine (laws_vSameLists.calls k _ _ t283 _ _ t287 true _ ?side1 ?side2 ?side3 ?side4 A26.out).mono ?_); (case side1 => repeat (first | exact (Kd.S_reads' HO286.out).2.2 | (with_reducible refine Kd.C_alloc ?_ _) | (with_reducible refine Kd.C_drewN ?_ _) | (with_reducible refine Kd.C_drew ?_))); (case side2 => exact (Kd.S_reads' HO286.out).2.1); (case side3 => repeat (first | exact (Kd.S_reads' HO290.out).2.2 | (with_reducible refine Kd.C_alloc ?_ _) | (with_reducible refine Kd.C_drewN ?_ _) | (with_reducible refine Kd.C_drew ?_))); (case side4 => exact (Kd.S_reads' HO290.out).2.1); rintro e w' ⟨rfl, ⟨nd, rfl⟩⟩; obtain ⟨Ao52, co52, eo52⟩ := Kd.R_slice HO294.out; subst eo52; obtain ⟨Ao53, co53, eo53⟩ := Kd.R_slice HO298.out; subst eo53) | (go_at_call 25; (with_reducible refine (laws_vSame.calls k _ _ t291 _ _ t295 true _ ?side1 ?side2 ?side3 ?side4 A31.out).mono ?_); (case side1 => repeat (first | exact (Kd.R_reads' HO294.out).2.2 | (with_reducible refine Kd.C_alloc ?_ _) | (with_reducible refine Kd.C_drewN ?_ _) | (with_reducible refine Kd.C_drew ?_))); (case side2 => exact (Kd.R_reads' HO294.out).2.1); (case side3 => repeat (first | exact (Kd.R_reads' HO298.out).2.2 | (with_reducible refine Kd.C_alloc ?_ _) | (with_reducible refine Kd.C_drewN ?_ _) | (with_reducible refine Kd.C_drew ?_))); (case side4 => exact (Kd.R_reads' HO298.out).2.1); rintro e w' ⟨rfl, ⟨nd, rfl⟩⟩))
               go_meet
               case rel => exact ⟨_, ((t307 != t309)), (by first | rfl | (simp; done) | (simp [*]; done)), H', ⟨by first | omega | exact Nat.le_refl _⟩, ⟨by (with_reducible repeat (first | apply Kd.S_alloc | apply Kd.S_drewN | apply Kd.S_drew)); exact Kd.S_mono HO286.out (fun _ hk => hk.1.2)⟩, ⟨by (with_reducible repeat (first | apply Kd.R_alloc | apply Kd.R_drewN | apply Kd.R_drew)); exact Kd.R_mono HO294.out (fun _ hk => trivial)⟩, ⟨by repeat (first | (with_reducible first | exact HB.out | apply below_alloc | apply pw_below_drewN | apply below_drew1) | exact HB.out | exact Below.refl _ _)⟩⟩
             ·
              rw [if_neg c44] at H
              exact absurd (H.trans (congrArg some hrT)) (fun h_ => laws_FnTwoSquaresCounted.j0_no h_)
           ·
            rw [if_neg c38] at H
            exact absurd (H.trans (congrArg some hrT)) (fun h_ => laws_FnTwoSquaresCounted.j0_no h_)
         ·
          replace c32 := Bool.eq_false_iff.mpr c32
          subst c32
          have H1 : (laws_FnTwoSquaresCounted.j0 k l1 t282 t283 t288 t291 t292 t299 t300 t303 t304 t307 t308 true) = some r := by rw [if_neg (show ¬ (false = true) by decide)] at H; exact H
          exact absurd (H1.trans (congrArg some hrT)) (fun h_ => laws_FnTwoSquaresCounted.j0_no h_)
       ·
        replace c27 := Bool.eq_false_iff.mpr c27
        subst c27
        have H1 : (laws_FnTwoSquaresCounted.j0 k l1 t282 t283 t288 t291 t292 t299 t300 t303 t304 t307 t308 true) = some r := by rw [if_neg (show ¬ (false = true) by decide)] at H; exact H
        exact absurd (H1.trans (congrArg some hrT)) (fun h_ => laws_FnTwoSquaresCounted.j0_no h_)
   case rest =>
    as_aux_lemma =>
     clear HC16; (try clear c1); (try clear c2); (try clear p2); (try clear c3); (try clear c4); (try clear c5); (try clear c7); (try clear c13); (try clear c23); (try clear c24); (try clear c25); (try clear c25b0); (try clear c25b1); (try clear c25b2); (try clear c27); (try clear c28); (try clear c28b0); (try clear c28b1); (try clear c28b2); (try clear c32); (try clear c33); (try clear c33b0); (try clear c33b1); (try clear c33b2); (try clear c38); (try clear c38b0); (try clear c38b1); (try clear c39); (try clear c39b0); (try clear c39b1); (try clear c39b2); (try clear c44); (try clear c44b0); (try clear c44b1); (try clear c45); (try clear c45b0); (try clear c45b1); (try clear c45b2); (try clear c48); (try clear c49); (try clear c50); (try clear c51); (try clear c52); (try clear c53); (try clear c54); (try clear c55); (try clear c56)
     obtain ⟨kq, x140_15, rfl, HA, HJ15, HO_6, HO_10, HB⟩ := hcut
     cases kq with
     | zero => exact absurd HA.out (by simp [laws_FnTwoSquaresCounted.j0])
     | succ kj15 =>
      have H := HA.out
      clear HA
      simp only [laws_FnTwoSquaresCounted.j0] at H
      by_cases c68 : x140_15 = true
      ·
       subst c68
       have H1 : (some false) = some r := by rw [if_pos rfl] at H; exact H
       exact absurd (H1.trans (congrArg some hrT)) (by simp)
      ·
       as_aux_lemma =>
        replace c68 := Bool.eq_false_iff.mpr c68
        subst c68
        have H1 : ((spec_DrawMultiplyTwo.f kj15 l1).bind fun bt313 => ((impl_MultiplyTwo.f bt313.1 bt313.2).bind fun bt319 => ((spec_MultiplyTwo.f kj15 bt313.1 bt313.2).bind fun bt323 => (if (bt319.2 != bt323.2) = true then (laws_FnTwoSquaresCounted.j1 kj15 t282 t283 t288 t291 t292 t299 t300 t303 t304 t307 t308 true) else ((laws_vSame.f kj15 bt319.1 bt323.1).bind fun t327 => (if t327 = true then (if bt319.2 = true then ((laws_vSquares.f kj15 bt319.1).bind fun t328 => ((laws_vSquares.f kj15 bt313.1).bind fun t329 => ((laws_vSquares.f kj15 bt313.2).bind fun t330 => (laws_FnTwoSquaresCounted.j1 kj15 t282 t283 t288 t291 t292 t299 t300 t303 t304 t307 t308 (t328 != (wrap64 (t329 * t330))))))) else (laws_FnTwoSquaresCounted.j1 kj15 t282 t283 t288 t291 t292 t299 t300 t303 t304 t307 t308 false)) else (laws_FnTwoSquaresCounted.j1 kj15 t282 t283 t288 t291 t292 t299 t300 t303 t304 t307 t308 true))))))) = some r := by rw [if_neg (show ¬ (false = true) by decide)] at H; exact H
        clear H
        have H := H1
        clear H1
        replace H := Option.bind_eq_some_iff.mp H
        obtain ⟨⟨t313, t314⟩, A690, H⟩ := H
        replace H : ((impl_MultiplyTwo.f t313 t314).bind fun bt319 => ((spec_MultiplyTwo.f kj15 t313 t314).bind fun bt323 => (if (bt319.2 != bt323.2) = true then (laws_FnTwoSquaresCounted.j1 kj15 t282 t283 t288 t291 t292 t299 t300 t303 t304 t307 t308 true) else ((laws_vSame.f kj15 bt319.1 bt323.1).bind fun t327 => (if t327 = true then (if bt319.2 = true then ((laws_vSquares.f kj15 bt319.1).bind fun t328 => ((laws_vSquares.f kj15 t313).bind fun t329 => ((laws_vSquares.f kj15 t314).bind fun t330 => (laws_FnTwoSquaresCounted.j1 kj15 t282 t283 t288 t291 t292 t299 t300 t303 t304 t307 t308 (t328 != (wrap64 (t329 * t330))))))) else (laws_FnTwoSquaresCounted.j1 kj15 t282 t283 t288 t291 t292 t299 t300 t303 t304 t307 t308 false)) else (laws_FnTwoSquaresCounted.j1 kj15 t282 t283 t288 t291 t292 t299 t300 t303 t304 t307 t308 true)))))) = some r := H
        have A69 := Aside0.mk A690
        clear A690
        replace H := Option.bind_eq_some_iff.mp H
        obtain ⟨⟨t319, t320⟩, A700, H⟩ := H
        replace H : ((spec_MultiplyTwo.f kj15 t313 t314).bind fun bt323 => (if (t320 != bt323.2) = true then (laws_FnTwoSquaresCounted.j1 kj15 t282 t283 t288 t291 t292 t299 t300 t303 t304 t307 t308 true) else ((laws_vSame.f kj15 t319 bt323.1).bind fun t327 => (if t327 = true then (if t320 = true then ((laws_vSquares.f kj15 t319).bind fun t328 => ((laws_vSquares.f kj15 t313).bind fun t329 => ((laws_vSquares.f kj15 t314).bind fun t330 => (laws_FnTwoSquaresCounted.j1 kj15 t282 t283 t288 t291 t292 t299 t300 t303 t304 t307 t308 (t328 != (wrap64 (t329 * t330))))))) else (laws_FnTwoSquaresCounted.j1 kj15 t282 t283 t288 t291 t292 t299 t300 t303 t304 t307 t308 false)) else (laws_FnTwoSquaresCounted.j1 kj15 t282 t283 t288 t291 t292 t299 t300 t303 t304 t307 t308 true))))) = some r := H
        have A70 := Aside0.mk A700
        clear A700
        replace H := Option.bind_eq_some_iff.mp H
        obtain ⟨⟨t323, t324⟩, A710, H⟩ := H
        replace H : (if (t320 != t324) = true then (laws_FnTwoSquaresCounted.j1 kj15 t282 t283 t288 t291 t292 t299 t300 t303 t304 t307 t308 true) else ((laws_vSame.f kj15 t319 t323).bind fun t327 => (if t327 = true then (if t320 = true then ((laws_vSquares.f kj15 t319).bind fun t328 => ((laws_vSquares.f kj15 t313).bind fun t329 => ((laws_vSquares.f kj15 t314).bind fun t330 => (laws_FnTwoSquaresCounted.j1 kj15 t282 t283 t288 t291 t292 t299 t300 t303 t304 t307 t308 (t328 != (wrap64 (t329 * t330))))))) else (laws_FnTwoSquaresCounted.j1 kj15 t282 t283 t288 t291 t292 t299 t300 t303 t304 t307 t308 false)) else (laws_FnTwoSquaresCounted.j1 kj15 t282 t283 t288 t291 t292 t299 t300 t303 t304 t307 t308 true)))) = some r := H
        have A71 := Aside0.mk A710
        clear A710
        have HC72 := Aside0.mk H
        clear H
        go_upto_region 19 with (first | ((with_reducible refine gate_callee (f := 57) rfl ?_); refine goesL_ (some 143) rfl rfl Try.func57 (by kernel_rfl) rfl #[.slice A1 l1.length c1] rfl (by (try simp only [List.map_toArray, List.map_cons, List.map_nil]); first | done | rfl | (simp only [List.length_drop, List.length_take]; rfl)) ?_; (with_reducible refine (spec_DrawMultiplyTwo.calls kj15 _ _ l1 t313 t314 _ ?side1 ?side2 A69.out).mono ?_); (case side1 => repeat (first | exact (Kd.C_below HR1.out HB.out) | (with_reducible refine Kd.C_alloc ?_ _) | (with_reducible refine Kd.C_drewN ?_ _) | (with_reducible refine Kd.C_drew ?_))); (case side2 => exact HC1.out); rintro e w73 ⟨v315, v317, rfl, ho0, ho1, hb⟩; refine ⟨_, rfl, ?_⟩; have n0_ := Aside0.mk (Kd.S_mono (Kd.S_told (Kd.S_told (Kd.S_old (by (with_reducible repeat (first | apply Kd.S_alloc | apply Kd.S_drewN | apply Kd.S_drew)); exact HO_6.out) hb) (Kd.R_base ho0)) (Kd.R_base ho1)) (fun _ h_ => h_.1)); have n1_ := Aside0.mk (Kd.R_mono (Kd.R_told (Kd.R_told (Kd.R_old (by (with_reducible repeat (first | apply Kd.R_alloc | apply Kd.R_drewN | apply Kd.R_drew)); exact HO_10.out) hb) (Kd.R_base ho0)) (Kd.R_base ho1)) (fun _ h_ => h_.1)); have n2_ := Aside0.mk (Kd.R_lower (Kd.R_new' ho0 (Kd.R_lt (by (with_reducible repeat (first | apply Kd.R_alloc | apply Kd.R_drewN | apply Kd.R_drew)); exact HO_10.out))) (below_size (by repeat (first | (with_reducible first | exact HB.out | apply below_alloc | apply pw_below_drewN | apply below_drew1) | exact HB.out | exact Below.refl _ _)))); have n3_ := Aside0.mk (Kd.R_lower (Kd.R_new' ho1 (Kd.R_lt (by (with_reducible repeat (first | apply Kd.R_alloc | apply Kd.R_drewN | apply Kd.R_drew)); exact HO_10.out))) (below_size (by repeat (first | (with_reducible first | exact HB.out | apply below_alloc | apply pw_below_drewN | apply below_drew1) | exact HB.out | exact Below.refl _ _)))); have n4_ := Aside0.mk (below_step (by repeat (first | (with_reducible first | exact HB.out | apply below_alloc | apply pw_below_drewN | apply below_drew1) | exact HB.out | exact Below.refl _ _)) hb); clear HO_6; clear HO_10; clear HB; have HO_6 := n0_; have HO_10 := n1_; have HO316 := n2_; have HO318 := n3_; have HB := n4_; clear n0_ n1_ n2_ n3_ n4_; (try clear hb); (try clear hb2); (try clear hk); (try clear hi); (try clear ho0); (try clear ho1); obtain ⟨Ao74, co74, eo74⟩ := Kd.R_slice HO316.out; subst eo74; obtain ⟨Ao75, co75, eo75⟩ := Kd.R_slice HO318.out; subst eo75) | ((with_reducible refine gate_callee (f := 58) rfl ?_); refine goesL_ (some 149) rfl rfl Try.func58 (by kernel_rfl) rfl #[.slice Ao74 t313.length co74, .slice Ao75 t314.length co75] rfl (by (try simp only [List.map_toArray, List.map_cons, List.map_nil]); first | done | rfl | (simp only [List.length_drop, List.length_take]; rfl)) ?_; (with_reducible refine (impl_MultiplyTwo.calls _ _ t313 _ _ t314 t319 t320 _ ?side1 ?side2 ?side3 ?side4 A70.out).mono ?_); (case side1 => repeat (first | exact (Kd.R_reads' HO316.out).2.2 | (with_reducible refine Kd.C_alloc ?_ _) | (with_reducible refine Kd.C_drewN ?_ _) | (with_reducible refine Kd.C_drew ?_))); (case side2 => exact (Kd.R_reads' HO316.out).2.1); (case side3 => repeat (first | exact (Kd.R_reads' HO318.out).2.2 | (with_reducible refine Kd.C_alloc ?_ _) | (with_reducible refine Kd.C_drewN ?_ _) | (with_reducible refine Kd.C_drew ?_))); (case side4 => exact (Kd.R_reads' HO318.out).2.1); rintro e w76 ⟨v321, rfl, ho0, hb⟩; refine ⟨_, rfl, ?_⟩; have n0_ := Aside0.mk (Kd.S_elder' (by (with_reducible repeat (first | apply Kd.S_alloc | apply Kd.S_drewN | apply Kd.S_drew)); exact HO_6.out) (Kd.R_base ho0) hb); have n1_ := Aside0.mk (Kd.R_elder' (by (with_reducible repeat (first | apply Kd.R_alloc | apply Kd.R_drewN | apply Kd.R_drew)); exact HO_10.out) (Kd.R_base ho0) hb); have n2_ := Aside0.mk (Kd.R_elder' (by (with_reducible repeat (first | apply Kd.R_alloc | apply Kd.R_drewN | apply Kd.R_drew)); exact HO316.out) (Kd.R_base ho0) hb); have n3_ := Aside0.mk (Kd.R_elder' (by (with_reducible repeat (first | apply Kd.R_alloc | apply Kd.R_drewN | apply Kd.R_drew)); exact HO318.out) (Kd.R_base ho0) hb); have n4_ := Aside0.mk (Kd.R_lower (Kd.R_new' (Kd.R_new' (Kd.R_new' ho0 (Kd.R_lt (by (with_reducible repeat (first | apply Kd.R_alloc | apply Kd.R_drewN | apply Kd.R_drew)); exact HO_10.out))) (Kd.R_lt (by (with_reducible repeat (first | apply Kd.R_alloc | apply Kd.R_drewN | apply Kd.R_drew)); exact HO316.out))) (Kd.R_lt (by (with_reducible repeat (first | apply Kd.R_alloc | apply Kd.R_drewN | apply Kd.R_drew)); exact HO318.out))) (below_size (by repeat (first | (with_reducible first | exact HB.out | apply below_alloc | apply pw_below_drewN | apply below_drew1) | exact HB.out | exact Below.refl _ _)))); have n5_ := Aside0.mk (below_step (by repeat (first | (with_reducible first | exact HB.out | apply below_alloc | apply pw_below_drewN | apply below_drew1) | exact HB.out | exact Below.refl _ _)) hb); clear HO_6; clear HO_10; clear HO316; clear HO318; clear HB; have HO_6 := n0_; have HO_10 := n1_; have HO316 := n2_; have HO318 := n3_; have HO322 := n4_; have HB := n5_; clear n0_ n1_ n2_ n3_ n4_ n5_; (try clear hb); (try clear hb2); (try clear hk); (try clear hi); (try clear ho0)) | ((with_reducible refine gate_callee (f := 59) rfl ?_); refine goesL_ (some 155) rfl rfl Try.func59 (by kernel_rfl) rfl #[.slice Ao74 t313.length co74, .slice Ao75 t314.length co75] rfl (by (try simp only [List.map_toArray, List.map_cons, List.map_nil]); first | done | rfl | (simp only [List.length_drop, List.length_take]; rfl)) ?_; (with_reducible refine (spec_MultiplyTwo.calls kj15 _ _ t313 _ _ t314 t323 t324 _ ?side1 ?side2 ?side3 ?side4 A71.out).mono ?_); (case side1 => repeat (first | exact (Kd.R_reads' HO316.out).2.2 | (with_reducible refine Kd.C_alloc ?_ _) | (with_reducible refine Kd.C_drewN ?_ _) | (with_reducible refine Kd.C_drew ?_))); (case side2 => exact (Kd.R_reads' HO316.out).2.1); (case side3 => repeat (first | exact (Kd.R_reads' HO318.out).2.2 | (with_reducible refine Kd.C_alloc ?_ _) | (with_reducible refine Kd.C_drewN ?_ _) | (with_reducible refine Kd.C_drew ?_))); (case side4 => exact (Kd.R_reads' HO318.out).2.1); rintro e w77 ⟨v325, rfl, ho0, hb⟩; refine ⟨_, rfl, ?_⟩; have n0_ := Aside0.mk (Kd.S_elder' (by (with_reducible repeat (first | apply Kd.S_alloc | apply Kd.S_drewN | apply Kd.S_drew)); exact HO_6.out) (Kd.R_base ho0) hb); have n1_ := Aside0.mk (Kd.R_elder' (by (with_reducible repeat (first | apply Kd.R_alloc | apply Kd.R_drewN | apply Kd.R_drew)); exact HO_10.out) (Kd.R_base ho0) hb); have n2_ := Aside0.mk (Kd.R_elder' (by (with_reducible repeat (first | apply Kd.R_alloc | apply Kd.R_drewN | apply Kd.R_drew)); exact HO316.out) (Kd.R_base ho0) hb); have n3_ := Aside0.mk (Kd.R_elder' (by (with_reducible repeat (first | apply Kd.R_alloc | apply Kd.R_drewN | apply Kd.R_drew)); exact HO318.out) (Kd.R_base ho0) hb); have n4_ := Aside0.mk (Kd.R_elder' (by (with_reducible repeat (first | apply Kd.R_alloc | apply Kd.R_drewN | apply Kd.R_drew)); exact HO322.out) (Kd.R_base ho0) hb); have n5_ := Aside0.mk (Kd.R_lower (Kd.R_new' (Kd.R_new' (Kd.R_new' (Kd.R_new' ho0 (Kd.R_lt (by (with_reducible repeat (first | apply Kd.R_alloc | apply Kd.R_drewN | apply Kd.R_drew)); exact HO_10.out))) (Kd.R_lt (by (with_reducible repeat (first | apply Kd.R_alloc | apply Kd.R_drewN | apply Kd.R_drew)); exact HO316.out))) (Kd.R_lt (by (with_reducible repeat (first | apply Kd.R_alloc | apply Kd.R_drewN | apply Kd.R_drew)); exact HO318.out))) (Kd.R_lt (by (with_reducible repeat (first | apply Kd.R_alloc | apply Kd.R_drewN | apply Kd.R_drew)); exact HO322.out))) (below_size (by repeat (first | (with_reducible first | exact HB.out | apply below_alloc | apply pw_below_drewN | apply below_drew1) | exact HB.out | exact Below.refl _ _)))); have n6_ := Aside0.mk (below_step (by repeat (first | (with_reducible first | exact HB.out | apply below_alloc | apply pw_below_drewN | apply below_drew1) | exact HB.out | exact Below.refl _ _)) hb); clear HO_6; clear HO_10; clear HO316; clear HO318; clear HO322; clear HB; have HO_6 := n0_; have HO_10 := n1_; have HO316 := n2_; have HO318 := n3_; have HO322 := n4_; have HO326 := n5_; have HB := n6_; clear n0_ n1_ n2_ n3_ n4_ n5_ n6_; (try clear hb); (try clear hb2); (try clear hk); (try clear hi); (try clear ho0)))
        (try simp only [Act.put, List.setIfInBounds_toArray, List.set_cons_zero, List.set_cons_succ])
        go_cut [179] (fun v179 wc => ∃ (kq : Nat) (x179_71 : Bool), v179 = .bool x179_71 ∧ Aside0 (laws_FnTwoSquaresCounted.j1 kq t282 t283 t288 t291 t292 t299 t300 t303 t304 t307 t308 x179_71 = some r) ∧ Aside0 (kq ≤ kj15) ∧ Aside0 (Kd.S (Kd.slice 3 (Kd.int .i64)) 35 wc w.heap.size (fun k_ => some k_ ≠ (v293 : Value).ownBlock) v285 t283) ∧ Aside0 (Kd.R (Kd.int .i64) 3 wc w.heap.size (fun _ => True) v293 t291) ∧ Aside0 (Below w.heap.size w wc))
        case first =>
         as_aux_lemma =>
          have H := HC72.out
          clear HC72
          by_cases c78 : (t320 != t324) = true
          ·
           rw [if_pos c78] at H
           exact absurd (H.trans (congrArg some hrT)) (fun h_ => laws_FnTwoSquaresCounted.j1_no h_)
          ·
           rw [if_neg c78] at H
           have c78b0 : (t320 != t324) = false := by simpa using c78
           (try (have c78b1 : decide (t320 = t324) = true := by simpa using c78))
           (try (have c78b2 : (t320 == t324) = true := by simpa using c78))
           clear c78
           (first | rw [c78b0] | (simp only [i64_w, i32_w]; rw [c78b0]) | skip)
           replace H := Option.bind_eq_some_iff.mp H
           obtain ⟨t327, A790, H⟩ := H
           replace H : (if t327 = true then (if t320 = true then ((laws_vSquares.f kj15 t319).bind fun t328 => ((laws_vSquares.f kj15 t313).bind fun t329 => ((laws_vSquares.f kj15 t314).bind fun t330 => (laws_FnTwoSquaresCounted.j1 kj15 t282 t283 t288 t291 t292 t299 t300 t303 t304 t307 t308 (t328 != (wrap64 (t329 * t330))))))) else (laws_FnTwoSquaresCounted.j1 kj15 t282 t283 t288 t291 t292 t299 t300 t303 t304 t307 t308 false)) else (laws_FnTwoSquaresCounted.j1 kj15 t282 t283 t288 t291 t292 t299 t300 t303 t304 t307 t308 true)) = some r := H
           have A79 := Aside0.mk A790
           clear A790
           by_cases c80 : t327 = true
           ·
            subst c80
            have H1 : (if t320 = true then ((laws_vSquares.f kj15 t319).bind fun t328 => ((laws_vSquares.f kj15 t313).bind fun t329 => ((laws_vSquares.f kj15 t314).bind fun t330 => (laws_FnTwoSquaresCounted.j1 kj15 t282 t283 t288 t291 t292 t299 t300 t303 t304 t307 t308 (t328 != (wrap64 (t329 * t330))))))) else (laws_FnTwoSquaresCounted.j1 kj15 t282 t283 t288 t291 t292 t299 t300 t303 t304 t307 t308 false)) = some r := by rw [if_pos rfl] at H; exact H
            clear H
            have H := H1
            clear H1
            by_cases c81 : t320 = true
            ·
             subst c81
             have H1 : ((laws_vSquares.f kj15 t319).bind fun t328 => ((laws_vSquares.f kj15 t313).bind fun t329 => ((laws_vSquares.f kj15 t314).bind fun t330 => (laws_FnTwoSquaresCounted.j1 kj15 t282 t283 t288 t291 t292 t299 t300 t303 t304 t307 t308 (t328 != (wrap64 (t329 * t330))))))) = some r := by rw [if_pos rfl] at H; exact H
             clear H
             have H := H1
             clear H1
             replace H := Option.bind_eq_some_iff.mp H
             obtain ⟨t328, A820, H⟩ := H
             replace H : ((laws_vSquares.f kj15 t313).bind fun t329 => ((laws_vSquares.f kj15 t314).bind fun t330 => (laws_FnTwoSquaresCounted.j1 kj15 t282 t283 t288 t291 t292 t299 t300 t303 t304 t307 t308 (t328 != (wrap64 (t329 * t330)))))) = some r := H
             have A82 := Aside0.mk A820
             clear A820
             replace H := Option.bind_eq_some_iff.mp H
             obtain ⟨t329, A830, H⟩ := H
             replace H : ((laws_vSquares.f kj15 t314).bind fun t330 => (laws_FnTwoSquaresCounted.j1 kj15 t282 t283 t288 t291 t292 t299 t300 t303 t304 t307 t308 (t328 != (wrap64 (t329 * t330))))) = some r := H
             have A83 := Aside0.mk A830
             clear A830
             replace H := Option.bind_eq_some_iff.mp H
             obtain ⟨t330, A840, H⟩ := H
             replace H : (laws_FnTwoSquaresCounted.j1 kj15 t282 t283 t288 t291 t292 t299 t300 t303 t304 t307 t308 (t328 != (wrap64 (t329 * t330)))) = some r := H
             have A84 := Aside0.mk A840
             clear A840
             have H' := Aside0.mk H
             clear H
             obtain ⟨Ao85, co85, eo85⟩ := Kd.R_slice HO322.out
             subst eo85
             obtain ⟨Ao86, co86, eo86⟩ := Kd.R_slice HO326.out
             subst eo86
             go_wp2_with (first | (go_at_call 25; (with_reducible refine (laws_vSame.calls kj15 _ _ t319 _ _ t323 true _ ?side1 ?side2 ?side3 ?side4 A79.out).mono ?_); (case side1 => repeat (first | exact (Kd.R_reads' HO322.out).2.2 | (with_reducible refine Kd.C_alloc ?_ _) | (with_reducible refine Kd.C_drewN ?_ _) | (with_reducible refine Kd.C_drew ?_))); (case side2 => exact (Kd.R_reads' HO322.out).2.1); (case side3 => repeat (first | exact (Kd.R_reads' HO326.out).2.2 | (with_reducible refine Kd.C_alloc ?_ _) | (with_reducible refine Kd.C_drewN ?_ _) | (with_reducible refine Kd.C_drew ?_))); (case side4 => exact (Kd.R_reads' HO326.out).2.1); rintro e w' ⟨rfl, ⟨nd, rfl⟩⟩) | (go_at_call 32; (with_reducible refine (laws_vSquares.calls kj15 _ _ t319 t328 _ ?side1 ?side2 A82.out).mono ?_); (case side1 => repeat (first | exact (Kd.R_reads' HO322.out).2.2 | (with_reducible refine Kd.C_alloc ?_ _) | (with_reducible refine Kd.C_drewN ?_ _) | (with_reducible refine Kd.C_drew ?_))); (case side2 => exact (Kd.R_reads' HO322.out).2.1); rintro e w' ⟨rfl, ⟨nd, rfl⟩⟩) | (go_at_call 32; (with_reducible refine (laws_vSquares.calls kj15 _ _ t313 t329 _ ?side1 ?side2 A83.out).mono ?_); (case side1 => repeat (first | exact (Kd.R_reads' HO316.out).2.2 | (with_reducible refine Kd.C_alloc ?_ _) | (with_reducible refine Kd.C_drewN ?_ _) | (with_reducible refine Kd.C_drew ?_))); (case side2 => exact (Kd.R_reads' HO316.out).2.1); rintro e w' ⟨rfl, ⟨nd, rfl⟩⟩) | (go_at_call 32; (with_reducible refine (laws_vSquares.calls kj15 _ _ t314 t330 _ ?side1 ?side2 A84.out).mono ?_); (case side1 => repeat (first | exact (Kd.R_reads' HO318.out).2.2 | (with_reducible refine Kd.C_alloc ?_ _) | (with_reducible refine Kd.C_drewN ?_ _) | (with_reducible refine Kd.C_drew ?_))); (case side2 => exact (Kd.R_reads' HO318.out).2.1); rintro e w' ⟨rfl, ⟨nd, rfl⟩⟩))
             go_meet
             case rel => exact ⟨_, ((t328 != (wrap64 (t329 * t330)))), (by first | rfl | (simp; done) | (simp [*]; done)), H', ⟨by have := HJ15.out; first | omega | exact Nat.le_refl _⟩, ⟨by (with_reducible repeat (first | apply Kd.S_alloc | apply Kd.S_drewN | apply Kd.S_drew)); exact Kd.S_mono HO_6.out (fun _ hk => hk.1.1.1.1)⟩, ⟨by (with_reducible repeat (first | apply Kd.R_alloc | apply Kd.R_drewN | apply Kd.R_drew)); exact Kd.R_mono HO_10.out (fun _ hk => trivial)⟩, ⟨by repeat (first | (with_reducible first | exact HB.out | apply below_alloc | apply pw_below_drewN | apply below_drew1) | exact HB.out | exact Below.refl _ _)⟩⟩
            ·
             replace c81 := Bool.eq_false_iff.mpr c81
             subst c81
             have H1 : (laws_FnTwoSquaresCounted.j1 kj15 t282 t283 t288 t291 t292 t299 t300 t303 t304 t307 t308 false) = some r := by rw [if_neg (show ¬ (false = true) by decide)] at H; exact H
             clear H
             have H := H1
             clear H1
             have H' := Aside0.mk H
             clear H
             obtain ⟨Ao87, co87, eo87⟩ := Kd.R_slice HO322.out
             subst eo87
             obtain ⟨Ao88, co88, eo88⟩ := Kd.R_slice HO326.out
             subst eo88
             go_wp2_with (first | (go_at_call 25; (with_reducible refine (laws_vSame.calls kj15 _ _ t319 _ _ t323 true _ ?side1 ?side2 ?side3 ?side4 A79.out).mono ?_); (case side1 => repeat (first | exact (Kd.R_reads' HO322.out).2.2 | (with_reducible refine Kd.C_alloc ?_ _) | (with_reducible refine Kd.C_drewN ?_ _) | (with_reducible refine Kd.C_drew ?_))); (case side2 => exact (Kd.R_reads' HO322.out).2.1); (case side3 => repeat (first | exact (Kd.R_reads' HO326.out).2.2 | (with_reducible refine Kd.C_alloc ?_ _) | (with_reducible refine Kd.C_drewN ?_ _) | (with_reducible refine Kd.C_drew ?_))); (case side4 => exact (Kd.R_reads' HO326.out).2.1); rintro e w' ⟨rfl, ⟨nd, rfl⟩⟩))
             go_meet
             case rel => exact ⟨_, (false), (by first | rfl | (simp; done) | (simp [*]; done)), H', ⟨by have := HJ15.out; first | omega | exact Nat.le_refl _⟩, ⟨by (with_reducible repeat (first | apply Kd.S_alloc | apply Kd.S_drewN | apply Kd.S_drew)); exact Kd.S_mono HO_6.out (fun _ hk => hk.1.1.1.1)⟩, ⟨by (with_reducible repeat (first | apply Kd.R_alloc | apply Kd.R_drewN | apply Kd.R_drew)); exact Kd.R_mono HO_10.out (fun _ hk => trivial)⟩, ⟨by repeat (first | (with_reducible first | exact HB.out | apply below_alloc | apply pw_below_drewN | apply below_drew1) | exact HB.out | exact Below.refl _ _)⟩⟩
           ·
            replace c80 := Bool.eq_false_iff.mpr c80
            subst c80
            have H1 : (laws_FnTwoSquaresCounted.j1 kj15 t282 t283 t288 t291 t292 t299 t300 t303 t304 t307 t308 true) = some r := by rw [if_neg (show ¬ (false = true) by decide)] at H; exact H
            exact absurd (H1.trans (congrArg some hrT)) (fun h_ => laws_FnTwoSquaresCounted.j1_no h_)
        case rest =>
         as_aux_lemma =>
          clear HC72; (try clear c1); (try clear c2); (try clear p2); (try clear c3); (try clear c4); (try clear c5); (try clear c6); (try clear p6); (try clear c7); (try clear c8); (try clear c13); (try clear c23); (try clear c24); (try clear c25); (try clear c25b0); (try clear c25b1); (try clear c25b2); (try clear c27); (try clear c28); (try clear c28b0); (try clear c28b1); (try clear c28b2); (try clear c32); (try clear c33); (try clear c33b0); (try clear c33b1); (try clear c33b2); (try clear c38); (try clear c38b0); (try clear c38b1); (try clear c39); (try clear c39b0); (try clear c39b1); (try clear c39b2); (try clear c44); (try clear c44b0); (try clear c44b1); (try clear c45); (try clear c45b0); (try clear c45b1); (try clear c45b2); (try clear c48); (try clear c49); (try clear c50); (try clear c51); (try clear c52); (try clear c53); (try clear c54); (try clear c55); (try clear c56); (try clear c57); (try clear c58); (try clear c59); (try clear p64); (try clear c68); (try clear c78); (try clear c78b0); (try clear c78b1); (try clear c78b2); (try clear c80); (try clear c81); (try clear p2)
          obtain ⟨kq, x179_71, rfl, HA, HJ71, HO_6, HO_10, HB⟩ := hcut
          cases kq with
          | zero => exact absurd HA.out (by simp [laws_FnTwoSquaresCounted.j1])
          | succ kj71 =>
           have H := HA.out
           clear HA
           simp only [laws_FnTwoSquaresCounted.j1] at H
           by_cases c91 : x179_71 = true
           ·
            subst c91
            have H1 : (some false) = some r := by rw [if_pos rfl] at H; exact H
            exact absurd (H1.trans (congrArg some hrT)) (by simp)
           ·
            as_aux_lemma =>
             replace c91 := Bool.eq_false_iff.mpr c91
             subst c91
             have H1 : (if t288 = true then (if (t292 != (decide ((t283.length : Int) > 0))) = true then (laws_FnTwoSquaresCounted.j2 kj71 t282 t283 t299 t300 true) else (if t292 = true then (if 0 < (t283.length : Int) then ((laws_vSame.f kj71 t291 (rd_L2 t283 0)).bind fun t332 => (if t332 = true then (if t282 > 0 then (if (t300 == t292) = true then (laws_FnTwoSquaresCounted.j2 kj71 t282 t283 t299 t300 true) else (if t304 = true then (if t308 = true then (laws_FnTwoSquaresCounted.j2 kj71 t282 t283 t299 t300 (t303 != t307)) else (laws_FnTwoSquaresCounted.j2 kj71 t282 t283 t299 t300 false)) else (laws_FnTwoSquaresCounted.j2 kj71 t282 t283 t299 t300 false))) else (if t304 = true then (if t308 = true then (laws_FnTwoSquaresCounted.j2 kj71 t282 t283 t299 t300 (t303 != t307)) else (laws_FnTwoSquaresCounted.j2 kj71 t282 t283 t299 t300 false)) else (laws_FnTwoSquaresCounted.j2 kj71 t282 t283 t299 t300 false))) else (laws_FnTwoSquaresCounted.j2 kj71 t282 t283 t299 t300 true))) else (none)) else (if t282 > 0 then (if (t300 == t292) = true then (laws_FnTwoSquaresCounted.j2 kj71 t282 t283 t299 t300 true) else (if t304 = true then (if t308 = true then (laws_FnTwoSquaresCounted.j2 kj71 t282 t283 t299 t300 (t303 != t307)) else (laws_FnTwoSquaresCounted.j2 kj71 t282 t283 t299 t300 false)) else (laws_FnTwoSquaresCounted.j2 kj71 t282 t283 t299 t300 false))) else (if t304 = true then (if t308 = true then (laws_FnTwoSquaresCounted.j2 kj71 t282 t283 t299 t300 (t303 != t307)) else (laws_FnTwoSquaresCounted.j2 kj71 t282 t283 t299 t300 false)) else (laws_FnTwoSquaresCounted.j2 kj71 t282 t283 t299 t300 false))))) else (some true)) = some r := by rw [if_neg (show ¬ (false = true) by decide)] at H; exact H
             clear H
             have H := H1
             clear H1
             by_cases c92 : t288 = true
             ·
              as_aux_lemma =>
               subst c92
               have H1 : (if (t292 != (decide ((t283.length : Int) > 0))) = true then (laws_FnTwoSquaresCounted.j2 kj71 t282 t283 t299 t300 true) else (if t292 = true then (if 0 < (t283.length : Int) then ((laws_vSame.f kj71 t291 (rd_L2 t283 0)).bind fun t332 => (if t332 = true then (if t282 > 0 then (if (t300 == t292) = true then (laws_FnTwoSquaresCounted.j2 kj71 t282 t283 t299 t300 true) else (if t304 = true then (if t308 = true then (laws_FnTwoSquaresCounted.j2 kj71 t282 t283 t299 t300 (t303 != t307)) else (laws_FnTwoSquaresCounted.j2 kj71 t282 t283 t299 t300 false)) else (laws_FnTwoSquaresCounted.j2 kj71 t282 t283 t299 t300 false))) else (if t304 = true then (if t308 = true then (laws_FnTwoSquaresCounted.j2 kj71 t282 t283 t299 t300 (t303 != t307)) else (laws_FnTwoSquaresCounted.j2 kj71 t282 t283 t299 t300 false)) else (laws_FnTwoSquaresCounted.j2 kj71 t282 t283 t299 t300 false))) else (laws_FnTwoSquaresCounted.j2 kj71 t282 t283 t299 t300 true))) else (none)) else (if t282 > 0 then (if (t300 == t292) = true then (laws_FnTwoSquaresCounted.j2 kj71 t282 t283 t299 t300 true) else (if t304 = true then (if t308 = true then (laws_FnTwoSquaresCounted.j2 kj71 t282 t283 t299 t300 (t303 != t307)) else (laws_FnTwoSquaresCounted.j2 kj71 t282 t283 t299 t300 false)) else (laws_FnTwoSquaresCounted.j2 kj71 t282 t283 t299 t300 false))) else (if t304 = true then (if t308 = true then (laws_FnTwoSquaresCounted.j2 kj71 t282 t283 t299 t300 (t303 != t307)) else (laws_FnTwoSquaresCounted.j2 kj71 t282 t283 t299 t300 false)) else (laws_FnTwoSquaresCounted.j2 kj71 t282 t283 t299 t300 false))))) = some r := by rw [if_pos rfl] at H; exact H
               clear H
               have H := H1
               clear H1
               have HC93 := Aside0.mk H
               clear H
               go_upto_region 23 with (fail)
               go_cut [217] (fun v217 wc => ∃ (kq : Nat) (x217_92 : Bool), v217 = .bool x217_92 ∧ Aside0 (laws_FnTwoSquaresCounted.j2 kq t282 t283 t299 t300 x217_92 = some r) ∧ Aside0 (kq ≤ kj71) ∧ Aside0 (Kd.S (Kd.slice 3 (Kd.int .i64)) 35 wc w.heap.size (fun _ => True) v285 t283) ∧ Aside0 (Below w.heap.size w wc))
               case first =>
                as_aux_lemma =>
                 have H := HC93.out
                 clear HC93
                 by_cases c94 : (t292 != (decide ((t283.length : Int) > 0))) = true
                 ·
                  rw [if_pos c94] at H
                  exact absurd (H.trans (congrArg some hrT)) (fun h_ => laws_FnTwoSquaresCounted.j2_no h_)
                 ·
                  as_aux_lemma =>
                   rw [if_neg c94] at H
                   have c94b0 : (t292 != (decide ((t283.length : Int) > 0))) = false := by simpa using c94
                   (try (have c94b1 : decide (t292 = (decide ((t283.length : Int) > 0))) = true := by simpa using c94))
                   (try (have c94b2 : (t292 == (decide ((t283.length : Int) > 0))) = true := by simpa using c94))
                   clear c94
                   (first | rw [c94b0] | (simp only [i64_w, i32_w]; rw [c94b0]) | skip)
                   by_cases c96 : t292 = true
                   ·
                    as_aux_lemma =>
                     subst c96
                     have H1 : (if 0 < (t283.length : Int) then ((laws_vSame.f kj71 t291 (rd_L2 t283 0)).bind fun t332 => (if t332 = true then (if t282 > 0 then (if (t300 == true) = true then (laws_FnTwoSquaresCounted.j2 kj71 t282 t283 t299 t300 true) else (if t304 = true then (if t308 = true then (laws_FnTwoSquaresCounted.j2 kj71 t282 t283 t299 t300 (t303 != t307)) else (laws_FnTwoSquaresCounted.j2 kj71 t282 t283 t299 t300 false)) else (laws_FnTwoSquaresCounted.j2 kj71 t282 t283 t299 t300 false))) else (if t304 = true then (if t308 = true then (laws_FnTwoSquaresCounted.j2 kj71 t282 t283 t299 t300 (t303 != t307)) else (laws_FnTwoSquaresCounted.j2 kj71 t282 t283 t299 t300 false)) else (laws_FnTwoSquaresCounted.j2 kj71 t282 t283 t299 t300 false))) else (laws_FnTwoSquaresCounted.j2 kj71 t282 t283 t299 t300 true))) else (none)) = some r := by rw [if_pos rfl] at H; exact H
                     clear H
                     have H := H1
                     clear H1
                     by_cases c97 : 0 < (t283.length : Int)
                     ·
                      as_aux_lemma =>
                       rw [if_pos c97] at H
                       have c97b0 : decide (0 < (t283.length : Int)) = true := decide_eq_true c97
                       have c97b1 : decide (0 < t283.length) = true := decide_eq_true (by omega)
                       clear c97
                       replace H := Option.bind_eq_some_iff.mp H
                       obtain ⟨t332, A980, H⟩ := H
                       replace H : (if t332 = true then (if t282 > 0 then (if (t300 == true) = true then (laws_FnTwoSquaresCounted.j2 kj71 t282 t283 t299 t300 true) else (if t304 = true then (if t308 = true then (laws_FnTwoSquaresCounted.j2 kj71 t282 t283 t299 t300 (t303 != t307)) else (laws_FnTwoSquaresCounted.j2 kj71 t282 t283 t299 t300 false)) else (laws_FnTwoSquaresCounted.j2 kj71 t282 t283 t299 t300 false))) else (if t304 = true then (if t308 = true then (laws_FnTwoSquaresCounted.j2 kj71 t282 t283 t299 t300 (t303 != t307)) else (laws_FnTwoSquaresCounted.j2 kj71 t282 t283 t299 t300 false)) else (laws_FnTwoSquaresCounted.j2 kj71 t282 t283 t299 t300 false))) else (laws_FnTwoSquaresCounted.j2 kj71 t282 t283 t299 t300 true)) = some r := H
                       have A98 := Aside0.mk A980
                       clear A980
                       by_cases c99 : t332 = true
                       ·
                        as_aux_lemma =>
                         subst c99
                         have H1 : (if t282 > 0 then (if (t300 == true) = true then (laws_FnTwoSquaresCounted.j2 kj71 t282 t283 t299 t300 true) else (if t304 = true then (if t308 = true then (laws_FnTwoSquaresCounted.j2 kj71 t282 t283 t299 t300 (t303 != t307)) else (laws_FnTwoSquaresCounted.j2 kj71 t282 t283 t299 t300 false)) else (laws_FnTwoSquaresCounted.j2 kj71 t282 t283 t299 t300 false))) else (if t304 = true then (if t308 = true then (laws_FnTwoSquaresCounted.j2 kj71 t282 t283 t299 t300 (t303 != t307)) else (laws_FnTwoSquaresCounted.j2 kj71 t282 t283 t299 t300 false)) else (laws_FnTwoSquaresCounted.j2 kj71 t282 t283 t299 t300 false))) = some r := by rw [if_pos rfl] at H; exact H
                         clear H
                         have H := H1
                         clear H1
                         by_cases c100 : t282 > 0
                         ·
                          as_aux_lemma =>
                           rw [if_pos c100] at H
                           have c100b0 : decide (0 < t282) = true := decide_eq_true c100
                           clear c100
                           by_cases c101 : (t300 == true) = true
                           ·
                            rw [if_pos c101] at H
                            exact absurd (H.trans (congrArg some hrT)) (fun h_ => laws_FnTwoSquaresCounted.j2_no h_)
                           ·
                            as_aux_lemma =>
                             rw [if_neg c101] at H
                             have c101b0 : (t300 == true) = false := by simpa using c101
                             have hz_ : t300 = false := by simpa using c101b0
                             clear c101b0
                             subst hz_
                             clear c101
                             by_cases c104 : t304 = true
                             ·
                              subst c104
                              have H1 : (if t308 = true then (laws_FnTwoSquaresCounted.j2 kj71 t282 t283 t299 false (t303 != t307)) else (laws_FnTwoSquaresCounted.j2 kj71 t282 t283 t299 false false)) = some r := by rw [if_pos rfl] at H; exact H
                              clear H
                              have H := H1
                              clear H1
                              by_cases c105 : t308 = true
                              ·
                               subst c105
                               have H1 : (laws_FnTwoSquaresCounted.j2 kj71 t282 t283 t299 false (t303 != t307)) = some r := by rw [if_pos rfl] at H; exact H
                               clear H
                               have H := H1
                               clear H1
                               have H' := Aside0.mk H
                               clear H
                               obtain ⟨Ao106, co106, eo106⟩ := Kd.S_slice HO_6.out
                               subst eo106
                               have p331 : 0 ≤ (0 : Int) := (by omega)
                               have q331 : 0 < (t283.length : Int) := of_decide_eq_true (by first | (with_reducible assumption) | assumption)
                               obtain ⟨ad331, A331_0, c331_0, e331, hx331_0, hl331_0, hi331_0⟩ := at_L2 (Kd.S_reads' HO_6.out).2.2 0 p331 q331
                               cases e331
                               obtain ⟨ce331, hce331, hMe331, hcc331⟩ := Kd.S_get HO_6.out [] 0 p331 (by first | exact q331 | exact of_decide_eq_true (by first | (with_reducible assumption) | assumption) | (have e_ := (Kd.S_reads' HO_6.out).1; omega))
                               obtain ⟨ve331_0, rfl, ge331_0⟩ := hMe331
                               have hv331_0 := hcc331 0 _ rfl
                               rw [Nat.add_zero, show ((Kd.slice 3 (Kd.int .i64))).sz = 1 from rfl, Nat.mul_one] at hv331_0
                               replace hv331_0 := Option.some.inj (hv331_0.symm.trans hx331_0)
                               rw [hv331_0] at ge331_0
                               have HL331_0 := Aside0.mk (show Kd.R (Kd.int .i64) 3 _ _ _ _ (rd_L2 t283 0) from ge331_0)
                               clear hv331_0 ge331_0
                               clear hcc331 hce331
                               have qi331 : (0 < t283.length) = True := eq_true (by omega)
                               (try rw [show ((0 : Int)).toNat = 0 from rfl] at hx331_0)
                               (try rw [Addr.add_zero'] at hx331_0)
                               have HR331_0 := Aside0.mk hi331_0
                               have HC331_0 := Aside0.mk hl331_0
                               clear hi331_0 hl331_0
                               replace p331 := eq_true p331
                               replace q331 := eq_true q331
                               obtain ⟨Ao107, co107, eo107⟩ := Kd.R_slice HO_10.out
                               subst eo107
                               go_wp2_with (first | (go_at_call 25; (with_reducible refine (laws_vSame.calls kj71 _ _ t291 _ _ (rd_L2 t283 0) true _ ?side1 ?side2 ?side3 ?side4 A98.out).mono ?_); (case side1 => repeat (first | exact (Kd.R_reads' HO_10.out).2.2 | (with_reducible refine Kd.C_alloc ?_ _) | (with_reducible refine Kd.C_drewN ?_ _) | (with_reducible refine Kd.C_drew ?_))); (case side2 => exact (Kd.R_reads' HO_10.out).2.1); (case side3 => repeat (first | exact (by repeat (first | (with_reducible exact HR331_0.out) | (with_reducible refine Kd.C_alloc ?_ _) | (with_reducible refine Kd.C_drewN ?_ _) | (with_reducible refine Kd.C_drew ?_) | exact HR331_0.out)) | (with_reducible refine Kd.C_alloc ?_ _) | (with_reducible refine Kd.C_drewN ?_ _) | (with_reducible refine Kd.C_drew ?_))); (case side4 => exact HC331_0.out); rintro e w' ⟨rfl, ⟨nd, rfl⟩⟩))
                               go_meet
                               case rel => exact ⟨_, ((t303 != t307)), (by first | rfl | (simp; done) | (simp [*]; done)), H', ⟨by have := HJ15.out; have := HJ71.out; first | omega | exact Nat.le_refl _⟩, ⟨by (with_reducible repeat (first | apply Kd.S_alloc | apply Kd.S_drewN | apply Kd.S_drew)); exact Kd.S_mono HO_6.out (fun _ hk => trivial)⟩, ⟨by repeat (first | (with_reducible first | exact HB.out | apply below_alloc | apply pw_below_drewN | apply below_drew1) | exact HB.out | exact Below.refl _ _)⟩⟩
                              ·
                               replace c105 := Bool.eq_false_iff.mpr c105
                               subst c105
                               have H1 : (laws_FnTwoSquaresCounted.j2 kj71 t282 t283 t299 false false) = some r := by rw [if_neg (show ¬ (false = true) by decide)] at H; exact H
                               clear H
                               have H := H1
                               clear H1
                               have H' := Aside0.mk H
                               clear H
                               obtain ⟨Ao108, co108, eo108⟩ := Kd.S_slice HO_6.out
                               subst eo108
                               have p331 : 0 ≤ (0 : Int) := (by omega)
                               have q331 : 0 < (t283.length : Int) := of_decide_eq_true (by first | (with_reducible assumption) | assumption)
                               obtain ⟨ad331, A331_0, c331_0, e331, hx331_0, hl331_0, hi331_0⟩ := at_L2 (Kd.S_reads' HO_6.out).2.2 0 p331 q331
                               cases e331
                               obtain ⟨ce331, hce331, hMe331, hcc331⟩ := Kd.S_get HO_6.out [] 0 p331 (by first | exact q331 | exact of_decide_eq_true (by first | (with_reducible assumption) | assumption) | (have e_ := (Kd.S_reads' HO_6.out).1; omega))
                               obtain ⟨ve331_0, rfl, ge331_0⟩ := hMe331
                               have hv331_0 := hcc331 0 _ rfl
                               rw [Nat.add_zero, show ((Kd.slice 3 (Kd.int .i64))).sz = 1 from rfl, Nat.mul_one] at hv331_0
                               replace hv331_0 := Option.some.inj (hv331_0.symm.trans hx331_0)
                               rw [hv331_0] at ge331_0
                               have HL331_0 := Aside0.mk (show Kd.R (Kd.int .i64) 3 _ _ _ _ (rd_L2 t283 0) from ge331_0)
                               clear hv331_0 ge331_0
                               clear hcc331 hce331
                               have qi331 : (0 < t283.length) = True := eq_true (by omega)
                               (try rw [show ((0 : Int)).toNat = 0 from rfl] at hx331_0)
                               (try rw [Addr.add_zero'] at hx331_0)
                               have HR331_0 := Aside0.mk hi331_0
                               have HC331_0 := Aside0.mk hl331_0
                               clear hi331_0 hl331_0
                               replace p331 := eq_true p331
                               replace q331 := eq_true q331
                               obtain ⟨Ao109, co109, eo109⟩ := Kd.R_slice HO_10.out
                               subst eo109
                               go_wp2_with (first | (go_at_call 25; (with_reducible refine (laws_vSame.calls kj71 _ _ t291 _ _ (rd_L2 t283 0) true _ ?side1 ?side2 ?side3 ?side4 A98.out).mono ?_); (case side1 => repeat (first | exact (Kd.R_reads' HO_10.out).2.2 | (with_reducible refine Kd.C_alloc ?_ _) | (with_reducible refine Kd.C_drewN ?_ _) | (with_reducible refine Kd.C_drew ?_))); (case side2 => exact (Kd.R_reads' HO_10.out).2.1); (case side3 => repeat (first | exact (by repeat (first | (with_reducible exact HR331_0.out) | (with_reducible refine Kd.C_alloc ?_ _) | (with_reducible refine Kd.C_drewN ?_ _) | (with_reducible refine Kd.C_drew ?_) | exact HR331_0.out)) | (with_reducible refine Kd.C_alloc ?_ _) | (with_reducible refine Kd.C_drewN ?_ _) | (with_reducible refine Kd.C_drew ?_))); (case side4 => exact HC331_0.out); rintro e w' ⟨rfl, ⟨nd, rfl⟩⟩))
                               go_meet
                               case rel => exact ⟨_, (false), (by first | rfl | (simp; done) | (simp [*]; done)), H', ⟨by have := HJ15.out; have := HJ71.out; first | omega | exact Nat.le_refl _⟩, ⟨by (with_reducible repeat (first | apply Kd.S_alloc | apply Kd.S_drewN | apply Kd.S_drew)); exact Kd.S_mono HO_6.out (fun _ hk => trivial)⟩, ⟨by repeat (first | (with_reducible first | exact HB.out | apply below_alloc | apply pw_below_drewN | apply below_drew1) | exact HB.out | exact Below.refl _ _)⟩⟩
                             ·
                              replace c104 := Bool.eq_false_iff.mpr c104
                              subst c104
                              have H1 : (laws_FnTwoSquaresCounted.j2 kj71 t282 t283 t299 false false) = some r := by rw [if_neg (show ¬ (false = true) by decide)] at H; exact H
                              clear H
                              have H := H1
                              clear H1
                              have H' := Aside0.mk H
                              clear H
                              obtain ⟨Ao110, co110, eo110⟩ := Kd.S_slice HO_6.out
                              subst eo110
                              have p331 : 0 ≤ (0 : Int) := (by omega)
                              have q331 : 0 < (t283.length : Int) := of_decide_eq_true (by first | (with_reducible assumption) | assumption)
                              obtain ⟨ad331, A331_0, c331_0, e331, hx331_0, hl331_0, hi331_0⟩ := at_L2 (Kd.S_reads' HO_6.out).2.2 0 p331 q331
                              cases e331
                              obtain ⟨ce331, hce331, hMe331, hcc331⟩ := Kd.S_get HO_6.out [] 0 p331 (by first | exact q331 | exact of_decide_eq_true (by first | (with_reducible assumption) | assumption) | (have e_ := (Kd.S_reads' HO_6.out).1; omega))
                              obtain ⟨ve331_0, rfl, ge331_0⟩ := hMe331
                              have hv331_0 := hcc331 0 _ rfl
                              rw [Nat.add_zero, show ((Kd.slice 3 (Kd.int .i64))).sz = 1 from rfl, Nat.mul_one] at hv331_0
                              replace hv331_0 := Option.some.inj (hv331_0.symm.trans hx331_0)
                              rw [hv331_0] at ge331_0
                              have HL331_0 := Aside0.mk (show Kd.R (Kd.int .i64) 3 _ _ _ _ (rd_L2 t283 0) from ge331_0)
                              clear hv331_0 ge331_0
                              clear hcc331 hce331
                              have qi331 : (0 < t283.length) = True := eq_true (by omega)
                              (try rw [show ((0 : Int)).toNat = 0 from rfl] at hx331_0)
                              (try rw [Addr.add_zero'] at hx331_0)
                              have HR331_0 := Aside0.mk hi331_0
                              have HC331_0 := Aside0.mk hl331_0
                              clear hi331_0 hl331_0
                              replace p331 := eq_true p331
                              replace q331 := eq_true q331
                              obtain ⟨Ao111, co111, eo111⟩ := Kd.R_slice HO_10.out
                              subst eo111
                              go_wp2_with (first | (go_at_call 25; (with_reducible refine (laws_vSame.calls kj71 _ _ t291 _ _ (rd_L2 t283 0) true _ ?side1 ?side2 ?side3 ?side4 A98.out).mono ?_); (case side1 => repeat (first | exact (Kd.R_reads' HO_10.out).2.2 | (with_reducible refine Kd.C_alloc ?_ _) | (with_reducible refine Kd.C_drewN ?_ _) | (with_reducible refine Kd.C_drew ?_))); (case side2 => exact (Kd.R_reads' HO_10.out).2.1); (case side3 => repeat (first | exact (by repeat (first | (with_reducible exact HR331_0.out) | (with_reducible refine Kd.C_alloc ?_ _) | (with_reducible refine Kd.C_drewN ?_ _) | (with_reducible refine Kd.C_drew ?_) | exact HR331_0.out)) | (with_reducible refine Kd.C_alloc ?_ _) | (with_reducible refine Kd.C_drewN ?_ _) | (with_reducible refine Kd.C_drew ?_))); (case side4 => exact HC331_0.out); rintro e w' ⟨rfl, ⟨nd, rfl⟩⟩))
                              go_meet
                              case rel => exact ⟨_, (false), (by first | rfl | (simp; done) | (simp [*]; done)), H', ⟨by have := HJ15.out; have := HJ71.out; first | omega | exact Nat.le_refl _⟩, ⟨by (with_reducible repeat (first | apply Kd.S_alloc | apply Kd.S_drewN | apply Kd.S_drew)); exact Kd.S_mono HO_6.out (fun _ hk => trivial)⟩, ⟨by repeat (first | (with_reducible first | exact HB.out | apply below_alloc | apply pw_below_drewN | apply below_drew1) | exact HB.out | exact Below.refl _ _)⟩⟩
                         ·
                          as_aux_lemma =>
                           rw [if_neg c100] at H
                           have c100b0 : decide (0 < t282) = false := decide_eq_false c100
                           clear c100
                           by_cases c112 : t304 = true
                           ·
                            subst c112
                            have H1 : (if t308 = true then (laws_FnTwoSquaresCounted.j2 kj71 t282 t283 t299 t300 (t303 != t307)) else (laws_FnTwoSquaresCounted.j2 kj71 t282 t283 t299 t300 false)) = some r := by rw [if_pos rfl] at H; exact H
                            clear H
                            have H := H1
                            clear H1
                            by_cases c113 : t308 = true
                            ·
                             subst c113
                             have H1 : (laws_FnTwoSquaresCounted.j2 kj71 t282 t283 t299 t300 (t303 != t307)) = some r := by rw [if_pos rfl] at H; exact H
                             clear H
                             have H := H1
                             clear H1
                             have H' := Aside0.mk H
                             clear H
                             obtain ⟨Ao114, co114, eo114⟩ := Kd.S_slice HO_6.out
                             subst eo114
                             have p331 : 0 ≤ (0 : Int) := (by omega)
                             have q331 : 0 < (t283.length : Int) := of_decide_eq_true (by first | (with_reducible assumption) | assumption)
                             obtain ⟨ad331, A331_0, c331_0, e331, hx331_0, hl331_0, hi331_0⟩ := at_L2 (Kd.S_reads' HO_6.out).2.2 0 p331 q331
                             cases e331
                             obtain ⟨ce331, hce331, hMe331, hcc331⟩ := Kd.S_get HO_6.out [] 0 p331 (by first | exact q331 | exact of_decide_eq_true (by first | (with_reducible assumption) | assumption) | (have e_ := (Kd.S_reads' HO_6.out).1; omega))
                             obtain ⟨ve331_0, rfl, ge331_0⟩ := hMe331
                             have hv331_0 := hcc331 0 _ rfl
                             rw [Nat.add_zero, show ((Kd.slice 3 (Kd.int .i64))).sz = 1 from rfl, Nat.mul_one] at hv331_0
                             replace hv331_0 := Option.some.inj (hv331_0.symm.trans hx331_0)
                             rw [hv331_0] at ge331_0
                             have HL331_0 := Aside0.mk (show Kd.R (Kd.int .i64) 3 _ _ _ _ (rd_L2 t283 0) from ge331_0)
                             clear hv331_0 ge331_0
                             clear hcc331 hce331
                             have qi331 : (0 < t283.length) = True := eq_true (by omega)
                             (try rw [show ((0 : Int)).toNat = 0 from rfl] at hx331_0)
                             (try rw [Addr.add_zero'] at hx331_0)
                             have HR331_0 := Aside0.mk hi331_0
                             have HC331_0 := Aside0.mk hl331_0
                             clear hi331_0 hl331_0
                             replace p331 := eq_true p331
                             replace q331 := eq_true q331
                             obtain ⟨Ao115, co115, eo115⟩ := Kd.R_slice HO_10.out
                             subst eo115
                             go_wp2_with (first | (go_at_call 25; (with_reducible refine (laws_vSame.calls kj71 _ _ t291 _ _ (rd_L2 t283 0) true _ ?side1 ?side2 ?side3 ?side4 A98.out).mono ?_); (case side1 => repeat (first | exact (Kd.R_reads' HO_10.out).2.2 | (with_reducible refine Kd.C_alloc ?_ _) | (with_reducible refine Kd.C_drewN ?_ _) | (with_reducible refine Kd.C_drew ?_))); (case side2 => exact (Kd.R_reads' HO_10.out).2.1); (case side3 => repeat (first | exact (by repeat (first | (with_reducible exact HR331_0.out) | (with_reducible refine Kd.C_alloc ?_ _) | (with_reducible refine Kd.C_drewN ?_ _) | (with_reducible refine Kd.C_drew ?_) | exact HR331_0.out)) | (with_reducible refine Kd.C_alloc ?_ _) | (with_reducible refine Kd.C_drewN ?_ _) | (with_reducible refine Kd.C_drew ?_))); (case side4 => exact HC331_0.out); rintro e w' ⟨rfl, ⟨nd, rfl⟩⟩))
                             go_meet
                             case rel => exact ⟨_, ((t303 != t307)), (by first | rfl | (simp; done) | (simp [*]; done)), H', ⟨by have := HJ15.out; have := HJ71.out; first | omega | exact Nat.le_refl _⟩, ⟨by (with_reducible repeat (first | apply Kd.S_alloc | apply Kd.S_drewN | apply Kd.S_drew)); exact Kd.S_mono HO_6.out (fun _ hk => trivial)⟩, ⟨by repeat (first | (with_reducible first | exact HB.out | apply below_alloc | apply pw_below_drewN | apply below_drew1) | exact HB.out | exact Below.refl _ _)⟩⟩
                            ·
                             replace c113 := Bool.eq_false_iff.mpr c113
                             subst c113
                             have H1 : (laws_FnTwoSquaresCounted.j2 kj71 t282 t283 t299 t300 false) = some r := by rw [if_neg (show ¬ (false = true) by decide)] at H; exact H
                             clear H
                             have H := H1
                             clear H1
                             have H' := Aside0.mk H
                             clear H
                             obtain ⟨Ao116, co116, eo116⟩ := Kd.S_slice HO_6.out
                             subst eo116
                             have p331 : 0 ≤ (0 : Int) := (by omega)
                             have q331 : 0 < (t283.length : Int) := of_decide_eq_true (by first | (with_reducible assumption) | assumption)
                             obtain ⟨ad331, A331_0, c331_0, e331, hx331_0, hl331_0, hi331_0⟩ := at_L2 (Kd.S_reads' HO_6.out).2.2 0 p331 q331
                             cases e331
                             obtain ⟨ce331, hce331, hMe331, hcc331⟩ := Kd.S_get HO_6.out [] 0 p331 (by first | exact q331 | exact of_decide_eq_true (by first | (with_reducible assumption) | assumption) | (have e_ := (Kd.S_reads' HO_6.out).1; omega))
                             obtain ⟨ve331_0, rfl, ge331_0⟩ := hMe331
                             have hv331_0 := hcc331 0 _ rfl
                             rw [Nat.add_zero, show ((Kd.slice 3 (Kd.int .i64))).sz = 1 from rfl, Nat.mul_one] at hv331_0
                             replace hv331_0 := Option.some.inj (hv331_0.symm.trans hx331_0)
                             rw [hv331_0] at ge331_0
                             have HL331_0 := Aside0.mk (show Kd.R (Kd.int .i64) 3 _ _ _ _ (rd_L2 t283 0) from ge331_0)
                             clear hv331_0 ge331_0
                             clear hcc331 hce331
                             have qi331 : (0 < t283.length) = True := eq_true (by omega)
                             (try rw [show ((0 : Int)).toNat = 0 from rfl] at hx331_0)
                             (try rw [Addr.add_zero'] at hx331_0)
                             have HR331_0 := Aside0.mk hi331_0
                             have HC331_0 := Aside0.mk hl331_0
                             clear hi331_0 hl331_0
                             replace p331 := eq_true p331
                             replace q331 := eq_true q331
                             obtain ⟨Ao117, co117, eo117⟩ := Kd.R_slice HO_10.out
                             subst eo117
                             go_wp2_with (first | (go_at_call 25; (with_reducible refine (laws_vSame.calls kj71 _ _ t291 _ _ (rd_L2 t283 0) true _ ?side1 ?side2 ?side3 ?side4 A98.out).mono ?_); (case side1 => repeat (first | exact (Kd.R_reads' HO_10.out).2.2 | (with_reducible refine Kd.C_alloc ?_ _) | (with_reducible refine Kd.C_drewN ?_ _) | (with_reducible refine Kd.C_drew ?_))); (case side2 => exact (Kd.R_reads' HO_10.out).2.1); (case side3 => repeat (first | exact (by repeat (first | (with_reducible exact HR331_0.out) | (with_reducible refine Kd.C_alloc ?_ _) | (with_reducible refine Kd.C_drewN ?_ _) | (with_reducible refine Kd.C_drew ?_) | exact HR331_0.out)) | (with_reducible refine Kd.C_alloc ?_ _) | (with_reducible refine Kd.C_drewN ?_ _) | (with_reducible refine Kd.C_drew ?_))); (case side4 => exact HC331_0.out); rintro e w' ⟨rfl, ⟨nd, rfl⟩⟩))
                             go_meet
                             case rel => exact ⟨_, (false), (by first | rfl | (simp; done) | (simp [*]; done)), H', ⟨by have := HJ15.out; have := HJ71.out; first | omega | exact Nat.le_refl _⟩, ⟨by (with_reducible repeat (first | apply Kd.S_alloc | apply Kd.S_drewN | apply Kd.S_drew)); exact Kd.S_mono HO_6.out (fun _ hk => trivial)⟩, ⟨by repeat (first | (with_reducible first | exact HB.out | apply below_alloc | apply pw_below_drewN | apply below_drew1) | exact HB.out | exact Below.refl _ _)⟩⟩
                           ·
                            replace c112 := Bool.eq_false_iff.mpr c112
                            subst c112
                            have H1 : (laws_FnTwoSquaresCounted.j2 kj71 t282 t283 t299 t300 false) = some r := by rw [if_neg (show ¬ (false = true) by decide)] at H; exact H
                            clear H
                            have H := H1
                            clear H1
                            have H' := Aside0.mk H
                            clear H
                            obtain ⟨Ao118, co118, eo118⟩ := Kd.S_slice HO_6.out
                            subst eo118
                            have p331 : 0 ≤ (0 : Int) := (by omega)
                            have q331 : 0 < (t283.length : Int) := of_decide_eq_true (by first | (with_reducible assumption) | assumption)
                            obtain ⟨ad331, A331_0, c331_0, e331, hx331_0, hl331_0, hi331_0⟩ := at_L2 (Kd.S_reads' HO_6.out).2.2 0 p331 q331
                            cases e331
                            obtain ⟨ce331, hce331, hMe331, hcc331⟩ := Kd.S_get HO_6.out [] 0 p331 (by first | exact q331 | exact of_decide_eq_true (by first | (with_reducible assumption) | assumption) | (have e_ := (Kd.S_reads' HO_6.out).1; omega))
                            obtain ⟨ve331_0, rfl, ge331_0⟩ := hMe331
                            have hv331_0 := hcc331 0 _ rfl
                            rw [Nat.add_zero, show ((Kd.slice 3 (Kd.int .i64))).sz = 1 from rfl, Nat.mul_one] at hv331_0
                            replace hv331_0 := Option.some.inj (hv331_0.symm.trans hx331_0)
                            rw [hv331_0] at ge331_0
                            have HL331_0 := Aside0.mk (show Kd.R (Kd.int .i64) 3 _ _ _ _ (rd_L2 t283 0) from ge331_0)
                            clear hv331_0 ge331_0
                            clear hcc331 hce331
                            have qi331 : (0 < t283.length) = True := eq_true (by omega)
                            (try rw [show ((0 : Int)).toNat = 0 from rfl] at hx331_0)
                            (try rw [Addr.add_zero'] at hx331_0)
                            have HR331_0 := Aside0.mk hi331_0
                            have HC331_0 := Aside0.mk hl331_0
                            clear hi331_0 hl331_0
                            replace p331 := eq_true p331
                            replace q331 := eq_true q331
                            obtain ⟨Ao119, co119, eo119⟩ := Kd.R_slice HO_10.out
                            subst eo119
                            go_wp2_with (first | (go_at_call 25; (with_reducible refine (laws_vSame.calls kj71 _ _ t291 _ _ (rd_L2 t283 0) true _ ?side1 ?side2 ?side3 ?side4 A98.out).mono ?_); (case side1 => repeat (first | exact (Kd.R_reads' HO_10.out).2.2 | (with_reducible refine Kd.C_alloc ?_ _) | (with_reducible refine Kd.C_drewN ?_ _) | (with_reducible refine Kd.C_drew ?_))); (case side2 => exact (Kd.R_reads' HO_10.out).2.1); (case side3 => repeat (first | exact (by repeat (first | (with_reducible exact HR331_0.out) | (with_reducible refine Kd.C_alloc ?_ _) | (with_reducible refine Kd.C_drewN ?_ _) | (with_reducible refine Kd.C_drew ?_) | exact HR331_0.out)) | (with_reducible refine Kd.C_alloc ?_ _) | (with_reducible refine Kd.C_drewN ?_ _) | (with_reducible refine Kd.C_drew ?_))); (case side4 => exact HC331_0.out); rintro e w' ⟨rfl, ⟨nd, rfl⟩⟩))
                            go_meet
                            case rel => exact ⟨_, (false), (by first | rfl | (simp; done) | (simp [*]; done)), H', ⟨by have := HJ15.out; have := HJ71.out; first | omega | exact Nat.le_refl _⟩, ⟨by (with_reducible repeat (first | apply Kd.S_alloc | apply Kd.S_drewN | apply Kd.S_drew)); exact Kd.S_mono HO_6.out (fun _ hk => trivial)⟩, ⟨by repeat (first | (with_reducible first | exact HB.out | apply below_alloc | apply pw_below_drewN | apply below_drew1) | exact HB.out | exact Below.refl _ _)⟩⟩
                       ·
                        replace c99 := Bool.eq_false_iff.mpr c99
                        subst c99
                        have H1 : (laws_FnTwoSquaresCounted.j2 kj71 t282 t283 t299 t300 true) = some r := by rw [if_neg (show ¬ (false = true) by decide)] at H; exact H
                        exact absurd (H1.trans (congrArg some hrT)) (fun h_ => laws_FnTwoSquaresCounted.j2_no h_)
                     ·
                      rw [if_neg c97] at H
                      exact absurd H (by simp)
                   ·
                    as_aux_lemma =>
                     replace c96 := Bool.eq_false_iff.mpr c96
                     subst c96
                     have z1_ : decide (0 < (t283.length : Int)) = false := decide_eq_false (fun h_ => absurd c94b0 (by rw [decide_eq_true (show (t283.length : Int) > 0 by omega)]; decide))
                     have z2_ : decide (0 < t283.length) = false := decide_eq_false (fun h_ => absurd z1_ (by rw [decide_eq_true (show 0 < (t283.length : Int) by omega)]; decide))
                     (try clear c94b1); (try clear c94b2); (try clear c94b0)
                     have H1 : (if t282 > 0 then (if (t300 == false) = true then (laws_FnTwoSquaresCounted.j2 kj71 t282 t283 t299 t300 true) else (if t304 = true then (if t308 = true then (laws_FnTwoSquaresCounted.j2 kj71 t282 t283 t299 t300 (t303 != t307)) else (laws_FnTwoSquaresCounted.j2 kj71 t282 t283 t299 t300 false)) else (laws_FnTwoSquaresCounted.j2 kj71 t282 t283 t299 t300 false))) else (if t304 = true then (if t308 = true then (laws_FnTwoSquaresCounted.j2 kj71 t282 t283 t299 t300 (t303 != t307)) else (laws_FnTwoSquaresCounted.j2 kj71 t282 t283 t299 t300 false)) else (laws_FnTwoSquaresCounted.j2 kj71 t282 t283 t299 t300 false))) = some r := by rw [if_neg (show ¬ (false = true) by decide)] at H; exact H
                     clear H
                     have H := H1
                     clear H1
                     by_cases c122 : t282 > 0
                     ·
                      rw [if_pos c122] at H
                      have c122b0 : decide (0 < t282) = true := decide_eq_true c122
                      clear c122
                      by_cases c123 : (t300 == false) = true
                      ·
                       rw [if_pos c123] at H
                       exact absurd (H.trans (congrArg some hrT)) (fun h_ => laws_FnTwoSquaresCounted.j2_no h_)
                      ·
                       rw [if_neg c123] at H
                       have c123b0 : (t300 == false) = false := by simpa using c123
                       have hz_ : t300 = true := by simpa using c123b0
                       clear c123b0
                       subst hz_
                       clear c123
                       by_cases c125 : t304 = true
                       ·
                        subst c125
                        have H1 : (if t308 = true then (laws_FnTwoSquaresCounted.j2 kj71 t282 t283 t299 true (t303 != t307)) else (laws_FnTwoSquaresCounted.j2 kj71 t282 t283 t299 true false)) = some r := by rw [if_pos rfl] at H; exact H
                        clear H
                        have H := H1
                        clear H1
                        by_cases c126 : t308 = true
                        ·
                         subst c126
                         have H1 : (laws_FnTwoSquaresCounted.j2 kj71 t282 t283 t299 true (t303 != t307)) = some r := by rw [if_pos rfl] at H; exact H
                         clear H
                         have H := H1
                         clear H1
                         have H' := Aside0.mk H
                         clear H
                         obtain ⟨Ao127, co127, eo127⟩ := Kd.S_slice HO_6.out
                         subst eo127
                         go_wp2
                         go_meet
                         case rel => exact ⟨_, ((t303 != t307)), (by first | rfl | (simp; done) | (simp [*]; done)), H', ⟨by have := HJ15.out; have := HJ71.out; first | omega | exact Nat.le_refl _⟩, ⟨by (with_reducible repeat (first | apply Kd.S_alloc | apply Kd.S_drewN | apply Kd.S_drew)); exact Kd.S_mono HO_6.out (fun _ hk => trivial)⟩, ⟨by repeat (first | (with_reducible first | exact HB.out | apply below_alloc | apply pw_below_drewN | apply below_drew1) | exact HB.out | exact Below.refl _ _)⟩⟩
                        ·
                         replace c126 := Bool.eq_false_iff.mpr c126
                         subst c126
                         have H1 : (laws_FnTwoSquaresCounted.j2 kj71 t282 t283 t299 true false) = some r := by rw [if_neg (show ¬ (false = true) by decide)] at H; exact H
                         clear H
                         have H := H1
                         clear H1
                         have H' := Aside0.mk H
                         clear H
                         obtain ⟨Ao128, co128, eo128⟩ := Kd.S_slice HO_6.out
                         subst eo128
                         go_wp2
                         go_meet
                         case rel => exact ⟨_, (false), (by first | rfl | (simp; done) | (simp [*]; done)), H', ⟨by have := HJ15.out; have := HJ71.out; first | omega | exact Nat.le_refl _⟩, ⟨by (with_reducible repeat (first | apply Kd.S_alloc | apply Kd.S_drewN | apply Kd.S_drew)); exact Kd.S_mono HO_6.out (fun _ hk => trivial)⟩, ⟨by repeat (first | (with_reducible first | exact HB.out | apply below_alloc | apply pw_below_drewN | apply below_drew1) | exact HB.out | exact Below.refl _ _)⟩⟩
                       ·
                        replace c125 := Bool.eq_false_iff.mpr c125
                        subst c125
                        have H1 : (laws_FnTwoSquaresCounted.j2 kj71 t282 t283 t299 true false) = some r := by rw [if_neg (show ¬ (false = true) by decide)] at H; exact H
                        clear H
                        have H := H1
                        clear H1
                        have H' := Aside0.mk H
                        clear H
                        obtain ⟨Ao129, co129, eo129⟩ := Kd.S_slice HO_6.out
                        subst eo129
                        go_wp2
                        go_meet
                        case rel => exact ⟨_, (false), (by first | rfl | (simp; done) | (simp [*]; done)), H', ⟨by have := HJ15.out; have := HJ71.out; first | omega | exact Nat.le_refl _⟩, ⟨by (with_reducible repeat (first | apply Kd.S_alloc | apply Kd.S_drewN | apply Kd.S_drew)); exact Kd.S_mono HO_6.out (fun _ hk => trivial)⟩, ⟨by repeat (first | (with_reducible first | exact HB.out | apply below_alloc | apply pw_below_drewN | apply below_drew1) | exact HB.out | exact Below.refl _ _)⟩⟩
                     ·
                      rw [if_neg c122] at H
                      have c122b0 : decide (0 < t282) = false := decide_eq_false c122
                      clear c122
                      by_cases c130 : t304 = true
                      ·
                       subst c130
                       have H1 : (if t308 = true then (laws_FnTwoSquaresCounted.j2 kj71 t282 t283 t299 t300 (t303 != t307)) else (laws_FnTwoSquaresCounted.j2 kj71 t282 t283 t299 t300 false)) = some r := by rw [if_pos rfl] at H; exact H
                       clear H
                       have H := H1
                       clear H1
                       by_cases c131 : t308 = true
                       ·
                        subst c131
                        have H1 : (laws_FnTwoSquaresCounted.j2 kj71 t282 t283 t299 t300 (t303 != t307)) = some r := by rw [if_pos rfl] at H; exact H
                        clear H
                        have H := H1
                        clear H1
                        have H' := Aside0.mk H
                        clear H
                        obtain ⟨Ao132, co132, eo132⟩ := Kd.S_slice HO_6.out
                        subst eo132
                        go_wp2
                        go_meet
                        case rel => exact ⟨_, ((t303 != t307)), (by first | rfl | (simp; done) | (simp [*]; done)), H', ⟨by have := HJ15.out; have := HJ71.out; first | omega | exact Nat.le_refl _⟩, ⟨by (with_reducible repeat (first | apply Kd.S_alloc | apply Kd.S_drewN | apply Kd.S_drew)); exact Kd.S_mono HO_6.out (fun _ hk => trivial)⟩, ⟨by repeat (first | (with_reducible first | exact HB.out | apply below_alloc | apply pw_below_drewN | apply below_drew1) | exact HB.out | exact Below.refl _ _)⟩⟩
                       ·
                        replace c131 := Bool.eq_false_iff.mpr c131
                        subst c131
                        have H1 : (laws_FnTwoSquaresCounted.j2 kj71 t282 t283 t299 t300 false) = some r := by rw [if_neg (show ¬ (false = true) by decide)] at H; exact H
                        clear H
                        have H := H1
                        clear H1
                        have H' := Aside0.mk H
                        clear H
                        obtain ⟨Ao133, co133, eo133⟩ := Kd.S_slice HO_6.out
                        subst eo133
                        go_wp2
                        go_meet
                        case rel => exact ⟨_, (false), (by first | rfl | (simp; done) | (simp [*]; done)), H', ⟨by have := HJ15.out; have := HJ71.out; first | omega | exact Nat.le_refl _⟩, ⟨by (with_reducible repeat (first | apply Kd.S_alloc | apply Kd.S_drewN | apply Kd.S_drew)); exact Kd.S_mono HO_6.out (fun _ hk => trivial)⟩, ⟨by repeat (first | (with_reducible first | exact HB.out | apply below_alloc | apply pw_below_drewN | apply below_drew1) | exact HB.out | exact Below.refl _ _)⟩⟩
                      ·
                       replace c130 := Bool.eq_false_iff.mpr c130
                       subst c130
                       have H1 : (laws_FnTwoSquaresCounted.j2 kj71 t282 t283 t299 t300 false) = some r := by rw [if_neg (show ¬ (false = true) by decide)] at H; exact H
                       clear H
                       have H := H1
                       clear H1
                       have H' := Aside0.mk H
                       clear H
                       obtain ⟨Ao134, co134, eo134⟩ := Kd.S_slice HO_6.out
                       subst eo134
                       go_wp2
                       go_meet
                       case rel => exact ⟨_, (false), (by first | rfl | (simp; done) | (simp [*]; done)), H', ⟨by have := HJ15.out; have := HJ71.out; first | omega | exact Nat.le_refl _⟩, ⟨by (with_reducible repeat (first | apply Kd.S_alloc | apply Kd.S_drewN | apply Kd.S_drew)); exact Kd.S_mono HO_6.out (fun _ hk => trivial)⟩, ⟨by repeat (first | (with_reducible first | exact HB.out | apply below_alloc | apply pw_below_drewN | apply below_drew1) | exact HB.out | exact Below.refl _ _)⟩⟩
               case rest =>
                as_aux_lemma =>
                 clear HC93; (try clear c1); (try clear c2); (try clear p2); (try clear c3); (try clear p3); (try clear q3); (try clear hx3); (try clear qi3); (try clear c4); (try clear c5); (try clear c6); (try clear p6); (try clear c7); (try clear c8); (try clear c9); (try clear c10); (try clear c11); (try clear c12); (try clear c13); (try clear c23); (try clear c24); (try clear c25); (try clear c25b0); (try clear c25b1); (try clear c25b2); (try clear c27); (try clear c28); (try clear c28b0); (try clear c28b1); (try clear c28b2); (try clear c32); (try clear c33); (try clear c33b0); (try clear c33b1); (try clear c33b2); (try clear p33); (try clear q33); (try clear hx33); (try clear qi33); (try clear c38); (try clear c38b0); (try clear c38b1); (try clear c39); (try clear c39b0); (try clear c39b1); (try clear c39b2); (try clear c44); (try clear c44b0); (try clear c44b1); (try clear c45); (try clear c45b0); (try clear c45b1); (try clear c45b2); (try clear c48); (try clear c49); (try clear c50); (try clear c51); (try clear c52); (try clear c53); (try clear c54); (try clear c55); (try clear c56); (try clear c57); (try clear c58); (try clear c59); (try clear p64); (try clear c68); (try clear c78); (try clear c78b0); (try clear c78b1); (try clear c78b2); (try clear c80); (try clear c81); (try clear c91); (try clear c92); (try clear c94); (try clear c94b0); (try clear c94b1); (try clear c94b2); (try clear c96); (try clear c97); (try clear c97b0); (try clear c97b1); (try clear c99); (try clear c100); (try clear c100b0); (try clear c101); (try clear c101b0); (try clear c101b1); (try clear c101b2); (try clear c104); (try clear c105); (try clear c112); (try clear c113); (try clear c122); (try clear c122b0); (try clear c123); (try clear c123b0); (try clear c123b1); (try clear c123b2); (try clear c125); (try clear c126); (try clear c130); (try clear c131); (try clear hx331_0); (try clear p2); (try clear p331); (try clear p6); (try clear p64); (try clear q331)
                 obtain ⟨kq, x217_92, rfl, HA, HJ92, HO_6, HB⟩ := hcut
                 cases kq with
                 | zero => exact absurd HA.out (by simp [laws_FnTwoSquaresCounted.j2])
                 | succ kj92 =>
                  have H := HA.out
                  clear HA
                  simp only [laws_FnTwoSquaresCounted.j2] at H
                  by_cases c135 : x217_92 = true
                  ·
                   subst c135
                   have H1 : (some false) = some r := by rw [if_pos rfl] at H; exact H
                   exact absurd (H1.trans (congrArg some hrT)) (by simp)
                  ·
                   as_aux_lemma =>
                    replace c135 := Bool.eq_false_iff.mpr c135
                    subst c135
                    have H1 : (if t300 = true then (laws_FnTwoSquaresCounted.l0 kj92 t282 t283 t299 0 t282) else (laws_FnTwoSquaresCounted.j4 kj92 t282 t283)) = some r := by rw [if_neg (show ¬ (false = true) by decide)] at H; exact H
                    clear H
                    have H := H1
                    clear H1
                    have HC136 := Aside0.mk H
                    clear H
                    go_upto_if 218 with (fail)
                    go_cut [] (fun wc => ∃ (kq : Nat), Aside0 (laws_FnTwoSquaresCounted.j4 kq t282 t283 = some r) ∧ Aside0 (kq ≤ kj92) ∧ Aside0 (Kd.S (Kd.slice 3 (Kd.int .i64)) 35 wc w.heap.size (fun _ => True) v285 t283) ∧ Aside0 (Below w.heap.size w wc))
                    case first =>
                     as_aux_lemma =>
                      have H := HC136.out
                      clear HC136
                      by_cases c137 : t300 = true
                      ·
                       as_aux_lemma =>
                        subst c137
                        have H1 : (laws_FnTwoSquaresCounted.l0 kj92 t282 t283 t299 0 t282) = some r := by rw [if_pos rfl] at H; exact H
                        clear H
                        have H := H1
                        clear H1
                        have H' := Aside0.mk H
                        clear H
                        go_wp2
                        go_loopg [32, 33] kj92 (fun kq v32 v33 w' => ∃ (x32_4 : Int) (x33_4 : Int), v32 = .int .i64 x32_4 ∧ v33 = .int .i64 x33_4 ∧ Aside0 (laws_FnTwoSquaresCounted.l0 kq t282 t283 t299 x32_4 x33_4 = some r) ∧ Aside0 (kq ≤ kj92) ∧ Aside0 (Kd.S (Kd.slice 3 (Kd.int .i64)) 35 w' w.heap.size (fun _ => True) v285 t283) ∧ Aside0 (Below w.heap.size w w'))
                        case atStart => exact ⟨(0), (t282), (by first | rfl | (simp; done) | (simp [*]; done)), (by first | rfl | (simp; done) | (simp [*]; done)), H', ⟨Nat.le_refl _⟩, ⟨by (with_reducible repeat (first | apply Kd.S_alloc | apply Kd.S_drewN | apply Kd.S_drew)); exact HO_6.out⟩, ⟨by repeat (first | (with_reducible first | exact HB.out | apply below_alloc | apply pw_below_drewN | apply below_drew1) | exact HB.out | exact Below.refl _ _)⟩⟩
                        case round =>
                         as_aux_lemma =>
                          clear H'; (try clear c1); (try clear c2); (try clear p2); (try clear c3); (try clear p3); (try clear q3); (try clear hx3); (try clear qi3); (try clear c4); (try clear c5); (try clear c6); (try clear p6); (try clear c7); (try clear c8); (try clear c9); (try clear c10); (try clear c11); (try clear c12); (try clear c13); (try clear c23); (try clear c24); (try clear c25); (try clear c25b0); (try clear c25b1); (try clear c25b2); (try clear c27); (try clear c28); (try clear c28b0); (try clear c28b1); (try clear c28b2); (try clear c32); (try clear c33); (try clear c33b0); (try clear c33b1); (try clear c33b2); (try clear p33); (try clear q33); (try clear hx33); (try clear qi33); (try clear c38); (try clear c38b0); (try clear c38b1); (try clear c39); (try clear c39b0); (try clear c39b1); (try clear c39b2); (try clear c44); (try clear c44b0); (try clear c44b1); (try clear c45); (try clear c45b0); (try clear c45b1); (try clear c45b2); (try clear c48); (try clear c49); (try clear c50); (try clear c51); (try clear c52); (try clear c53); (try clear c54); (try clear c55); (try clear c56); (try clear c57); (try clear c58); (try clear c59); (try clear p64); (try clear c68); (try clear c78); (try clear c78b0); (try clear c78b1); (try clear c78b2); (try clear c80); (try clear c81); (try clear c91); (try clear c92); (try clear c94); (try clear c94b0); (try clear c94b1); (try clear c94b2); (try clear c96); (try clear c97); (try clear c97b0); (try clear c97b1); (try clear c99); (try clear c100); (try clear c100b0); (try clear c101); (try clear c101b0); (try clear c101b1); (try clear c101b2); (try clear c104); (try clear c105); (try clear c112); (try clear c113); (try clear c122); (try clear c122b0); (try clear c123); (try clear c123b0); (try clear c123b1); (try clear c123b2); (try clear c125); (try clear c126); (try clear c130); (try clear c131); (try clear c135); (try clear c137); (try clear hx331_0); (try clear p2); (try clear p3); (try clear p33); (try clear p331); (try clear p6); (try clear p64); (try clear q3); (try clear q33); (try clear q331)
                          obtain ⟨x32_4, x33_4, rfl, rfl, HA, HK4, HO_6, HB⟩ := hrel
                          cases gk with
                          | zero => exact absurd HA.out (by simp [laws_FnTwoSquaresCounted.l0])
                          | succ k4 =>
                           have H := HA.out
                           clear HA
                           simp only [laws_FnTwoSquaresCounted.l0] at H
                           by_cases c138 : t299 = 0
                           ·
                            rw [if_pos c138] at H
                            exact absurd H (by simp)
                           ·
                            rw [if_neg c138] at H
                            have c138b0 : (t299 == 0) = false := beq_eq_false_iff_ne.mpr c138
                            have c138b1 : (t299 != 0) = true := bne_iff_ne.mpr c138
                            (first | rw [c138b0] | (simp only [i64_w, i32_w]; rw [c138b0]) | skip)
                            by_cases c139 : (Int.tmod x33_4 t299) = 0
                            ·
                             rw [if_pos c139] at H
                             have c139b0 : ((Int.tmod x33_4 t299) == 0) = true := beq_iff_eq.mpr c139
                             have c139b1 : ((Int.tmod x33_4 t299) != 0) = false := bne_eq_false_iff_eq.mpr c139
                             clear c139
                             have H' := Aside0.mk H
                             clear H
                             go_wp2
                             go_roundg k4
                             case measure => have := HJ15.out; have := HJ71.out; have := HJ92.out; have := HK4.out; omega
                             case rel => exact ⟨(wrap64 (x32_4 + 1)), (wrap64 (Int.tdiv x33_4 t299)), (by first | rfl | (simp; done) | (simp [*]; done)), (by first | rfl | (simp; done) | (simp [*]; done)), H', ⟨by have := HJ15.out; have := HJ71.out; have := HJ92.out; have := HK4.out; omega⟩, ⟨by (with_reducible repeat (first | apply Kd.S_alloc | apply Kd.S_drewN | apply Kd.S_drew)); exact HO_6.out⟩, ⟨by repeat (first | (with_reducible first | exact HB.out | apply below_alloc | apply pw_below_drewN | apply below_drew1) | exact HB.out | exact Below.refl _ _)⟩⟩
                            ·
                             rw [if_neg c139] at H
                             have c139b0 : ((Int.tmod x33_4 t299) == 0) = false := beq_eq_false_iff_ne.mpr c139
                             have c139b1 : ((Int.tmod x33_4 t299) != 0) = true := bne_iff_ne.mpr c139
                             by_cases c140 : (Int.tmod t299 4) = 3
                             ·
                              rw [if_pos c140] at H
                              have c140b0 : ((Int.tmod t299 4) == 3) = true := beq_iff_eq.mpr c140
                              have c140b1 : ((Int.tmod t299 4) != 3) = false := bne_eq_false_iff_eq.mpr c140
                              clear c140
                              by_cases c141 : (Int.tmod x32_4 2) = 0
                              ·
                               rw [if_pos c141] at H
                               exact absurd (H.trans (congrArg some hrT)) (by simp)
                              ·
                               rw [if_neg c141] at H
                               have c141b0 : ((Int.tmod x32_4 2) == 0) = false := beq_eq_false_iff_ne.mpr c141
                               have c141b1 : ((Int.tmod x32_4 2) != 0) = true := bne_iff_ne.mpr c141
                               have H' := Aside0.mk H
                               clear H
                               go_wp2
                               go_meet
                               case rel => exact ⟨_, H', ⟨by have := HJ15.out; have := HJ71.out; have := HJ92.out; have := HK4.out; first | omega | exact Nat.le_refl _⟩, ⟨by (with_reducible repeat (first | apply Kd.S_alloc | apply Kd.S_drewN | apply Kd.S_drew)); exact HO_6.out⟩, ⟨by repeat (first | (with_reducible first | exact HB.out | apply below_alloc | apply pw_below_drewN | apply below_drew1) | exact HB.out | exact Below.refl _ _)⟩⟩
                             ·
                              rw [if_neg c140] at H
                              exact absurd (H.trans (congrArg some hrT)) (by simp)
                      ·
                       replace c137 := Bool.eq_false_iff.mpr c137
                       subst c137
                       have H1 : (laws_FnTwoSquaresCounted.j4 kj92 t282 t283) = some r := by rw [if_neg (show ¬ (false = true) by decide)] at H; exact H
                       clear H
                       have H := H1
                       clear H1
                       have H' := Aside0.mk H
                       clear H
                       go_wp2
                       go_meet
                       case rel => exact ⟨_, H', ⟨by have := HJ15.out; have := HJ71.out; have := HJ92.out; first | omega | exact Nat.le_refl _⟩, ⟨by (with_reducible repeat (first | apply Kd.S_alloc | apply Kd.S_drewN | apply Kd.S_drew)); exact HO_6.out⟩, ⟨by repeat (first | (with_reducible first | exact HB.out | apply below_alloc | apply pw_below_drewN | apply below_drew1) | exact HB.out | exact Below.refl _ _)⟩⟩
                    case rest =>
                     as_aux_lemma =>
                      clear HC136; (try clear c1); (try clear c2); (try clear p2); (try clear c3); (try clear p3); (try clear q3); (try clear hx3); (try clear qi3); (try clear c4); (try clear c5); (try clear c6); (try clear p6); (try clear c7); (try clear c8); (try clear c9); (try clear c10); (try clear c11); (try clear c12); (try clear c13); (try clear c14); (try clear c23); (try clear c24); (try clear c25); (try clear c25b0); (try clear c25b1); (try clear c25b2); (try clear c27); (try clear c28); (try clear c28b0); (try clear c28b1); (try clear c28b2); (try clear c32); (try clear c33); (try clear c33b0); (try clear c33b1); (try clear c33b2); (try clear p33); (try clear q33); (try clear hx33); (try clear qi33); (try clear c38); (try clear c38b0); (try clear c38b1); (try clear c39); (try clear c39b0); (try clear c39b1); (try clear c39b2); (try clear c44); (try clear c44b0); (try clear c44b1); (try clear c45); (try clear c45b0); (try clear c45b1); (try clear c45b2); (try clear c48); (try clear c49); (try clear c50); (try clear c51); (try clear c52); (try clear c53); (try clear c54); (try clear c55); (try clear c56); (try clear c57); (try clear c58); (try clear c59); (try clear p64); (try clear c68); (try clear c78); (try clear c78b0); (try clear c78b1); (try clear c78b2); (try clear c80); (try clear c81); (try clear c91); (try clear c92); (try clear c94); (try clear c94b0); (try clear c94b1); (try clear c94b2); (try clear c96); (try clear c97); (try clear c97b0); (try clear c97b1); (try clear c99); (try clear c100); (try clear c100b0); (try clear c101); (try clear c101b0); (try clear c101b1); (try clear c101b2); (try clear c104); (try clear c105); (try clear c112); (try clear c113); (try clear c122); (try clear c122b0); (try clear c123); (try clear c123b0); (try clear c123b1); (try clear c123b2); (try clear c125); (try clear c126); (try clear c130); (try clear c131); (try clear c135); (try clear c137); (try clear c138); (try clear c138b0); (try clear c138b1); (try clear c139); (try clear c139b0); (try clear c139b1); (try clear c140); (try clear c140b0); (try clear c140b1); (try clear c141); (try clear c141b0); (try clear c141b1); (try clear hx331_0); (try clear p2); (try clear p3); (try clear p33); (try clear p331); (try clear p6); (try clear p64); (try clear q3); (try clear q33); (try clear q331)
                      obtain ⟨kq, HA, HJ135, HO_6, HB⟩ := hcut
                      cases kq with
                      | zero => exact absurd HA.out (by simp [laws_FnTwoSquaresCounted.j4])
                      | succ kj135 =>
                       have H := HA.out
                       clear HA
                       simp only [laws_FnTwoSquaresCounted.j4] at H
                       have H' := Aside0.mk H
                       clear H
                       obtain ⟨Ao142, co142, eo142⟩ := Kd.S_slice HO_6.out
                       subst eo142
                       go_wp2
                       go_loopg [239] kj135 (fun kq v239 w' => ∃ (x239_5 : Int), v239 = .int .i64 x239_5 ∧ Aside0 (laws_FnTwoSquaresCounted.l1 kq t282 t283 t283 (t283.length : Int) x239_5 = some r) ∧ Aside0 (kq ≤ kj135) ∧ Aside0 (Kd.S (Kd.slice 3 (Kd.int .i64)) 35 w' w.heap.size (fun _ => True) (.slice Ao142 t283.length co142) t283) ∧ Aside0 (Kd.S (Kd.slice 3 (Kd.int .i64)) 35 w' w.heap.size (fun _ => True) (.slice Ao142 t283.length co142) t283) ∧ Aside0 (Below w.heap.size w w'))
                       case atStart => exact ⟨(0), (by first | rfl | (simp; done) | (simp [*]; done)), H', ⟨Nat.le_refl _⟩, ⟨by (with_reducible repeat (first | apply Kd.S_alloc | apply Kd.S_drewN | apply Kd.S_drew)); exact HO_6.out⟩, ⟨by (with_reducible repeat (first | apply Kd.S_alloc | apply Kd.S_drewN | apply Kd.S_drew)); exact HO_6.out⟩, ⟨by repeat (first | (with_reducible first | exact HB.out | apply below_alloc | apply pw_below_drewN | apply below_drew1) | exact HB.out | exact Below.refl _ _)⟩⟩
                       case round =>
                        as_aux_lemma =>
                         clear H'; (try clear c1); (try clear c2); (try clear p2); (try clear c3); (try clear p3); (try clear q3); (try clear hx3); (try clear qi3); (try clear c4); (try clear c5); (try clear c6); (try clear p6); (try clear c7); (try clear c8); (try clear c9); (try clear c10); (try clear c11); (try clear c12); (try clear c13); (try clear c14); (try clear c23); (try clear c24); (try clear c25); (try clear c25b0); (try clear c25b1); (try clear c25b2); (try clear c27); (try clear c28); (try clear c28b0); (try clear c28b1); (try clear c28b2); (try clear c32); (try clear c33); (try clear c33b0); (try clear c33b1); (try clear c33b2); (try clear p33); (try clear q33); (try clear hx33); (try clear qi33); (try clear c38); (try clear c38b0); (try clear c38b1); (try clear c39); (try clear c39b0); (try clear c39b1); (try clear c39b2); (try clear c44); (try clear c44b0); (try clear c44b1); (try clear c45); (try clear c45b0); (try clear c45b1); (try clear c45b2); (try clear c48); (try clear c49); (try clear c50); (try clear c51); (try clear c52); (try clear c53); (try clear c54); (try clear c55); (try clear c56); (try clear c57); (try clear c58); (try clear c59); (try clear p64); (try clear c68); (try clear c78); (try clear c78b0); (try clear c78b1); (try clear c78b2); (try clear c80); (try clear c81); (try clear c91); (try clear c92); (try clear c94); (try clear c94b0); (try clear c94b1); (try clear c94b2); (try clear c96); (try clear c97); (try clear c97b0); (try clear c97b1); (try clear c99); (try clear c100); (try clear c100b0); (try clear c101); (try clear c101b0); (try clear c101b1); (try clear c101b2); (try clear c104); (try clear c105); (try clear c112); (try clear c113); (try clear c122); (try clear c122b0); (try clear c123); (try clear c123b0); (try clear c123b1); (try clear c123b2); (try clear c125); (try clear c126); (try clear c130); (try clear c131); (try clear c135); (try clear c137); (try clear c138); (try clear c138b0); (try clear c138b1); (try clear c139); (try clear c139b0); (try clear c139b1); (try clear c140); (try clear c140b0); (try clear c140b1); (try clear c141); (try clear c141b0); (try clear c141b1); (try clear hx331_0); (try clear p2); (try clear p3); (try clear p33); (try clear p331); (try clear p6); (try clear p64); (try clear q3); (try clear q33); (try clear q331)
                         obtain ⟨x239_5, rfl, HA, HK5, HO_6, HO_237, HB⟩ := hrel
                         cases gk with
                         | zero => exact absurd HA.out (by simp [laws_FnTwoSquaresCounted.l1])
                         | succ k5 =>
                          have H := HA.out
                          clear HA
                          simp only [laws_FnTwoSquaresCounted.l1] at H
                          by_cases c143 : x239_5 < (t283.length : Int)
                          ·
                           as_aux_lemma =>
                            rw [if_pos c143] at H
                            have c143b0 : decide (x239_5 < (t283.length : Int)) = true := decide_eq_true c143
                            clear c143
                            by_cases c144 : 0 ≤ x239_5
                            ·
                             as_aux_lemma =>
                              rw [if_pos c144] at H
                              have c144b0 : decide (0 ≤ x239_5) = true := decide_eq_true c144
                              clear c144
                              by_cases c145 : x239_5 < (t283.length : Int)
                              ·
                               as_aux_lemma =>
                                rw [if_pos c145] at H
                                have c145b0 : decide (x239_5 < (t283.length : Int)) = true := decide_eq_true c145
                                clear c145
                                by_cases c146 : ((rd_L2 t283 x239_5).length : Int) = 2
                                ·
                                 as_aux_lemma =>
                                  rw [if_pos c146] at H
                                  have c146b0 : (((rd_L2 t283 x239_5).length : Int) == 2) = true := beq_iff_eq.mpr c146
                                  have c146b1 : (((rd_L2 t283 x239_5).length : Int) != 2) = false := bne_eq_false_iff_eq.mpr c146
                                  clear c146
                                  by_cases c147 : 0 < ((rd_L2 t283 x239_5).length : Int)
                                  ·
                                   as_aux_lemma =>
                                    rw [if_pos c147] at H
                                    have c147b0 : decide (0 < ((rd_L2 t283 x239_5).length : Int)) = true := decide_eq_true c147
                                    have c147b1 : decide (0 < (rd_L2 t283 x239_5).length) = true := decide_eq_true (by omega)
                                    clear c147
                                    by_cases c148 : 1 < ((rd_L2 t283 x239_5).length : Int)
                                    ·
                                     as_aux_lemma =>
                                      rw [if_pos c148] at H
                                      have c148b0 : decide (1 < ((rd_L2 t283 x239_5).length : Int)) = true := decide_eq_true c148
                                      have c148b1 : decide (1 < (rd_L2 t283 x239_5).length) = true := decide_eq_true (by omega)
                                      clear c148
                                      by_cases c149 : (rd (rd_L2 t283 x239_5) 0) < (rd (rd_L2 t283 x239_5) 1)
                                      ·
                                       rw [if_pos c149] at H
                                       exact absurd (H.trans (congrArg some hrT)) (by simp)
                                      ·
                                       as_aux_lemma =>
                                        rw [if_neg c149] at H
                                        have c149b0 : decide ((rd (rd_L2 t283 x239_5) 0) < (rd (rd_L2 t283 x239_5) 1)) = false := decide_eq_false c149
                                        clear c149
                                        by_cases c151 : (rd (rd_L2 t283 x239_5) 1) < 0
                                        ·
                                         rw [if_pos c151] at H
                                         exact absurd (H.trans (congrArg some hrT)) (by simp)
                                        ·
                                         as_aux_lemma =>
                                          rw [if_neg c151] at H
                                          have c151b0 : decide ((rd (rd_L2 t283 x239_5) 1) < 0) = false := decide_eq_false c151
                                          clear c151
                                          replace H := Option.bind_eq_some_iff.mp H
                                          obtain ⟨t337, A1530, H⟩ := H
                                          replace H : (if t337 = t282 then (if x239_5 > 0 then (if 0 ≤ (wrap64 (x239_5 - 1)) then (if (wrap64 (x239_5 - 1)) < (t283.length : Int) then ((laws_vBefore.f k5 (rd_L2 t283 x239_5) (rd_L2 t283 (wrap64 (x239_5 - 1)))).bind fun t339 => (if t339 = true then (laws_FnTwoSquaresCounted.l1 k5 t282 t283 t283 (t283.length : Int) (wrap64 (x239_5 + 1))) else (some false))) else (none)) else (none)) else (laws_FnTwoSquaresCounted.l1 k5 t282 t283 t283 (t283.length : Int) (wrap64 (x239_5 + 1)))) else (some false)) = some r := H
                                          have A153 := Aside0.mk A1530
                                          clear A1530
                                          by_cases c154 : t337 = t282
                                          ·
                                           as_aux_lemma =>
                                            rw [if_pos c154] at H
                                            have c154b0 : (t337 == t282) = true := beq_iff_eq.mpr c154
                                            have c154b1 : (t337 != t282) = false := bne_eq_false_iff_eq.mpr c154
                                            clear c154
                                            by_cases c155 : x239_5 > 0
                                            ·
                                             as_aux_lemma =>
                                              rw [if_pos c155] at H
                                              have c155b0 : decide (0 < x239_5) = true := decide_eq_true c155
                                              clear c155
                                              obtain ⟨ji156, hji156⟩ : ∃ j_ : Int, (wrap64 (x239_5 - 1)) = j_ := ⟨_, rfl⟩
                                              replace H : (if 0 ≤ (ji156) then (if (ji156) < (t283.length : Int) then ((laws_vBefore.f k5 (rd_L2 t283 x239_5) (rd_L2 t283 (ji156))).bind fun t339 => (if t339 = true then (laws_FnTwoSquaresCounted.l1 k5 t282 t283 t283 (t283.length : Int) (wrap64 (x239_5 + 1))) else (some false))) else (none)) else (none)) = some r := by first | (rw [hji156] at H; exact H) | (simp only [hji156] at H ⊢; exact H)
                                              (try rw [hji156] at A153)
                                              have hji156w : (IntKind.i64.wrap (x239_5 - 1)) = ji156 := (i64_w _).trans hji156
                                              by_cases c157 : 0 ≤ (ji156)
                                              ·
                                               as_aux_lemma =>
                                                rw [if_pos c157] at H
                                                have c157b0 : decide (0 ≤ (ji156)) = true := decide_eq_true c157
                                                clear c157
                                                by_cases c158 : (ji156) < (t283.length : Int)
                                                ·
                                                 as_aux_lemma =>
                                                  rw [if_pos c158] at H
                                                  have c158b0 : decide ((ji156) < (t283.length : Int)) = true := decide_eq_true c158
                                                  clear c158
                                                  replace H := Option.bind_eq_some_iff.mp H
                                                  obtain ⟨t339, A1590, H⟩ := H
                                                  replace H : (if t339 = true then (laws_FnTwoSquaresCounted.l1 k5 t282 t283 t283 (t283.length : Int) (wrap64 (x239_5 + 1))) else (some false)) = some r := H
                                                  have A159 := Aside0.mk A1590
                                                  clear A1590
                                                  by_cases c160 : t339 = true
                                                  ·
                                                   as_aux_lemma =>
                                                    subst c160
                                                    have H1 : (laws_FnTwoSquaresCounted.l1 k5 t282 t283 t283 (t283.length : Int) (wrap64 (x239_5 + 1))) = some r := by rw [if_pos rfl] at H; exact H
                                                    clear H
                                                    have H := H1
                                                    clear H1
                                                    have H' := Aside0.mk H
                                                    clear H
                                                    have p333 : 0 ≤ (x239_5 : Int) := of_decide_eq_true (by first | (with_reducible assumption) | assumption)
                                                    have q333 : x239_5 < (t283.length : Int) := of_decide_eq_true (by first | (with_reducible assumption) | assumption)
                                                    obtain ⟨ad333, A333_0, c333_0, e333, hx333_0, hl333_0, hi333_0⟩ := at_L2 (Kd.S_reads' HO_237.out).2.2 x239_5 p333 q333
                                                    cases e333
                                                    obtain ⟨ce333, hce333, hMe333, hcc333⟩ := Kd.S_get HO_237.out [] x239_5 p333 (by first | exact q333 | exact of_decide_eq_true (by first | (with_reducible assumption) | assumption) | (have e_ := (Kd.S_reads' HO_237.out).1; omega))
                                                    obtain ⟨ve333_0, rfl, ge333_0⟩ := hMe333
                                                    have hv333_0 := hcc333 0 _ rfl
                                                    rw [Nat.add_zero, show ((Kd.slice 3 (Kd.int .i64))).sz = 1 from rfl, Nat.mul_one] at hv333_0
                                                    replace hv333_0 := Option.some.inj (hv333_0.symm.trans hx333_0)
                                                    rw [hv333_0] at ge333_0
                                                    have HL333_0 := Aside0.mk (show Kd.R (Kd.int .i64) 3 _ _ _ _ (rd_L2 t283 x239_5) from ge333_0)
                                                    clear hv333_0 ge333_0
                                                    clear hcc333 hce333
                                                    have HR333_0 := Aside0.mk hi333_0
                                                    have HC333_0 := Aside0.mk hl333_0
                                                    clear hi333_0 hl333_0
                                                    replace p333 := eq_true p333
                                                    replace q333 := eq_true q333
                                                    try go_wp2
                                                    have n0_ := Aside0.mk (Kd.S_drew HO_6.out)
                                                    have n1_ := Aside0.mk (Kd.S_drew HO_237.out)
                                                    have n2_ := Aside0.mk (Kd.R_drew HL333_0.out)
                                                    have n3_ := Aside0.mk (Kd.C_drew HR333_0.out)
                                                    have n4_ := Aside0.mk (below_drew1 HB.out)
                                                    clear HO_6; clear HO_237; clear HL333_0; clear HR333_0; clear HB
                                                    have HO_6 := n0_
                                                    have HO_237 := n1_
                                                    have HL333_0 := n2_
                                                    have HR333_0 := n3_
                                                    have HB := n4_
                                                    clear n0_ n1_ n2_ n3_ n4_
                                                    have p334 : 0 ≤ (0 : Int) := (by omega)
                                                    have q334 : 0 < ((rd_L2 t283 x239_5).length : Int) := of_decide_eq_true (by first | (with_reducible assumption) | assumption)
                                                    obtain ⟨ad334, e334, hx334_0⟩ := Kd.at_int (by repeat (first | (with_reducible exact HR333_0.out) | (with_reducible refine Kd.C_alloc ?_ _) | (with_reducible refine Kd.C_drewN ?_ _) | (with_reducible refine Kd.C_drew ?_) | exact HR333_0.out)) 0 p334 q334
                                                    cases e334
                                                    have qi334 : (0 < (rd_L2 t283 x239_5).length) = True := eq_true (by omega)
                                                    (try rw [show ((0 : Int)).toNat = 0 from rfl] at hx334_0)
                                                    (try rw [Addr.add_zero'] at hx334_0)
                                                    replace p334 := eq_true p334
                                                    replace q334 := eq_true q334
                                                    have p335 : 0 ≤ (1 : Int) := (by omega)
                                                    have q335 : 1 < ((rd_L2 t283 x239_5).length : Int) := of_decide_eq_true (by first | (with_reducible assumption) | assumption)
                                                    obtain ⟨ad335, e335, hx335_0⟩ := Kd.at_int (by repeat (first | (with_reducible exact HR333_0.out) | (with_reducible refine Kd.C_alloc ?_ _) | (with_reducible refine Kd.C_drewN ?_ _) | (with_reducible refine Kd.C_drew ?_) | exact HR333_0.out)) 1 p335 q335
                                                    obtain rfl : ad334 = ad335 := (by injection e335)
                                                    (try simp only [show (1 : Int).toNat = 1 from rfl, Nat.reduceMul, Nat.reduceEqDiff, Go.Addr.add, ↓reduceIte] at hx335_0)
                                                    have qi335 : (1 < (rd_L2 t283 x239_5).length) = True := eq_true (by omega)
                                                    (try rw [show ((1 : Int)).toNat = 1 from rfl] at hx335_0)
                                                    replace p335 := eq_true p335
                                                    replace q335 := eq_true q335
                                                    have p336 : 0 ≤ (1 : Int) := (by omega)
                                                    have q336 : 1 < ((rd_L2 t283 x239_5).length : Int) := of_decide_eq_true (by first | (with_reducible assumption) | assumption)
                                                    obtain ⟨ad336, e336, hx336_0⟩ := Kd.at_int (by repeat (first | (with_reducible exact HR333_0.out) | (with_reducible refine Kd.C_alloc ?_ _) | (with_reducible refine Kd.C_drewN ?_ _) | (with_reducible refine Kd.C_drew ?_) | exact HR333_0.out)) 1 p336 q336
                                                    obtain rfl : ad334 = ad336 := (by injection e336)
                                                    (try simp only [show (1 : Int).toNat = 1 from rfl, Nat.reduceMul, Nat.reduceEqDiff, Go.Addr.add, ↓reduceIte] at hx336_0)
                                                    have qi336 : (1 < (rd_L2 t283 x239_5).length) = True := eq_true (by omega)
                                                    (try rw [show ((1 : Int)).toNat = 1 from rfl] at hx336_0)
                                                    replace p336 := eq_true p336
                                                    replace q336 := eq_true q336
                                                    have p338 : 0 ≤ ((ji156) : Int) := of_decide_eq_true (by first | (with_reducible assumption) | assumption)
                                                    have q338 : (ji156) < (t283.length : Int) := of_decide_eq_true (by first | (with_reducible assumption) | assumption)
                                                    obtain ⟨ad338, A338_0, c338_0, e338, hx338_0, hl338_0, hi338_0⟩ := at_L2 (Kd.S_reads' HO_6.out).2.2 (ji156) p338 q338
                                                    obtain rfl : ad333 = ad338 := (by injection e338)
                                                    obtain ⟨ce338, hce338, hMe338, hcc338⟩ := Kd.S_get HO_6.out [] (ji156) p338 (by first | exact q338 | exact of_decide_eq_true (by first | (with_reducible assumption) | assumption) | (have e_ := (Kd.S_reads' HO_6.out).1; omega))
                                                    obtain ⟨ve338_0, rfl, ge338_0⟩ := hMe338
                                                    have hv338_0 := hcc338 0 _ rfl
                                                    rw [Nat.add_zero, show ((Kd.slice 3 (Kd.int .i64))).sz = 1 from rfl, Nat.mul_one] at hv338_0
                                                    replace hv338_0 := Option.some.inj (hv338_0.symm.trans hx338_0)
                                                    rw [hv338_0] at ge338_0
                                                    have HL338_0 := Aside0.mk (show Kd.R (Kd.int .i64) 3 _ _ _ _ (rd_L2 t283 (ji156)) from ge338_0)
                                                    clear hv338_0 ge338_0
                                                    clear hcc338 hce338
                                                    have HR338_0 := Aside0.mk hi338_0
                                                    have HC338_0 := Aside0.mk hl338_0
                                                    clear hi338_0 hl338_0
                                                    replace p338 := eq_true p338
                                                    replace q338 := eq_true q338
                                                    refine start_ (n := 38) (S := fun w' => w'.cell? ad334 = some (.int .i64 (rd (rd_L2 t283 x239_5) 0)) ∧ w'.cell? ⟨ad334.block, ad334.off + 1, none⟩ = some (.int .i64 (rd (rd_L2 t283 x239_5) 1)) ∧ w'.cell? ⟨ad334.block, ad334.off + 1, none⟩ = some (.int .i64 (rd (rd_L2 t283 x239_5) 1)) ∧ w'.cell? (ad333.add ((ji156)).toNat) = some (.slice A338_0 (rd_L2 t283 (ji156)).length c338_0)) (ds := []) #[O,O,O,O,O,O,O,O,O,O,O,O,O,O,O,O,O,O,O,O,O,O,O,O,O,O,O,O,O,O,O,O,O,O,O,O,O,O] (by kernel_rfl) rfl rfl ⟨hx334_0, hx335_0, hx336_0, hx338_0⟩ (fun hHeld => ?_); refine with_tabW laws_FnTwoSquaresCounted.tab36 laws_FnTwoSquaresCounted.bits36 (fun HT_ HW_ => ?_)
                                                    generalize wr.drew = w161 at HO_6 HO_237 HL333_0 HR333_0 HB HL338_0 HR338_0 hx334_0 hx335_0 hx336_0 hx338_0 hHeld ⊢
                                                    refine pure_ (i := 0) (N := some 244) (v := ?_) (a' := ?_) #[Y,O,O,O,O,O,O,O,O,O,O,O,O,O,O,O,O,O,O,O,O,O,O,O,O,O,O,O,O,O,O,O,O,O,O,O,O,O] rfl rfl (any_of HT_.out (by kernel_rfl)) (fun _ _ _ h => h) (Or.inl ⟨by rfl, ?_⟩) ?_ ?_
                                                    rotate_left
                                                    ·
                                                     intro w'
                                                     go_simp
                                                     with_reducible rfl
                                                    rotate_left
                                                    ·
                                                     simp only [Act.put, List.setIfInBounds_toArray, List.set_cons_zero, List.set_cons_succ, i64_w, i32_w]
                                                     rfl
                                                    refine pure_ (i := 1) (N := some 245) (v := ?_) (a' := ?_) #[Y,Y,O,O,O,O,O,O,O,O,O,O,O,O,O,O,O,O,O,O,O,O,O,O,O,O,O,O,O,O,O,O,O,O,O,O,O,O] rfl rfl (any_of HT_.out (by kernel_rfl)) (fun _ _ _ h => h) (Or.inl ⟨by rfl, ?_⟩) ?_ ?_
                                                    rotate_left
                                                    ·
                                                     intro w'
                                                     go_simp
                                                     with_reducible rfl
                                                    rotate_left
                                                    ·
                                                     simp only [Act.put, List.setIfInBounds_toArray, List.set_cons_zero, List.set_cons_succ, i64_w, i32_w]
                                                     rfl
                                                    refine pure_ (i := 2) (N := some 246) (v := ?_) (a' := ?_) #[Y,Y,Y,O,O,O,O,O,O,O,O,O,O,O,O,O,O,O,O,O,O,O,O,O,O,O,O,O,O,O,O,O,O,O,O,O,O,O] rfl rfl (any_of HT_.out (by kernel_rfl)) (fun _ _ _ h => h) (Or.inl ⟨by rfl, ?_⟩) ?_ ?_
                                                    rotate_left
                                                    ·
                                                     intro w'
                                                     go_simp
                                                     with_reducible rfl
                                                    rotate_left
                                                    ·
                                                     simp only [Act.put, List.setIfInBounds_toArray, List.set_cons_zero, List.set_cons_succ, i64_w, i32_w]
                                                     rfl
                                                    refine pure_ (i := 3) (N := some 247) (v := ?_) (a' := ?_) #[Y,Y,Y,Y,O,O,O,O,O,O,O,O,O,O,O,O,O,O,O,O,O,O,O,O,O,O,O,O,O,O,O,O,O,O,O,O,O,O] rfl rfl (any_of HT_.out (by kernel_rfl)) (fun _ _ _ h => h) (Or.inl ⟨by rfl, ?_⟩) ?_ ?_
                                                    rotate_left
                                                    ·
                                                     intro w'
                                                     go_simp
                                                     with_reducible rfl
                                                    rotate_left
                                                    ·
                                                     simp only [Act.put, List.setIfInBounds_toArray, List.set_cons_zero, List.set_cons_succ, i64_w, i32_w]
                                                     rfl
                                                    refine pure_ (i := 4) (N := some 248) (v := ?_) (a' := ?_) #[Y,Y,Y,Y,Y,O,O,O,O,O,O,O,O,O,O,O,O,O,O,O,O,O,O,O,O,O,O,O,O,O,O,O,O,O,O,O,O,O] rfl rfl (any_of HT_.out (by kernel_rfl)) (fun _ _ _ h => h) (Or.inl ⟨by rfl, ?_⟩) ?_ ?_
                                                    rotate_left
                                                    ·
                                                     intro w'
                                                     go_simp
                                                     with_reducible rfl
                                                    rotate_left
                                                    ·
                                                     simp only [Act.put, List.setIfInBounds_toArray, List.set_cons_zero, List.set_cons_succ, i64_w, i32_w]
                                                     rfl
                                                    refine pure_ (i := 5) (N := some 249) (v := ?_) (a' := ?_) #[Y,Y,Y,Y,Y,Y,O,O,O,O,O,O,O,O,O,O,O,O,O,O,O,O,O,O,O,O,O,O,O,O,O,O,O,O,O,O,O,O] rfl rfl (any_of HT_.out (by kernel_rfl)) (fun _ _ _ h => h) (Or.inl ⟨by rfl, ?_⟩) ?_ ?_
                                                    rotate_left
                                                    ·
                                                     intro w'
                                                     go_simp
                                                     with_reducible rfl
                                                    rotate_left
                                                    ·
                                                     simp only [Act.put, List.setIfInBounds_toArray, List.set_cons_zero, List.set_cons_succ, i64_w, i32_w]
                                                     rfl
                                                    refine pure_ (i := 7) (N := some 251) (v := ?_) (a' := ?_) #[Y,Y,Y,Y,Y,Y,O,Y,O,O,O,O,O,O,O,O,O,O,O,O,O,O,O,O,O,O,O,O,O,O,O,O,O,O,O,O,O,O] rfl rfl (any_of HT_.out (by kernel_rfl)) (fun _ _ _ h => h) (Or.inl ⟨by rfl, ?_⟩) ?_ ?_
                                                    rotate_left
                                                    ·
                                                     intro w'
                                                     go_simp
                                                     with_reducible rfl
                                                    rotate_left
                                                    ·
                                                     simp only [Act.put, List.setIfInBounds_toArray, List.set_cons_zero, List.set_cons_succ, i64_w, i32_w]
                                                     rfl
                                                    refine pure_ (i := 8) (N := some 252) (v := ?_) (a' := ?_) #[Y,Y,Y,Y,Y,Y,O,Y,Y,O,O,O,O,O,O,O,O,O,O,O,O,O,O,O,O,O,O,O,O,O,O,O,O,O,O,O,O,O] rfl rfl (any_of HT_.out (by kernel_rfl)) (fun _ _ _ h => h) (Or.inl ⟨by rfl, ?_⟩) ?_ ?_
                                                    rotate_left
                                                    ·
                                                     intro w'
                                                     go_simp
                                                     with_reducible rfl
                                                    rotate_left
                                                    ·
                                                     simp only [Act.put, List.setIfInBounds_toArray, List.set_cons_zero, List.set_cons_succ, i64_w, i32_w]
                                                     rfl
                                                    refine take_ (i := 6) (N := some 250) (v := ?_) (a' := ?_) #[Y,Y,Y,Y,Y,Y,Y,Y,Y,O,O,O,O,O,O,O,O,O,O,O,O,O,O,O,O,O,O,O,O,O,O,O,O,O,O,O,O,O] rfl rfl (take_ofW HT_.out HW_.out (by kernel_rfl)) (fun _ _ _ h => h) (Or.inl ⟨by rfl, ?_⟩) hHeld ?_ ?_
                                                    rotate_left
                                                    ·
                                                     rintro w' ⟨s0, s1, s2, s3⟩
                                                     go_simp
                                                     with_reducible rfl
                                                    rotate_left
                                                    ·
                                                     simp only [Act.put, List.setIfInBounds_toArray, List.set_cons_zero, List.set_cons_succ, i64_w, i32_w]
                                                     rfl
                                                    refine take_ (i := 9) (N := some 253) (v := ?_) (a' := ?_) #[Y,Y,Y,Y,Y,Y,Y,Y,Y,Y,O,O,O,O,O,O,O,O,O,O,O,O,O,O,O,O,O,O,O,O,O,O,O,O,O,O,O,O] rfl rfl (take_ofW HT_.out HW_.out (by kernel_rfl)) (fun _ _ _ h => h) (Or.inl ⟨by rfl, ?_⟩) hHeld ?_ ?_
                                                    rotate_left
                                                    ·
                                                     rintro w' ⟨s0, s1, s2, s3⟩
                                                     go_simp
                                                     with_reducible rfl
                                                    rotate_left
                                                    ·
                                                     simp only [Act.put, List.setIfInBounds_toArray, List.set_cons_zero, List.set_cons_succ, i64_w, i32_w]
                                                     rfl
                                                    refine pure_ (i := 10) (N := some 254) (v := ?_) (a' := ?_) #[Y,Y,Y,Y,Y,Y,Y,Y,Y,Y,Y,O,O,O,O,O,O,O,O,O,O,O,O,O,O,O,O,O,O,O,O,O,O,O,O,O,O,O] rfl rfl (any_of HT_.out (by kernel_rfl)) (fun _ _ _ h => h) (Or.inl ⟨by rfl, ?_⟩) ?_ ?_
                                                    rotate_left
                                                    ·
                                                     intro w'
                                                     go_simp
                                                     with_reducible rfl
                                                    rotate_left
                                                    ·
                                                     simp only [Act.put, List.setIfInBounds_toArray, List.set_cons_zero, List.set_cons_succ, i64_w, i32_w]
                                                     rfl
                                                    refine pure_ (i := 11) (N := some 255) (v := ?_) (a' := ?_) #[Y,Y,Y,Y,Y,Y,Y,Y,Y,Y,Y,Y,O,O,O,O,O,O,O,O,O,O,O,O,O,O,O,O,O,O,O,O,O,O,O,O,O,O] rfl rfl (any_of HT_.out (by kernel_rfl)) (fun _ _ _ h => h) (Or.inl ⟨by rfl, ?_⟩) ?_ ?_
                                                    rotate_left
                                                    ·
                                                     intro w'
                                                     go_simp
                                                     with_reducible rfl
                                                    rotate_left
                                                    ·
                                                     simp only [Act.put, List.setIfInBounds_toArray, List.set_cons_zero, List.set_cons_succ, i64_w, i32_w]
                                                     rfl
                                                    refine pure_ (i := 12) (N := some 256) (v := ?_) (a' := ?_) #[Y,Y,Y,Y,Y,Y,Y,Y,Y,Y,Y,Y,Y,O,O,O,O,O,O,O,O,O,O,O,O,O,O,O,O,O,O,O,O,O,O,O,O,O] rfl rfl (any_of HT_.out (by kernel_rfl)) (fun _ _ _ h => h) (Or.inl ⟨by rfl, ?_⟩) ?_ ?_
                                                    rotate_left
                                                    ·
                                                     intro w'
                                                     go_simp
                                                     with_reducible rfl
                                                    rotate_left
                                                    ·
                                                     simp only [Act.put, List.setIfInBounds_toArray, List.set_cons_zero, List.set_cons_succ, i64_w, i32_w]
                                                     rfl
                                                    refine pure_ (i := 13) (N := some 257) (v := ?_) (a' := ?_) #[Y,Y,Y,Y,Y,Y,Y,Y,Y,Y,Y,Y,Y,Y,O,O,O,O,O,O,O,O,O,O,O,O,O,O,O,O,O,O,O,O,O,O,O,O] rfl rfl (any_of HT_.out (by kernel_rfl)) (fun _ _ _ h => h) (Or.inl ⟨by rfl, ?_⟩) ?_ ?_
                                                    rotate_left
                                                    ·
                                                     intro w'
                                                     go_simp
                                                     with_reducible rfl
                                                    rotate_left
                                                    ·
                                                     simp only [Act.put, List.setIfInBounds_toArray, List.set_cons_zero, List.set_cons_succ, i64_w, i32_w]
                                                     rfl
                                                    refine pure_ (i := 14) (N := some 258) (v := ?_) (a' := ?_) #[Y,Y,Y,Y,Y,Y,Y,Y,Y,Y,Y,Y,Y,Y,Y,O,O,O,O,O,O,O,O,O,O,O,O,O,O,O,O,O,O,O,O,O,O,O] rfl rfl (any_of HT_.out (by kernel_rfl)) (fun _ _ _ h => h) (Or.inl ⟨by rfl, ?_⟩) ?_ ?_
                                                    rotate_left
                                                    ·
                                                     intro w'
                                                     go_simp
                                                     with_reducible rfl
                                                    rotate_left
                                                    ·
                                                     simp only [Act.put, List.setIfInBounds_toArray, List.set_cons_zero, List.set_cons_succ, i64_w, i32_w]
                                                     rfl
                                                    refine take_ (i := 15) (N := some 259) (v := ?_) (a' := ?_) #[Y,Y,Y,Y,Y,Y,Y,Y,Y,Y,Y,Y,Y,Y,Y,Y,O,O,O,O,O,O,O,O,O,O,O,O,O,O,O,O,O,O,O,O,O,O] rfl rfl (take_ofW HT_.out HW_.out (by kernel_rfl)) (fun _ _ _ h => h) (Or.inl ⟨by rfl, ?_⟩) hHeld ?_ ?_
                                                    rotate_left
                                                    ·
                                                     rintro w' ⟨s0, s1, s2, s3⟩
                                                     go_simp
                                                     with_reducible rfl
                                                    rotate_left
                                                    ·
                                                     simp only [Act.put, List.setIfInBounds_toArray, List.set_cons_zero, List.set_cons_succ, i64_w, i32_w]
                                                     rfl
                                                    refine pure_ (i := 16) (N := some 260) (v := ?_) (a' := ?_) #[Y,Y,Y,Y,Y,Y,Y,Y,Y,Y,Y,Y,Y,Y,Y,Y,Y,O,O,O,O,O,O,O,O,O,O,O,O,O,O,O,O,O,O,O,O,O] rfl rfl (any_of HT_.out (by kernel_rfl)) (fun _ _ _ h => h) (Or.inl ⟨by rfl, ?_⟩) ?_ ?_
                                                    rotate_left
                                                    ·
                                                     intro w'
                                                     go_simp
                                                     with_reducible rfl
                                                    rotate_left
                                                    ·
                                                     simp only [Act.put, List.setIfInBounds_toArray, List.set_cons_zero, List.set_cons_succ, i64_w, i32_w]
                                                     rfl
                                                    refine pure_ (i := 17) (N := some 261) (v := ?_) (a' := ?_) #[Y,Y,Y,Y,Y,Y,Y,Y,Y,Y,Y,Y,Y,Y,Y,Y,Y,Y,O,O,O,O,O,O,O,O,O,O,O,O,O,O,O,O,O,O,O,O] rfl rfl (any_of HT_.out (by kernel_rfl)) (fun _ _ _ h => h) (Or.inl ⟨by rfl, ?_⟩) ?_ ?_
                                                    rotate_left
                                                    ·
                                                     intro w'
                                                     go_simp
                                                     with_reducible rfl
                                                    rotate_left
                                                    ·
                                                     simp only [Act.put, List.setIfInBounds_toArray, List.set_cons_zero, List.set_cons_succ, i64_w, i32_w]
                                                     rfl
                                                    refine pure_ (i := 18) (N := some 262) (v := ?_) (a' := ?_) #[Y,Y,Y,Y,Y,Y,Y,Y,Y,Y,Y,Y,Y,Y,Y,Y,Y,Y,Y,O,O,O,O,O,O,O,O,O,O,O,O,O,O,O,O,O,O,O] rfl rfl (any_of HT_.out (by kernel_rfl)) (fun _ _ _ h => h) (Or.inl ⟨by rfl, ?_⟩) ?_ ?_
                                                    rotate_left
                                                    ·
                                                     intro w'
                                                     go_simp
                                                     with_reducible rfl
                                                    rotate_left
                                                    ·
                                                     simp only [Act.put, List.setIfInBounds_toArray, List.set_cons_zero, List.set_cons_succ, i64_w, i32_w]
                                                     rfl
                                                    refine pure_ (i := 19) (N := some 263) (v := ?_) (a' := ?_) #[Y,Y,Y,Y,Y,Y,Y,Y,Y,Y,Y,Y,Y,Y,Y,Y,Y,Y,Y,Y,O,O,O,O,O,O,O,O,O,O,O,O,O,O,O,O,O,O] rfl rfl (any_of HT_.out (by kernel_rfl)) (fun _ _ _ h => h) (Or.inl ⟨by rfl, ?_⟩) ?_ ?_
                                                    rotate_left
                                                    ·
                                                     intro w'
                                                     go_simp
                                                     with_reducible rfl
                                                    rotate_left
                                                    ·
                                                     simp only [Act.put, List.setIfInBounds_toArray, List.set_cons_zero, List.set_cons_succ, i64_w, i32_w]
                                                     rfl
                                                    refine pure_ (i := 21) (N := some 265) (v := ?_) (a' := ?_) #[Y,Y,Y,Y,Y,Y,Y,Y,Y,Y,Y,Y,Y,Y,Y,Y,Y,Y,Y,Y,O,Y,O,O,O,O,O,O,O,O,O,O,O,O,O,O,O,O] rfl rfl (any_of HT_.out (by kernel_rfl)) (fun _ _ _ h => h) (Or.inl ⟨by rfl, ?_⟩) ?_ ?_
                                                    rotate_left
                                                    ·
                                                     intro w'
                                                     go_simp
                                                     with_reducible rfl
                                                    rotate_left
                                                    ·
                                                     simp only [Act.put, List.setIfInBounds_toArray, List.set_cons_zero, List.set_cons_succ, i64_w, i32_w]
                                                     rfl
                                                    refine one_ (i := 20) (N := some 264) #[Y,Y,Y,Y,Y,Y,Y,Y,Y,Y,Y,Y,Y,Y,Y,Y,Y,Y,Y,Y,Y,Y,O,O,O,O,O,O,O,O,O,O,O,O,O,O,O,O] rfl rfl (one_of HT_.out (by kernel_rfl)) (by decide) (fun K hK => ?_)
                                                    refine goes_ Try.func32 (by kernel_rfl) rfl #[.slice (some ad334) (rd_L2 t283 x239_5).length c333_0] (by rfl) rfl rfl (by (try simp only [List.map_toArray, List.map_cons, List.map_nil]); first | done | rfl | (simp only [List.length_drop, List.length_take]; rfl)) ?_
                                                    with_reducible refine (laws_vSquares.calls k5 _ _ (rd_L2 t283 x239_5) t337 _ ?side1 ?side2 A153.out).mono ?_
                                                    (case side1 => repeat (first | exact (by repeat (first | (with_reducible exact HR333_0.out) | (with_reducible refine Kd.C_alloc ?_ _) | (with_reducible refine Kd.C_drewN ?_ _) | (with_reducible refine Kd.C_drew ?_) | exact HR333_0.out)) | (with_reducible refine Kd.C_alloc ?_ _) | (with_reducible refine Kd.C_drewN ?_ _) | (with_reducible refine Kd.C_drew ?_)))
                                                    (case side2 => exact HC333_0.out)
                                                    rintro e w' ⟨rfl, ⟨nd, rfl⟩⟩
                                                    refine ⟨_, rfl, ?_⟩
                                                    refine hK.out _ _ ⟨hHeld.1, hHeld.2.1, hHeld.2.2.1, hHeld.2.2.2⟩ (fun hHeld => ?_)
                                                    clear hK K
                                                    refine norm_ (a' := ?_) ?_ ?_
                                                    rotate_left
                                                    ·
                                                     show Act.put _ (some 264) _ = _
                                                     simp only [Act.put, List.setIfInBounds_toArray, List.set_cons_zero, List.set_cons_succ, i64_w, i32_w]
                                                     rfl
                                                    refine pure_ (i := 22) (N := some 266) (v := ?_) (a' := ?_) #[Y,Y,Y,Y,Y,Y,Y,Y,Y,Y,Y,Y,Y,Y,Y,Y,Y,Y,Y,Y,Y,Y,Y,O,O,O,O,O,O,O,O,O,O,O,O,O,O,O] rfl rfl (any_of HT_.out (by kernel_rfl)) (fun _ _ _ h => h) (Or.inl ⟨by rfl, ?_⟩) ?_ ?_
                                                    rotate_left
                                                    ·
                                                     intro w'
                                                     go_simp
                                                     with_reducible rfl
                                                    rotate_left
                                                    ·
                                                     simp only [Act.put, List.setIfInBounds_toArray, List.set_cons_zero, List.set_cons_succ, i64_w, i32_w]
                                                     rfl
                                                    refine pure_ (i := 23) (N := some 267) (v := ?_) (a' := ?_) #[Y,Y,Y,Y,Y,Y,Y,Y,Y,Y,Y,Y,Y,Y,Y,Y,Y,Y,Y,Y,Y,Y,Y,Y,O,O,O,O,O,O,O,O,O,O,O,O,O,O] rfl rfl (any_of HT_.out (by kernel_rfl)) (fun _ _ _ h => h) (Or.inl ⟨by rfl, ?_⟩) ?_ ?_
                                                    rotate_left
                                                    ·
                                                     intro w'
                                                     go_simp
                                                     with_reducible rfl
                                                    rotate_left
                                                    ·
                                                     simp only [Act.put, List.setIfInBounds_toArray, List.set_cons_zero, List.set_cons_succ, i64_w, i32_w]
                                                     rfl
                                                    refine pure_ (i := 24) (N := some 268) (v := ?_) (a' := ?_) #[Y,Y,Y,Y,Y,Y,Y,Y,Y,Y,Y,Y,Y,Y,Y,Y,Y,Y,Y,Y,Y,Y,Y,Y,Y,O,O,O,O,O,O,O,O,O,O,O,O,O] rfl rfl (any_of HT_.out (by kernel_rfl)) (fun _ _ _ h => h) (Or.inl ⟨by rfl, ?_⟩) ?_ ?_
                                                    rotate_left
                                                    ·
                                                     intro w'
                                                     go_simp
                                                     with_reducible rfl
                                                    rotate_left
                                                    ·
                                                     simp only [Act.put, List.setIfInBounds_toArray, List.set_cons_zero, List.set_cons_succ, i64_w, i32_w]
                                                     rfl
                                                    refine pure_ (i := 25) (N := some 269) (v := ?_) (a' := ?_) #[Y,Y,Y,Y,Y,Y,Y,Y,Y,Y,Y,Y,Y,Y,Y,Y,Y,Y,Y,Y,Y,Y,Y,Y,Y,Y,O,O,O,O,O,O,O,O,O,O,O,O] rfl rfl (any_of HT_.out (by kernel_rfl)) (fun _ _ _ h => h) (Or.inl ⟨by rfl, ?_⟩) ?_ ?_
                                                    rotate_left
                                                    ·
                                                     intro w'
                                                     go_simp
                                                     with_reducible rfl
                                                    rotate_left
                                                    ·
                                                     simp only [Act.put, List.setIfInBounds_toArray, List.set_cons_zero, List.set_cons_succ, i64_w, i32_w]
                                                     rfl
                                                    refine pure_ (i := 26) (N := some 270) (v := ?_) (a' := ?_) #[Y,Y,Y,Y,Y,Y,Y,Y,Y,Y,Y,Y,Y,Y,Y,Y,Y,Y,Y,Y,Y,Y,Y,Y,Y,Y,Y,O,O,O,O,O,O,O,O,O,O,O] rfl rfl (any_of HT_.out (by kernel_rfl)) (fun _ _ _ h => h) (Or.inl ⟨by rfl, ?_⟩) ?_ ?_
                                                    rotate_left
                                                    ·
                                                     intro w'
                                                     go_simp
                                                     with_reducible rfl
                                                    rotate_left
                                                    ·
                                                     simp only [Act.put, List.setIfInBounds_toArray, List.set_cons_zero, List.set_cons_succ, i64_w, i32_w]
                                                     rfl
                                                    refine pure_ (i := 27) (N := some 271) (v := ?_) (a' := ?_) #[Y,Y,Y,Y,Y,Y,Y,Y,Y,Y,Y,Y,Y,Y,Y,Y,Y,Y,Y,Y,Y,Y,Y,Y,Y,Y,Y,Y,O,O,O,O,O,O,O,O,O,O] rfl rfl (any_of HT_.out (by kernel_rfl)) (fun _ _ _ h => h) (Or.inl ⟨by rfl, ?_⟩) ?_ ?_
                                                    rotate_left
                                                    ·
                                                     intro w'
                                                     go_simp
                                                     with_reducible rfl
                                                    rotate_left
                                                    ·
                                                     simp only [Act.put, List.setIfInBounds_toArray, List.set_cons_zero, List.set_cons_succ, i64_w, i32_w]
                                                     rfl
                                                    refine pure_ (i := 28) (N := some 272) (v := ?_) (a' := ?_) #[Y,Y,Y,Y,Y,Y,Y,Y,Y,Y,Y,Y,Y,Y,Y,Y,Y,Y,Y,Y,Y,Y,Y,Y,Y,Y,Y,Y,Y,O,O,O,O,O,O,O,O,O] rfl rfl (any_of HT_.out (by kernel_rfl)) (fun _ _ _ h => h) (Or.inl ⟨by rfl, ?_⟩) ?_ ?_
                                                    rotate_left
                                                    ·
                                                     intro w'
                                                     go_simp
                                                     with_reducible rfl
                                                    rotate_left
                                                    ·
                                                     simp only [Act.put, List.setIfInBounds_toArray, List.set_cons_zero, List.set_cons_succ, i64_w, i32_w]
                                                     rfl
                                                    refine pure_ (i := 29) (N := some 273) (v := ?_) (a' := ?_) #[Y,Y,Y,Y,Y,Y,Y,Y,Y,Y,Y,Y,Y,Y,Y,Y,Y,Y,Y,Y,Y,Y,Y,Y,Y,Y,Y,Y,Y,Y,O,O,O,O,O,O,O,O] rfl rfl (any_of HT_.out (by kernel_rfl)) (fun _ _ _ h => h) (Or.inl ⟨by rfl, ?_⟩) ?_ ?_
                                                    rotate_left
                                                    ·
                                                     intro w'
                                                     go_simp
                                                     with_reducible rfl
                                                    rotate_left
                                                    ·
                                                     simp only [Act.put, List.setIfInBounds_toArray, List.set_cons_zero, List.set_cons_succ, i64_w, i32_w]
                                                     rfl
                                                    refine pure_ (i := 30) (N := some 274) (v := ?_) (a' := ?_) #[Y,Y,Y,Y,Y,Y,Y,Y,Y,Y,Y,Y,Y,Y,Y,Y,Y,Y,Y,Y,Y,Y,Y,Y,Y,Y,Y,Y,Y,Y,Y,O,O,O,O,O,O,O] rfl rfl (any_of HT_.out (by kernel_rfl)) (fun _ _ _ h => h) (Or.inl ⟨by rfl, ?_⟩) ?_ ?_
                                                    rotate_left
                                                    ·
                                                     intro w'
                                                     go_simp
                                                     with_reducible rfl
                                                    rotate_left
                                                    ·
                                                     simp only [Act.put, List.setIfInBounds_toArray, List.set_cons_zero, List.set_cons_succ, i64_w, i32_w]
                                                     rfl
                                                    refine pure_ (i := 31) (N := some 275) (v := ?_) (a' := ?_) #[Y,Y,Y,Y,Y,Y,Y,Y,Y,Y,Y,Y,Y,Y,Y,Y,Y,Y,Y,Y,Y,Y,Y,Y,Y,Y,Y,Y,Y,Y,Y,Y,O,O,O,O,O,O] rfl rfl (any_of HT_.out (by kernel_rfl)) (fun _ _ _ h => h) (Or.inl ⟨by rfl, ?_⟩) ?_ ?_
                                                    rotate_left
                                                    ·
                                                     intro w'
                                                     go_simp
                                                     with_reducible rfl
                                                    rotate_left
                                                    ·
                                                     simp only [Act.put, List.setIfInBounds_toArray, List.set_cons_zero, List.set_cons_succ, i64_w, i32_w]
                                                     rfl
                                                    refine pure_ (i := 32) (N := some 276) (v := ?_) (a' := ?_) #[Y,Y,Y,Y,Y,Y,Y,Y,Y,Y,Y,Y,Y,Y,Y,Y,Y,Y,Y,Y,Y,Y,Y,Y,Y,Y,Y,Y,Y,Y,Y,Y,Y,O,O,O,O,O] rfl rfl (any_of HT_.out (by kernel_rfl)) (fun _ _ _ h => h) (Or.inl ⟨by rfl, ?_⟩) ?_ ?_
                                                    rotate_left
                                                    ·
                                                     intro w'
                                                     go_simp
                                                     with_reducible rfl
                                                    rotate_left
                                                    ·
                                                     simp only [Act.put, List.setIfInBounds_toArray, List.set_cons_zero, List.set_cons_succ, i64_w, i32_w]
                                                     rfl
                                                    refine take_ (i := 33) (N := some 277) (v := ?_) (a' := ?_) #[Y,Y,Y,Y,Y,Y,Y,Y,Y,Y,Y,Y,Y,Y,Y,Y,Y,Y,Y,Y,Y,Y,Y,Y,Y,Y,Y,Y,Y,Y,Y,Y,Y,Y,O,O,O,O] rfl rfl (take_ofW HT_.out HW_.out (by kernel_rfl)) (fun _ _ _ h => h) (Or.inl ⟨by rfl, ?_⟩) hHeld ?_ ?_
                                                    rotate_left
                                                    ·
                                                     rintro w' ⟨s0, s1, s2, s3⟩
                                                     go_simp
                                                     with_reducible rfl
                                                    rotate_left
                                                    ·
                                                     simp only [Act.put, List.setIfInBounds_toArray, List.set_cons_zero, List.set_cons_succ, i64_w, i32_w]
                                                     rfl
                                                    refine one_ (i := 34) (N := some 278) #[Y,Y,Y,Y,Y,Y,Y,Y,Y,Y,Y,Y,Y,Y,Y,Y,Y,Y,Y,Y,Y,Y,Y,Y,Y,Y,Y,Y,Y,Y,Y,Y,Y,Y,Y,O,O,O] rfl rfl (one_of HT_.out (by kernel_rfl)) (by decide) (fun K hK => ?_)
                                                    refine goes_ Try.func47 (by kernel_rfl) rfl #[.slice (some ad334) (rd_L2 t283 x239_5).length c333_0, .slice A338_0 (rd_L2 t283 (ji156)).length c338_0] (by rfl) rfl rfl (by (try simp only [List.map_toArray, List.map_cons, List.map_nil]); first | done | (simp only [hji156]; rfl) | rfl | (simp only [List.length_drop, List.length_take]; rfl)) ?_
                                                    with_reducible refine (laws_vBefore.calls k5 _ _ (rd_L2 t283 x239_5) _ _ (rd_L2 t283 (ji156)) true _ ?side1 ?side2 ?side3 ?side4 A159.out).mono ?_
                                                    (case side1 => repeat (first | exact (by repeat (first | (with_reducible exact HR333_0.out) | (with_reducible refine Kd.C_alloc ?_ _) | (with_reducible refine Kd.C_drewN ?_ _) | (with_reducible refine Kd.C_drew ?_) | exact HR333_0.out)) | (with_reducible refine Kd.C_alloc ?_ _) | (with_reducible refine Kd.C_drewN ?_ _) | (with_reducible refine Kd.C_drew ?_)))
                                                    (case side2 => exact HC333_0.out)
                                                    (case side3 => repeat (first | exact (by repeat (first | (with_reducible exact HR338_0.out) | (with_reducible refine Kd.C_alloc ?_ _) | (with_reducible refine Kd.C_drewN ?_ _) | (with_reducible refine Kd.C_drew ?_) | exact HR338_0.out)) | (with_reducible refine Kd.C_alloc ?_ _) | (with_reducible refine Kd.C_drewN ?_ _) | (with_reducible refine Kd.C_drew ?_)))
                                                    (case side4 => exact HC338_0.out)
                                                    rintro e w' ⟨rfl, ⟨nd, rfl⟩⟩
                                                    refine ⟨_, rfl, ?_⟩
                                                    refine hK.out _ _ ⟨hHeld.1, hHeld.2.1, hHeld.2.2.1, hHeld.2.2.2⟩ (fun hHeld => ?_)
                                                    clear hK K
                                                    refine norm_ (a' := ?_) ?_ ?_
                                                    rotate_left
                                                    ·
                                                     show Act.put _ (some 278) _ = _
                                                     simp only [Act.put, List.setIfInBounds_toArray, List.set_cons_zero, List.set_cons_succ, i64_w, i32_w]
                                                     rfl
                                                    refine pure_ (i := 35) (N := some 279) (v := ?_) (a' := ?_) #[Y,Y,Y,Y,Y,Y,Y,Y,Y,Y,Y,Y,Y,Y,Y,Y,Y,Y,Y,Y,Y,Y,Y,Y,Y,Y,Y,Y,Y,Y,Y,Y,Y,Y,Y,Y,O,O] rfl rfl (any_of HT_.out (by kernel_rfl)) (fun _ _ _ h => h) (Or.inl ⟨by rfl, ?_⟩) ?_ ?_
                                                    rotate_left
                                                    ·
                                                     intro w'
                                                     go_simp
                                                     with_reducible rfl
                                                    rotate_left
                                                    ·
                                                     simp only [Act.put, List.setIfInBounds_toArray, List.set_cons_zero, List.set_cons_succ, i64_w, i32_w]
                                                     rfl
                                                    refine pure_ (i := 36) (N := some 280) (v := ?_) (a' := ?_) #[Y,Y,Y,Y,Y,Y,Y,Y,Y,Y,Y,Y,Y,Y,Y,Y,Y,Y,Y,Y,Y,Y,Y,Y,Y,Y,Y,Y,Y,Y,Y,Y,Y,Y,Y,Y,Y,O] rfl rfl (any_of HT_.out (by kernel_rfl)) (fun _ _ _ h => h) (Or.inl ⟨by rfl, ?_⟩) ?_ ?_
                                                    rotate_left
                                                    ·
                                                     intro w'
                                                     go_simp
                                                     with_reducible rfl
                                                    rotate_left
                                                    ·
                                                     simp only [Act.put, List.setIfInBounds_toArray, List.set_cons_zero, List.set_cons_succ, i64_w, i32_w]
                                                     rfl
                                                    refine pure_ (i := 37) (N := some 281) (v := ?_) (a' := ?_) #[Y,Y,Y,Y,Y,Y,Y,Y,Y,Y,Y,Y,Y,Y,Y,Y,Y,Y,Y,Y,Y,Y,Y,Y,Y,Y,Y,Y,Y,Y,Y,Y,Y,Y,Y,Y,Y,Y] rfl rfl (any_of HT_.out (by kernel_rfl)) (fun _ _ _ h => h) (Or.inl ⟨by rfl, ?_⟩) ?_ ?_
                                                    rotate_left
                                                    ·
                                                     intro w'
                                                     go_simp
                                                     with_reducible rfl
                                                    rotate_left
                                                    ·
                                                     simp only [Act.put, List.setIfInBounds_toArray, List.set_cons_zero, List.set_cons_succ, i64_w, i32_w]
                                                     rfl
                                                    refine done_ (done_of HT_.out (by kernel_rfl)) ?_
                                                    try go_wp2
                                                    go_roundg k5
                                                    case measure => have := HJ15.out; have := HJ71.out; have := HJ92.out; have := HJ135.out; have := HK5.out; omega
                                                    case rel => exact ⟨(wrap64 (x239_5 + 1)), (by first | rfl | (simp; done) | (simp [*]; done)), H', ⟨by have := HJ15.out; have := HJ71.out; have := HJ92.out; have := HJ135.out; have := HK5.out; omega⟩, ⟨by (with_reducible repeat (first | apply Kd.S_alloc | apply Kd.S_drewN | apply Kd.S_drew)); exact HO_6.out⟩, ⟨by (with_reducible repeat (first | apply Kd.S_alloc | apply Kd.S_drewN | apply Kd.S_drew)); exact HO_237.out⟩, ⟨by repeat (first | (with_reducible first | exact HB.out | apply below_alloc | apply pw_below_drewN | apply below_drew1) | exact HB.out | exact Below.refl _ _)⟩⟩
                                                  ·
                                                   replace c160 := Bool.eq_false_iff.mpr c160
                                                   subst c160
                                                   have H1 : (some false) = some r := by rw [if_neg (show ¬ (false = true) by decide)] at H; exact H
                                                   exact absurd (H1.trans (congrArg some hrT)) (by simp)
                                                ·
                                                 rw [if_neg c158] at H
                                                 exact absurd H (by simp)
                                              ·
                                               rw [if_neg c157] at H
                                               exact absurd H (by simp)
                                            ·
                                             as_aux_lemma =>
                                              rw [if_neg c155] at H
                                              have c155b0 : decide (0 < x239_5) = false := decide_eq_false c155
                                              clear c155
                                              have H' := Aside0.mk H
                                              clear H
                                              have p333 : 0 ≤ (x239_5 : Int) := of_decide_eq_true (by first | (with_reducible assumption) | assumption)
                                              have q333 : x239_5 < (t283.length : Int) := of_decide_eq_true (by first | (with_reducible assumption) | assumption)
                                              obtain ⟨ad333, A333_0, c333_0, e333, hx333_0, hl333_0, hi333_0⟩ := at_L2 (Kd.S_reads' HO_237.out).2.2 x239_5 p333 q333
                                              cases e333
                                              obtain ⟨ce333, hce333, hMe333, hcc333⟩ := Kd.S_get HO_237.out [] x239_5 p333 (by first | exact q333 | exact of_decide_eq_true (by first | (with_reducible assumption) | assumption) | (have e_ := (Kd.S_reads' HO_237.out).1; omega))
                                              obtain ⟨ve333_0, rfl, ge333_0⟩ := hMe333
                                              have hv333_0 := hcc333 0 _ rfl
                                              rw [Nat.add_zero, show ((Kd.slice 3 (Kd.int .i64))).sz = 1 from rfl, Nat.mul_one] at hv333_0
                                              replace hv333_0 := Option.some.inj (hv333_0.symm.trans hx333_0)
                                              rw [hv333_0] at ge333_0
                                              have HL333_0 := Aside0.mk (show Kd.R (Kd.int .i64) 3 _ _ _ _ (rd_L2 t283 x239_5) from ge333_0)
                                              clear hv333_0 ge333_0
                                              clear hcc333 hce333
                                              have HR333_0 := Aside0.mk hi333_0
                                              have HC333_0 := Aside0.mk hl333_0
                                              clear hi333_0 hl333_0
                                              replace p333 := eq_true p333
                                              replace q333 := eq_true q333
                                              try go_wp2
                                              have n0_ := Aside0.mk (Kd.S_drew HO_6.out)
                                              have n1_ := Aside0.mk (Kd.S_drew HO_237.out)
                                              have n2_ := Aside0.mk (Kd.R_drew HL333_0.out)
                                              have n3_ := Aside0.mk (Kd.C_drew HR333_0.out)
                                              have n4_ := Aside0.mk (below_drew1 HB.out)
                                              clear HO_6; clear HO_237; clear HL333_0; clear HR333_0; clear HB
                                              have HO_6 := n0_
                                              have HO_237 := n1_
                                              have HL333_0 := n2_
                                              have HR333_0 := n3_
                                              have HB := n4_
                                              clear n0_ n1_ n2_ n3_ n4_
                                              have p334 : 0 ≤ (0 : Int) := (by omega)
                                              have q334 : 0 < ((rd_L2 t283 x239_5).length : Int) := of_decide_eq_true (by first | (with_reducible assumption) | assumption)
                                              obtain ⟨ad334, e334, hx334_0⟩ := Kd.at_int (by repeat (first | (with_reducible exact HR333_0.out) | (with_reducible refine Kd.C_alloc ?_ _) | (with_reducible refine Kd.C_drewN ?_ _) | (with_reducible refine Kd.C_drew ?_) | exact HR333_0.out)) 0 p334 q334
                                              cases e334
                                              have qi334 : (0 < (rd_L2 t283 x239_5).length) = True := eq_true (by omega)
                                              (try rw [show ((0 : Int)).toNat = 0 from rfl] at hx334_0)
                                              (try rw [Addr.add_zero'] at hx334_0)
                                              replace p334 := eq_true p334
                                              replace q334 := eq_true q334
                                              have p335 : 0 ≤ (1 : Int) := (by omega)
                                              have q335 : 1 < ((rd_L2 t283 x239_5).length : Int) := of_decide_eq_true (by first | (with_reducible assumption) | assumption)
                                              obtain ⟨ad335, e335, hx335_0⟩ := Kd.at_int (by repeat (first | (with_reducible exact HR333_0.out) | (with_reducible refine Kd.C_alloc ?_ _) | (with_reducible refine Kd.C_drewN ?_ _) | (with_reducible refine Kd.C_drew ?_) | exact HR333_0.out)) 1 p335 q335
                                              obtain rfl : ad334 = ad335 := (by injection e335)
                                              (try simp only [show (1 : Int).toNat = 1 from rfl, Nat.reduceMul, Nat.reduceEqDiff, Go.Addr.add, ↓reduceIte] at hx335_0)
                                              have qi335 : (1 < (rd_L2 t283 x239_5).length) = True := eq_true (by omega)
                                              (try rw [show ((1 : Int)).toNat = 1 from rfl] at hx335_0)
                                              replace p335 := eq_true p335
                                              replace q335 := eq_true q335
                                              have p336 : 0 ≤ (1 : Int) := (by omega)
                                              have q336 : 1 < ((rd_L2 t283 x239_5).length : Int) := of_decide_eq_true (by first | (with_reducible assumption) | assumption)
                                              obtain ⟨ad336, e336, hx336_0⟩ := Kd.at_int (by repeat (first | (with_reducible exact HR333_0.out) | (with_reducible refine Kd.C_alloc ?_ _) | (with_reducible refine Kd.C_drewN ?_ _) | (with_reducible refine Kd.C_drew ?_) | exact HR333_0.out)) 1 p336 q336
                                              obtain rfl : ad334 = ad336 := (by injection e336)
                                              (try simp only [show (1 : Int).toNat = 1 from rfl, Nat.reduceMul, Nat.reduceEqDiff, Go.Addr.add, ↓reduceIte] at hx336_0)
                                              have qi336 : (1 < (rd_L2 t283 x239_5).length) = True := eq_true (by omega)
                                              (try rw [show ((1 : Int)).toNat = 1 from rfl] at hx336_0)
                                              replace p336 := eq_true p336
                                              replace q336 := eq_true q336
                                              refine start_ (n := 38) (S := fun w' => w'.cell? ad334 = some (.int .i64 (rd (rd_L2 t283 x239_5) 0)) ∧ w'.cell? ⟨ad334.block, ad334.off + 1, none⟩ = some (.int .i64 (rd (rd_L2 t283 x239_5) 1)) ∧ w'.cell? ⟨ad334.block, ad334.off + 1, none⟩ = some (.int .i64 (rd (rd_L2 t283 x239_5) 1))) (ds := []) #[O,O,O,O,O,O,O,O,O,O,O,O,O,O,O,O,O,O,O,O,O,O,O,O,O,O,O,O,O,O,O,O,O,O,O,O,O,O] (by kernel_rfl) rfl rfl ⟨hx334_0, hx335_0, hx336_0⟩ (fun hHeld => ?_); refine with_tabW laws_FnTwoSquaresCounted.tab36 laws_FnTwoSquaresCounted.bits36 (fun HT_ HW_ => ?_)
                                              generalize wr.drew = w163 at HO_6 HO_237 HL333_0 HR333_0 HB hx334_0 hx335_0 hx336_0 hHeld ⊢
                                              refine pure_ (i := 0) (N := some 244) (v := ?_) (a' := ?_) #[Y,O,O,O,O,O,O,O,O,O,O,O,O,O,O,O,O,O,O,O,O,O,O,O,O,O,O,O,O,O,O,O,O,O,O,O,O,O] rfl rfl (any_of HT_.out (by kernel_rfl)) (fun _ _ _ h => h) (Or.inl ⟨by rfl, ?_⟩) ?_ ?_
                                              rotate_left
                                              ·
                                               intro w'
                                               go_simp
                                               with_reducible rfl
                                              rotate_left
                                              ·
                                               simp only [Act.put, List.setIfInBounds_toArray, List.set_cons_zero, List.set_cons_succ, i64_w, i32_w]
                                               rfl
                                              refine pure_ (i := 1) (N := some 245) (v := ?_) (a' := ?_) #[Y,Y,O,O,O,O,O,O,O,O,O,O,O,O,O,O,O,O,O,O,O,O,O,O,O,O,O,O,O,O,O,O,O,O,O,O,O,O] rfl rfl (any_of HT_.out (by kernel_rfl)) (fun _ _ _ h => h) (Or.inl ⟨by rfl, ?_⟩) ?_ ?_
                                              rotate_left
                                              ·
                                               intro w'
                                               go_simp
                                               with_reducible rfl
                                              rotate_left
                                              ·
                                               simp only [Act.put, List.setIfInBounds_toArray, List.set_cons_zero, List.set_cons_succ, i64_w, i32_w]
                                               rfl
                                              refine pure_ (i := 2) (N := some 246) (v := ?_) (a' := ?_) #[Y,Y,Y,O,O,O,O,O,O,O,O,O,O,O,O,O,O,O,O,O,O,O,O,O,O,O,O,O,O,O,O,O,O,O,O,O,O,O] rfl rfl (any_of HT_.out (by kernel_rfl)) (fun _ _ _ h => h) (Or.inl ⟨by rfl, ?_⟩) ?_ ?_
                                              rotate_left
                                              ·
                                               intro w'
                                               go_simp
                                               with_reducible rfl
                                              rotate_left
                                              ·
                                               simp only [Act.put, List.setIfInBounds_toArray, List.set_cons_zero, List.set_cons_succ, i64_w, i32_w]
                                               rfl
                                              refine pure_ (i := 3) (N := some 247) (v := ?_) (a' := ?_) #[Y,Y,Y,Y,O,O,O,O,O,O,O,O,O,O,O,O,O,O,O,O,O,O,O,O,O,O,O,O,O,O,O,O,O,O,O,O,O,O] rfl rfl (any_of HT_.out (by kernel_rfl)) (fun _ _ _ h => h) (Or.inl ⟨by rfl, ?_⟩) ?_ ?_
                                              rotate_left
                                              ·
                                               intro w'
                                               go_simp
                                               with_reducible rfl
                                              rotate_left
                                              ·
                                               simp only [Act.put, List.setIfInBounds_toArray, List.set_cons_zero, List.set_cons_succ, i64_w, i32_w]
                                               rfl
                                              refine pure_ (i := 4) (N := some 248) (v := ?_) (a' := ?_) #[Y,Y,Y,Y,Y,O,O,O,O,O,O,O,O,O,O,O,O,O,O,O,O,O,O,O,O,O,O,O,O,O,O,O,O,O,O,O,O,O] rfl rfl (any_of HT_.out (by kernel_rfl)) (fun _ _ _ h => h) (Or.inl ⟨by rfl, ?_⟩) ?_ ?_
                                              rotate_left
                                              ·
                                               intro w'
                                               go_simp
                                               with_reducible rfl
                                              rotate_left
                                              ·
                                               simp only [Act.put, List.setIfInBounds_toArray, List.set_cons_zero, List.set_cons_succ, i64_w, i32_w]
                                               rfl
                                              refine pure_ (i := 5) (N := some 249) (v := ?_) (a' := ?_) #[Y,Y,Y,Y,Y,Y,O,O,O,O,O,O,O,O,O,O,O,O,O,O,O,O,O,O,O,O,O,O,O,O,O,O,O,O,O,O,O,O] rfl rfl (any_of HT_.out (by kernel_rfl)) (fun _ _ _ h => h) (Or.inl ⟨by rfl, ?_⟩) ?_ ?_
                                              rotate_left
                                              ·
                                               intro w'
                                               go_simp
                                               with_reducible rfl
                                              rotate_left
                                              ·
                                               simp only [Act.put, List.setIfInBounds_toArray, List.set_cons_zero, List.set_cons_succ, i64_w, i32_w]
                                               rfl
                                              refine pure_ (i := 7) (N := some 251) (v := ?_) (a' := ?_) #[Y,Y,Y,Y,Y,Y,O,Y,O,O,O,O,O,O,O,O,O,O,O,O,O,O,O,O,O,O,O,O,O,O,O,O,O,O,O,O,O,O] rfl rfl (any_of HT_.out (by kernel_rfl)) (fun _ _ _ h => h) (Or.inl ⟨by rfl, ?_⟩) ?_ ?_
                                              rotate_left
                                              ·
                                               intro w'
                                               go_simp
                                               with_reducible rfl
                                              rotate_left
                                              ·
                                               simp only [Act.put, List.setIfInBounds_toArray, List.set_cons_zero, List.set_cons_succ, i64_w, i32_w]
                                               rfl
                                              refine pure_ (i := 8) (N := some 252) (v := ?_) (a' := ?_) #[Y,Y,Y,Y,Y,Y,O,Y,Y,O,O,O,O,O,O,O,O,O,O,O,O,O,O,O,O,O,O,O,O,O,O,O,O,O,O,O,O,O] rfl rfl (any_of HT_.out (by kernel_rfl)) (fun _ _ _ h => h) (Or.inl ⟨by rfl, ?_⟩) ?_ ?_
                                              rotate_left
                                              ·
                                               intro w'
                                               go_simp
                                               with_reducible rfl
                                              rotate_left
                                              ·
                                               simp only [Act.put, List.setIfInBounds_toArray, List.set_cons_zero, List.set_cons_succ, i64_w, i32_w]
                                               rfl
                                              refine take_ (i := 6) (N := some 250) (v := ?_) (a' := ?_) #[Y,Y,Y,Y,Y,Y,Y,Y,Y,O,O,O,O,O,O,O,O,O,O,O,O,O,O,O,O,O,O,O,O,O,O,O,O,O,O,O,O,O] rfl rfl (take_ofW HT_.out HW_.out (by kernel_rfl)) (fun _ _ _ h => h) (Or.inl ⟨by rfl, ?_⟩) hHeld ?_ ?_
                                              rotate_left
                                              ·
                                               rintro w' ⟨s0, s1, s2⟩
                                               go_simp
                                               with_reducible rfl
                                              rotate_left
                                              ·
                                               simp only [Act.put, List.setIfInBounds_toArray, List.set_cons_zero, List.set_cons_succ, i64_w, i32_w]
                                               rfl
                                              refine take_ (i := 9) (N := some 253) (v := ?_) (a' := ?_) #[Y,Y,Y,Y,Y,Y,Y,Y,Y,Y,O,O,O,O,O,O,O,O,O,O,O,O,O,O,O,O,O,O,O,O,O,O,O,O,O,O,O,O] rfl rfl (take_ofW HT_.out HW_.out (by kernel_rfl)) (fun _ _ _ h => h) (Or.inl ⟨by rfl, ?_⟩) hHeld ?_ ?_
                                              rotate_left
                                              ·
                                               rintro w' ⟨s0, s1, s2⟩
                                               go_simp
                                               with_reducible rfl
                                              rotate_left
                                              ·
                                               simp only [Act.put, List.setIfInBounds_toArray, List.set_cons_zero, List.set_cons_succ, i64_w, i32_w]
                                               rfl
                                              refine pure_ (i := 10) (N := some 254) (v := ?_) (a' := ?_) #[Y,Y,Y,Y,Y,Y,Y,Y,Y,Y,Y,O,O,O,O,O,O,O,O,O,O,O,O,O,O,O,O,O,O,O,O,O,O,O,O,O,O,O] rfl rfl (any_of HT_.out (by kernel_rfl)) (fun _ _ _ h => h) (Or.inl ⟨by rfl, ?_⟩) ?_ ?_
                                              rotate_left
                                              ·
                                               intro w'
                                               go_simp
                                               with_reducible rfl
                                              rotate_left
                                              ·
                                               simp only [Act.put, List.setIfInBounds_toArray, List.set_cons_zero, List.set_cons_succ, i64_w, i32_w]
                                               rfl
                                              refine pure_ (i := 11) (N := some 255) (v := ?_) (a' := ?_) #[Y,Y,Y,Y,Y,Y,Y,Y,Y,Y,Y,Y,O,O,O,O,O,O,O,O,O,O,O,O,O,O,O,O,O,O,O,O,O,O,O,O,O,O] rfl rfl (any_of HT_.out (by kernel_rfl)) (fun _ _ _ h => h) (Or.inl ⟨by rfl, ?_⟩) ?_ ?_
                                              rotate_left
                                              ·
                                               intro w'
                                               go_simp
                                               with_reducible rfl
                                              rotate_left
                                              ·
                                               simp only [Act.put, List.setIfInBounds_toArray, List.set_cons_zero, List.set_cons_succ, i64_w, i32_w]
                                               rfl
                                              refine pure_ (i := 12) (N := some 256) (v := ?_) (a' := ?_) #[Y,Y,Y,Y,Y,Y,Y,Y,Y,Y,Y,Y,Y,O,O,O,O,O,O,O,O,O,O,O,O,O,O,O,O,O,O,O,O,O,O,O,O,O] rfl rfl (any_of HT_.out (by kernel_rfl)) (fun _ _ _ h => h) (Or.inl ⟨by rfl, ?_⟩) ?_ ?_
                                              rotate_left
                                              ·
                                               intro w'
                                               go_simp
                                               with_reducible rfl
                                              rotate_left
                                              ·
                                               simp only [Act.put, List.setIfInBounds_toArray, List.set_cons_zero, List.set_cons_succ, i64_w, i32_w]
                                               rfl
                                              refine pure_ (i := 13) (N := some 257) (v := ?_) (a' := ?_) #[Y,Y,Y,Y,Y,Y,Y,Y,Y,Y,Y,Y,Y,Y,O,O,O,O,O,O,O,O,O,O,O,O,O,O,O,O,O,O,O,O,O,O,O,O] rfl rfl (any_of HT_.out (by kernel_rfl)) (fun _ _ _ h => h) (Or.inl ⟨by rfl, ?_⟩) ?_ ?_
                                              rotate_left
                                              ·
                                               intro w'
                                               go_simp
                                               with_reducible rfl
                                              rotate_left
                                              ·
                                               simp only [Act.put, List.setIfInBounds_toArray, List.set_cons_zero, List.set_cons_succ, i64_w, i32_w]
                                               rfl
                                              refine pure_ (i := 14) (N := some 258) (v := ?_) (a' := ?_) #[Y,Y,Y,Y,Y,Y,Y,Y,Y,Y,Y,Y,Y,Y,Y,O,O,O,O,O,O,O,O,O,O,O,O,O,O,O,O,O,O,O,O,O,O,O] rfl rfl (any_of HT_.out (by kernel_rfl)) (fun _ _ _ h => h) (Or.inl ⟨by rfl, ?_⟩) ?_ ?_
                                              rotate_left
                                              ·
                                               intro w'
                                               go_simp
                                               with_reducible rfl
                                              rotate_left
                                              ·
                                               simp only [Act.put, List.setIfInBounds_toArray, List.set_cons_zero, List.set_cons_succ, i64_w, i32_w]
                                               rfl
                                              refine take_ (i := 15) (N := some 259) (v := ?_) (a' := ?_) #[Y,Y,Y,Y,Y,Y,Y,Y,Y,Y,Y,Y,Y,Y,Y,Y,O,O,O,O,O,O,O,O,O,O,O,O,O,O,O,O,O,O,O,O,O,O] rfl rfl (take_ofW HT_.out HW_.out (by kernel_rfl)) (fun _ _ _ h => h) (Or.inl ⟨by rfl, ?_⟩) hHeld ?_ ?_
                                              rotate_left
                                              ·
                                               rintro w' ⟨s0, s1, s2⟩
                                               go_simp
                                               with_reducible rfl
                                              rotate_left
                                              ·
                                               simp only [Act.put, List.setIfInBounds_toArray, List.set_cons_zero, List.set_cons_succ, i64_w, i32_w]
                                               rfl
                                              refine pure_ (i := 16) (N := some 260) (v := ?_) (a' := ?_) #[Y,Y,Y,Y,Y,Y,Y,Y,Y,Y,Y,Y,Y,Y,Y,Y,Y,O,O,O,O,O,O,O,O,O,O,O,O,O,O,O,O,O,O,O,O,O] rfl rfl (any_of HT_.out (by kernel_rfl)) (fun _ _ _ h => h) (Or.inl ⟨by rfl, ?_⟩) ?_ ?_
                                              rotate_left
                                              ·
                                               intro w'
                                               go_simp
                                               with_reducible rfl
                                              rotate_left
                                              ·
                                               simp only [Act.put, List.setIfInBounds_toArray, List.set_cons_zero, List.set_cons_succ, i64_w, i32_w]
                                               rfl
                                              refine pure_ (i := 17) (N := some 261) (v := ?_) (a' := ?_) #[Y,Y,Y,Y,Y,Y,Y,Y,Y,Y,Y,Y,Y,Y,Y,Y,Y,Y,O,O,O,O,O,O,O,O,O,O,O,O,O,O,O,O,O,O,O,O] rfl rfl (any_of HT_.out (by kernel_rfl)) (fun _ _ _ h => h) (Or.inl ⟨by rfl, ?_⟩) ?_ ?_
                                              rotate_left
                                              ·
                                               intro w'
                                               go_simp
                                               with_reducible rfl
                                              rotate_left
                                              ·
                                               simp only [Act.put, List.setIfInBounds_toArray, List.set_cons_zero, List.set_cons_succ, i64_w, i32_w]
                                               rfl
                                              refine pure_ (i := 18) (N := some 262) (v := ?_) (a' := ?_) #[Y,Y,Y,Y,Y,Y,Y,Y,Y,Y,Y,Y,Y,Y,Y,Y,Y,Y,Y,O,O,O,O,O,O,O,O,O,O,O,O,O,O,O,O,O,O,O] rfl rfl (any_of HT_.out (by kernel_rfl)) (fun _ _ _ h => h) (Or.inl ⟨by rfl, ?_⟩) ?_ ?_
                                              rotate_left
                                              ·
                                               intro w'
                                               go_simp
                                               with_reducible rfl
                                              rotate_left
                                              ·
                                               simp only [Act.put, List.setIfInBounds_toArray, List.set_cons_zero, List.set_cons_succ, i64_w, i32_w]
                                               rfl
                                              refine pure_ (i := 19) (N := some 263) (v := ?_) (a' := ?_) #[Y,Y,Y,Y,Y,Y,Y,Y,Y,Y,Y,Y,Y,Y,Y,Y,Y,Y,Y,Y,O,O,O,O,O,O,O,O,O,O,O,O,O,O,O,O,O,O] rfl rfl (any_of HT_.out (by kernel_rfl)) (fun _ _ _ h => h) (Or.inl ⟨by rfl, ?_⟩) ?_ ?_
                                              rotate_left
                                              ·
                                               intro w'
                                               go_simp
                                               with_reducible rfl
                                              rotate_left
                                              ·
                                               simp only [Act.put, List.setIfInBounds_toArray, List.set_cons_zero, List.set_cons_succ, i64_w, i32_w]
                                               rfl
                                              refine pure_ (i := 21) (N := some 265) (v := ?_) (a' := ?_) #[Y,Y,Y,Y,Y,Y,Y,Y,Y,Y,Y,Y,Y,Y,Y,Y,Y,Y,Y,Y,O,Y,O,O,O,O,O,O,O,O,O,O,O,O,O,O,O,O] rfl rfl (any_of HT_.out (by kernel_rfl)) (fun _ _ _ h => h) (Or.inl ⟨by rfl, ?_⟩) ?_ ?_
                                              rotate_left
                                              ·
                                               intro w'
                                               go_simp
                                               with_reducible rfl
                                              rotate_left
                                              ·
                                               simp only [Act.put, List.setIfInBounds_toArray, List.set_cons_zero, List.set_cons_succ, i64_w, i32_w]
                                               rfl
                                              refine one_ (i := 20) (N := some 264) #[Y,Y,Y,Y,Y,Y,Y,Y,Y,Y,Y,Y,Y,Y,Y,Y,Y,Y,Y,Y,Y,Y,O,O,O,O,O,O,O,O,O,O,O,O,O,O,O,O] rfl rfl (one_of HT_.out (by kernel_rfl)) (by decide) (fun K hK => ?_)
                                              refine goes_ Try.func32 (by kernel_rfl) rfl #[.slice (some ad334) (rd_L2 t283 x239_5).length c333_0] (by rfl) rfl rfl (by (try simp only [List.map_toArray, List.map_cons, List.map_nil]); first | done | rfl | (simp only [List.length_drop, List.length_take]; rfl)) ?_
                                              with_reducible refine (laws_vSquares.calls k5 _ _ (rd_L2 t283 x239_5) t337 _ ?side1 ?side2 A153.out).mono ?_
                                              (case side1 => repeat (first | exact (by repeat (first | (with_reducible exact HR333_0.out) | (with_reducible refine Kd.C_alloc ?_ _) | (with_reducible refine Kd.C_drewN ?_ _) | (with_reducible refine Kd.C_drew ?_) | exact HR333_0.out)) | (with_reducible refine Kd.C_alloc ?_ _) | (with_reducible refine Kd.C_drewN ?_ _) | (with_reducible refine Kd.C_drew ?_)))
                                              (case side2 => exact HC333_0.out)
                                              rintro e w' ⟨rfl, ⟨nd, rfl⟩⟩
                                              refine ⟨_, rfl, ?_⟩
                                              refine hK.out _ _ ⟨hHeld.1, hHeld.2.1, hHeld.2.2⟩ (fun hHeld => ?_)
                                              clear hK K
                                              refine norm_ (a' := ?_) ?_ ?_
                                              rotate_left
                                              ·
                                               show Act.put _ (some 264) _ = _
                                               simp only [Act.put, List.setIfInBounds_toArray, List.set_cons_zero, List.set_cons_succ, i64_w, i32_w]
                                               rfl
                                              refine pure_ (i := 22) (N := some 266) (v := ?_) (a' := ?_) #[Y,Y,Y,Y,Y,Y,Y,Y,Y,Y,Y,Y,Y,Y,Y,Y,Y,Y,Y,Y,Y,Y,Y,O,O,O,O,O,O,O,O,O,O,O,O,O,O,O] rfl rfl (any_of HT_.out (by kernel_rfl)) (fun _ _ _ h => h) (Or.inl ⟨by rfl, ?_⟩) ?_ ?_
                                              rotate_left
                                              ·
                                               intro w'
                                               go_simp
                                               with_reducible rfl
                                              rotate_left
                                              ·
                                               simp only [Act.put, List.setIfInBounds_toArray, List.set_cons_zero, List.set_cons_succ, i64_w, i32_w]
                                               rfl
                                              refine pure_ (i := 23) (N := some 267) (v := ?_) (a' := ?_) #[Y,Y,Y,Y,Y,Y,Y,Y,Y,Y,Y,Y,Y,Y,Y,Y,Y,Y,Y,Y,Y,Y,Y,Y,O,O,O,O,O,O,O,O,O,O,O,O,O,O] rfl rfl (any_of HT_.out (by kernel_rfl)) (fun _ _ _ h => h) (Or.inl ⟨by rfl, ?_⟩) ?_ ?_
                                              rotate_left
                                              ·
                                               intro w'
                                               go_simp
                                               with_reducible rfl
                                              rotate_left
                                              ·
                                               simp only [Act.put, List.setIfInBounds_toArray, List.set_cons_zero, List.set_cons_succ, i64_w, i32_w]
                                               rfl
                                              refine pure_ (i := 24) (N := some 268) (v := ?_) (a' := ?_) #[Y,Y,Y,Y,Y,Y,Y,Y,Y,Y,Y,Y,Y,Y,Y,Y,Y,Y,Y,Y,Y,Y,Y,Y,Y,O,O,O,O,O,O,O,O,O,O,O,O,O] rfl rfl (any_of HT_.out (by kernel_rfl)) (fun _ _ _ h => h) (Or.inl ⟨by rfl, ?_⟩) ?_ ?_
                                              rotate_left
                                              ·
                                               intro w'
                                               go_simp
                                               with_reducible rfl
                                              rotate_left
                                              ·
                                               simp only [Act.put, List.setIfInBounds_toArray, List.set_cons_zero, List.set_cons_succ, i64_w, i32_w]
                                               rfl
                                              refine pure_ (i := 25) (N := some 269) (v := ?_) (a' := ?_) #[Y,Y,Y,Y,Y,Y,Y,Y,Y,Y,Y,Y,Y,Y,Y,Y,Y,Y,Y,Y,Y,Y,Y,Y,Y,Y,O,O,O,O,O,O,O,O,O,O,O,O] rfl rfl (any_of HT_.out (by kernel_rfl)) (fun _ _ _ h => h) (Or.inl ⟨by rfl, ?_⟩) ?_ ?_
                                              rotate_left
                                              ·
                                               intro w'
                                               go_simp
                                               with_reducible rfl
                                              rotate_left
                                              ·
                                               simp only [Act.put, List.setIfInBounds_toArray, List.set_cons_zero, List.set_cons_succ, i64_w, i32_w]
                                               rfl
                                              refine pure_ (i := 26) (N := some 270) (v := ?_) (a' := ?_) #[Y,Y,Y,Y,Y,Y,Y,Y,Y,Y,Y,Y,Y,Y,Y,Y,Y,Y,Y,Y,Y,Y,Y,Y,Y,Y,Y,O,O,O,O,O,O,O,O,O,O,O] rfl rfl (any_of HT_.out (by kernel_rfl)) (fun _ _ _ h => h) (Or.inl ⟨by rfl, ?_⟩) ?_ ?_
                                              rotate_left
                                              ·
                                               intro w'
                                               go_simp
                                               with_reducible rfl
                                              rotate_left
                                              ·
                                               simp only [Act.put, List.setIfInBounds_toArray, List.set_cons_zero, List.set_cons_succ, i64_w, i32_w]
                                               rfl
                                              refine pure_ (i := 27) (N := some 271) (v := ?_) (a' := ?_) #[Y,Y,Y,Y,Y,Y,Y,Y,Y,Y,Y,Y,Y,Y,Y,Y,Y,Y,Y,Y,Y,Y,Y,Y,Y,Y,Y,Y,O,O,O,O,O,O,O,O,O,O] rfl rfl (any_of HT_.out (by kernel_rfl)) (fun _ _ _ h => h) (Or.inl ⟨by rfl, ?_⟩) ?_ ?_
                                              rotate_left
                                              ·
                                               intro w'
                                               go_simp
                                               with_reducible rfl
                                              rotate_left
                                              ·
                                               simp only [Act.put, List.setIfInBounds_toArray, List.set_cons_zero, List.set_cons_succ, i64_w, i32_w]
                                               rfl
                                              refine pure_ (i := 28) (N := some 272) (v := undef) (a' := ?_) #[Y,Y,Y,Y,Y,Y,Y,Y,Y,Y,Y,Y,Y,Y,Y,Y,Y,Y,Y,Y,Y,Y,Y,Y,Y,Y,Y,Y,Y,O,O,O,O,O,O,O,O,O] rfl rfl (any_of HT_.out (by kernel_rfl)) (fun _ _ _ h => h) (Or.inr ⟨by rfl, rfl⟩) ?_ ?_
                                              rotate_left
                                              ·
                                               simp only [Act.put, List.setIfInBounds_toArray, List.set_cons_zero, List.set_cons_succ, i64_w, i32_w]
                                               rfl
                                              refine pure_ (i := 29) (N := some 273) (v := undef) (a' := ?_) #[Y,Y,Y,Y,Y,Y,Y,Y,Y,Y,Y,Y,Y,Y,Y,Y,Y,Y,Y,Y,Y,Y,Y,Y,Y,Y,Y,Y,Y,Y,O,O,O,O,O,O,O,O] rfl rfl (any_of HT_.out (by kernel_rfl)) (fun _ _ _ h => h) (Or.inr ⟨by rfl, rfl⟩) ?_ ?_
                                              rotate_left
                                              ·
                                               simp only [Act.put, List.setIfInBounds_toArray, List.set_cons_zero, List.set_cons_succ, i64_w, i32_w]
                                               rfl
                                              refine pure_ (i := 30) (N := some 274) (v := undef) (a' := ?_) #[Y,Y,Y,Y,Y,Y,Y,Y,Y,Y,Y,Y,Y,Y,Y,Y,Y,Y,Y,Y,Y,Y,Y,Y,Y,Y,Y,Y,Y,Y,Y,O,O,O,O,O,O,O] rfl rfl (any_of HT_.out (by kernel_rfl)) (fun _ _ _ h => h) (Or.inr ⟨by rfl, rfl⟩) ?_ ?_
                                              rotate_left
                                              ·
                                               simp only [Act.put, List.setIfInBounds_toArray, List.set_cons_zero, List.set_cons_succ, i64_w, i32_w]
                                               rfl
                                              refine pure_ (i := 31) (N := some 275) (v := undef) (a' := ?_) #[Y,Y,Y,Y,Y,Y,Y,Y,Y,Y,Y,Y,Y,Y,Y,Y,Y,Y,Y,Y,Y,Y,Y,Y,Y,Y,Y,Y,Y,Y,Y,Y,O,O,O,O,O,O] rfl rfl (any_of HT_.out (by kernel_rfl)) (fun _ _ _ h => h) (Or.inr ⟨by rfl, rfl⟩) ?_ ?_
                                              rotate_left
                                              ·
                                               simp only [Act.put, List.setIfInBounds_toArray, List.set_cons_zero, List.set_cons_succ, i64_w, i32_w]
                                               rfl
                                              refine pure_ (i := 32) (N := some 276) (v := undef) (a' := ?_) #[Y,Y,Y,Y,Y,Y,Y,Y,Y,Y,Y,Y,Y,Y,Y,Y,Y,Y,Y,Y,Y,Y,Y,Y,Y,Y,Y,Y,Y,Y,Y,Y,Y,O,O,O,O,O] rfl rfl (any_of HT_.out (by kernel_rfl)) (fun _ _ _ h => h) (Or.inr ⟨by rfl, rfl⟩) ?_ ?_
                                              rotate_left
                                              ·
                                               simp only [Act.put, List.setIfInBounds_toArray, List.set_cons_zero, List.set_cons_succ, i64_w, i32_w]
                                               rfl
                                              refine pure_ (i := 33) (N := some 277) (v := undef) (a' := ?_) #[Y,Y,Y,Y,Y,Y,Y,Y,Y,Y,Y,Y,Y,Y,Y,Y,Y,Y,Y,Y,Y,Y,Y,Y,Y,Y,Y,Y,Y,Y,Y,Y,Y,Y,O,O,O,O] rfl rfl (any_of HT_.out (by kernel_rfl)) (fun _ _ _ h => h) (Or.inr ⟨by rfl, rfl⟩) ?_ ?_
                                              rotate_left
                                              ·
                                               simp only [Act.put, List.setIfInBounds_toArray, List.set_cons_zero, List.set_cons_succ, i64_w, i32_w]
                                               rfl
                                              refine pure_ (i := 34) (N := some 278) (v := undef) (a' := ?_) #[Y,Y,Y,Y,Y,Y,Y,Y,Y,Y,Y,Y,Y,Y,Y,Y,Y,Y,Y,Y,Y,Y,Y,Y,Y,Y,Y,Y,Y,Y,Y,Y,Y,Y,Y,O,O,O] rfl rfl (any_of HT_.out (by kernel_rfl)) (fun _ _ _ h => h) (Or.inr ⟨by rfl, rfl⟩) ?_ ?_
                                              rotate_left
                                              ·
                                               simp only [Act.put, List.setIfInBounds_toArray, List.set_cons_zero, List.set_cons_succ, i64_w, i32_w]
                                               rfl
                                              refine pure_ (i := 35) (N := some 279) (v := undef) (a' := ?_) #[Y,Y,Y,Y,Y,Y,Y,Y,Y,Y,Y,Y,Y,Y,Y,Y,Y,Y,Y,Y,Y,Y,Y,Y,Y,Y,Y,Y,Y,Y,Y,Y,Y,Y,Y,Y,O,O] rfl rfl (any_of HT_.out (by kernel_rfl)) (fun _ _ _ h => h) (Or.inr ⟨by rfl, rfl⟩) ?_ ?_
                                              rotate_left
                                              ·
                                               simp only [Act.put, List.setIfInBounds_toArray, List.set_cons_zero, List.set_cons_succ, i64_w, i32_w]
                                               rfl
                                              refine pure_ (i := 36) (N := some 280) (v := ?_) (a' := ?_) #[Y,Y,Y,Y,Y,Y,Y,Y,Y,Y,Y,Y,Y,Y,Y,Y,Y,Y,Y,Y,Y,Y,Y,Y,Y,Y,Y,Y,Y,Y,Y,Y,Y,Y,Y,Y,Y,O] rfl rfl (any_of HT_.out (by kernel_rfl)) (fun _ _ _ h => h) (Or.inl ⟨by rfl, ?_⟩) ?_ ?_
                                              rotate_left
                                              ·
                                               intro w'
                                               go_simp
                                               with_reducible rfl
                                              rotate_left
                                              ·
                                               simp only [Act.put, List.setIfInBounds_toArray, List.set_cons_zero, List.set_cons_succ, i64_w, i32_w]
                                               rfl
                                              refine pure_ (i := 37) (N := some 281) (v := ?_) (a' := ?_) #[Y,Y,Y,Y,Y,Y,Y,Y,Y,Y,Y,Y,Y,Y,Y,Y,Y,Y,Y,Y,Y,Y,Y,Y,Y,Y,Y,Y,Y,Y,Y,Y,Y,Y,Y,Y,Y,Y] rfl rfl (any_of HT_.out (by kernel_rfl)) (fun _ _ _ h => h) (Or.inl ⟨by rfl, ?_⟩) ?_ ?_
                                              rotate_left
                                              ·
                                               intro w'
                                               go_simp
                                               with_reducible rfl
                                              rotate_left
                                              ·
                                               simp only [Act.put, List.setIfInBounds_toArray, List.set_cons_zero, List.set_cons_succ, i64_w, i32_w]
                                               rfl
                                              refine done_ (done_of HT_.out (by kernel_rfl)) ?_
                                              try go_wp2
                                              go_roundg k5
                                              case measure => have := HJ15.out; have := HJ71.out; have := HJ92.out; have := HJ135.out; have := HK5.out; omega
                                              case rel => exact ⟨(wrap64 (x239_5 + 1)), (by first | rfl | (simp; done) | (simp [*]; done)), H', ⟨by have := HJ15.out; have := HJ71.out; have := HJ92.out; have := HJ135.out; have := HK5.out; omega⟩, ⟨by (with_reducible repeat (first | apply Kd.S_alloc | apply Kd.S_drewN | apply Kd.S_drew)); exact HO_6.out⟩, ⟨by (with_reducible repeat (first | apply Kd.S_alloc | apply Kd.S_drewN | apply Kd.S_drew)); exact HO_237.out⟩, ⟨by repeat (first | (with_reducible first | exact HB.out | apply below_alloc | apply pw_below_drewN | apply below_drew1) | exact HB.out | exact Below.refl _ _)⟩⟩
                                          ·
                                           rw [if_neg c154] at H
                                           exact absurd (H.trans (congrArg some hrT)) (by simp)
                                    ·
                                     rw [if_neg c148] at H
                                     exact absurd H (by simp)
                                  ·
                                   rw [if_neg c147] at H
                                   exact absurd H (by simp)
                                ·
                                 rw [if_neg c146] at H
                                 exact absurd (H.trans (congrArg some hrT)) (by simp)
                              ·
                               rw [if_neg c145] at H
                               exact absurd H (by simp)
                            ·
                             rw [if_neg c144] at H
                             exact absurd H (by simp)
                          ·
                           rw [if_neg c143] at H
                           have c143b0 : decide (x239_5 < (t283.length : Int)) = false := decide_eq_false c143
                           clear c143
                           obtain rfl := Option.some.inj H
                           go_wp2
                           go_ret
                           exact ⟨by first | rfl | (simp [errW_none, errW_some] <;> rfl) | (simp [*, errW_none, errW_some] <;> rfl), by repeat (first | (with_reducible first | exact HB.out | apply below_alloc | apply pw_below_drewN | apply below_drew1) | exact HB.out | exact Below.refl _ _)⟩
             ·
              replace c92 := Bool.eq_false_iff.mpr c92
              subst c92
              have H1 : (some true) = some r := by rw [if_neg (show ¬ (false = true) by decide)] at H; exact H
              clear H
              have H := H1
              clear H1
              obtain rfl := Option.some.inj H
              go_wp2
              go_ret
              exact ⟨by first | rfl | (simp [errW_none, errW_some] <;> rfl) | (simp [*, errW_none, errW_some] <;> rfl), by repeat (first | (with_reducible first | exact HB.out | apply below_alloc | apply pw_below_drewN | apply below_drew1) | exact HB.out | exact Below.refl _ _)⟩

/-- THE ONE PURE STATEMENT of laws_FnTwoSquaresCounted: yours. -/
def laws_FnTwoSquaresCounted.Pure : Prop := ∀ (l0 : List Int) (l1 : List Int), l0.length ≤ maxLen → l0.length * 1 ≤ 140737488351232 → (∀ x ∈ l0, (Lit.int .u8 x).wf = true) → l1.length ≤ maxLen → l1.length * 1 ≤ 140737488351232 → (∀ x ∈ l1, (Lit.int .u8 x).wf = true) → ∃ k, laws_FnTwoSquaresCounted.f k l0 l1 = some true
theorem laws_FnTwoSquaresCounted.walk (P : laws_FnTwoSquaresCounted.Pure) (a0 : Option Addr) (len0 cap0 : Nat) (z0 : List Int) (a1 : Option Addr) (len1 cap1 : Nat) (z1 : List Int) (w : World) (w0 : (a0 = none ∧ len0 = 0 ∧ cap0 = 0 ∧ z0 = []) ∨ ∃ x, a0 = some x ∧ len0 ≤ cap0 ∧ cap0 ≤ maxLen ∧ z0.length = cap0 ∧ (∀ i, i < z0.length → w.cell? (x.add i) = some (.int .u8 (z0.getD i 0))) ∧ ∀ n ∈ z0, (Lit.int .u8 n).wf = true) (y0 : len0 * 1 ≤ 140737488351232) (w1 : (a1 = none ∧ len1 = 0 ∧ cap1 = 0 ∧ z1 = []) ∨ ∃ x, a1 = some x ∧ len1 ≤ cap1 ∧ cap1 ≤ maxLen ∧ z1.length = cap1 ∧ (∀ i, i < z1.length → w.cell? (x.add i) = some (.int .u8 (z1.getD i 0))) ∧ ∀ n ∈ z1, (Lit.int .u8 n).wf = true) (y1 : len1 * 1 ≤ 140737488351232) :
 Calls Try.prog 7 #[.slice a0 len0 cap0, .slice a1 len1 cap1] w fun e w' => e = .returned (.bool true) ∧ Below w.heap.size w w' := by
 obtain ⟨l0, rfl, hr0, hm0, hw0, hc0⟩ := ReadsInt.ofRowC w0
 obtain ⟨l1, rfl, hr1, hm1, hw1, hc1⟩ := ReadsInt.ofRowC w1
 obtain ⟨k, h⟩ := P l0 l1 hm0 y0 hw0 hm1 y1 hw1
 refine (laws_FnTwoSquaresCounted.calls k _ _ l0 _ _ l1 true w (Kd.C_of_reads (d := (0 : Int)) (h1 := fun _ => rfl) hr0) hc0 (Kd.C_of_reads (d := (0 : Int)) (h1 := fun _ => rfl) hr1) hc1 h rfl).mono ?_
 rintro e w' ⟨rfl, hd⟩
 exact ⟨rfl, hd⟩

end Go.Proofs.Ytpmbffchkcemoaa.P
