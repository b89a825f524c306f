-- Written by a program of this session (wip/mkprint.py over the kit's print), out of the translation. Not trusted: Lean checks it.
import Derived.Test.YtpmbffchkcemoaaPx0
import Derived.Test.YtpmbffchkcemoaaPx1
import Derived.Test.YtpmbffchkcemoaaPx2
import Derived.Test.YtpmbffchkcemoaaPx3
import Derived.Test.YtpmbffchkcemoaaPx4
namespace Go.Proofs.Ytpmbffchkcemoaa.P
open Go.RowKit Go.Proofs.YtpmbffchkcemoaaW.PrintWords Go.Proofs.YtpmbffchkcemoaaW.PrintLast Go.Proofs.YtpmbffchkcemoaaW.PrintMore
attribute [local go_sem] max2_int min2_int max_two min_two max_three min_three max_four min_four   -- for this text's walks alone
set_option linter.unusedVariables false
set_option linter.unusedSimpArgs false

/-! ### laws_FnTwoSquaresDescend: function 4 -/
mutual
def laws_FnTwoSquaresDescend.j0 : Nat → List Int → Int → List (List Int) → Bool → Int → Bool → Option (Bool)
 | 0, _, _, _, _, _, _ => none
 | k + 1, x1, x5, x6, x9, x10, x78 => if x78 = true then (some false) else ((spec_DrawIsPrimeNumber.f x1).bind fun t229 => ((impl_IsPrimeNumber.f k t229).bind fun bt230 => ((spec_IsPrimeNumber.f k t229).bind fun bt232 => (if (bt230.2 != bt232.2) = true then (laws_FnTwoSquaresDescend.j1 k x5 x6 x9 x10 t229 bt230.1 bt230.2 true) else (laws_FnTwoSquaresDescend.j1 k x5 x6 x9 x10 t229 bt230.1 bt230.2 (bt230.1 != bt232.1))))))
def laws_FnTwoSquaresDescend.j1 : Nat → Int → List (List Int) → Bool → Int → Int → Bool → Bool → Bool → Option (Bool)
 | 0, _, _, _, _, _, _, _, _ => none
 | k + 1, x5, x6, x9, x10, x14, x15, x16, x98 => if x98 = true then (some false) else (if x16 = true then (laws_FnTwoSquaresDescend.j2 k x5 x6 x9 x10 x14 x15) else (laws_FnTwoSquaresDescend.j2 k x5 x6 x9 x10 x14 false))
def laws_FnTwoSquaresDescend.j2 : Nat → Int → List (List Int) → Bool → Int → Int → Bool → Option (Bool)
 | 0, _, _, _, _, _, _ => none
 | k + 1, x5, x6, x9, x10, x14, x102 => if x102 = true then ((impl_RootOfMinusOne.f k x14).bind fun bt234 => (if (bt234.2 != ((Int.tmod x14 4) != 3)) = true then (some false) else (laws_FnTwoSquaresDescend.j3 k x5 x6 x9 x10))) else (laws_FnTwoSquaresDescend.j3 k x5 x6 x9 x10)
def laws_FnTwoSquaresDescend.j3 : Nat → Int → List (List Int) → Bool → Int → Option (Bool)
 | 0, _, _, _, _ => none
 | k + 1, x5, x6, x9, x10 => if x9 = true then (if x5 = 0 then (none) else (if (Int.tmod (wrap64 ((wrap64 (x10 * x10)) + 1)) x5) = 0 then (if 0 < (x6.length : Int) then (if 0 < ((rd_L2 x6 0).length : Int) then (if (rd (rd_L2 x6 0) 0) = x10 then (if 1 < ((rd_L2 x6 0).length : Int) then (laws_FnTwoSquaresDescend.j4 k x5 x6 ((rd (rd_L2 x6 0) 1) != 1)) else (none)) else (laws_FnTwoSquaresDescend.j4 k x5 x6 true)) else (none)) else (none)) else (laws_FnTwoSquaresDescend.j4 k x5 x6 true))) else (some true)
def laws_FnTwoSquaresDescend.j4 : Nat → Int → List (List Int) → Bool → Option (Bool)
 | 0, _, _, _ => none
 | k + 1, x5, x6, x138 => if x138 = true then (some false) else (laws_FnTwoSquaresDescend.l0 k x5 x6 x6 (x6.length : Int) 0)
def laws_FnTwoSquaresDescend.l0 : Nat → Int → List (List Int) → List (List Int) → Int → Int → Option (Bool)
 | 0, _, _, _, _, _ => none
 | k + 1, x5, x6, x139, x140, x141 => if x141 < x140 then (if 0 ≤ x141 then (if x141 < (x139.length : Int) then (if 0 < ((rd_L2 x139 x141).length : Int) then (if 1 < ((rd_L2 x139 x141).length : Int) then (if 2 < ((rd_L2 x139 x141).length : Int) then (if (wrap64 ((wrap64 ((rd (rd_L2 x139 x141) 0) * (rd (rd_L2 x139 x141) 0))) + (wrap64 ((rd (rd_L2 x139 x141) 1) * (rd (rd_L2 x139 x141) 1))))) = (wrap64 ((rd (rd_L2 x139 x141) 2) * x5)) then (if x141 > 0 then (if 0 ≤ (wrap64 (x141 - 1)) then (if (wrap64 (x141 - 1)) < (x6.length : Int) then (if 2 < ((rd_L2 x6 (wrap64 (x141 - 1))).length : Int) then (if (wrap64 (2 * (rd (rd_L2 x139 x141) 2))) > (rd (rd_L2 x6 (wrap64 (x141 - 1))) 2) then (some false) else (if (((rd (rd_L2 x139 x141) 2) == 1) != (x141 == (wrap64 ((x6.length : Int) - 1)))) = true then (some false) else (laws_FnTwoSquaresDescend.l0 k x5 x6 x139 x140 (wrap64 (x141 + 1))))) else (none)) else (none)) else (none)) else (if (((rd (rd_L2 x139 x141) 2) == 1) != (x141 == (wrap64 ((x6.length : Int) - 1)))) = true then (some false) else (laws_FnTwoSquaresDescend.l0 k x5 x6 x139 x140 (wrap64 (x141 + 1))))) else (some false)) else (none)) else (none)) else (none)) else (none)) else (none)) else (if 0 ≤ (wrap64 ((x6.length : Int) - 1)) then (if (wrap64 ((x6.length : Int) - 1)) < (x6.length : Int) then (if 0 < ((rd_L2 x6 (wrap64 ((x6.length : Int) - 1))).length : Int) then (if 1 < ((rd_L2 x6 (wrap64 ((x6.length : Int) - 1))).length : Int) then (if (rd (rd_L2 x6 (wrap64 ((x6.length : Int) - 1))) 0) < (rd (rd_L2 x6 (wrap64 ((x6.length : Int) - 1))) 1) then ((impl_TwoSquares.f k x5).bind fun bt256 => ((impl_AllTwoSquares.f k x5).bind fun bt260 => (if bt256.2 = true then (if bt260.2 = true then (if (bt260.1.length : Int) = 1 then ((laws_vSame.f k bt256.1 (([rd (rd_L2 x6 (wrap64 ((x6.length : Int) - 1))) 1, rd (rd_L2 x6 (wrap64 ((x6.length : Int) - 1))) 0] : List Int))).bind fun t267 => (some t267)) else (some false)) else (some false)) else (some false)))) else ((impl_TwoSquares.f k x5).bind fun bt268 => ((impl_AllTwoSquares.f k x5).bind fun bt272 => (if bt268.2 = true then (if bt272.2 = true then (if (bt272.1.length : Int) = 1 then ((laws_vSame.f k bt268.1 (([rd (rd_L2 x6 (wrap64 ((x6.length : Int) - 1))) 0, rd (rd_L2 x6 (wrap64 ((x6.length : Int) - 1))) 1] : List Int))).bind fun t279 => (some t279)) else (some false)) else (some false)) else (some false))))) else (none)) else (none)) else (none)) else (none))
end
def laws_FnTwoSquaresDescend.f (k : Nat) (l0 : List Int) (l1 : List Int) : Option (Bool) := (laws_big.f l0 l1).bind fun t214 => (if t214 = true then (some true) else ((spec_DrawTwoDescent.f k l0).bind fun t215 => ((impl_TwoDescent.f k t215).bind fun bt216 => ((spec_TwoDescent.f k t215).bind fun bt220 => ((impl_RootOfMinusOne.f k t215).bind fun bt224 => ((spec_RootOfMinusOne.f k t215).bind fun bt226 => (if (bt216.2 != bt220.2) = true then (laws_FnTwoSquaresDescend.j0 k l1 t215 bt216.1 bt220.2 bt224.1 true) else ((laws_vSameLists.f k bt216.1 bt220.1).bind fun t228 => (if t228 = true then (if (bt224.2 != bt226.2) = true then (laws_FnTwoSquaresDescend.j0 k l1 t215 bt216.1 bt220.2 bt224.1 true) else (if bt224.1 = bt226.1 then (laws_FnTwoSquaresDescend.j0 k l1 t215 bt216.1 bt220.2 bt224.1 (bt224.2 != bt216.2)) else (laws_FnTwoSquaresDescend.j0 k l1 t215 bt216.1 bt220.2 bt224.1 true))) else (laws_FnTwoSquaresDescend.j0 k l1 t215 bt216.1 bt220.2 bt224.1 true))))))))))
theorem laws_FnTwoSquaresDescend.mono_l : ∀ k, (∀ y0 y1 y2 y3 y4 y5, LeO (laws_FnTwoSquaresDescend.j0 k y0 y1 y2 y3 y4 y5) (laws_FnTwoSquaresDescend.j0 (k + 1) y0 y1 y2 y3 y4 y5)) ∧ (∀ y0 y1 y2 y3 y4 y5 y6 y7, LeO (laws_FnTwoSquaresDescend.j1 k y0 y1 y2 y3 y4 y5 y6 y7) (laws_FnTwoSquaresDescend.j1 (k + 1) y0 y1 y2 y3 y4 y5 y6 y7)) ∧ (∀ y0 y1 y2 y3 y4 y5, LeO (laws_FnTwoSquaresDescend.j2 k y0 y1 y2 y3 y4 y5) (laws_FnTwoSquaresDescend.j2 (k + 1) y0 y1 y2 y3 y4 y5)) ∧ (∀ y0 y1 y2 y3, LeO (laws_FnTwoSquaresDescend.j3 k y0 y1 y2 y3) (laws_FnTwoSquaresDescend.j3 (k + 1) y0 y1 y2 y3)) ∧ (∀ y0 y1 y2, LeO (laws_FnTwoSquaresDescend.j4 k y0 y1 y2) (laws_FnTwoSquaresDescend.j4 (k + 1) y0 y1 y2)) ∧ (∀ y0 y1 y2 y3 y4, LeO (laws_FnTwoSquaresDescend.l0 k y0 y1 y2 y3 y4) (laws_FnTwoSquaresDescend.l0 (k + 1) y0 y1 y2 y3 y4))
 | 0 => ⟨fun _ _ _ _ _ _ r h => by simp [laws_FnTwoSquaresDescend.j0] at h, fun _ _ _ _ _ _ _ _ r h => by simp [laws_FnTwoSquaresDescend.j1] at h, fun _ _ _ _ _ _ r h => by simp [laws_FnTwoSquaresDescend.j2] at h, fun _ _ _ _ r h => by simp [laws_FnTwoSquaresDescend.j3] at h, fun _ _ _ r h => by simp [laws_FnTwoSquaresDescend.j4] at h, fun _ _ _ _ _ r h => by simp [laws_FnTwoSquaresDescend.l0] at h⟩
 | k + 1 => by
  obtain ⟨ih0, ih1, ih2, ih3, ih4, ih5⟩ := laws_FnTwoSquaresDescend.mono_l k
  refine ⟨?_, ?_, ?_, ?_, ?_, ?_⟩
  ·
   intro y0 y1 y2 y3 y4 y5
   unfold laws_FnTwoSquaresDescend.j0
   repeat' first
   | (with_reducible exact ih0 _ _ _ _ _ _)
   | (with_reducible exact ih1 _ _ _ _ _ _ _ _)
   | (with_reducible exact ih2 _ _ _ _ _ _)
   | (with_reducible exact ih3 _ _ _ _)
   | (with_reducible exact ih4 _ _ _)
   | (with_reducible exact ih5 _ _ _ _ _)
   | (with_reducible exact impl_AllTwoSquares.mono _ _)
   | (with_reducible exact impl_IsPrimeNumber.mono _ _)
   | (with_reducible exact impl_RootOfMinusOne.mono _ _)
   | (with_reducible exact impl_TwoDescent.mono _ _)
   | (with_reducible exact impl_TwoSquares.mono _ _)
   | (with_reducible exact laws_vSame.mono _ _ _)
   | (with_reducible exact laws_vSameLists.mono _ _ _)
   | (with_reducible exact spec_DrawTwoDescent.mono _ _)
   | (with_reducible exact spec_IsPrimeNumber.mono _ _)
   | (with_reducible exact spec_RootOfMinusOne.mono _ _)
   | (with_reducible exact spec_TwoDescent.mono _ _)
   | (with_reducible exact LeO.refl _)
   | (with_reducible exact LeO.none _)
   | (with_reducible refine LeO.ite ?_ ?_)
   | (with_reducible refine LeO.bind ?_ (fun _ => ?_))
   | exact ih0 _ _ _ _ _ _
   | exact ih1 _ _ _ _ _ _ _ _
   | exact ih2 _ _ _ _ _ _
   | exact ih3 _ _ _ _
   | exact ih4 _ _ _
   | exact ih5 _ _ _ _ _
   | exact impl_AllTwoSquares.mono _ _
   | exact impl_IsPrimeNumber.mono _ _
   | exact impl_RootOfMinusOne.mono _ _
   | exact impl_TwoDescent.mono _ _
   | exact impl_TwoSquares.mono _ _
   | exact laws_vSame.mono _ _ _
   | exact laws_vSameLists.mono _ _ _
   | exact spec_DrawTwoDescent.mono _ _
   | exact spec_IsPrimeNumber.mono _ _
   | exact spec_RootOfMinusOne.mono _ _
   | exact spec_TwoDescent.mono _ _
   | exact LeO.none _
   | refine LeO.ite ?_ ?_
   | refine LeO.bind ?_ (fun _ => ?_)
  ·
   intro y0 y1 y2 y3 y4 y5 y6 y7
   unfold laws_FnTwoSquaresDescend.j1
   repeat' first
   | (with_reducible exact ih0 _ _ _ _ _ _)
   | (with_reducible exact ih1 _ _ _ _ _ _ _ _)
   | (with_reducible exact ih2 _ _ _ _ _ _)
   | (with_reducible exact ih3 _ _ _ _)
   | (with_reducible exact ih4 _ _ _)
   | (with_reducible exact ih5 _ _ _ _ _)
   | (with_reducible exact impl_AllTwoSquares.mono _ _)
   | (with_reducible exact impl_IsPrimeNumber.mono _ _)
   | (with_reducible exact impl_RootOfMinusOne.mono _ _)
   | (with_reducible exact impl_TwoDescent.mono _ _)
   | (with_reducible exact impl_TwoSquares.mono _ _)
   | (with_reducible exact laws_vSame.mono _ _ _)
   | (with_reducible exact laws_vSameLists.mono _ _ _)
   | (with_reducible exact spec_DrawTwoDescent.mono _ _)
   | (with_reducible exact spec_IsPrimeNumber.mono _ _)
   | (with_reducible exact spec_RootOfMinusOne.mono _ _)
   | (with_reducible exact spec_TwoDescent.mono _ _)
   | (with_reducible exact LeO.refl _)
   | (with_reducible exact LeO.none _)
   | (with_reducible refine LeO.ite ?_ ?_)
   | (with_reducible refine LeO.bind ?_ (fun _ => ?_))
   | exact ih0 _ _ _ _ _ _
   | exact ih1 _ _ _ _ _ _ _ _
   | exact ih2 _ _ _ _ _ _
   | exact ih3 _ _ _ _
   | exact ih4 _ _ _
   | exact ih5 _ _ _ _ _
   | exact impl_AllTwoSquares.mono _ _
   | exact impl_IsPrimeNumber.mono _ _
   | exact impl_RootOfMinusOne.mono _ _
   | exact impl_TwoDescent.mono _ _
   | exact impl_TwoSquares.mono _ _
   | exact laws_vSame.mono _ _ _
   | exact laws_vSameLists.mono _ _ _
   | exact spec_DrawTwoDescent.mono _ _
   | exact spec_IsPrimeNumber.mono _ _
   | exact spec_RootOfMinusOne.mono _ _
   | exact spec_TwoDescent.mono _ _
   | exact LeO.none _
   | refine LeO.ite ?_ ?_
   | refine LeO.bind ?_ (fun _ => ?_)
  ·
   intro y0 y1 y2 y3 y4 y5
   unfold laws_FnTwoSquaresDescend.j2
   repeat' first
   | (with_reducible exact ih0 _ _ _ _ _ _)
   | (with_reducible exact ih1 _ _ _ _ _ _ _ _)
   | (with_reducible exact ih2 _ _ _ _ _ _)
   | (with_reducible exact ih3 _ _ _ _)
   | (with_reducible exact ih4 _ _ _)
   | (with_reducible exact ih5 _ _ _ _ _)
   | (with_reducible exact impl_AllTwoSquares.mono _ _)
   | (with_reducible exact impl_IsPrimeNumber.mono _ _)
   | (with_reducible exact impl_RootOfMinusOne.mono _ _)
   | (with_reducible exact impl_TwoDescent.mono _ _)
   | (with_reducible exact impl_TwoSquares.mono _ _)
   | (with_reducible exact laws_vSame.mono _ _ _)
   | (with_reducible exact laws_vSameLists.mono _ _ _)
   | (with_reducible exact spec_DrawTwoDescent.mono _ _)
   | (with_reducible exact spec_IsPrimeNumber.mono _ _)
   | (with_reducible exact spec_RootOfMinusOne.mono _ _)
   | (with_reducible exact spec_TwoDescent.mono _ _)
   | (with_reducible exact LeO.refl _)
   | (with_reducible exact LeO.none _)
   | (with_reducible refine LeO.ite ?_ ?_)
   | (with_reducible refine LeO.bind ?_ (fun _ => ?_))
   | exact ih0 _ _ _ _ _ _
   | exact ih1 _ _ _ _ _ _ _ _
   | exact ih2 _ _ _ _ _ _
   | exact ih3 _ _ _ _
   | exact ih4 _ _ _
   | exact ih5 _ _ _ _ _
   | exact impl_AllTwoSquares.mono _ _
   | exact impl_IsPrimeNumber.mono _ _
   | exact impl_RootOfMinusOne.mono _ _
   | exact impl_TwoDescent.mono _ _
   | exact impl_TwoSquares.mono _ _
   | exact laws_vSame.mono _ _ _
   | exact laws_vSameLists.mono _ _ _
   | exact spec_DrawTwoDescent.mono _ _
   | exact spec_IsPrimeNumber.mono _ _
   | exact spec_RootOfMinusOne.mono _ _
   | exact spec_TwoDescent.mono _ _
   | exact LeO.none _
   | refine LeO.ite ?_ ?_
   | refine LeO.bind ?_ (fun _ => ?_)
  ·
   intro y0 y1 y2 y3
   unfold laws_FnTwoSquaresDescend.j3
   repeat' first
   | (with_reducible exact ih0 _ _ _ _ _ _)
   | (with_reducible exact ih1 _ _ _ _ _ _ _ _)
   | (with_reducible exact ih2 _ _ _ _ _ _)
   | (with_reducible exact ih3 _ _ _ _)
   | (with_reducible exact ih4 _ _ _)
   | (with_reducible exact ih5 _ _ _ _ _)
   | (with_reducible exact impl_AllTwoSquares.mono _ _)
   | (with_reducible exact impl_IsPrimeNumber.mono _ _)
   | (with_reducible exact impl_RootOfMinusOne.mono _ _)
   | (with_reducible exact impl_TwoDescent.mono _ _)
   | (with_reducible exact impl_TwoSquares.mono _ _)
   | (with_reducible exact laws_vSame.mono _ _ _)
   | (with_reducible exact laws_vSameLists.mono _ _ _)
   | (with_reducible exact spec_DrawTwoDescent.mono _ _)
   | (with_reducible exact spec_IsPrimeNumber.mono _ _)
   | (with_reducible exact spec_RootOfMinusOne.mono _ _)
   | (with_reducible exact spec_TwoDescent.mono _ _)
   | (with_reducible exact LeO.refl _)
   | (with_reducible exact LeO.none _)
   | (with_reducible refine LeO.ite ?_ ?_)
   | (with_reducible refine LeO.bind ?_ (fun _ => ?_))
   | exact ih0 _ _ _ _ _ _
   | exact ih1 _ _ _ _ _ _ _ _
   | exact ih2 _ _ _ _ _ _
   | exact ih3 _ _ _ _
   | exact ih4 _ _ _
   | exact ih5 _ _ _ _ _
   | exact impl_AllTwoSquares.mono _ _
   | exact impl_IsPrimeNumber.mono _ _
   | exact impl_RootOfMinusOne.mono _ _
   | exact impl_TwoDescent.mono _ _
   | exact impl_TwoSquares.mono _ _
   | exact laws_vSame.mono _ _ _
   | exact laws_vSameLists.mono _ _ _
   | exact spec_DrawTwoDescent.mono _ _
   | exact spec_IsPrimeNumber.mono _ _
   | exact spec_RootOfMinusOne.mono _ _
   | exact spec_TwoDescent.mono _ _
   | exact LeO.none _
   | refine LeO.ite ?_ ?_
   | refine LeO.bind ?_ (fun _ => ?_)
  ·
   intro y0 y1 y2
   unfold laws_FnTwoSquaresDescend.j4
   repeat' first
   | (with_reducible exact ih0 _ _ _ _ _ _)
   | (with_reducible exact ih1 _ _ _ _ _ _ _ _)
   | (with_reducible exact ih2 _ _ _ _ _ _)
   | (with_reducible exact ih3 _ _ _ _)
   | (with_reducible exact ih4 _ _ _)
   | (with_reducible exact ih5 _ _ _ _ _)
   | (with_reducible exact impl_AllTwoSquares.mono _ _)
   | (with_reducible exact impl_IsPrimeNumber.mono _ _)
   | (with_reducible exact impl_RootOfMinusOne.mono _ _)
   | (with_reducible exact impl_TwoDescent.mono _ _)
   | (with_reducible exact impl_TwoSquares.mono _ _)
   | (with_reducible exact laws_vSame.mono _ _ _)
   | (with_reducible exact laws_vSameLists.mono _ _ _)
   | (with_reducible exact spec_DrawTwoDescent.mono _ _)
   | (with_reducible exact spec_IsPrimeNumber.mono _ _)
   | (with_reducible exact spec_RootOfMinusOne.mono _ _)
   | (with_reducible exact spec_TwoDescent.mono _ _)
   | (with_reducible exact LeO.refl _)
   | (with_reducible exact LeO.none _)
   | (with_reducible refine LeO.ite ?_ ?_)
   | (with_reducible refine LeO.bind ?_ (fun _ => ?_))
   | exact ih0 _ _ _ _ _ _
   | exact ih1 _ _ _ _ _ _ _ _
   | exact ih2 _ _ _ _ _ _
   | exact ih3 _ _ _ _
   | exact ih4 _ _ _
   | exact ih5 _ _ _ _ _
   | exact impl_AllTwoSquares.mono _ _
   | exact impl_IsPrimeNumber.mono _ _
   | exact impl_RootOfMinusOne.mono _ _
   | exact impl_TwoDescent.mono _ _
   | exact impl_TwoSquares.mono _ _
   | exact laws_vSame.mono _ _ _
   | exact laws_vSameLists.mono _ _ _
   | exact spec_DrawTwoDescent.mono _ _
   | exact spec_IsPrimeNumber.mono _ _
   | exact spec_RootOfMinusOne.mono _ _
   | exact spec_TwoDescent.mono _ _
   | exact LeO.none _
   | refine LeO.ite ?_ ?_
   | refine LeO.bind ?_ (fun _ => ?_)
  ·
   intro y0 y1 y2 y3 y4
   unfold laws_FnTwoSquaresDescend.l0
   repeat' first
   | (with_reducible exact ih0 _ _ _ _ _ _)
   | (with_reducible exact ih1 _ _ _ _ _ _ _ _)
   | (with_reducible exact ih2 _ _ _ _ _ _)
   | (with_reducible exact ih3 _ _ _ _)
   | (with_reducible exact ih4 _ _ _)
   | (with_reducible exact ih5 _ _ _ _ _)
   | (with_reducible exact impl_AllTwoSquares.mono _ _)
   | (with_reducible exact impl_IsPrimeNumber.mono _ _)
   | (with_reducible exact impl_RootOfMinusOne.mono _ _)
   | (with_reducible exact impl_TwoDescent.mono _ _)
   | (with_reducible exact impl_TwoSquares.mono _ _)
   | (with_reducible exact laws_vSame.mono _ _ _)
   | (with_reducible exact laws_vSameLists.mono _ _ _)
   | (with_reducible exact spec_DrawTwoDescent.mono _ _)
   | (with_reducible exact spec_IsPrimeNumber.mono _ _)
   | (with_reducible exact spec_RootOfMinusOne.mono _ _)
   | (with_reducible exact spec_TwoDescent.mono _ _)
   | (with_reducible exact LeO.refl _)
   | (with_reducible exact LeO.none _)
   | (with_reducible refine LeO.ite ?_ ?_)
   | (with_reducible refine LeO.bind ?_ (fun _ => ?_))
   | exact ih0 _ _ _ _ _ _
   | exact ih1 _ _ _ _ _ _ _ _
   | exact ih2 _ _ _ _ _ _
   | exact ih3 _ _ _ _
   | exact ih4 _ _ _
   | exact ih5 _ _ _ _ _
   | exact impl_AllTwoSquares.mono _ _
   | exact impl_IsPrimeNumber.mono _ _
   | exact impl_RootOfMinusOne.mono _ _
   | exact impl_TwoDescent.mono _ _
   | exact impl_TwoSquares.mono _ _
   | exact laws_vSame.mono _ _ _
   | exact laws_vSameLists.mono _ _ _
   | exact spec_DrawTwoDescent.mono _ _
   | exact spec_IsPrimeNumber.mono _ _
   | exact spec_RootOfMinusOne.mono _ _
   | exact spec_TwoDescent.mono _ _
   | exact LeO.none _
   | refine LeO.ite ?_ ?_
   | refine LeO.bind ?_ (fun _ => ?_)
theorem laws_FnTwoSquaresDescend.mono : ∀ a0 a1 k, LeO (laws_FnTwoSquaresDescend.f k a0 a1) (laws_FnTwoSquaresDescend.f (k + 1) a0 a1) := by
 intro a0 a1 k
 obtain ⟨ih0, ih1, ih2, ih3, ih4, ih5⟩ := laws_FnTwoSquaresDescend.mono_l k
 unfold laws_FnTwoSquaresDescend.f
 repeat' first
  | (with_reducible exact ih0 _ _ _ _ _ _)
  | (with_reducible exact ih1 _ _ _ _ _ _ _ _)
  | (with_reducible exact ih2 _ _ _ _ _ _)
  | (with_reducible exact ih3 _ _ _ _)
  | (with_reducible exact ih4 _ _ _)
  | (with_reducible exact ih5 _ _ _ _ _)
  | (with_reducible exact impl_AllTwoSquares.mono _ _)
  | (with_reducible exact impl_IsPrimeNumber.mono _ _)
  | (with_reducible exact impl_RootOfMinusOne.mono _ _)
  | (with_reducible exact impl_TwoDescent.mono _ _)
  | (with_reducible exact impl_TwoSquares.mono _ _)
  | (with_reducible exact laws_vSame.mono _ _ _)
  | (with_reducible exact laws_vSameLists.mono _ _ _)
  | (with_reducible exact spec_DrawTwoDescent.mono _ _)
  | (with_reducible exact spec_IsPrimeNumber.mono _ _)
  | (with_reducible exact spec_RootOfMinusOne.mono _ _)
  | (with_reducible exact spec_TwoDescent.mono _ _)
  | (with_reducible exact LeO.refl _)
  | (with_reducible exact LeO.none _)
  | (with_reducible refine LeO.ite ?_ ?_)
  | (with_reducible refine LeO.bind ?_ (fun _ => ?_))
  | exact ih0 _ _ _ _ _ _
  | exact ih1 _ _ _ _ _ _ _ _
  | exact ih2 _ _ _ _ _ _
  | exact ih3 _ _ _ _
  | exact ih4 _ _ _
  | exact ih5 _ _ _ _ _
  | exact impl_AllTwoSquares.mono _ _
  | exact impl_IsPrimeNumber.mono _ _
  | exact impl_RootOfMinusOne.mono _ _
  | exact impl_TwoDescent.mono _ _
  | exact impl_TwoSquares.mono _ _
  | exact laws_vSame.mono _ _ _
  | exact laws_vSameLists.mono _ _ _
  | exact spec_DrawTwoDescent.mono _ _
  | exact spec_IsPrimeNumber.mono _ _
  | exact spec_RootOfMinusOne.mono _ _
  | exact spec_TwoDescent.mono _ _
  | exact LeO.none _
  | refine LeO.ite ?_ ?_
  | refine LeO.bind ?_ (fun _ => ?_)
theorem laws_FnTwoSquaresDescend.j0_no : ∀ {k y0 y1 y2 y3 y4}, laws_FnTwoSquaresDescend.j0 k y0 y1 y2 y3 y4 true = some true → False := by
 intro k y0 y1 y2 y3 y4 h
 cases k <;> simp [laws_FnTwoSquaresDescend.j0] at h
theorem laws_FnTwoSquaresDescend.j1_no : ∀ {k y0 y1 y2 y3 y4 y5 y6}, laws_FnTwoSquaresDescend.j1 k y0 y1 y2 y3 y4 y5 y6 true = some true → False := by
 intro k y0 y1 y2 y3 y4 y5 y6 h
 cases k <;> simp [laws_FnTwoSquaresDescend.j1] at h
theorem laws_FnTwoSquaresDescend.j4_no : ∀ {k y0 y1}, laws_FnTwoSquaresDescend.j4 k y0 y1 true = some true → False := by
 intro k y0 y1 h
 cases k <;> simp [laws_FnTwoSquaresDescend.j4] at h
set_option maxHeartbeats 8000000 in
set_option maxRecDepth 100000 in
theorem laws_FnTwoSquaresDescend.calls (k : Nat) (A0 : Option Addr) (c0 : Nat) (l0 : List Int) (A1 : Option Addr) (c1 : Nat) (l1 : List Int) (r : Bool) (w : World) (hr0 : Kd.C (Kd.int .u8) w A0 l0.length l0) (hc0 : l0.length ≤ c0) (hr1 : Kd.C (Kd.int .u8) w A1 l1.length l1) (hc1 : l1.length ≤ c1) (h : laws_FnTwoSquaresDescend.f k l0 l1 = some r) (hrT : r = true) :
 Calls Try.prog 4 #[.slice A0 l0.length c0, .slice A1 l1.length c1] w fun e w' => e = .returned (.bool r) ∧ Below w.heap.size w w' := by
 have HR0 := Aside0.mk hr0
 have HC0 := Aside0.mk hc0
 clear hr0 hc0
 have HR1 := Aside0.mk hr1
 have HC1 := Aside0.mk hc1
 clear hr1 hc1
 have HB := Aside0.mk (Below.refl w.heap.size w)
 have H : ((laws_big.f l0 l1).bind fun t214 => (if t214 = true then (some true) else ((spec_DrawTwoDescent.f k l0).bind fun t215 => ((impl_TwoDescent.f k t215).bind fun bt216 => ((spec_TwoDescent.f k t215).bind fun bt220 => ((impl_RootOfMinusOne.f k t215).bind fun bt224 => ((spec_RootOfMinusOne.f k t215).bind fun bt226 => (if (bt216.2 != bt220.2) = true then (laws_FnTwoSquaresDescend.j0 k l1 t215 bt216.1 bt220.2 bt224.1 true) else ((laws_vSameLists.f k bt216.1 bt220.1).bind fun t228 => (if t228 = true then (if (bt224.2 != bt226.2) = true then (laws_FnTwoSquaresDescend.j0 k l1 t215 bt216.1 bt220.2 bt224.1 true) else (if bt224.1 = bt226.1 then (laws_FnTwoSquaresDescend.j0 k l1 t215 bt216.1 bt220.2 bt224.1 (bt224.2 != bt216.2)) else (laws_FnTwoSquaresDescend.j0 k l1 t215 bt216.1 bt220.2 bt224.1 true))) else (laws_FnTwoSquaresDescend.j0 k l1 t215 bt216.1 bt220.2 bt224.1 true))))))))))) = some r := h
 clear h
 replace H := Option.bind_eq_some_iff.mp H
 obtain ⟨t214, A30, H⟩ := H
 replace H : (if t214 = true then (some true) else ((spec_DrawTwoDescent.f k l0).bind fun t215 => ((impl_TwoDescent.f k t215).bind fun bt216 => ((spec_TwoDescent.f k t215).bind fun bt220 => ((impl_RootOfMinusOne.f k t215).bind fun bt224 => ((spec_RootOfMinusOne.f k t215).bind fun bt226 => (if (bt216.2 != bt220.2) = true then (laws_FnTwoSquaresDescend.j0 k l1 t215 bt216.1 bt220.2 bt224.1 true) else ((laws_vSameLists.f k bt216.1 bt220.1).bind fun t228 => (if t228 = true then (if (bt224.2 != bt226.2) = true then (laws_FnTwoSquaresDescend.j0 k l1 t215 bt216.1 bt220.2 bt224.1 true) else (if bt224.1 = bt226.1 then (laws_FnTwoSquaresDescend.j0 k l1 t215 bt216.1 bt220.2 bt224.1 (bt224.2 != bt216.2)) else (laws_FnTwoSquaresDescend.j0 k l1 t215 bt216.1 bt220.2 bt224.1 true))) else (laws_FnTwoSquaresDescend.j0 k l1 t215 bt216.1 bt220.2 bt224.1 true)))))))))) = some r := H
 have A3 := Aside0.mk A30
 clear A30
 by_cases c4 : t214 = true
 ·
  subst c4
  have H1 : (some true) = some r := by rw [if_pos rfl] at H; exact H
  clear H
  have H := H1
  clear H1
  obtain rfl := Option.some.inj H
  go_enter Try.func4, Try.ntmps4
  go_wp2_with (first | (go_at_call 13; (with_reducible refine (laws_big.calls _ _ l0 _ _ l1 true _ ?side1 ?side2 ?side3 ?side4 A3.out).mono ?_); (case side1 => repeat (first | exact HR0.out | (with_reducible refine Kd.C_alloc ?_ _) | (with_reducible refine Kd.C_drewN ?_ _) | (with_reducible refine Kd.C_drew ?_))); (case side2 => exact HC0.out); (case side3 => repeat (first | exact HR1.out | (with_reducible refine Kd.C_alloc ?_ _) | (with_reducible refine Kd.C_drewN ?_ _) | (with_reducible refine Kd.C_drew ?_))); (case side4 => exact HC1.out); rintro e w' ⟨rfl, ⟨nd, rfl⟩⟩; (try first | exact ⟨rfl, _, World.drewN_drewN _ _ _⟩ | exact ⟨rfl, _, Eq.trans (World.drewN_drewN _ _ _) (congrArg (World.drewN _) (Nat.add_assoc _ _ _))⟩)))
  repeat (go_quiet (first | (go_at_call 13; (with_reducible refine (laws_big.calls _ _ l0 _ _ l1 true _ ?side1 ?side2 ?side3 ?side4 A3.out).mono ?_); (case side1 => repeat (first | exact HR0.out | (with_reducible refine Kd.C_alloc ?_ _) | (with_reducible refine Kd.C_drewN ?_ _) | (with_reducible refine Kd.C_drew ?_))); (case side2 => exact HC0.out); (case side3 => repeat (first | exact HR1.out | (with_reducible refine Kd.C_alloc ?_ _) | (with_reducible refine Kd.C_drewN ?_ _) | (with_reducible refine Kd.C_drew ?_))); (case side4 => exact HC1.out); rintro e w' ⟨rfl, ⟨nd, rfl⟩⟩; (try first | exact ⟨rfl, _, World.drewN_drewN _ _ _⟩ | exact ⟨rfl, _, Eq.trans (World.drewN_drewN _ _ _) (congrArg (World.drewN _) (Nat.add_assoc _ _ _))⟩))); try go_wp2_with (first | (go_at_call 13; (with_reducible refine (laws_big.calls _ _ l0 _ _ l1 true _ ?side1 ?side2 ?side3 ?side4 A3.out).mono ?_); (case side1 => repeat (first | exact HR0.out | (with_reducible refine Kd.C_alloc ?_ _) | (with_reducible refine Kd.C_drewN ?_ _) | (with_reducible refine Kd.C_drew ?_))); (case side2 => exact HC0.out); (case side3 => repeat (first | exact HR1.out | (with_reducible refine Kd.C_alloc ?_ _) | (with_reducible refine Kd.C_drewN ?_ _) | (with_reducible refine Kd.C_drew ?_))); (case side4 => exact HC1.out); rintro e w' ⟨rfl, ⟨nd, rfl⟩⟩; (try first | exact ⟨rfl, _, World.drewN_drewN _ _ _⟩ | exact ⟨rfl, _, Eq.trans (World.drewN_drewN _ _ _) (congrArg (World.drewN _) (Nat.add_assoc _ _ _))⟩))))
  go_ret
  exact ⟨by first | rfl | (simp [errW_none, errW_some] <;> rfl) | (simp [*, errW_none, errW_some] <;> rfl), by repeat (first | (with_reducible first | exact HB.out | apply below_alloc | apply pw_below_drewN | apply below_drew1) | exact HB.out | exact Below.refl _ _)⟩
 ·
  replace c4 := Bool.eq_false_iff.mpr c4
  subst c4
  have H1 : ((spec_DrawTwoDescent.f k l0).bind fun t215 => ((impl_TwoDescent.f k t215).bind fun bt216 => ((spec_TwoDescent.f k t215).bind fun bt220 => ((impl_RootOfMinusOne.f k t215).bind fun bt224 => ((spec_RootOfMinusOne.f k t215).bind fun bt226 => (if (bt216.2 != bt220.2) = true then (laws_FnTwoSquaresDescend.j0 k l1 t215 bt216.1 bt220.2 bt224.1 true) else ((laws_vSameLists.f k bt216.1 bt220.1).bind fun t228 => (if t228 = true then (if (bt224.2 != bt226.2) = true then (laws_FnTwoSquaresDescend.j0 k l1 t215 bt216.1 bt220.2 bt224.1 true) else (if bt224.1 = bt226.1 then (laws_FnTwoSquaresDescend.j0 k l1 t215 bt216.1 bt220.2 bt224.1 (bt224.2 != bt216.2)) else (laws_FnTwoSquaresDescend.j0 k l1 t215 bt216.1 bt220.2 bt224.1 true))) else (laws_FnTwoSquaresDescend.j0 k l1 t215 bt216.1 bt220.2 bt224.1 true))))))))) = some r := by rw [if_neg (show ¬ (false = true) by decide)] at H; exact H
  clear H
  have H := H1
  clear H1
  replace H := Option.bind_eq_some_iff.mp H
  obtain ⟨t215, A50, H⟩ := H
  replace H : ((impl_TwoDescent.f k t215).bind fun bt216 => ((spec_TwoDescent.f k t215).bind fun bt220 => ((impl_RootOfMinusOne.f k t215).bind fun bt224 => ((spec_RootOfMinusOne.f k t215).bind fun bt226 => (if (bt216.2 != bt220.2) = true then (laws_FnTwoSquaresDescend.j0 k l1 t215 bt216.1 bt220.2 bt224.1 true) else ((laws_vSameLists.f k bt216.1 bt220.1).bind fun t228 => (if t228 = true then (if (bt224.2 != bt226.2) = true then (laws_FnTwoSquaresDescend.j0 k l1 t215 bt216.1 bt220.2 bt224.1 true) else (if bt224.1 = bt226.1 then (laws_FnTwoSquaresDescend.j0 k l1 t215 bt216.1 bt220.2 bt224.1 (bt224.2 != bt216.2)) else (laws_FnTwoSquaresDescend.j0 k l1 t215 bt216.1 bt220.2 bt224.1 true))) else (laws_FnTwoSquaresDescend.j0 k l1 t215 bt216.1 bt220.2 bt224.1 true)))))))) = some r := H
  have A5 := Aside0.mk A50
  clear A50
  replace H := Option.bind_eq_some_iff.mp H
  obtain ⟨⟨t216, t217⟩, A60, H⟩ := H
  replace H : ((spec_TwoDescent.f k t215).bind fun bt220 => ((impl_RootOfMinusOne.f k t215).bind fun bt224 => ((spec_RootOfMinusOne.f k t215).bind fun bt226 => (if (t217 != bt220.2) = true then (laws_FnTwoSquaresDescend.j0 k l1 t215 t216 bt220.2 bt224.1 true) else ((laws_vSameLists.f k t216 bt220.1).bind fun t228 => (if t228 = true then (if (bt224.2 != bt226.2) = true then (laws_FnTwoSquaresDescend.j0 k l1 t215 t216 bt220.2 bt224.1 true) else (if bt224.1 = bt226.1 then (laws_FnTwoSquaresDescend.j0 k l1 t215 t216 bt220.2 bt224.1 (bt224.2 != t217)) else (laws_FnTwoSquaresDescend.j0 k l1 t215 t216 bt220.2 bt224.1 true))) else (laws_FnTwoSquaresDescend.j0 k l1 t215 t216 bt220.2 bt224.1 true))))))) = some r := H
  have A6 := Aside0.mk A60
  clear A60
  replace H := Option.bind_eq_some_iff.mp H
  obtain ⟨⟨t220, t223⟩, A70, H⟩ := H
  replace H : ((impl_RootOfMinusOne.f k t215).bind fun bt224 => ((spec_RootOfMinusOne.f k t215).bind fun bt226 => (if (t217 != t223) = true then (laws_FnTwoSquaresDescend.j0 k l1 t215 t216 t223 bt224.1 true) else ((laws_vSameLists.f k t216 t220).bind fun t228 => (if t228 = true then (if (bt224.2 != bt226.2) = true then (laws_FnTwoSquaresDescend.j0 k l1 t215 t216 t223 bt224.1 true) else (if bt224.1 = bt226.1 then (laws_FnTwoSquaresDescend.j0 k l1 t215 t216 t223 bt224.1 (bt224.2 != t217)) else (laws_FnTwoSquaresDescend.j0 k l1 t215 t216 t223 bt224.1 true))) else (laws_FnTwoSquaresDescend.j0 k l1 t215 t216 t223 bt224.1 true)))))) = some r := H
  have A7 := Aside0.mk A70
  clear A70
  replace H := Option.bind_eq_some_iff.mp H
  obtain ⟨⟨t224, t225⟩, A80, H⟩ := H
  replace H : ((spec_RootOfMinusOne.f k t215).bind fun bt226 => (if (t217 != t223) = true then (laws_FnTwoSquaresDescend.j0 k l1 t215 t216 t223 t224 true) else ((laws_vSameLists.f k t216 t220).bind fun t228 => (if t228 = true then (if (t225 != bt226.2) = true then (laws_FnTwoSquaresDescend.j0 k l1 t215 t216 t223 t224 true) else (if t224 = bt226.1 then (laws_FnTwoSquaresDescend.j0 k l1 t215 t216 t223 t224 (t225 != t217)) else (laws_FnTwoSquaresDescend.j0 k l1 t215 t216 t223 t224 true))) else (laws_FnTwoSquaresDescend.j0 k l1 t215 t216 t223 t224 true))))) = some r := H
  have A8 := Aside0.mk A80
  clear A80
  replace H := Option.bind_eq_some_iff.mp H
  obtain ⟨⟨t226, t227⟩, A90, H⟩ := H
  replace H : (if (t217 != t223) = true then (laws_FnTwoSquaresDescend.j0 k l1 t215 t216 t223 t224 true) else ((laws_vSameLists.f k t216 t220).bind fun t228 => (if t228 = true then (if (t225 != t227) = true then (laws_FnTwoSquaresDescend.j0 k l1 t215 t216 t223 t224 true) else (if t224 = t226 then (laws_FnTwoSquaresDescend.j0 k l1 t215 t216 t223 t224 (t225 != t217)) else (laws_FnTwoSquaresDescend.j0 k l1 t215 t216 t223 t224 true))) else (laws_FnTwoSquaresDescend.j0 k l1 t215 t216 t223 t224 true)))) = some r := H
  have A9 := Aside0.mk A90
  clear A90
  have HC10 := Aside0.mk H
  clear H
  go_enter Try.func4, Try.ntmps4
  go_upto_region 8 with (first | (go_at_call 13; (with_reducible refine (laws_big.calls _ _ l0 _ _ l1 false _ ?side1 ?side2 ?side3 ?side4 A3.out).mono ?_); (case side1 => repeat (first | exact HR0.out | (with_reducible refine Kd.C_alloc ?_ _) | (with_reducible refine Kd.C_drewN ?_ _) | (with_reducible refine Kd.C_drew ?_))); (case side2 => exact HC0.out); (case side3 => repeat (first | exact HR1.out | (with_reducible refine Kd.C_alloc ?_ _) | (with_reducible refine Kd.C_drewN ?_ _) | (with_reducible refine Kd.C_drew ?_))); (case side4 => exact HC1.out); rintro e w' ⟨rfl, ⟨nd, rfl⟩⟩; (try first | exact ⟨rfl, _, World.drewN_drewN _ _ _⟩ | exact ⟨rfl, _, Eq.trans (World.drewN_drewN _ _ _) (congrArg (World.drewN _) (Nat.add_assoc _ _ _))⟩)) | (go_at_call 14; (with_reducible refine (spec_DrawTwoDescent.calls k _ _ l0 t215 _ ?side1 ?side2 A5.out).mono ?_); (case side1 => repeat (first | exact HR0.out | (with_reducible refine Kd.C_alloc ?_ _) | (with_reducible refine Kd.C_drewN ?_ _) | (with_reducible refine Kd.C_drew ?_))); (case side2 => exact HC0.out); rintro e w11 ⟨rfl, hb⟩; have n0_ := Aside0.mk (below_step (by repeat (first | (with_reducible first | exact HB.out | apply below_alloc | apply pw_below_drewN | apply below_drew1) | exact HB.out | exact Below.refl _ _)) hb); clear HB; have HB := n0_; clear n0_; (try clear hb); (try clear hb2); (try clear hk); (try clear hi)) | (go_at_call 15; (with_reducible refine (impl_TwoDescent.calls k t215 t216 t217 _ A6.out).mono ?_); rintro e w12 ⟨v218, rfl, ho0, hb⟩; have n0_ := Aside0.mk (Kd.N_lower (Kd.N_mono (ok' := fun k_ => True) (Kd.S_N (Kd.S_bound ho0)) (fun k_ hk_ => trivial)) (below_size (by repeat (first | (with_reducible first | exact HB.out | apply below_alloc | apply pw_below_drewN | apply below_drew1) | exact HB.out | exact Below.refl _ _)))); have n1_ := Aside0.mk (below_step (by repeat (first | (with_reducible first | exact HB.out | apply below_alloc | apply pw_below_drewN | apply below_drew1) | exact HB.out | exact Below.refl _ _)) hb); clear HB; have HO219 := n0_; have HB := n1_; clear n0_ n1_; (try clear hb); (try clear hb2); (try clear hk); (try clear hi); (try clear ho0)) | (go_at_call 16; (with_reducible refine (spec_TwoDescent.calls k t215 t220 t223 _ A7.out).mono ?_); rintro e w13 ⟨v221, rfl, ho0, hb⟩; have n0_ := Aside0.mk (Kd.N_elder' (by (with_reducible repeat (first | apply Kd.N_alloc | apply Kd.N_drewN | apply Kd.N_drew)); exact HO219.out) (Kd.N_base ho0) hb); have n1_ := Aside0.mk (Kd.N_lower (Kd.N_mono (ok' := fun k_ => some k_ ≠ (v218 : Value).ownBlock) ho0 (fun k_ hk_ => (Kd.fresh' (Kd.N_lt (by (with_reducible repeat (first | apply Kd.N_alloc | apply Kd.N_drewN | apply Kd.N_drew)); exact HO219.out)) k_ hk_))) (below_size (by repeat (first | (with_reducible first | exact HB.out | apply below_alloc | apply pw_below_drewN | apply below_drew1) | exact HB.out | exact Below.refl _ _)))); have n2_ := Aside0.mk (below_step (by repeat (first | (with_reducible first | exact HB.out | apply below_alloc | apply pw_below_drewN | apply below_drew1) | exact HB.out | exact Below.refl _ _)) hb); clear HO219; clear HB; have HO219 := n0_; have HO222 := n1_; have HB := n2_; clear n0_ n1_ n2_; (try clear hb); (try clear hb2); (try clear hk); (try clear hi); (try clear ho0)) | (go_at_call 17; (with_reducible refine (impl_RootOfMinusOne.calls k t215 t224 t225 _ A8.out).mono ?_); rintro e w' ⟨rfl, ⟨nd, rfl⟩⟩; (try first | exact ⟨rfl, _, World.drewN_drewN _ _ _⟩ | exact ⟨rfl, _, Eq.trans (World.drewN_drewN _ _ _) (congrArg (World.drewN _) (Nat.add_assoc _ _ _))⟩)) | (go_at_call 18; (with_reducible refine (spec_RootOfMinusOne.calls k t215 t226 t227 _ A9.out).mono ?_); rintro e w' ⟨rfl, ⟨nd, rfl⟩⟩; (try first | exact ⟨rfl, _, World.drewN_drewN _ _ _⟩ | exact ⟨rfl, _, Eq.trans (World.drewN_drewN _ _ _) (congrArg (World.drewN _) (Nat.add_assoc _ _ _))⟩)))
  repeat (go_quiet (first | (go_at_call 13; (with_reducible refine (laws_big.calls _ _ l0 _ _ l1 false _ ?side1 ?side2 ?side3 ?side4 A3.out).mono ?_); (case side1 => repeat (first | exact HR0.out | (with_reducible refine Kd.C_alloc ?_ _) | (with_reducible refine Kd.C_drewN ?_ _) | (with_reducible refine Kd.C_drew ?_))); (case side2 => exact HC0.out); (case side3 => repeat (first | exact HR1.out | (with_reducible refine Kd.C_alloc ?_ _) | (with_reducible refine Kd.C_drewN ?_ _) | (with_reducible refine Kd.C_drew ?_))); (case side4 => exact HC1.out); rintro e w' ⟨rfl, ⟨nd, rfl⟩⟩; (try first | exact ⟨rfl, _, World.drewN_drewN _ _ _⟩ | exact ⟨rfl, _, Eq.trans (World.drewN_drewN _ _ _) (congrArg (World.drewN _) (Nat.add_assoc _ _ _))⟩)) | (go_at_call 14; (with_reducible refine (spec_DrawTwoDescent.calls k _ _ l0 t215 _ ?side1 ?side2 A5.out).mono ?_); (case side1 => repeat (first | exact HR0.out | (with_reducible refine Kd.C_alloc ?_ _) | (with_reducible refine Kd.C_drewN ?_ _) | (with_reducible refine Kd.C_drew ?_))); (case side2 => exact HC0.out); rintro e w11 ⟨rfl, hb⟩; have n0_ := Aside0.mk (below_step (by repeat (first | (with_reducible first | exact HB.out | apply below_alloc | apply pw_below_drewN | apply below_drew1) | exact HB.out | exact Below.refl _ _)) hb); clear HB; have HB := n0_; clear n0_; (try clear hb); (try clear hb2); (try clear hk); (try clear hi)) | (go_at_call 15; (with_reducible refine (impl_TwoDescent.calls k t215 t216 t217 _ A6.out).mono ?_); rintro e w12 ⟨v218, rfl, ho0, hb⟩; have n0_ := Aside0.mk (Kd.N_lower (Kd.N_mono (ok' := fun k_ => True) (Kd.S_N (Kd.S_bound ho0)) (fun k_ hk_ => trivial)) (below_size (by repeat (first | (with_reducible first | exact HB.out | apply below_alloc | apply pw_below_drewN | apply below_drew1) | exact HB.out | exact Below.refl _ _)))); have n1_ := Aside0.mk (below_step (by repeat (first | (with_reducible first | exact HB.out | apply below_alloc | apply pw_below_drewN | apply below_drew1) | exact HB.out | exact Below.refl _ _)) hb); clear HB; have HO219 := n0_; have HB := n1_; clear n0_ n1_; (try clear hb); (try clear hb2); (try clear hk); (try clear hi); (try clear ho0)) | (go_at_call 16; (with_reducible refine (spec_TwoDescent.calls k t215 t220 t223 _ A7.out).mono ?_); rintro e w13 ⟨v221, rfl, ho0, hb⟩; have n0_ := Aside0.mk (Kd.N_elder' (by (with_reducible repeat (first | apply Kd.N_alloc | apply Kd.N_drewN | apply Kd.N_drew)); exact HO219.out) (Kd.N_base ho0) hb); have n1_ := Aside0.mk (Kd.N_lower (Kd.N_mono (ok' := fun k_ => some k_ ≠ (v218 : Value).ownBlock) ho0 (fun k_ hk_ => (Kd.fresh' (Kd.N_lt (by (with_reducible repeat (first | apply Kd.N_alloc | apply Kd.N_drewN | apply Kd.N_drew)); exact HO219.out)) k_ hk_))) (below_size (by repeat (first | (with_reducible first | exact HB.out | apply below_alloc | apply pw_below_drewN | apply below_drew1) | exact HB.out | exact Below.refl _ _)))); have n2_ := Aside0.mk (below_step (by repeat (first | (with_reducible first | exact HB.out | apply below_alloc | apply pw_below_drewN | apply below_drew1) | exact HB.out | exact Below.refl _ _)) hb); clear HO219; clear HB; have HO219 := n0_; have HO222 := n1_; have HB := n2_; clear n0_ n1_ n2_; (try clear hb); (try clear hb2); (try clear hk); (try clear hi); (try clear ho0)) | (go_at_call 17; (with_reducible refine (impl_RootOfMinusOne.calls k t215 t224 t225 _ A8.out).mono ?_); rintro e w' ⟨rfl, ⟨nd, rfl⟩⟩; (try first | exact ⟨rfl, _, World.drewN_drewN _ _ _⟩ | exact ⟨rfl, _, Eq.trans (World.drewN_drewN _ _ _) (congrArg (World.drewN _) (Nat.add_assoc _ _ _))⟩)) | (go_at_call 18; (with_reducible refine (spec_RootOfMinusOne.calls k t215 t226 t227 _ A9.out).mono ?_); rintro e w' ⟨rfl, ⟨nd, rfl⟩⟩; (try first | exact ⟨rfl, _, World.drewN_drewN _ _ _⟩ | exact ⟨rfl, _, Eq.trans (World.drewN_drewN _ _ _) (congrArg (World.drewN _) (Nat.add_assoc _ _ _))⟩))); go_upto_region 8 with (first | (go_at_call 13; (with_reducible refine (laws_big.calls _ _ l0 _ _ l1 false _ ?side1 ?side2 ?side3 ?side4 A3.out).mono ?_); (case side1 => repeat (first | exact HR0.out | (with_reducible refine Kd.C_alloc ?_ _) | (with_reducible refine Kd.C_drewN ?_ _) | (with_reducible refine Kd.C_drew ?_))); (case side2 => exact HC0.out); (case side3 => repeat (first | exact HR1.out | (with_reducible refine Kd.C_alloc ?_ _) | (with_reducible refine Kd.C_drewN ?_ _) | (with_reducible refine Kd.C_drew ?_))); (case side4 => exact HC1.out); rintro e w' ⟨rfl, ⟨nd, rfl⟩⟩; (try first | exact ⟨rfl, _, World.drewN_drewN _ _ _⟩ | exact ⟨rfl, _, Eq.trans (World.drewN_drewN _ _ _) (congrArg (World.drewN _) (Nat.add_assoc _ _ _))⟩)) | (go_at_call 14; (with_reducible refine (spec_DrawTwoDescent.calls k _ _ l0 t215 _ ?side1 ?side2 A5.out).mono ?_); (case side1 => repeat (first | exact HR0.out | (with_reducible refine Kd.C_alloc ?_ _) | (with_reducible refine Kd.C_drewN ?_ _) | (with_reducible refine Kd.C_drew ?_))); (case side2 => exact HC0.out); rintro e w11 ⟨rfl, hb⟩; have n0_ := Aside0.mk (below_step (by repeat (first | (with_reducible first | exact HB.out | apply below_alloc | apply pw_below_drewN | apply below_drew1) | exact HB.out | exact Below.refl _ _)) hb); clear HB; have HB := n0_; clear n0_; (try clear hb); (try clear hb2); (try clear hk); (try clear hi)) | (go_at_call 15; (with_reducible refine (impl_TwoDescent.calls k t215 t216 t217 _ A6.out).mono ?_); rintro e w12 ⟨v218, rfl, ho0, hb⟩; have n0_ := Aside0.mk (Kd.N_lower (Kd.N_mono (ok' := fun k_ => True) (Kd.S_N (Kd.S_bound ho0)) (fun k_ hk_ => trivial)) (below_size (by repeat (first | (with_reducible first | exact HB.out | apply below_alloc | apply pw_below_drewN | apply below_drew1) | exact HB.out | exact Below.refl _ _)))); have n1_ := Aside0.mk (below_step (by repeat (first | (with_reducible first | exact HB.out | apply below_alloc | apply pw_below_drewN | apply below_drew1) | exact HB.out | exact Below.refl _ _)) hb); clear HB; have HO219 := n0_; have HB := n1_; clear n0_ n1_; (try clear hb); (try clear hb2); (try clear hk); (try clear hi); (try clear ho0)) | (go_at_call 16; (with_reducible refine (spec_TwoDescent.calls k t215 t220 t223 _ A7.out).mono ?_); rintro e w13 ⟨v221, rfl, ho0, hb⟩; have n0_ := Aside0.mk (Kd.N_elder' (by (with_reducible repeat (first | apply Kd.N_alloc | apply Kd.N_drewN | apply Kd.N_drew)); exact HO219.out) (Kd.N_base ho0) hb); have n1_ := Aside0.mk (Kd.N_lower (Kd.N_mono (ok' := fun k_ => some k_ ≠ (v218 : Value).ownBlock) ho0 (fun k_ hk_ => (Kd.fresh' (Kd.N_lt (by (with_reducible repeat (first | apply Kd.N_alloc | apply Kd.N_drewN | apply Kd.N_drew)); exact HO219.out)) k_ hk_))) (below_size (by repeat (first | (with_reducible first | exact HB.out | apply below_alloc | apply pw_below_drewN | apply below_drew1) | exact HB.out | exact Below.refl _ _)))); have n2_ := Aside0.mk (below_step (by repeat (first | (with_reducible first | exact HB.out | apply below_alloc | apply pw_below_drewN | apply below_drew1) | exact HB.out | exact Below.refl _ _)) hb); clear HO219; clear HB; have HO219 := n0_; have HO222 := n1_; have HB := n2_; clear n0_ n1_ n2_; (try clear hb); (try clear hb2); (try clear hk); (try clear hi); (try clear ho0)) | (go_at_call 17; (with_reducible refine (impl_RootOfMinusOne.calls k t215 t224 t225 _ A8.out).mono ?_); rintro e w' ⟨rfl, ⟨nd, rfl⟩⟩; (try first | exact ⟨rfl, _, World.drewN_drewN _ _ _⟩ | exact ⟨rfl, _, Eq.trans (World.drewN_drewN _ _ _) (congrArg (World.drewN _) (Nat.add_assoc _ _ _))⟩)) | (go_at_call 18; (with_reducible refine (spec_RootOfMinusOne.calls k t215 t226 t227 _ A9.out).mono ?_); rintro e w' ⟨rfl, ⟨nd, rfl⟩⟩; (try first | exact ⟨rfl, _, World.drewN_drewN _ _ _⟩ | exact ⟨rfl, _, Eq.trans (World.drewN_drewN _ _ _) (congrArg (World.drewN _) (Nat.add_assoc _ _ _))⟩))))
  (try simp only [Act.put, List.setIfInBounds_toArray, List.set_cons_zero, List.set_cons_succ])
  go_cut [78] (fun v78 wc => ∃ (kq : Nat) (x78_9 : Bool), v78 = .bool x78_9 ∧ Aside0 (laws_FnTwoSquaresDescend.j0 kq l1 t215 t216 t223 t224 x78_9 = some r) ∧ Aside0 (kq ≤ k) ∧ Aside0 (Kd.N (Kd.slice 3 (Kd.int .i64)) 35 wc w.heap.size (fun _ => True) v218 t216) ∧ Aside0 (Below w.heap.size w wc))
  case first =>
   as_aux_lemma =>
    have H := HC10.out
    clear HC10
    by_cases c14 : (t217 != t223) = true
    ·
     rw [if_pos c14] at H
     exact absurd (H.trans (congrArg some hrT)) (fun h_ => laws_FnTwoSquaresDescend.j0_no h_)
    ·
     rw [if_neg c14] at H
     have c14b0 : (t217 != t223) = false := by simpa using c14
     (try (have c14b1 : decide (t217 = t223) = true := by simpa using c14))
     (try (have c14b2 : (t217 == t223) = true := by simpa using c14))
     clear c14
     (first | rw [c14b0] | (simp only [i64_w, i32_w]; rw [c14b0]) | skip)
     replace H := Option.bind_eq_some_iff.mp H
     obtain ⟨t228, A150, H⟩ := H
     replace H : (if t228 = true then (if (t225 != t227) = true then (laws_FnTwoSquaresDescend.j0 k l1 t215 t216 t223 t224 true) else (if t224 = t226 then (laws_FnTwoSquaresDescend.j0 k l1 t215 t216 t223 t224 (t225 != t217)) else (laws_FnTwoSquaresDescend.j0 k l1 t215 t216 t223 t224 true))) else (laws_FnTwoSquaresDescend.j0 k l1 t215 t216 t223 t224 true)) = some r := H
     have A15 := Aside0.mk A150
     clear A150
     by_cases c16 : t228 = true
     ·
      subst c16
      have H1 : (if (t225 != t227) = true then (laws_FnTwoSquaresDescend.j0 k l1 t215 t216 t223 t224 true) else (if t224 = t226 then (laws_FnTwoSquaresDescend.j0 k l1 t215 t216 t223 t224 (t225 != t217)) else (laws_FnTwoSquaresDescend.j0 k l1 t215 t216 t223 t224 true))) = some r := by rw [if_pos rfl] at H; exact H
      clear H
      have H := H1
      clear H1
      by_cases c17 : (t225 != t227) = true
      ·
       rw [if_pos c17] at H
       exact absurd (H.trans (congrArg some hrT)) (fun h_ => laws_FnTwoSquaresDescend.j0_no h_)
      ·
       rw [if_neg c17] at H
       have c17b0 : (t225 != t227) = false := by simpa using c17
       (try (have c17b1 : decide (t225 = t227) = true := by simpa using c17))
       (try (have c17b2 : (t225 == t227) = true := by simpa using c17))
       clear c17
       by_cases c20 : t224 = t226
       ·
        rw [if_pos c20] at H
        have c20b0 : (t224 == t226) = true := beq_iff_eq.mpr c20
        have c20b1 : (t224 != t226) = false := bne_eq_false_iff_eq.mpr c20
        clear c20
        have H' := Aside0.mk H
        clear H
        obtain ⟨Ao21, co21, eo21⟩ := Kd.N_slice HO219.out
        subst eo21
        obtain ⟨Ao22, co22, eo22⟩ := Kd.N_slice HO222.out
        subst eo22
        go_wp2_with (first | (go_at_call 19; (with_reducible refine (laws_vSameLists.calls k _ _ t216 _ _ t220 true _ ?side1 ?side2 ?side3 ?side4 A15.out).mono ?_); (case side1 => repeat (first | exact (Kd.N_reads' HO219.out).2.2 | (with_reducible refine Kd.C_alloc ?_ _) | (with_reducible refine Kd.C_drewN ?_ _) | (with_reducible refine Kd.C_drew ?_))); (case side2 => exact (Kd.N_reads' HO219.out).2.1); (case side3 => repeat (first | exact (Kd.N_reads' HO222.out).2.2 | (with_reducible refine Kd.C_alloc ?_ _) | (with_reducible refine Kd.C_drewN ?_ _) | (with_reducible refine Kd.C_drew ?_))); (case side4 => exact (Kd.N_reads' HO222.out).2.1); rintro e w' ⟨rfl, ⟨nd, rfl⟩⟩; (try first | exact ⟨rfl, _, World.drewN_drewN _ _ _⟩ | exact ⟨rfl, _, Eq.trans (World.drewN_drewN _ _ _) (congrArg (World.drewN _) (Nat.add_assoc _ _ _))⟩)))
        repeat (go_quiet (first | (go_at_call 19; (with_reducible refine (laws_vSameLists.calls k _ _ t216 _ _ t220 true _ ?side1 ?side2 ?side3 ?side4 A15.out).mono ?_); (case side1 => repeat (first | exact (Kd.N_reads' HO219.out).2.2 | (with_reducible refine Kd.C_alloc ?_ _) | (with_reducible refine Kd.C_drewN ?_ _) | (with_reducible refine Kd.C_drew ?_))); (case side2 => exact (Kd.N_reads' HO219.out).2.1); (case side3 => repeat (first | exact (Kd.N_reads' HO222.out).2.2 | (with_reducible refine Kd.C_alloc ?_ _) | (with_reducible refine Kd.C_drewN ?_ _) | (with_reducible refine Kd.C_drew ?_))); (case side4 => exact (Kd.N_reads' HO222.out).2.1); rintro e w' ⟨rfl, ⟨nd, rfl⟩⟩; (try first | exact ⟨rfl, _, World.drewN_drewN _ _ _⟩ | exact ⟨rfl, _, Eq.trans (World.drewN_drewN _ _ _) (congrArg (World.drewN _) (Nat.add_assoc _ _ _))⟩))); try go_wp2_with (first | (go_at_call 19; (with_reducible refine (laws_vSameLists.calls k _ _ t216 _ _ t220 true _ ?side1 ?side2 ?side3 ?side4 A15.out).mono ?_); (case side1 => repeat (first | exact (Kd.N_reads' HO219.out).2.2 | (with_reducible refine Kd.C_alloc ?_ _) | (with_reducible refine Kd.C_drewN ?_ _) | (with_reducible refine Kd.C_drew ?_))); (case side2 => exact (Kd.N_reads' HO219.out).2.1); (case side3 => repeat (first | exact (Kd.N_reads' HO222.out).2.2 | (with_reducible refine Kd.C_alloc ?_ _) | (with_reducible refine Kd.C_drewN ?_ _) | (with_reducible refine Kd.C_drew ?_))); (case side4 => exact (Kd.N_reads' HO222.out).2.1); rintro e w' ⟨rfl, ⟨nd, rfl⟩⟩; (try first | exact ⟨rfl, _, World.drewN_drewN _ _ _⟩ | exact ⟨rfl, _, Eq.trans (World.drewN_drewN _ _ _) (congrArg (World.drewN _) (Nat.add_assoc _ _ _))⟩))))
        go_meet
        case rel => exact ⟨_, ((t225 != t217)), (by first | rfl | (simp; done) | (simp [*]; done)), H', ⟨by first | omega | exact Nat.le_refl _⟩, ⟨by (with_reducible repeat (first | apply Kd.N_alloc | apply Kd.N_drewN | apply Kd.N_drew)); exact Kd.N_mono HO219.out (fun _ hk => trivial)⟩, ⟨by repeat (first | (with_reducible first | exact HB.out | apply below_alloc | apply pw_below_drewN | apply below_drew1) | exact HB.out | exact Below.refl _ _)⟩⟩
       ·
        rw [if_neg c20] at H
        exact absurd (H.trans (congrArg some hrT)) (fun h_ => laws_FnTwoSquaresDescend.j0_no h_)
     ·
      replace c16 := Bool.eq_false_iff.mpr c16
      subst c16
      have H1 : (laws_FnTwoSquaresDescend.j0 k l1 t215 t216 t223 t224 true) = some r := by rw [if_neg (show ¬ (false = true) by decide)] at H; exact H
      exact absurd (H1.trans (congrArg some hrT)) (fun h_ => laws_FnTwoSquaresDescend.j0_no h_)
  case rest =>
   as_aux_lemma =>
    clear HC10
    try clear c1
    try clear c2
    try clear p2
    try clear c4
    try clear c14
    try clear c14b0
    try clear c14b1
    try clear c14b2
    try clear c16
    try clear c17
    try clear c17b0
    try clear c17b1
    try clear c17b2
    try clear c20
    try clear c20b0
    try clear c20b1
    obtain ⟨kq, x78_9, rfl, HA, HJ9, HO_6, HB⟩ := hcut
    cases kq with
    | zero => exact absurd HA.out (by simp [laws_FnTwoSquaresDescend.j0])
    | succ kj9 =>
     have H := HA.out
     clear HA
     simp only [laws_FnTwoSquaresDescend.j0] at H
     by_cases c27 : x78_9 = true
     ·
      subst c27
      have H1 : (some false) = some r := by rw [if_pos rfl] at H; exact H
      exact absurd (H1.trans (congrArg some hrT)) (by simp)
     ·
      replace c27 := Bool.eq_false_iff.mpr c27
      subst c27
      have H1 : ((spec_DrawIsPrimeNumber.f l1).bind fun t229 => ((impl_IsPrimeNumber.f kj9 t229).bind fun bt230 => ((spec_IsPrimeNumber.f kj9 t229).bind fun bt232 => (if (bt230.2 != bt232.2) = true then (laws_FnTwoSquaresDescend.j1 kj9 t215 t216 t223 t224 t229 bt230.1 bt230.2 true) else (laws_FnTwoSquaresDescend.j1 kj9 t215 t216 t223 t224 t229 bt230.1 bt230.2 (bt230.1 != bt232.1)))))) = some r := by rw [if_neg (show ¬ (false = true) by decide)] at H; exact H
      clear H
      have H := H1
      clear H1
      replace H := Option.bind_eq_some_iff.mp H
      obtain ⟨t229, A280, H⟩ := H
      replace H : ((impl_IsPrimeNumber.f kj9 t229).bind fun bt230 => ((spec_IsPrimeNumber.f kj9 t229).bind fun bt232 => (if (bt230.2 != bt232.2) = true then (laws_FnTwoSquaresDescend.j1 kj9 t215 t216 t223 t224 t229 bt230.1 bt230.2 true) else (laws_FnTwoSquaresDescend.j1 kj9 t215 t216 t223 t224 t229 bt230.1 bt230.2 (bt230.1 != bt232.1))))) = some r := H
      have A28 := Aside0.mk A280
      clear A280
      replace H := Option.bind_eq_some_iff.mp H
      obtain ⟨⟨t230, t231⟩, A290, H⟩ := H
      replace H : ((spec_IsPrimeNumber.f kj9 t229).bind fun bt232 => (if (t231 != bt232.2) = true then (laws_FnTwoSquaresDescend.j1 kj9 t215 t216 t223 t224 t229 t230 t231 true) else (laws_FnTwoSquaresDescend.j1 kj9 t215 t216 t223 t224 t229 t230 t231 (t230 != bt232.1)))) = some r := H
      have A29 := Aside0.mk A290
      clear A290
      replace H := Option.bind_eq_some_iff.mp H
      obtain ⟨⟨t232, t233⟩, A300, H⟩ := H
      replace H : (if (t231 != t233) = true then (laws_FnTwoSquaresDescend.j1 kj9 t215 t216 t223 t224 t229 t230 t231 true) else (laws_FnTwoSquaresDescend.j1 kj9 t215 t216 t223 t224 t229 t230 t231 (t230 != t232))) = some r := H
      have A30 := Aside0.mk A300
      clear A300
      have HC31 := Aside0.mk H
      clear H
      go_upto_region 13 with (first | (go_at_call 20; (with_reducible refine (spec_DrawIsPrimeNumber.calls _ _ l1 t229 _ ?side1 ?side2 A28.out).mono ?_); (case side1 => repeat (first | exact (Kd.C_below HR1.out HB.out) | (with_reducible refine Kd.C_alloc ?_ _) | (with_reducible refine Kd.C_drewN ?_ _) | (with_reducible refine Kd.C_drew ?_))); (case side2 => exact HC1.out); rintro e w32 ⟨rfl, hb⟩; have n0_ := Aside0.mk (Kd.N_below (by (with_reducible repeat (first | apply Kd.N_alloc | apply Kd.N_drewN | apply Kd.N_drew)); exact HO_6.out) hb); have n1_ := Aside0.mk (below_step (by repeat (first | (with_reducible first | exact HB.out | apply below_alloc | apply pw_below_drewN | apply below_drew1) | exact HB.out | exact Below.refl _ _)) hb); clear HO_6; clear HB; have HO_6 := n0_; have HB := n1_; clear n0_ n1_; (try clear hb); (try clear hb2); (try clear hk); (try clear hi)) | (go_at_call 21; (with_reducible refine (impl_IsPrimeNumber.calls kj9 t229 t230 t231 _ A29.out).mono ?_); rintro e w' ⟨rfl, ⟨nd, rfl⟩⟩; (try first | exact ⟨rfl, _, World.drewN_drewN _ _ _⟩ | exact ⟨rfl, _, Eq.trans (World.drewN_drewN _ _ _) (congrArg (World.drewN _) (Nat.add_assoc _ _ _))⟩)) | (go_at_call 22; (with_reducible refine (spec_IsPrimeNumber.calls kj9 t229 t232 t233 _ A30.out).mono ?_); rintro e w' ⟨rfl, ⟨nd, rfl⟩⟩; (try first | exact ⟨rfl, _, World.drewN_drewN _ _ _⟩ | exact ⟨rfl, _, Eq.trans (World.drewN_drewN _ _ _) (congrArg (World.drewN _) (Nat.add_assoc _ _ _))⟩)))
      repeat (go_quiet (first | (go_at_call 20; (with_reducible refine (spec_DrawIsPrimeNumber.calls _ _ l1 t229 _ ?side1 ?side2 A28.out).mono ?_); (case side1 => repeat (first | exact (Kd.C_below HR1.out HB.out) | (with_reducible refine Kd.C_alloc ?_ _) | (with_reducible refine Kd.C_drewN ?_ _) | (with_reducible refine Kd.C_drew ?_))); (case side2 => exact HC1.out); rintro e w32 ⟨rfl, hb⟩; have n0_ := Aside0.mk (Kd.N_below (by (with_reducible repeat (first | apply Kd.N_alloc | apply Kd.N_drewN | apply Kd.N_drew)); exact HO_6.out) hb); have n1_ := Aside0.mk (below_step (by repeat (first | (with_reducible first | exact HB.out | apply below_alloc | apply pw_below_drewN | apply below_drew1) | exact HB.out | exact Below.refl _ _)) hb); clear HO_6; clear HB; have HO_6 := n0_; have HB := n1_; clear n0_ n1_; (try clear hb); (try clear hb2); (try clear hk); (try clear hi)) | (go_at_call 21; (with_reducible refine (impl_IsPrimeNumber.calls kj9 t229 t230 t231 _ A29.out).mono ?_); rintro e w' ⟨rfl, ⟨nd, rfl⟩⟩; (try first | exact ⟨rfl, _, World.drewN_drewN _ _ _⟩ | exact ⟨rfl, _, Eq.trans (World.drewN_drewN _ _ _) (congrArg (World.drewN _) (Nat.add_assoc _ _ _))⟩)) | (go_at_call 22; (with_reducible refine (spec_IsPrimeNumber.calls kj9 t229 t232 t233 _ A30.out).mono ?_); rintro e w' ⟨rfl, ⟨nd, rfl⟩⟩; (try first | exact ⟨rfl, _, World.drewN_drewN _ _ _⟩ | exact ⟨rfl, _, Eq.trans (World.drewN_drewN _ _ _) (congrArg (World.drewN _) (Nat.add_assoc _ _ _))⟩))); go_upto_region 13 with (first | (go_at_call 20; (with_reducible refine (spec_DrawIsPrimeNumber.calls _ _ l1 t229 _ ?side1 ?side2 A28.out).mono ?_); (case side1 => repeat (first | exact (Kd.C_below HR1.out HB.out) | (with_reducible refine Kd.C_alloc ?_ _) | (with_reducible refine Kd.C_drewN ?_ _) | (with_reducible refine Kd.C_drew ?_))); (case side2 => exact HC1.out); rintro e w32 ⟨rfl, hb⟩; have n0_ := Aside0.mk (Kd.N_below (by (with_reducible repeat (first | apply Kd.N_alloc | apply Kd.N_drewN | apply Kd.N_drew)); exact HO_6.out) hb); have n1_ := Aside0.mk (below_step (by repeat (first | (with_reducible first | exact HB.out | apply below_alloc | apply pw_below_drewN | apply below_drew1) | exact HB.out | exact Below.refl _ _)) hb); clear HO_6; clear HB; have HO_6 := n0_; have HB := n1_; clear n0_ n1_; (try clear hb); (try clear hb2); (try clear hk); (try clear hi)) | (go_at_call 21; (with_reducible refine (impl_IsPrimeNumber.calls kj9 t229 t230 t231 _ A29.out).mono ?_); rintro e w' ⟨rfl, ⟨nd, rfl⟩⟩; (try first | exact ⟨rfl, _, World.drewN_drewN _ _ _⟩ | exact ⟨rfl, _, Eq.trans (World.drewN_drewN _ _ _) (congrArg (World.drewN _) (Nat.add_assoc _ _ _))⟩)) | (go_at_call 22; (with_reducible refine (spec_IsPrimeNumber.calls kj9 t229 t232 t233 _ A30.out).mono ?_); rintro e w' ⟨rfl, ⟨nd, rfl⟩⟩; (try first | exact ⟨rfl, _, World.drewN_drewN _ _ _⟩ | exact ⟨rfl, _, Eq.trans (World.drewN_drewN _ _ _) (congrArg (World.drewN _) (Nat.add_assoc _ _ _))⟩))))
      (try simp only [Act.put, List.setIfInBounds_toArray, List.set_cons_zero, List.set_cons_succ])
      go_cut [98] (fun v98 wc => ∃ (kq : Nat) (x98_30 : Bool), v98 = .bool x98_30 ∧ Aside0 (laws_FnTwoSquaresDescend.j1 kq t215 t216 t223 t224 t229 t230 t231 x98_30 = some r) ∧ Aside0 (kq ≤ kj9) ∧ Aside0 (Kd.N (Kd.slice 3 (Kd.int .i64)) 35 wc w.heap.size (fun _ => True) v218 t216) ∧ Aside0 (Below w.heap.size w wc))
      case first =>
       as_aux_lemma =>
        have H := HC31.out
        clear HC31
        by_cases c33 : (t231 != t233) = true
        ·
         rw [if_pos c33] at H
         exact absurd (H.trans (congrArg some hrT)) (fun h_ => laws_FnTwoSquaresDescend.j1_no h_)
        ·
         rw [if_neg c33] at H
         have c33b0 : (t231 != t233) = false := by simpa using c33
         (try (have c33b1 : decide (t231 = t233) = true := by simpa using c33))
         (try (have c33b2 : (t231 == t233) = true := by simpa using c33))
         clear c33
         (first | rw [c33b0] | (simp only [i64_w, i32_w]; rw [c33b0]) | skip)
         have H' := Aside0.mk H
         clear H
         go_wp2
         repeat (go_quiet (fail); try go_wp2)
         go_meet
         case rel => exact ⟨_, ((t230 != t232)), (by first | rfl | (simp; done) | (simp [*]; done)), H', ⟨by have := HJ9.out; first | omega | exact Nat.le_refl _⟩, ⟨by (with_reducible repeat (first | apply Kd.N_alloc | apply Kd.N_drewN | apply Kd.N_drew)); exact HO_6.out⟩, ⟨by repeat (first | (with_reducible first | exact HB.out | apply below_alloc | apply pw_below_drewN | apply below_drew1) | exact HB.out | exact Below.refl _ _)⟩⟩
      case rest =>
       as_aux_lemma =>
        clear HC31
        try clear c1
        try clear c2
        try clear p2
        try clear c3
        try clear c4
        try clear c14
        try clear c14b0
        try clear c14b1
        try clear c14b2
        try clear c16
        try clear c17
        try clear c17b0
        try clear c17b1
        try clear c17b2
        try clear c20
        try clear c20b0
        try clear c20b1
        try clear c27
        try clear c33
        try clear c33b0
        try clear c33b1
        try clear c33b2
        try clear p2
        obtain ⟨kq, x98_30, rfl, HA, HJ30, HO_6, HB⟩ := hcut
        cases kq with
        | zero => exact absurd HA.out (by simp [laws_FnTwoSquaresDescend.j1])
        | succ kj30 =>
         have H := HA.out
         clear HA
         simp only [laws_FnTwoSquaresDescend.j1] at H
         by_cases c34 : x98_30 = true
         ·
          subst c34
          have H1 : (some false) = some r := by rw [if_pos rfl] at H; exact H
          exact absurd (H1.trans (congrArg some hrT)) (by simp)
         ·
          replace c34 := Bool.eq_false_iff.mpr c34
          subst c34
          have H1 : (if t231 = true then (laws_FnTwoSquaresDescend.j2 kj30 t215 t216 t223 t224 t229 t230) else (laws_FnTwoSquaresDescend.j2 kj30 t215 t216 t223 t224 t229 false)) = some r := by rw [if_neg (show ¬ (false = true) by decide)] at H; exact H
          clear H
          have H := H1
          clear H1
          have HC35 := Aside0.mk H
          clear H
          go_upto_region 15 with (fail)
          repeat (go_quiet (fail); go_upto_region 15 with (fail))
          go_cut [102] (fun v102 wc => ∃ (kq : Nat) (x102_34 : Bool), v102 = .bool x102_34 ∧ Aside0 (laws_FnTwoSquaresDescend.j2 kq t215 t216 t223 t224 t229 x102_34 = some r) ∧ Aside0 (kq ≤ kj30) ∧ Aside0 (Kd.N (Kd.slice 3 (Kd.int .i64)) 35 wc w.heap.size (fun _ => True) v218 t216) ∧ Aside0 (Below w.heap.size w wc))
          case first =>
           as_aux_lemma =>
            have H := HC35.out
            clear HC35
            by_cases c36 : t231 = true
            ·
             subst c36
             have H1 : (laws_FnTwoSquaresDescend.j2 kj30 t215 t216 t223 t224 t229 t230) = some r := by rw [if_pos rfl] at H; exact H
             clear H
             have H := H1
             clear H1
             have H' := Aside0.mk H
             clear H
             go_wp2
             repeat (go_quiet (fail); try go_wp2)
             go_meet
             case rel => exact ⟨_, (t230), (by first | rfl | (simp; done) | (simp [*]; done)), H', ⟨by have := HJ9.out; have := HJ30.out; first | omega | exact Nat.le_refl _⟩, ⟨by (with_reducible repeat (first | apply Kd.N_alloc | apply Kd.N_drewN | apply Kd.N_drew)); exact HO_6.out⟩, ⟨by repeat (first | (with_reducible first | exact HB.out | apply below_alloc | apply pw_below_drewN | apply below_drew1) | exact HB.out | exact Below.refl _ _)⟩⟩
            ·
             replace c36 := Bool.eq_false_iff.mpr c36
             subst c36
             have H1 : (laws_FnTwoSquaresDescend.j2 kj30 t215 t216 t223 t224 t229 false) = some r := by rw [if_neg (show ¬ (false = true) by decide)] at H; exact H
             clear H
             have H := H1
             clear H1
             have H' := Aside0.mk H
             clear H
             go_wp2
             repeat (go_quiet (fail); try go_wp2)
             go_meet
             case rel => exact ⟨_, (false), (by first | rfl | (simp; done) | (simp [*]; done)), H', ⟨by have := HJ9.out; have := HJ30.out; first | omega | exact Nat.le_refl _⟩, ⟨by (with_reducible repeat (first | apply Kd.N_alloc | apply Kd.N_drewN | apply Kd.N_drew)); exact HO_6.out⟩, ⟨by repeat (first | (with_reducible first | exact HB.out | apply below_alloc | apply pw_below_drewN | apply below_drew1) | exact HB.out | exact Below.refl _ _)⟩⟩
          case rest =>
           as_aux_lemma =>
            clear HC35
            try clear c1
            try clear c2
            try clear p2
            try clear c3
            try clear c4
            try clear c14
            try clear c14b0
            try clear c14b1
            try clear c14b2
            try clear c16
            try clear c17
            try clear c17b0
            try clear c17b1
            try clear c17b2
            try clear c20
            try clear c20b0
            try clear c20b1
            try clear c27
            try clear c33
            try clear c33b0
            try clear c33b1
            try clear c33b2
            try clear c34
            try clear c36
            try clear p2
            obtain ⟨kq, x102_34, rfl, HA, HJ34, HO_6, HB⟩ := hcut
            cases kq with
            | zero => exact absurd HA.out (by simp [laws_FnTwoSquaresDescend.j2])
            | succ kj34 =>
             have H := HA.out
             clear HA
             simp only [laws_FnTwoSquaresDescend.j2] at H
             have HC37 := Aside0.mk H
             clear H
             go_upto_if 102 with (fail)
             repeat (go_quiet (fail); go_upto_if 102 with (fail))
             go_cut [] (fun wc => ∃ (kq : Nat), Aside0 (laws_FnTwoSquaresDescend.j3 kq t215 t216 t223 t224 = some r) ∧ Aside0 (kq ≤ kj34) ∧ Aside0 (Kd.N (Kd.slice 3 (Kd.int .i64)) 35 wc w.heap.size (fun _ => True) v218 t216) ∧ Aside0 (Below w.heap.size w wc))
             case first =>
              as_aux_lemma =>
               have H := HC37.out
               clear HC37
               by_cases c38 : x102_34 = true
               ·
                subst c38
                have H1 : ((impl_RootOfMinusOne.f kj34 t229).bind fun bt234 => (if (bt234.2 != ((Int.tmod t229 4) != 3)) = true then (some false) else (laws_FnTwoSquaresDescend.j3 kj34 t215 t216 t223 t224))) = some r := by rw [if_pos rfl] at H; exact H
                clear H
                have H := H1
                clear H1
                replace H := Option.bind_eq_some_iff.mp H
                obtain ⟨⟨t234, t235⟩, A390, H⟩ := H
                replace H : (if (t235 != ((Int.tmod t229 4) != 3)) = true then (some false) else (laws_FnTwoSquaresDescend.j3 kj34 t215 t216 t223 t224)) = some r := H
                have A39 := Aside0.mk A390
                clear A390
                by_cases c40 : (t235 != ((Int.tmod t229 4) != 3)) = true
                ·
                 rw [if_pos c40] at H
                 exact absurd (H.trans (congrArg some hrT)) (by simp)
                ·
                 rw [if_neg c40] at H
                 have c40b0 : (t235 != ((Int.tmod t229 4) != 3)) = false := by simpa using c40
                 (try (have c40b1 : decide (t235 = ((Int.tmod t229 4) != 3)) = true := by simpa using c40))
                 (try (have c40b2 : (t235 == ((Int.tmod t229 4) != 3)) = true := by simpa using c40))
                 clear c40
                 (first | rw [c40b0] | (simp only [i64_w, i32_w]; rw [c40b0]) | skip)
                 have H' := Aside0.mk H
                 clear H
                 go_wp2_with (first | (go_at_call 17; (with_reducible refine (impl_RootOfMinusOne.calls kj34 t229 t234 t235 _ A39.out).mono ?_); rintro e w' ⟨rfl, ⟨nd, rfl⟩⟩; (try first | exact ⟨rfl, _, World.drewN_drewN _ _ _⟩ | exact ⟨rfl, _, Eq.trans (World.drewN_drewN _ _ _) (congrArg (World.drewN _) (Nat.add_assoc _ _ _))⟩)))
                 repeat (go_quiet (first | (go_at_call 17; (with_reducible refine (impl_RootOfMinusOne.calls kj34 t229 t234 t235 _ A39.out).mono ?_); rintro e w' ⟨rfl, ⟨nd, rfl⟩⟩; (try first | exact ⟨rfl, _, World.drewN_drewN _ _ _⟩ | exact ⟨rfl, _, Eq.trans (World.drewN_drewN _ _ _) (congrArg (World.drewN _) (Nat.add_assoc _ _ _))⟩))); try go_wp2_with (first | (go_at_call 17; (with_reducible refine (impl_RootOfMinusOne.calls kj34 t229 t234 t235 _ A39.out).mono ?_); rintro e w' ⟨rfl, ⟨nd, rfl⟩⟩; (try first | exact ⟨rfl, _, World.drewN_drewN _ _ _⟩ | exact ⟨rfl, _, Eq.trans (World.drewN_drewN _ _ _) (congrArg (World.drewN _) (Nat.add_assoc _ _ _))⟩))))
                 go_meet
                 case rel => exact ⟨_, H', ⟨by have := HJ9.out; have := HJ30.out; have := HJ34.out; first | omega | exact Nat.le_refl _⟩, ⟨by (with_reducible repeat (first | apply Kd.N_alloc | apply Kd.N_drewN | apply Kd.N_drew)); exact HO_6.out⟩, ⟨by repeat (first | (with_reducible first | exact HB.out | apply below_alloc | apply pw_below_drewN | apply below_drew1) | exact HB.out | exact Below.refl _ _)⟩⟩
               ·
                replace c38 := Bool.eq_false_iff.mpr c38
                subst c38
                have H1 : (laws_FnTwoSquaresDescend.j3 kj34 t215 t216 t223 t224) = some r := by rw [if_neg (show ¬ (false = true) by decide)] at H; exact H
                clear H
                have H := H1
                clear H1
                have H' := Aside0.mk H
                clear H
                go_wp2
                repeat (go_quiet (fail); try go_wp2)
                go_meet
                case rel => exact ⟨_, H', ⟨by have := HJ9.out; have := HJ30.out; have := HJ34.out; first | omega | exact Nat.le_refl _⟩, ⟨by (with_reducible repeat (first | apply Kd.N_alloc | apply Kd.N_drewN | apply Kd.N_drew)); exact HO_6.out⟩, ⟨by repeat (first | (with_reducible first | exact HB.out | apply below_alloc | apply pw_below_drewN | apply below_drew1) | exact HB.out | exact Below.refl _ _)⟩⟩
             case rest =>
              as_aux_lemma =>
               clear HC37
               try clear c1
               try clear c2
               try clear p2
               try clear c3
               try clear c4
               try clear c14
               try clear c14b0
               try clear c14b1
               try clear c14b2
               try clear c16
               try clear c17
               try clear c17b0
               try clear c17b1
               try clear c17b2
               try clear c20
               try clear c20b0
               try clear c20b1
               try clear c27
               try clear c33
               try clear c33b0
               try clear c33b1
               try clear c33b2
               try clear c34
               try clear c36
               try clear c38
               try clear c40
               try clear c40b0
               try clear c40b1
               try clear c40b2
               try clear p2
               obtain ⟨kq, HA, HJ36, HO_6, HB⟩ := hcut
               cases kq with
               | zero => exact absurd HA.out (by simp [laws_FnTwoSquaresDescend.j3])
               | succ kj36 =>
                have H := HA.out
                clear HA
                simp only [laws_FnTwoSquaresDescend.j3] at H
                by_cases c41 : t223 = true
                ·
                 subst c41
                 have H1 : (if t215 = 0 then (none) else (if (Int.tmod (wrap64 ((wrap64 (t224 * t224)) + 1)) t215) = 0 then (if 0 < (t216.length : Int) then (if 0 < ((rd_L2 t216 0).length : Int) then (if (rd (rd_L2 t216 0) 0) = t224 then (if 1 < ((rd_L2 t216 0).length : Int) then (laws_FnTwoSquaresDescend.j4 kj36 t215 t216 ((rd (rd_L2 t216 0) 1) != 1)) else (none)) else (laws_FnTwoSquaresDescend.j4 kj36 t215 t216 true)) else (none)) else (none)) else (laws_FnTwoSquaresDescend.j4 kj36 t215 t216 true))) = some r := by rw [if_pos rfl] at H; exact H
                 clear H
                 have H := H1
                 clear H1
                 have HC42 := Aside0.mk H
                 clear H
                 go_upto_region 21 with (fail)
                 repeat (go_quiet (fail); go_upto_region 21 with (fail))
                 go_cut [138] (fun v138 wc => ∃ (kq : Nat) (x138_41 : Bool), v138 = .bool x138_41 ∧ Aside0 (laws_FnTwoSquaresDescend.j4 kq t215 t216 x138_41 = some r) ∧ Aside0 (kq ≤ kj36) ∧ Aside0 (Kd.N (Kd.slice 3 (Kd.int .i64)) 35 wc w.heap.size (fun _ => True) v218 t216) ∧ Aside0 (Below w.heap.size w wc))
                 case first =>
                  as_aux_lemma =>
                   have H := HC42.out
                   clear HC42
                   by_cases c43 : t215 = 0
                   ·
                    rw [if_pos c43] at H
                    exact absurd H (by simp)
                   ·
                    rw [if_neg c43] at H
                    have c43b0 : (t215 == 0) = false := beq_eq_false_iff_ne.mpr c43
                    have c43b1 : (t215 != 0) = true := bne_iff_ne.mpr c43
                    (first | rw [c43b0] | (simp only [i64_w, i32_w]; rw [c43b0]) | skip)
                    by_cases c44 : (Int.tmod (wrap64 ((wrap64 (t224 * t224)) + 1)) t215) = 0
                    ·
                     rw [if_pos c44] at H
                     have c44b0 : ((Int.tmod (wrap64 ((wrap64 (t224 * t224)) + 1)) t215) == 0) = true := beq_iff_eq.mpr c44
                     have c44b1 : ((Int.tmod (wrap64 ((wrap64 (t224 * t224)) + 1)) t215) != 0) = false := bne_eq_false_iff_eq.mpr c44
                     clear c44
                     by_cases c45 : 0 < (t216.length : Int)
                     ·
                      rw [if_pos c45] at H
                      have c45b0 : decide (0 < (t216.length : Int)) = true := decide_eq_true c45
                      have c45b1 : decide (0 < t216.length) = true := decide_eq_true (by omega)
                      clear c45
                      by_cases c46 : 0 < ((rd_L2 t216 0).length : Int)
                      ·
                       rw [if_pos c46] at H
                       have c46b0 : decide (0 < ((rd_L2 t216 0).length : Int)) = true := decide_eq_true c46
                       have c46b1 : decide (0 < (rd_L2 t216 0).length) = true := decide_eq_true (by omega)
                       clear c46
                       by_cases c47 : (rd (rd_L2 t216 0) 0) = t224
                       ·
                        rw [if_pos c47] at H
                        have c47b0 : ((rd (rd_L2 t216 0) 0) == t224) = true := beq_iff_eq.mpr c47
                        have c47b1 : ((rd (rd_L2 t216 0) 0) != t224) = false := bne_eq_false_iff_eq.mpr c47
                        clear c47
                        by_cases c48 : 1 < ((rd_L2 t216 0).length : Int)
                        ·
                         rw [if_pos c48] at H
                         have c48b0 : decide (1 < ((rd_L2 t216 0).length : Int)) = true := decide_eq_true c48
                         have c48b1 : decide (1 < (rd_L2 t216 0).length) = true := decide_eq_true (by omega)
                         clear c48
                         have H' := Aside0.mk H
                         clear H
                         obtain ⟨Ao49, co49, eo49⟩ := Kd.N_slice HO_6.out
                         subst eo49
                         have p236 : 0 ≤ (0 : Int) := (by omega)
                         have q236 : 0 < (t216.length : Int) := of_decide_eq_true (by first | (with_reducible assumption) | assumption)
                         obtain ⟨ad236, A236_0, c236_0, e236, hx236_0, hl236_0, hi236_0⟩ := at_L2 (Kd.N_reads' HO_6.out).2.2 0 p236 q236
                         cases e236
                         obtain ⟨ce236, hce236, hMe236, hcc236⟩ := Kd.N_get HO_6.out [] 0 p236 (by first | exact q236 | exact of_decide_eq_true (by first | (with_reducible assumption) | assumption) | (have e_ := (Kd.N_reads' HO_6.out).1; omega))
                         obtain ⟨ua236_0, uc236_0, rfl, ul236_0, ge236_0⟩ := Kd.FK_slice_open hMe236
                         have hv236_0 := hcc236 0 _ rfl
                         rw [Nat.add_zero, show ((Kd.slice 3 (Kd.int .i64))).sz = 1 from rfl, Nat.mul_one] at hv236_0
                         replace hv236_0 := Option.some.inj (hv236_0.symm.trans hx236_0)
                         injection hv236_0 with hva_ hvn_ hvc_
                         rw [hva_] at ge236_0
                         rw [hvc_] at ul236_0
                         have HL236_0 := Aside0.mk (show Kd.V (Kd.int .i64) 3 _ w.heap.size _ _ (rd_L2 t216 0) from Kd.V_mk ul236_0 ge236_0)
                         clear hva_ hvn_ hvc_ ge236_0 ul236_0
                         clear hcc236 hce236
                         have qi236 : (0 < t216.length) = True := eq_true (by omega)
                         (try rw [show ((0 : Int)).toNat = 0 from rfl] at hx236_0)
                         (try rw [Addr.add_zero'] at hx236_0)
                         have HR236_0 := Aside0.mk hi236_0
                         have HC236_0 := Aside0.mk hl236_0
                         clear hi236_0 hl236_0
                         replace p236 := eq_true p236
                         replace q236 := eq_true q236
                         have p237 : 0 ≤ (0 : Int) := (by omega)
                         have q237 : 0 < ((rd_L2 t216 0).length : Int) := of_decide_eq_true (by first | (with_reducible assumption) | assumption)
                         obtain ⟨ad237, e237, hx237_0⟩ := Kd.at_int (by repeat (first | (with_reducible exact HR236_0.out) | (with_reducible refine Kd.C_alloc ?_ _) | (with_reducible refine Kd.C_drewN ?_ _) | (with_reducible refine Kd.C_drew ?_) | exact HR236_0.out)) 0 p237 q237
                         cases e237
                         have qi237 : (0 < (rd_L2 t216 0).length) = True := eq_true (by omega)
                         (try rw [show ((0 : Int)).toNat = 0 from rfl] at hx237_0)
                         (try rw [Addr.add_zero'] at hx237_0)
                         replace p237 := eq_true p237
                         replace q237 := eq_true q237
                         have p238 : 0 ≤ (0 : Int) := (by omega)
                         have q238 : 0 < (t216.length : Int) := of_decide_eq_true (by first | (with_reducible assumption) | assumption)
                         obtain ⟨ad238, A238_0, c238_0, e238, hx238_0, hl238_0, hi238_0⟩ := at_L2 (Kd.N_reads' HO_6.out).2.2 0 p238 q238
                         obtain rfl : ad236 = ad238 := (by injection e238)
                         obtain ⟨ce238, hce238, hMe238, hcc238⟩ := Kd.N_get HO_6.out [] 0 p238 (by first | exact q238 | exact of_decide_eq_true (by first | (with_reducible assumption) | assumption) | (have e_ := (Kd.N_reads' HO_6.out).1; omega))
                         obtain ⟨ua238_0, uc238_0, rfl, ul238_0, ge238_0⟩ := Kd.FK_slice_open hMe238
                         have hv238_0 := hcc238 0 _ rfl
                         rw [Nat.add_zero, show ((Kd.slice 3 (Kd.int .i64))).sz = 1 from rfl, Nat.mul_one] at hv238_0
                         replace hv238_0 := Option.some.inj (hv238_0.symm.trans hx238_0)
                         injection hv238_0 with hva_ hvn_ hvc_
                         rw [hva_] at ge238_0
                         rw [hvc_] at ul238_0
                         have HL238_0 := Aside0.mk (show Kd.V (Kd.int .i64) 3 _ w.heap.size _ _ (rd_L2 t216 0) from Kd.V_mk ul238_0 ge238_0)
                         clear hva_ hvn_ hvc_ ge238_0 ul238_0
                         clear hcc238 hce238
                         have qi238 : (0 < t216.length) = True := eq_true (by omega)
                         (try rw [show ((0 : Int)).toNat = 0 from rfl] at hx238_0)
                         (try rw [Addr.add_zero'] at hx238_0)
                         have HR238_0 := Aside0.mk hi238_0
                         have HC238_0 := Aside0.mk hl238_0
                         clear hi238_0 hl238_0
                         replace p238 := eq_true p238
                         replace q238 := eq_true q238
                         have ea_ := Option.some.inj (hx236_0.symm.trans hx238_0)
                         injection ea_ with ea_ en_ ec_
                         subst ea_
                         subst ec_
                         clear en_
                         have p239 : 0 ≤ (1 : Int) := (by omega)
                         have q239 : 1 < ((rd_L2 t216 0).length : Int) := of_decide_eq_true (by first | (with_reducible assumption) | assumption)
                         obtain ⟨ad239, e239, hx239_0⟩ := Kd.at_int (by repeat (first | (with_reducible exact HR238_0.out) | (with_reducible refine Kd.C_alloc ?_ _) | (with_reducible refine Kd.C_drewN ?_ _) | (with_reducible refine Kd.C_drew ?_) | exact HR238_0.out)) 1 p239 q239
                         cases e239
                         (try simp only [show (1 : Int).toNat = 1 from rfl, Nat.reduceMul, Nat.reduceEqDiff, Go.Addr.add, ↓reduceIte] at hx239_0)
                         have qi239 : (1 < (rd_L2 t216 0).length) = True := eq_true (by omega)
                         (try rw [show ((1 : Int)).toNat = 1 from rfl] at hx239_0)
                         replace p239 := eq_true p239
                         replace q239 := eq_true q239
                         go_wp2
                         repeat (go_quiet (fail); try go_wp2)
                         go_meet
                         case rel => exact ⟨_, (((rd (rd_L2 t216 0) 1) != 1)), (by first | rfl | (simp; done) | (simp [*]; done)), H', ⟨by have := HJ9.out; have := HJ30.out; have := HJ34.out; have := HJ36.out; first | omega | exact Nat.le_refl _⟩, ⟨by (with_reducible repeat (first | apply Kd.N_alloc | apply Kd.N_drewN | apply Kd.N_drew)); exact HO_6.out⟩, ⟨by repeat (first | (with_reducible first | exact HB.out | apply below_alloc | apply pw_below_drewN | apply below_drew1) | exact HB.out | exact Below.refl _ _)⟩⟩
                        ·
                         rw [if_neg c48] at H
                         exact absurd H (by simp)
                       ·
                        rw [if_neg c47] at H
                        exact absurd (H.trans (congrArg some hrT)) (fun h_ => laws_FnTwoSquaresDescend.j4_no h_)
                      ·
                       rw [if_neg c46] at H
                       exact absurd H (by simp)
                     ·
                      rw [if_neg c45] at H
                      exact absurd H (by simp)
                    ·
                     rw [if_neg c44] at H
                     exact absurd (H.trans (congrArg some hrT)) (fun h_ => laws_FnTwoSquaresDescend.j4_no h_)
                 case rest =>
                  as_aux_lemma =>
                   clear HC42
                   try clear c1
                   try clear c2
                   try clear p2
                   try clear q2
                   try clear hx2
                   try clear qi2
                   try clear c3
                   try clear c4
                   try clear p6
                   try clear c14
                   try clear c14b0
                   try clear c14b1
                   try clear c14b2
                   try clear c16
                   try clear c17
                   try clear c17b0
                   try clear c17b1
                   try clear c17b2
                   try clear c20
                   try clear c20b0
                   try clear c20b1
                   try clear c23
                   try clear p23
                   try clear q23
                   try clear hx23
                   try clear qi23
                   try clear c27
                   try clear c33
                   try clear c33b0
                   try clear c33b1
                   try clear c33b2
                   try clear c34
                   try clear c36
                   try clear c38
                   try clear c40
                   try clear c40b0
                   try clear c40b1
                   try clear c40b2
                   try clear c41
                   try clear c43
                   try clear c43b0
                   try clear c43b1
                   try clear c44
                   try clear c44b0
                   try clear c44b1
                   try clear c45
                   try clear c45b0
                   try clear c45b1
                   try clear c46
                   try clear c46b0
                   try clear c46b1
                   try clear c47
                   try clear c47b0
                   try clear c47b1
                   try clear c48
                   try clear c48b0
                   try clear c48b1
                   try clear hx236_0
                   try clear hx237_0
                   try clear hx238_0
                   try clear hx239_0
                   try clear p2
                   try clear p236
                   try clear p237
                   try clear p238
                   try clear p239
                   try clear q236
                   try clear q237
                   try clear q238
                   try clear q239
                   obtain ⟨kq, x138_41, rfl, HA, HJ41, HO_6, HB⟩ := hcut
                   cases kq with
                   | zero => exact absurd HA.out (by simp [laws_FnTwoSquaresDescend.j4])
                   | succ kj41 =>
                    have H := HA.out
                    clear HA
                    simp only [laws_FnTwoSquaresDescend.j4] at H
                    by_cases c51 : x138_41 = true
                    ·
                     subst c51
                     have H1 : (some false) = some r := by rw [if_pos rfl] at H; exact H
                     exact absurd (H1.trans (congrArg some hrT)) (by simp)
                    ·
                     replace c51 := Bool.eq_false_iff.mpr c51
                     subst c51
                     have H1 : (laws_FnTwoSquaresDescend.l0 kj41 t215 t216 t216 (t216.length : Int) 0) = some r := by rw [if_neg (show ¬ (false = true) by decide)] at H; exact H
                     clear H
                     have H := H1
                     clear H1
                     have H' := Aside0.mk H
                     clear H
                     obtain ⟨Ao52, co52, eo52⟩ := Kd.N_slice HO_6.out
                     subst eo52
                     go_wp2
                     repeat (go_quiet (fail); try go_wp2)
                     go_loopg [141] kj41 (fun kq v141 w' => ∃ (x141_6 : Int), v141 = .int .i64 x141_6 ∧ Aside0 (laws_FnTwoSquaresDescend.l0 kq t215 t216 t216 (t216.length : Int) x141_6 = some r) ∧ Aside0 (kq ≤ kj41) ∧ Aside0 (Kd.N (Kd.slice 3 (Kd.int .i64)) 35 w' w.heap.size (fun _ => True) (.slice Ao52 t216.length co52) t216) ∧ Aside0 (Kd.N (Kd.slice 3 (Kd.int .i64)) 35 w' w.heap.size (fun _ => True) (.slice Ao52 t216.length co52) t216) ∧ Aside0 (Below w.heap.size w w'))
                     case atStart => exact ⟨(0), (by first | rfl | (simp; done) | (simp [*]; done)), H', ⟨Nat.le_refl _⟩, ⟨by (with_reducible repeat (first | apply Kd.N_alloc | apply Kd.N_drewN | apply Kd.N_drew)); exact HO_6.out⟩, ⟨by (with_reducible repeat (first | apply Kd.N_alloc | apply Kd.N_drewN | apply Kd.N_drew)); exact HO_6.out⟩, ⟨by repeat (first | (with_reducible first | exact HB.out | apply below_alloc | apply pw_below_drewN | apply below_drew1) | exact HB.out | exact Below.refl _ _)⟩⟩
                     case round =>
                      as_aux_lemma =>
                       clear H'
                       try clear c1
                       try clear c2
                       try clear p2
                       try clear q2
                       try clear hx2
                       try clear qi2
                       try clear c3
                       try clear c4
                       try clear c5
                       try clear p6
                       try clear c14
                       try clear c14b0
                       try clear c14b1
                       try clear c14b2
                       try clear c16
                       try clear c17
                       try clear c17b0
                       try clear c17b1
                       try clear c17b2
                       try clear c20
                       try clear c20b0
                       try clear c20b1
                       try clear c23
                       try clear p23
                       try clear q23
                       try clear hx23
                       try clear qi23
                       try clear c27
                       try clear c33
                       try clear c33b0
                       try clear c33b1
                       try clear c33b2
                       try clear c34
                       try clear c36
                       try clear c38
                       try clear c40
                       try clear c40b0
                       try clear c40b1
                       try clear c40b2
                       try clear c41
                       try clear c43
                       try clear c43b0
                       try clear c43b1
                       try clear c44
                       try clear c44b0
                       try clear c44b1
                       try clear c45
                       try clear c45b0
                       try clear c45b1
                       try clear c46
                       try clear c46b0
                       try clear c46b1
                       try clear c47
                       try clear c47b0
                       try clear c47b1
                       try clear c48
                       try clear c48b0
                       try clear c48b1
                       try clear c51
                       try clear hx236_0
                       try clear hx237_0
                       try clear hx238_0
                       try clear hx239_0
                       try clear p2
                       try clear p23
                       try clear p236
                       try clear p237
                       try clear p238
                       try clear p239
                       try clear p6
                       try clear q2
                       try clear q23
                       try clear q236
                       try clear q237
                       try clear q238
                       try clear q239
                       obtain ⟨x141_6, rfl, HA, HK6, HO_6, HO_139, HB⟩ := hrel
                       cases gk with
                       | zero => exact absurd HA.out (by simp [laws_FnTwoSquaresDescend.l0])
                       | succ k6 =>
                        have H := HA.out
                        clear HA
                        simp only [laws_FnTwoSquaresDescend.l0] at H
                        by_cases c53 : x141_6 < (t216.length : Int)
                        ·
                         rw [if_pos c53] at H
                         have c53b0 : decide (x141_6 < (t216.length : Int)) = true := decide_eq_true c53
                         clear c53
                         by_cases c54 : 0 ≤ x141_6
                         ·
                          rw [if_pos c54] at H
                          have c54b0 : decide (0 ≤ x141_6) = true := decide_eq_true c54
                          clear c54
                          by_cases c55 : x141_6 < (t216.length : Int)
                          ·
                           rw [if_pos c55] at H
                           have c55b0 : decide (x141_6 < (t216.length : Int)) = true := decide_eq_true c55
                           clear c55
                           by_cases c56 : 0 < ((rd_L2 t216 x141_6).length : Int)
                           ·
                            rw [if_pos c56] at H
                            have c56b0 : decide (0 < ((rd_L2 t216 x141_6).length : Int)) = true := decide_eq_true c56
                            have c56b1 : decide (0 < (rd_L2 t216 x141_6).length) = true := decide_eq_true (by omega)
                            clear c56
                            by_cases c57 : 1 < ((rd_L2 t216 x141_6).length : Int)
                            ·
                             rw [if_pos c57] at H
                             have c57b0 : decide (1 < ((rd_L2 t216 x141_6).length : Int)) = true := decide_eq_true c57
                             have c57b1 : decide (1 < (rd_L2 t216 x141_6).length) = true := decide_eq_true (by omega)
                             clear c57
                             by_cases c58 : 2 < ((rd_L2 t216 x141_6).length : Int)
                             ·
                              rw [if_pos c58] at H
                              have c58b0 : decide (2 < ((rd_L2 t216 x141_6).length : Int)) = true := decide_eq_true c58
                              have c58b1 : decide (2 < (rd_L2 t216 x141_6).length) = true := decide_eq_true (by omega)
                              clear c58
                              by_cases c59 : (wrap64 ((wrap64 ((rd (rd_L2 t216 x141_6) 0) * (rd (rd_L2 t216 x141_6) 0))) + (wrap64 ((rd (rd_L2 t216 x141_6) 1) * (rd (rd_L2 t216 x141_6) 1))))) = (wrap64 ((rd (rd_L2 t216 x141_6) 2) * t215))
                              ·
                               rw [if_pos c59] at H
                               have c59b0 : ((wrap64 ((wrap64 ((rd (rd_L2 t216 x141_6) 0) * (rd (rd_L2 t216 x141_6) 0))) + (wrap64 ((rd (rd_L2 t216 x141_6) 1) * (rd (rd_L2 t216 x141_6) 1))))) == (wrap64 ((rd (rd_L2 t216 x141_6) 2) * t215))) = true := beq_iff_eq.mpr c59
                               have c59b1 : ((wrap64 ((wrap64 ((rd (rd_L2 t216 x141_6) 0) * (rd (rd_L2 t216 x141_6) 0))) + (wrap64 ((rd (rd_L2 t216 x141_6) 1) * (rd (rd_L2 t216 x141_6) 1))))) != (wrap64 ((rd (rd_L2 t216 x141_6) 2) * t215))) = false := bne_eq_false_iff_eq.mpr c59
                               clear c59
                               by_cases c60 : x141_6 > 0
                               ·
                                rw [if_pos c60] at H
                                have c60b0 : decide (0 < x141_6) = true := decide_eq_true c60
                                clear c60
                                obtain ⟨ji61, hji61⟩ : ∃ j_ : Int, (wrap64 (x141_6 - 1)) = j_ := ⟨_, rfl⟩
                                replace H : (if 0 ≤ (ji61) then (if (ji61) < (t216.length : Int) then (if 2 < ((rd_L2 t216 (ji61)).length : Int) then (if (wrap64 (2 * (rd (rd_L2 t216 x141_6) 2))) > (rd (rd_L2 t216 (ji61)) 2) then (some false) else (if (((rd (rd_L2 t216 x141_6) 2) == 1) != (x141_6 == (wrap64 ((t216.length : Int) - 1)))) = true then (some false) else (laws_FnTwoSquaresDescend.l0 k6 t215 t216 t216 (t216.length : Int) (wrap64 (x141_6 + 1))))) else (none)) else (none)) else (none)) = some r := by first | (rw [hji61] at H; exact H) | (simp only [hji61] at H ⊢; exact H)
                                have hji61w : (IntKind.i64.wrap (x141_6 - 1)) = ji61 := (i64_w _).trans hji61
                                by_cases c62 : 0 ≤ (ji61)
                                ·
                                 rw [if_pos c62] at H
                                 have c62b0 : decide (0 ≤ (ji61)) = true := decide_eq_true c62
                                 clear c62
                                 by_cases c63 : (ji61) < (t216.length : Int)
                                 ·
                                  rw [if_pos c63] at H
                                  have c63b0 : decide ((ji61) < (t216.length : Int)) = true := decide_eq_true c63
                                  clear c63
                                  by_cases c64 : 2 < ((rd_L2 t216 (ji61)).length : Int)
                                  ·
                                   rw [if_pos c64] at H
                                   have c64b0 : decide (2 < ((rd_L2 t216 (ji61)).length : Int)) = true := decide_eq_true c64
                                   have c64b1 : decide (2 < (rd_L2 t216 (ji61)).length) = true := decide_eq_true (by omega)
                                   clear c64
                                   by_cases c65 : (wrap64 (2 * (rd (rd_L2 t216 x141_6) 2))) > (rd (rd_L2 t216 (ji61)) 2)
                                   ·
                                    rw [if_pos c65] at H
                                    exact absurd (H.trans (congrArg some hrT)) (by simp)
                                   ·
                                    rw [if_neg c65] at H
                                    have c65b0 : decide ((rd (rd_L2 t216 (ji61)) 2) < (wrap64 (2 * (rd (rd_L2 t216 x141_6) 2)))) = false := decide_eq_false c65
                                    clear c65
                                    by_cases c66 : (((rd (rd_L2 t216 x141_6) 2) == 1) != (x141_6 == (wrap64 ((t216.length : Int) - 1)))) = true
                                    ·
                                     rw [if_pos c66] at H
                                     exact absurd (H.trans (congrArg some hrT)) (by simp)
                                    ·
                                     rw [if_neg c66] at H
                                     have c66b0 : (((rd (rd_L2 t216 x141_6) 2) == 1) != (x141_6 == (wrap64 ((t216.length : Int) - 1)))) = false := by simpa using c66
                                     (try (have c66b1 : decide (((rd (rd_L2 t216 x141_6) 2) == 1) = (x141_6 == (wrap64 ((t216.length : Int) - 1)))) = true := by simpa using c66))
                                     (try (have c66b2 : (((rd (rd_L2 t216 x141_6) 2) == 1) == (x141_6 == (wrap64 ((t216.length : Int) - 1)))) = true := by simpa using c66))
                                     clear c66
                                     have H' := Aside0.mk H
                                     clear H
                                     have p240 : 0 ≤ (x141_6 : Int) := of_decide_eq_true (by first | (with_reducible assumption) | assumption)
                                     have q240 : x141_6 < (t216.length : Int) := of_decide_eq_true (by first | (with_reducible assumption) | assumption)
                                     obtain ⟨ad240, A240_0, c240_0, e240, hx240_0, hl240_0, hi240_0⟩ := at_L2 (Kd.N_reads' HO_139.out).2.2 x141_6 p240 q240
                                     cases e240
                                     obtain ⟨ce240, hce240, hMe240, hcc240⟩ := Kd.N_get HO_139.out [] x141_6 p240 (by first | exact q240 | exact of_decide_eq_true (by first | (with_reducible assumption) | assumption) | (have e_ := (Kd.N_reads' HO_139.out).1; omega))
                                     obtain ⟨ua240_0, uc240_0, rfl, ul240_0, ge240_0⟩ := Kd.FK_slice_open hMe240
                                     have hv240_0 := hcc240 0 _ rfl
                                     rw [Nat.add_zero, show ((Kd.slice 3 (Kd.int .i64))).sz = 1 from rfl, Nat.mul_one] at hv240_0
                                     replace hv240_0 := Option.some.inj (hv240_0.symm.trans hx240_0)
                                     injection hv240_0 with hva_ hvn_ hvc_
                                     rw [hva_] at ge240_0
                                     rw [hvc_] at ul240_0
                                     have HL240_0 := Aside0.mk (show Kd.V (Kd.int .i64) 3 _ w.heap.size _ _ (rd_L2 t216 x141_6) from Kd.V_mk ul240_0 ge240_0)
                                     clear hva_ hvn_ hvc_ ge240_0 ul240_0
                                     clear hcc240 hce240
                                     have HR240_0 := Aside0.mk hi240_0
                                     have HC240_0 := Aside0.mk hl240_0
                                     clear hi240_0 hl240_0
                                     replace p240 := eq_true p240
                                     replace q240 := eq_true q240
                                     have p241 : 0 ≤ (0 : Int) := (by omega)
                                     have q241 : 0 < ((rd_L2 t216 x141_6).length : Int) := of_decide_eq_true (by first | (with_reducible assumption) | assumption)
                                     obtain ⟨ad241, e241, hx241_0⟩ := Kd.at_int (by repeat (first | (with_reducible exact HR240_0.out) | (with_reducible refine Kd.C_alloc ?_ _) | (with_reducible refine Kd.C_drewN ?_ _) | (with_reducible refine Kd.C_drew ?_) | exact HR240_0.out)) 0 p241 q241
                                     cases e241
                                     have qi241 : (0 < (rd_L2 t216 x141_6).length) = True := eq_true (by omega)
                                     (try rw [show ((0 : Int)).toNat = 0 from rfl] at hx241_0)
                                     (try rw [Addr.add_zero'] at hx241_0)
                                     replace p241 := eq_true p241
                                     replace q241 := eq_true q241
                                     have p242 : 0 ≤ (0 : Int) := (by omega)
                                     have q242 : 0 < ((rd_L2 t216 x141_6).length : Int) := of_decide_eq_true (by first | (with_reducible assumption) | assumption)
                                     obtain ⟨ad242, e242, hx242_0⟩ := Kd.at_int (by repeat (first | (with_reducible exact HR240_0.out) | (with_reducible refine Kd.C_alloc ?_ _) | (with_reducible refine Kd.C_drewN ?_ _) | (with_reducible refine Kd.C_drew ?_) | exact HR240_0.out)) 0 p242 q242
                                     obtain rfl : ad241 = ad242 := (by injection e242)
                                     have qi242 : (0 < (rd_L2 t216 x141_6).length) = True := eq_true (by omega)
                                     (try rw [show ((0 : Int)).toNat = 0 from rfl] at hx242_0)
                                     (try rw [Addr.add_zero'] at hx242_0)
                                     replace p242 := eq_true p242
                                     replace q242 := eq_true q242
                                     have p243 : 0 ≤ (1 : Int) := (by omega)
                                     have q243 : 1 < ((rd_L2 t216 x141_6).length : Int) := of_decide_eq_true (by first | (with_reducible assumption) | assumption)
                                     obtain ⟨ad243, e243, hx243_0⟩ := Kd.at_int (by repeat (first | (with_reducible exact HR240_0.out) | (with_reducible refine Kd.C_alloc ?_ _) | (with_reducible refine Kd.C_drewN ?_ _) | (with_reducible refine Kd.C_drew ?_) | exact HR240_0.out)) 1 p243 q243
                                     obtain rfl : ad241 = ad243 := (by injection e243)
                                     (try simp only [show (1 : Int).toNat = 1 from rfl, Nat.reduceMul, Nat.reduceEqDiff, Go.Addr.add, ↓reduceIte] at hx243_0)
                                     have qi243 : (1 < (rd_L2 t216 x141_6).length) = True := eq_true (by omega)
                                     (try rw [show ((1 : Int)).toNat = 1 from rfl] at hx243_0)
                                     replace p243 := eq_true p243
                                     replace q243 := eq_true q243
                                     have p244 : 0 ≤ (1 : Int) := (by omega)
                                     have q244 : 1 < ((rd_L2 t216 x141_6).length : Int) := of_decide_eq_true (by first | (with_reducible assumption) | assumption)
                                     obtain ⟨ad244, e244, hx244_0⟩ := Kd.at_int (by repeat (first | (with_reducible exact HR240_0.out) | (with_reducible refine Kd.C_alloc ?_ _) | (with_reducible refine Kd.C_drewN ?_ _) | (with_reducible refine Kd.C_drew ?_) | exact HR240_0.out)) 1 p244 q244
                                     obtain rfl : ad241 = ad244 := (by injection e244)
                                     (try simp only [show (1 : Int).toNat = 1 from rfl, Nat.reduceMul, Nat.reduceEqDiff, Go.Addr.add, ↓reduceIte] at hx244_0)
                                     have qi244 : (1 < (rd_L2 t216 x141_6).length) = True := eq_true (by omega)
                                     (try rw [show ((1 : Int)).toNat = 1 from rfl] at hx244_0)
                                     replace p244 := eq_true p244
                                     replace q244 := eq_true q244
                                     have p245 : 0 ≤ (2 : Int) := (by omega)
                                     have q245 : 2 < ((rd_L2 t216 x141_6).length : Int) := of_decide_eq_true (by first | (with_reducible assumption) | assumption)
                                     obtain ⟨ad245, e245, hx245_0⟩ := Kd.at_int (by repeat (first | (with_reducible exact HR240_0.out) | (with_reducible refine Kd.C_alloc ?_ _) | (with_reducible refine Kd.C_drewN ?_ _) | (with_reducible refine Kd.C_drew ?_) | exact HR240_0.out)) 2 p245 q245
                                     obtain rfl : ad241 = ad245 := (by injection e245)
                                     (try simp only [show (2 : Int).toNat = 2 from rfl, Nat.reduceMul, Nat.reduceEqDiff, Go.Addr.add, ↓reduceIte] at hx245_0)
                                     have qi245 : (2 < (rd_L2 t216 x141_6).length) = True := eq_true (by omega)
                                     (try rw [show ((2 : Int)).toNat = 2 from rfl] at hx245_0)
                                     replace p245 := eq_true p245
                                     replace q245 := eq_true q245
                                     have p246 : 0 ≤ (2 : Int) := (by omega)
                                     have q246 : 2 < ((rd_L2 t216 x141_6).length : Int) := of_decide_eq_true (by first | (with_reducible assumption) | assumption)
                                     obtain ⟨ad246, e246, hx246_0⟩ := Kd.at_int (by repeat (first | (with_reducible exact HR240_0.out) | (with_reducible refine Kd.C_alloc ?_ _) | (with_reducible refine Kd.C_drewN ?_ _) | (with_reducible refine Kd.C_drew ?_) | exact HR240_0.out)) 2 p246 q246
                                     obtain rfl : ad241 = ad246 := (by injection e246)
                                     (try simp only [show (2 : Int).toNat = 2 from rfl, Nat.reduceMul, Nat.reduceEqDiff, Go.Addr.add, ↓reduceIte] at hx246_0)
                                     have qi246 : (2 < (rd_L2 t216 x141_6).length) = True := eq_true (by omega)
                                     (try rw [show ((2 : Int)).toNat = 2 from rfl] at hx246_0)
                                     replace p246 := eq_true p246
                                     replace q246 := eq_true q246
                                     have p247 : 0 ≤ ((ji61) : Int) := of_decide_eq_true (by first | (with_reducible assumption) | assumption)
                                     have q247 : (ji61) < (t216.length : Int) := of_decide_eq_true (by first | (with_reducible assumption) | assumption)
                                     obtain ⟨ad247, A247_0, c247_0, e247, hx247_0, hl247_0, hi247_0⟩ := at_L2 (Kd.N_reads' HO_6.out).2.2 (ji61) p247 q247
                                     obtain rfl : ad240 = ad247 := (by injection e247)
                                     obtain ⟨ce247, hce247, hMe247, hcc247⟩ := Kd.N_get HO_6.out [] (ji61) p247 (by first | exact q247 | exact of_decide_eq_true (by first | (with_reducible assumption) | assumption) | (have e_ := (Kd.N_reads' HO_6.out).1; omega))
                                     obtain ⟨ua247_0, uc247_0, rfl, ul247_0, ge247_0⟩ := Kd.FK_slice_open hMe247
                                     have hv247_0 := hcc247 0 _ rfl
                                     rw [Nat.add_zero, show ((Kd.slice 3 (Kd.int .i64))).sz = 1 from rfl, Nat.mul_one] at hv247_0
                                     replace hv247_0 := Option.some.inj (hv247_0.symm.trans hx247_0)
                                     injection hv247_0 with hva_ hvn_ hvc_
                                     rw [hva_] at ge247_0
                                     rw [hvc_] at ul247_0
                                     have HL247_0 := Aside0.mk (show Kd.V (Kd.int .i64) 3 _ w.heap.size _ _ (rd_L2 t216 (ji61)) from Kd.V_mk ul247_0 ge247_0)
                                     clear hva_ hvn_ hvc_ ge247_0 ul247_0
                                     clear hcc247 hce247
                                     have HR247_0 := Aside0.mk hi247_0
                                     have HC247_0 := Aside0.mk hl247_0
                                     clear hi247_0 hl247_0
                                     replace p247 := eq_true p247
                                     replace q247 := eq_true q247
                                     have p248 : 0 ≤ (2 : Int) := (by omega)
                                     have q248 : 2 < ((rd_L2 t216 (ji61)).length : Int) := of_decide_eq_true (by first | (with_reducible assumption) | assumption)
                                     obtain ⟨ad248, e248, hx248_0⟩ := Kd.at_int (by repeat (first | (with_reducible exact HR247_0.out) | (with_reducible refine Kd.C_alloc ?_ _) | (with_reducible refine Kd.C_drewN ?_ _) | (with_reducible refine Kd.C_drew ?_) | exact HR247_0.out)) 2 p248 q248
                                     cases e248
                                     (try simp only [show (2 : Int).toNat = 2 from rfl, Nat.reduceMul, Nat.reduceEqDiff, Go.Addr.add, ↓reduceIte] at hx248_0)
                                     have qi248 : (2 < (rd_L2 t216 (ji61)).length) = True := eq_true (by omega)
                                     (try rw [show ((2 : Int)).toNat = 2 from rfl] at hx248_0)
                                     replace p248 := eq_true p248
                                     replace q248 := eq_true q248
                                     have p249 : 0 ≤ (2 : Int) := (by omega)
                                     have q249 : 2 < ((rd_L2 t216 x141_6).length : Int) := of_decide_eq_true (by first | (with_reducible assumption) | assumption)
                                     obtain ⟨ad249, e249, hx249_0⟩ := Kd.at_int (by repeat (first | (with_reducible exact HR240_0.out) | (with_reducible refine Kd.C_alloc ?_ _) | (with_reducible refine Kd.C_drewN ?_ _) | (with_reducible refine Kd.C_drew ?_) | exact HR240_0.out)) 2 p249 q249
                                     obtain rfl : ad241 = ad249 := (by injection e249)
                                     (try simp only [show (2 : Int).toNat = 2 from rfl, Nat.reduceMul, Nat.reduceEqDiff, Go.Addr.add, ↓reduceIte] at hx249_0)
                                     have qi249 : (2 < (rd_L2 t216 x141_6).length) = True := eq_true (by omega)
                                     (try rw [show ((2 : Int)).toNat = 2 from rfl] at hx249_0)
                                     replace p249 := eq_true p249
                                     replace q249 := eq_true q249
                                     go_wp2
                                     repeat (go_quiet (fail); try go_wp2)
                                     go_roundg k6
                                     case measure => have := HJ9.out; have := HJ30.out; have := HJ34.out; have := HJ36.out; have := HJ41.out; have := HK6.out; omega
                                     case rel => exact ⟨(wrap64 (x141_6 + 1)), (by first | rfl | (simp; done) | (simp [*]; done)), H', ⟨by have := HJ9.out; have := HJ30.out; have := HJ34.out; have := HJ36.out; have := HJ41.out; have := HK6.out; omega⟩, ⟨by (with_reducible repeat (first | apply Kd.N_alloc | apply Kd.N_drewN | apply Kd.N_drew)); exact HO_6.out⟩, ⟨by (with_reducible repeat (first | apply Kd.N_alloc | apply Kd.N_drewN | apply Kd.N_drew)); exact HO_139.out⟩, ⟨by repeat (first | (with_reducible first | exact HB.out | apply below_alloc | apply pw_below_drewN | apply below_drew1) | exact HB.out | exact Below.refl _ _)⟩⟩
                                  ·
                                   rw [if_neg c64] at H
                                   exact absurd H (by simp)
                                 ·
                                  rw [if_neg c63] at H
                                  exact absurd H (by simp)
                                ·
                                 rw [if_neg c62] at H
                                 exact absurd H (by simp)
                               ·
                                rw [if_neg c60] at H
                                have c60b0 : decide (0 < x141_6) = false := decide_eq_false c60
                                clear c60
                                by_cases c67 : (((rd (rd_L2 t216 x141_6) 2) == 1) != (x141_6 == (wrap64 ((t216.length : Int) - 1)))) = true
                                ·
                                 rw [if_pos c67] at H
                                 exact absurd (H.trans (congrArg some hrT)) (by simp)
                                ·
                                 rw [if_neg c67] at H
                                 have c67b0 : (((rd (rd_L2 t216 x141_6) 2) == 1) != (x141_6 == (wrap64 ((t216.length : Int) - 1)))) = false := by simpa using c67
                                 (try (have c67b1 : decide (((rd (rd_L2 t216 x141_6) 2) == 1) = (x141_6 == (wrap64 ((t216.length : Int) - 1)))) = true := by simpa using c67))
                                 (try (have c67b2 : (((rd (rd_L2 t216 x141_6) 2) == 1) == (x141_6 == (wrap64 ((t216.length : Int) - 1)))) = true := by simpa using c67))
                                 clear c67
                                 have H' := Aside0.mk H
                                 clear H
                                 have p240 : 0 ≤ (x141_6 : Int) := of_decide_eq_true (by first | (with_reducible assumption) | assumption)
                                 have q240 : x141_6 < (t216.length : Int) := of_decide_eq_true (by first | (with_reducible assumption) | assumption)
                                 obtain ⟨ad240, A240_0, c240_0, e240, hx240_0, hl240_0, hi240_0⟩ := at_L2 (Kd.N_reads' HO_139.out).2.2 x141_6 p240 q240
                                 cases e240
                                 obtain ⟨ce240, hce240, hMe240, hcc240⟩ := Kd.N_get HO_139.out [] x141_6 p240 (by first | exact q240 | exact of_decide_eq_true (by first | (with_reducible assumption) | assumption) | (have e_ := (Kd.N_reads' HO_139.out).1; omega))
                                 obtain ⟨ua240_0, uc240_0, rfl, ul240_0, ge240_0⟩ := Kd.FK_slice_open hMe240
                                 have hv240_0 := hcc240 0 _ rfl
                                 rw [Nat.add_zero, show ((Kd.slice 3 (Kd.int .i64))).sz = 1 from rfl, Nat.mul_one] at hv240_0
                                 replace hv240_0 := Option.some.inj (hv240_0.symm.trans hx240_0)
                                 injection hv240_0 with hva_ hvn_ hvc_
                                 rw [hva_] at ge240_0
                                 rw [hvc_] at ul240_0
                                 have HL240_0 := Aside0.mk (show Kd.V (Kd.int .i64) 3 _ w.heap.size _ _ (rd_L2 t216 x141_6) from Kd.V_mk ul240_0 ge240_0)
                                 clear hva_ hvn_ hvc_ ge240_0 ul240_0
                                 clear hcc240 hce240
                                 have HR240_0 := Aside0.mk hi240_0
                                 have HC240_0 := Aside0.mk hl240_0
                                 clear hi240_0 hl240_0
                                 replace p240 := eq_true p240
                                 replace q240 := eq_true q240
                                 have p241 : 0 ≤ (0 : Int) := (by omega)
                                 have q241 : 0 < ((rd_L2 t216 x141_6).length : Int) := of_decide_eq_true (by first | (with_reducible assumption) | assumption)
                                 obtain ⟨ad241, e241, hx241_0⟩ := Kd.at_int (by repeat (first | (with_reducible exact HR240_0.out) | (with_reducible refine Kd.C_alloc ?_ _) | (with_reducible refine Kd.C_drewN ?_ _) | (with_reducible refine Kd.C_drew ?_) | exact HR240_0.out)) 0 p241 q241
                                 cases e241
                                 have qi241 : (0 < (rd_L2 t216 x141_6).length) = True := eq_true (by omega)
                                 (try rw [show ((0 : Int)).toNat = 0 from rfl] at hx241_0)
                                 (try rw [Addr.add_zero'] at hx241_0)
                                 replace p241 := eq_true p241
                                 replace q241 := eq_true q241
                                 have p242 : 0 ≤ (0 : Int) := (by omega)
                                 have q242 : 0 < ((rd_L2 t216 x141_6).length : Int) := of_decide_eq_true (by first | (with_reducible assumption) | assumption)
                                 obtain ⟨ad242, e242, hx242_0⟩ := Kd.at_int (by repeat (first | (with_reducible exact HR240_0.out) | (with_reducible refine Kd.C_alloc ?_ _) | (with_reducible refine Kd.C_drewN ?_ _) | (with_reducible refine Kd.C_drew ?_) | exact HR240_0.out)) 0 p242 q242
                                 obtain rfl : ad241 = ad242 := (by injection e242)
                                 have qi242 : (0 < (rd_L2 t216 x141_6).length) = True := eq_true (by omega)
                                 (try rw [show ((0 : Int)).toNat = 0 from rfl] at hx242_0)
                                 (try rw [Addr.add_zero'] at hx242_0)
                                 replace p242 := eq_true p242
                                 replace q242 := eq_true q242
                                 have p243 : 0 ≤ (1 : Int) := (by omega)
                                 have q243 : 1 < ((rd_L2 t216 x141_6).length : Int) := of_decide_eq_true (by first | (with_reducible assumption) | assumption)
                                 obtain ⟨ad243, e243, hx243_0⟩ := Kd.at_int (by repeat (first | (with_reducible exact HR240_0.out) | (with_reducible refine Kd.C_alloc ?_ _) | (with_reducible refine Kd.C_drewN ?_ _) | (with_reducible refine Kd.C_drew ?_) | exact HR240_0.out)) 1 p243 q243
                                 obtain rfl : ad241 = ad243 := (by injection e243)
                                 (try simp only [show (1 : Int).toNat = 1 from rfl, Nat.reduceMul, Nat.reduceEqDiff, Go.Addr.add, ↓reduceIte] at hx243_0)
                                 have qi243 : (1 < (rd_L2 t216 x141_6).length) = True := eq_true (by omega)
                                 (try rw [show ((1 : Int)).toNat = 1 from rfl] at hx243_0)
                                 replace p243 := eq_true p243
                                 replace q243 := eq_true q243
                                 have p244 : 0 ≤ (1 : Int) := (by omega)
                                 have q244 : 1 < ((rd_L2 t216 x141_6).length : Int) := of_decide_eq_true (by first | (with_reducible assumption) | assumption)
                                 obtain ⟨ad244, e244, hx244_0⟩ := Kd.at_int (by repeat (first | (with_reducible exact HR240_0.out) | (with_reducible refine Kd.C_alloc ?_ _) | (with_reducible refine Kd.C_drewN ?_ _) | (with_reducible refine Kd.C_drew ?_) | exact HR240_0.out)) 1 p244 q244
                                 obtain rfl : ad241 = ad244 := (by injection e244)
                                 (try simp only [show (1 : Int).toNat = 1 from rfl, Nat.reduceMul, Nat.reduceEqDiff, Go.Addr.add, ↓reduceIte] at hx244_0)
                                 have qi244 : (1 < (rd_L2 t216 x141_6).length) = True := eq_true (by omega)
                                 (try rw [show ((1 : Int)).toNat = 1 from rfl] at hx244_0)
                                 replace p244 := eq_true p244
                                 replace q244 := eq_true q244
                                 have p245 : 0 ≤ (2 : Int) := (by omega)
                                 have q245 : 2 < ((rd_L2 t216 x141_6).length : Int) := of_decide_eq_true (by first | (with_reducible assumption) | assumption)
                                 obtain ⟨ad245, e245, hx245_0⟩ := Kd.at_int (by repeat (first | (with_reducible exact HR240_0.out) | (with_reducible refine Kd.C_alloc ?_ _) | (with_reducible refine Kd.C_drewN ?_ _) | (with_reducible refine Kd.C_drew ?_) | exact HR240_0.out)) 2 p245 q245
                                 obtain rfl : ad241 = ad245 := (by injection e245)
                                 (try simp only [show (2 : Int).toNat = 2 from rfl, Nat.reduceMul, Nat.reduceEqDiff, Go.Addr.add, ↓reduceIte] at hx245_0)
                                 have qi245 : (2 < (rd_L2 t216 x141_6).length) = True := eq_true (by omega)
                                 (try rw [show ((2 : Int)).toNat = 2 from rfl] at hx245_0)
                                 replace p245 := eq_true p245
                                 replace q245 := eq_true q245
                                 have p250 : 0 ≤ (2 : Int) := (by omega)
                                 have q250 : 2 < ((rd_L2 t216 x141_6).length : Int) := of_decide_eq_true (by first | (with_reducible assumption) | assumption)
                                 obtain ⟨ad250, e250, hx250_0⟩ := Kd.at_int (by repeat (first | (with_reducible exact HR240_0.out) | (with_reducible refine Kd.C_alloc ?_ _) | (with_reducible refine Kd.C_drewN ?_ _) | (with_reducible refine Kd.C_drew ?_) | exact HR240_0.out)) 2 p250 q250
                                 obtain rfl : ad241 = ad250 := (by injection e250)
                                 (try simp only [show (2 : Int).toNat = 2 from rfl, Nat.reduceMul, Nat.reduceEqDiff, Go.Addr.add, ↓reduceIte] at hx250_0)
                                 have qi250 : (2 < (rd_L2 t216 x141_6).length) = True := eq_true (by omega)
                                 (try rw [show ((2 : Int)).toNat = 2 from rfl] at hx250_0)
                                 replace p250 := eq_true p250
                                 replace q250 := eq_true q250
                                 go_wp2
                                 repeat (go_quiet (fail); try go_wp2)
                                 go_roundg k6
                                 case measure => have := HJ9.out; have := HJ30.out; have := HJ34.out; have := HJ36.out; have := HJ41.out; have := HK6.out; omega
                                 case rel => exact ⟨(wrap64 (x141_6 + 1)), (by first | rfl | (simp; done) | (simp [*]; done)), H', ⟨by have := HJ9.out; have := HJ30.out; have := HJ34.out; have := HJ36.out; have := HJ41.out; have := HK6.out; omega⟩, ⟨by (with_reducible repeat (first | apply Kd.N_alloc | apply Kd.N_drewN | apply Kd.N_drew)); exact HO_6.out⟩, ⟨by (with_reducible repeat (first | apply Kd.N_alloc | apply Kd.N_drewN | apply Kd.N_drew)); exact HO_139.out⟩, ⟨by repeat (first | (with_reducible first | exact HB.out | apply below_alloc | apply pw_below_drewN | apply below_drew1) | exact HB.out | exact Below.refl _ _)⟩⟩
                              ·
                               rw [if_neg c59] at H
                               exact absurd (H.trans (congrArg some hrT)) (by simp)
                             ·
                              rw [if_neg c58] at H
                              exact absurd H (by simp)
                            ·
                             rw [if_neg c57] at H
                             exact absurd H (by simp)
                           ·
                            rw [if_neg c56] at H
                            exact absurd H (by simp)
                          ·
                           rw [if_neg c55] at H
                           exact absurd H (by simp)
                         ·
                          rw [if_neg c54] at H
                          exact absurd H (by simp)
                        ·
                         rw [if_neg c53] at H
                         have c53b0 : decide (x141_6 < (t216.length : Int)) = false := decide_eq_false c53
                         clear c53
                         obtain ⟨ji68, hji68⟩ : ∃ j_ : Int, (wrap64 ((t216.length : Int) - 1)) = j_ := ⟨_, rfl⟩
                         replace H : (if 0 ≤ (ji68) then (if (ji68) < (t216.length : Int) then (if 0 < ((rd_L2 t216 (ji68)).length : Int) then (if 1 < ((rd_L2 t216 (ji68)).length : Int) then (if (rd (rd_L2 t216 (ji68)) 0) < (rd (rd_L2 t216 (ji68)) 1) then ((impl_TwoSquares.f k6 t215).bind fun bt256 => ((impl_AllTwoSquares.f k6 t215).bind fun bt260 => (if bt256.2 = true then (if bt260.2 = true then (if (bt260.1.length : Int) = 1 then ((laws_vSame.f k6 bt256.1 (([rd (rd_L2 t216 (ji68)) 1, rd (rd_L2 t216 (ji68)) 0] : List Int))).bind fun t267 => (some t267)) else (some false)) else (some false)) else (some false)))) else ((impl_TwoSquares.f k6 t215).bind fun bt268 => ((impl_AllTwoSquares.f k6 t215).bind fun bt272 => (if bt268.2 = true then (if bt272.2 = true then (if (bt272.1.length : Int) = 1 then ((laws_vSame.f k6 bt268.1 (([rd (rd_L2 t216 (ji68)) 0, rd (rd_L2 t216 (ji68)) 1] : List Int))).bind fun t279 => (some t279)) else (some false)) else (some false)) else (some false))))) else (none)) else (none)) else (none)) else (none)) = some r := by first | (rw [hji68] at H; exact H) | (simp only [hji68] at H ⊢; exact H)
                         have hji68w : (IntKind.i64.wrap ((t216.length : Int) - 1)) = ji68 := (i64_w _).trans hji68
                         by_cases c69 : 0 ≤ (ji68)
                         ·
                          rw [if_pos c69] at H
                          have c69b0 : decide (0 ≤ (ji68)) = true := decide_eq_true c69
                          clear c69
                          by_cases c70 : (ji68) < (t216.length : Int)
                          ·
                           rw [if_pos c70] at H
                           have c70b0 : decide ((ji68) < (t216.length : Int)) = true := decide_eq_true c70
                           clear c70
                           by_cases c71 : 0 < ((rd_L2 t216 (ji68)).length : Int)
                           ·
                            rw [if_pos c71] at H
                            have c71b0 : decide (0 < ((rd_L2 t216 (ji68)).length : Int)) = true := decide_eq_true c71
                            have c71b1 : decide (0 < (rd_L2 t216 (ji68)).length) = true := decide_eq_true (by omega)
                            clear c71
                            by_cases c72 : 1 < ((rd_L2 t216 (ji68)).length : Int)
                            ·
                             rw [if_pos c72] at H
                             have c72b0 : decide (1 < ((rd_L2 t216 (ji68)).length : Int)) = true := decide_eq_true c72
                             have c72b1 : decide (1 < (rd_L2 t216 (ji68)).length) = true := decide_eq_true (by omega)
                             clear c72
                             by_cases c73 : (rd (rd_L2 t216 (ji68)) 0) < (rd (rd_L2 t216 (ji68)) 1)
                             ·
                              rw [if_pos c73] at H
                              have c73b0 : decide ((rd (rd_L2 t216 (ji68)) 0) < (rd (rd_L2 t216 (ji68)) 1)) = true := decide_eq_true c73
                              clear c73
                              replace H := Option.bind_eq_some_iff.mp H
                              obtain ⟨⟨t256, t257⟩, A740, H⟩ := H
                              replace H : ((impl_AllTwoSquares.f k6 t215).bind fun bt260 => (if t257 = true then (if bt260.2 = true then (if (bt260.1.length : Int) = 1 then ((laws_vSame.f k6 t256 (([rd (rd_L2 t216 (ji68)) 1, rd (rd_L2 t216 (ji68)) 0] : List Int))).bind fun t267 => (some t267)) else (some false)) else (some false)) else (some false))) = some r := H
                              have A74 := Aside0.mk A740
                              clear A740
                              replace H := Option.bind_eq_some_iff.mp H
                              obtain ⟨⟨t260, t261⟩, A750, H⟩ := H
                              replace H : (if t257 = true then (if t261 = true then (if (t260.length : Int) = 1 then ((laws_vSame.f k6 t256 (([rd (rd_L2 t216 (ji68)) 1, rd (rd_L2 t216 (ji68)) 0] : List Int))).bind fun t267 => (some t267)) else (some false)) else (some false)) else (some false)) = some r := H
                              have A75 := Aside0.mk A750
                              clear A750
                              by_cases c76 : t257 = true
                              ·
                               subst c76
                               have H1 : (if t261 = true then (if (t260.length : Int) = 1 then ((laws_vSame.f k6 t256 (([rd (rd_L2 t216 (ji68)) 1, rd (rd_L2 t216 (ji68)) 0] : List Int))).bind fun t267 => (some t267)) else (some false)) else (some false)) = some r := by rw [if_pos rfl] at H; exact H
                               clear H
                               have H := H1
                               clear H1
                               by_cases c77 : t261 = true
                               ·
                                subst c77
                                have H1 : (if (t260.length : Int) = 1 then ((laws_vSame.f k6 t256 (([rd (rd_L2 t216 (ji68)) 1, rd (rd_L2 t216 (ji68)) 0] : List Int))).bind fun t267 => (some t267)) else (some false)) = some r := by rw [if_pos rfl] at H; exact H
                                clear H
                                have H := H1
                                clear H1
                                by_cases c78 : (t260.length : Int) = 1
                                ·
                                 rw [if_pos c78] at H
                                 have c78b0 : ((t260.length : Int) == 1) = true := beq_iff_eq.mpr c78
                                 have c78b1 : ((t260.length : Int) != 1) = false := bne_eq_false_iff_eq.mpr c78
                                 clear c78
                                 obtain ⟨y264, hy264⟩ : ∃ y_ : List Int, y_ = (([rd (rd_L2 t216 (ji68)) 1, rd (rd_L2 t216 (ji68)) 0] : List Int)) := ⟨_, rfl⟩
                                 replace H : ((laws_vSame.f k6 t256 y264).bind fun t267 => (some t267)) = some r := by first | (rw [hy264]; with_reducible exact H) | (have H2_ := (Option.bind_some _ _).symm.trans H; rw [hy264]; with_reducible exact H2_) | (have H2_ := (Option.bind_some _ _).symm.trans H; with_reducible exact H2_) | with_reducible exact H | (rw [hy264]; exact H) | exact H
                                 have Ny264 := Aside0.mk hy264
                                 clear hy264
                                 replace H := Option.bind_eq_some_iff.mp H
                                 obtain ⟨t267, A790, H⟩ := H
                                 replace H : (some t267) = some r := H
                                 have A79 := Aside0.mk A790
                                 clear A790
                                 obtain rfl := Option.some.inj H
                                 have p251 : 0 ≤ ((ji68) : Int) := of_decide_eq_true (by first | (with_reducible assumption) | assumption)
                                 have q251 : (ji68) < (t216.length : Int) := of_decide_eq_true (by first | (with_reducible assumption) | assumption)
                                 obtain ⟨ad251, A251_0, c251_0, e251, hx251_0, hl251_0, hi251_0⟩ := at_L2 (Kd.N_reads' HO_6.out).2.2 (ji68) p251 q251
                                 cases e251
                                 obtain ⟨ce251, hce251, hMe251, hcc251⟩ := Kd.N_get HO_6.out [] (ji68) p251 (by first | exact q251 | exact of_decide_eq_true (by first | (with_reducible assumption) | assumption) | (have e_ := (Kd.N_reads' HO_6.out).1; omega))
                                 obtain ⟨ua251_0, uc251_0, rfl, ul251_0, ge251_0⟩ := Kd.FK_slice_open hMe251
                                 have hv251_0 := hcc251 0 _ rfl
                                 rw [Nat.add_zero, show ((Kd.slice 3 (Kd.int .i64))).sz = 1 from rfl, Nat.mul_one] at hv251_0
                                 replace hv251_0 := Option.some.inj (hv251_0.symm.trans hx251_0)
                                 injection hv251_0 with hva_ hvn_ hvc_
                                 rw [hva_] at ge251_0
                                 rw [hvc_] at ul251_0
                                 have HL251_0 := Aside0.mk (show Kd.V (Kd.int .i64) 3 _ w.heap.size _ _ (rd_L2 t216 (ji68)) from Kd.V_mk ul251_0 ge251_0)
                                 clear hva_ hvn_ hvc_ ge251_0 ul251_0
                                 clear hcc251 hce251
                                 have HR251_0 := Aside0.mk hi251_0
                                 have HC251_0 := Aside0.mk hl251_0
                                 clear hi251_0 hl251_0
                                 replace p251 := eq_true p251
                                 replace q251 := eq_true q251
                                 have p252 : 0 ≤ (0 : Int) := (by omega)
                                 have q252 : 0 < ((rd_L2 t216 (ji68)).length : Int) := of_decide_eq_true (by first | (with_reducible assumption) | assumption)
                                 obtain ⟨ad252, e252, hx252_0⟩ := Kd.at_int (by repeat (first | (with_reducible exact HR251_0.out) | (with_reducible refine Kd.C_alloc ?_ _) | (with_reducible refine Kd.C_drewN ?_ _) | (with_reducible refine Kd.C_drew ?_) | exact HR251_0.out)) 0 p252 q252
                                 cases e252
                                 have qi252 : (0 < (rd_L2 t216 (ji68)).length) = True := eq_true (by omega)
                                 (try rw [show ((0 : Int)).toNat = 0 from rfl] at hx252_0)
                                 (try rw [Addr.add_zero'] at hx252_0)
                                 replace p252 := eq_true p252
                                 replace q252 := eq_true q252
                                 have p253 : 0 ≤ (1 : Int) := (by omega)
                                 have q253 : 1 < ((rd_L2 t216 (ji68)).length : Int) := of_decide_eq_true (by first | (with_reducible assumption) | assumption)
                                 obtain ⟨ad253, e253, hx253_0⟩ := Kd.at_int (by repeat (first | (with_reducible exact HR251_0.out) | (with_reducible refine Kd.C_alloc ?_ _) | (with_reducible refine Kd.C_drewN ?_ _) | (with_reducible refine Kd.C_drew ?_) | exact HR251_0.out)) 1 p253 q253
                                 obtain rfl : ad252 = ad253 := (by injection e253)
                                 (try simp only [show (1 : Int).toNat = 1 from rfl, Nat.reduceMul, Nat.reduceEqDiff, Go.Addr.add, ↓reduceIte] at hx253_0)
                                 have qi253 : (1 < (rd_L2 t216 (ji68)).length) = True := eq_true (by omega)
                                 (try rw [show ((1 : Int)).toNat = 1 from rfl] at hx253_0)
                                 replace p253 := eq_true p253
                                 replace q253 := eq_true q253
                                 have p254 : 0 ≤ (1 : Int) := (by omega)
                                 have q254 : 1 < ((rd_L2 t216 (ji68)).length : Int) := of_decide_eq_true (by first | (with_reducible assumption) | assumption)
                                 obtain ⟨ad254, e254, hx254_0⟩ := Kd.at_int (by repeat (first | (with_reducible exact HR251_0.out) | (with_reducible refine Kd.C_alloc ?_ _) | (with_reducible refine Kd.C_drewN ?_ _) | (with_reducible refine Kd.C_drew ?_) | exact HR251_0.out)) 1 p254 q254
                                 obtain rfl : ad252 = ad254 := (by injection e254)
                                 (try simp only [show (1 : Int).toNat = 1 from rfl, Nat.reduceMul, Nat.reduceEqDiff, Go.Addr.add, ↓reduceIte] at hx254_0)
                                 have qi254 : (1 < (rd_L2 t216 (ji68)).length) = True := eq_true (by omega)
                                 (try rw [show ((1 : Int)).toNat = 1 from rfl] at hx254_0)
                                 replace p254 := eq_true p254
                                 replace q254 := eq_true q254
                                 have p255 : 0 ≤ (0 : Int) := (by omega)
                                 have q255 : 0 < ((rd_L2 t216 (ji68)).length : Int) := of_decide_eq_true (by first | (with_reducible assumption) | assumption)
                                 obtain ⟨ad255, e255, hx255_0⟩ := Kd.at_int (by repeat (first | (with_reducible exact HR251_0.out) | (with_reducible refine Kd.C_alloc ?_ _) | (with_reducible refine Kd.C_drewN ?_ _) | (with_reducible refine Kd.C_drew ?_) | exact HR251_0.out)) 0 p255 q255
                                 obtain rfl : ad252 = ad255 := (by injection e255)
                                 have qi255 : (0 < (rd_L2 t216 (ji68)).length) = True := eq_true (by omega)
                                 (try rw [show ((0 : Int)).toNat = 0 from rfl] at hx255_0)
                                 (try rw [Addr.add_zero'] at hx255_0)
                                 replace p255 := eq_true p255
                                 replace q255 := eq_true q255
                                 go_wp2_with (first | (go_at_call 23; (with_reducible refine (impl_TwoSquares.calls k6 t215 t256 true _ A74.out).mono ?_); rintro e w80 ⟨v258, rfl, ho0, hb⟩; have n0_ := Aside0.mk (Kd.N_elder' (by (with_reducible repeat (first | apply Kd.N_alloc | apply Kd.N_drewN | apply Kd.N_drew)); exact HO_6.out) (Kd.R_base ho0) hb); have n1_ := Aside0.mk (Kd.N_elder' (by (with_reducible repeat (first | apply Kd.N_alloc | apply Kd.N_drewN | apply Kd.N_drew)); exact HO_139.out) (Kd.R_base ho0) hb); have n2_ := Aside0.mk (Kd.V_elder' (by (with_reducible repeat (first | apply Kd.V_alloc | apply Kd.V_drewN | apply Kd.V_drew)); exact HL251_0.out) (Kd.R_base ho0) hb); have n3_ := Aside0.mk (Kd.R_lower ho0 (below_size (by repeat (first | (with_reducible first | exact HB.out | apply below_alloc | apply pw_below_drewN | apply below_drew1) | exact HB.out | exact Below.refl _ _)))); have n4_ := Aside0.mk ((by with_reducible first | exact Kd.C_below HR251_0.out hb | exact Kd.C_below (Kd.C_drewN HR251_0.out _) hb | exact Kd.C_below (Kd.C_alloc HR251_0.out _) hb | exact Kd.C_below (Kd.C_drewN (Kd.C_drewN HR251_0.out _) _) hb)); have n5_ := Aside0.mk (below_step (by repeat (first | (with_reducible first | exact HB.out | apply below_alloc | apply pw_below_drewN | apply below_drew1) | exact HB.out | exact Below.refl _ _)) hb); clear HO_6; clear HO_139; clear HL251_0; clear HR251_0; clear HB; have HO_6 := n0_; have HO_139 := n1_; have HL251_0 := n2_; have HO259 := n3_; have HR251_0 := n4_; have HB := n5_; clear n0_ n1_ n2_ n3_ n4_ n5_; (try clear hb); (try clear hb2); (try clear hk); (try clear hi); (try clear ho0)) | (go_at_call 24; (with_reducible refine (impl_AllTwoSquares.calls k6 t215 t260 true _ A75.out).mono ?_); rintro e w81 ⟨v262, rfl, ho0, hb⟩; have n0_ := Aside0.mk (Kd.N_elder' (by (with_reducible repeat (first | apply Kd.N_alloc | apply Kd.N_drewN | apply Kd.N_drew)); exact HO_6.out) (Kd.S_base ho0) hb); have n1_ := Aside0.mk (Kd.N_elder' (by (with_reducible repeat (first | apply Kd.N_alloc | apply Kd.N_drewN | apply Kd.N_drew)); exact HO_139.out) (Kd.S_base ho0) hb); have n2_ := Aside0.mk (Kd.V_elder' (by (with_reducible repeat (first | apply Kd.V_alloc | apply Kd.V_drewN | apply Kd.V_drew)); exact HL251_0.out) (Kd.S_base ho0) hb); have n3_ := Aside0.mk (Kd.R_below (by (with_reducible repeat (first | apply Kd.R_alloc | apply Kd.R_drewN | apply Kd.R_drew)); exact HO259.out) hb); have n4_ := Aside0.mk (Kd.N_lower (Kd.N_mono (ok' := fun k_ => some k_ ≠ (.slice (some ad251) t216.length co52 : Value).ownBlock ∧ some k_ ≠ (.slice (some ad251) t216.length co52 : Value).ownBlock ∧ some k_ ≠ (v258 : Value).ownBlock) (Kd.S_N (Kd.S_bound ho0)) (fun k_ hk_ => ⟨(Kd.fresh' (Kd.N_lt (by (with_reducible repeat (first | apply Kd.N_alloc | apply Kd.N_drewN | apply Kd.N_drew)); exact HO_6.out)) k_ hk_.2.1), (Kd.fresh' (Kd.N_lt (by (with_reducible repeat (first | apply Kd.N_alloc | apply Kd.N_drewN | apply Kd.N_drew)); exact HO_139.out)) k_ hk_.2.1), (Kd.fresh' (Kd.R_lt (by (with_reducible repeat (first | apply Kd.R_alloc | apply Kd.R_drewN | apply Kd.R_drew)); exact HO259.out)) k_ hk_.2.1)⟩)) (below_size (by repeat (first | (with_reducible first | exact HB.out | apply below_alloc | apply pw_below_drewN | apply below_drew1) | exact HB.out | exact Below.refl _ _)))); have n5_ := Aside0.mk ((by with_reducible first | exact Kd.C_below HR251_0.out hb | exact Kd.C_below (Kd.C_drewN HR251_0.out _) hb | exact Kd.C_below (Kd.C_alloc HR251_0.out _) hb | exact Kd.C_below (Kd.C_drewN (Kd.C_drewN HR251_0.out _) _) hb)); have n6_ := Aside0.mk (below_step (by repeat (first | (with_reducible first | exact HB.out | apply below_alloc | apply pw_below_drewN | apply below_drew1) | exact HB.out | exact Below.refl _ _)) hb); clear HO_6; clear HO_139; clear HL251_0; clear HO259; clear HR251_0; clear HB; have HO_6 := n0_; have HO_139 := n1_; have HL251_0 := n2_; have HO259 := n3_; have HO263 := n4_; have HR251_0 := n5_; have HB := n6_; clear n0_ n1_ n2_ n3_ n4_ n5_ n6_; (try clear hb); (try clear hb2); (try clear hk); (try clear hi); (try clear ho0); obtain ⟨Ao82, co82, eo82⟩ := Kd.N_slice HO263.out; subst eo82) | ((with_reducible refine gate_dst (N := 242) rfl ?_); (try (refine gate_guard (by rfl) ?_; dsimp only)); refine Kd.R_lit (Kd.int .i64) _ 3 ?hg (N := 242) ?hd (xs := ([rd (rd_L2 t216 (ji68)) 1, rd (rd_L2 t216 (ji68)) 0] : List Int)) (inner := [.int .i64 (rd (rd_L2 t216 (ji68)) 1), .int .i64 (rd (rd_L2 t216 (ji68)) 0)]) (ok := fun _ => True) (okp := fun _ => True) ?hr ?hp (fun _ hk => hk) trivial (Below.refl _ _) (Nat.le_refl _) (by simp) ?_; (case hd => rfl); (case hg => rfl); (case hr => first | (go_simp; done) | (go_simp; rfl)); (case hp => exact (Reps.one (show Kd.M (Kd.int .i64) _ _ _ (rd (rd_L2 t216 (ji68)) 1) [.int .i64 (rd (rd_L2 t216 (ji68)) 1)] from rfl) (Reps.one (show Kd.M (Kd.int .i64) _ _ _ (rd (rd_L2 t216 (ji68)) 0) [.int .i64 (rd (rd_L2 t216 (ji68)) 0)] from rfl) (Reps.none _ _)))); intro v265 w83 ho84 hb hg_ hnew_; clear hg_ hnew_; (first | rw [← Ny264.out] at ho84 | (simp only [Int.reduceToNat] at ho84; rw [← Ny264.out] at ho84)); have n0_ := Aside0.mk (Kd.N_elder' (by (with_reducible repeat (first | apply Kd.N_alloc | apply Kd.N_drewN | apply Kd.N_drew)); exact HO_6.out) (Kd.R_base ho84) hb); have n1_ := Aside0.mk (Kd.N_elder' (by (with_reducible repeat (first | apply Kd.N_alloc | apply Kd.N_drewN | apply Kd.N_drew)); exact HO_139.out) (Kd.R_base ho84) hb); have n2_ := Aside0.mk (Kd.V_elder' (by (with_reducible repeat (first | apply Kd.V_alloc | apply Kd.V_drewN | apply Kd.V_drew)); exact HL251_0.out) (Kd.R_base ho84) hb); have n3_ := Aside0.mk (Kd.R_elder' (by (with_reducible repeat (first | apply Kd.R_alloc | apply Kd.R_drewN | apply Kd.R_drew)); exact HO259.out) (Kd.R_base ho84) hb); have n4_ := Aside0.mk (Kd.N_elder' (by (with_reducible repeat (first | apply Kd.N_alloc | apply Kd.N_drewN | apply Kd.N_drew)); exact HO263.out) (Kd.R_base ho84) hb); have n5_ := Aside0.mk (Kd.R_lower (Kd.R_new' ho84 (Kd.R_lt (by (with_reducible repeat (first | apply Kd.R_alloc | apply Kd.R_drewN | apply Kd.R_drew)); exact HO259.out))) (below_size (by repeat (first | (with_reducible first | exact HB.out | apply below_alloc | apply pw_below_drewN | apply below_drew1) | exact HB.out | exact Below.refl _ _)))); have n6_ := Aside0.mk ((by with_reducible first | exact Kd.C_below HR251_0.out hb | exact Kd.C_below (Kd.C_drewN HR251_0.out _) hb | exact Kd.C_below (Kd.C_alloc HR251_0.out _) hb | exact Kd.C_below (Kd.C_drewN (Kd.C_drewN HR251_0.out _) _) hb)); have n7_ := Aside0.mk (below_step (by repeat (first | (with_reducible first | exact HB.out | apply below_alloc | apply pw_below_drewN | apply below_drew1) | exact HB.out | exact Below.refl _ _)) hb); clear HO_6; clear HO_139; clear HL251_0; clear HO259; clear HO263; clear HR251_0; clear HB; have HO_6 := n0_; have HO_139 := n1_; have HL251_0 := n2_; have HO259 := n3_; have HO263 := n4_; have HO266 := n5_; have HR251_0 := n6_; have HB := n7_; clear n0_ n1_ n2_ n3_ n4_ n5_ n6_ n7_; clear hb ho84; obtain ⟨Ao85, co85, eo85⟩ := Kd.R_slice HO259.out; subst eo85; obtain ⟨Ao86, co86, eo86⟩ := Kd.R_slice HO266.out; subst eo86) | (go_at_call 25; (with_reducible refine (laws_vSame.calls k6 _ _ t256 _ _ y264 t267 _ ?side1 ?side2 ?side3 ?side4 A79.out).mono ?_); (case side1 => repeat (first | exact (Kd.R_reads' HO259.out).2.2 | (with_reducible refine Kd.C_alloc ?_ _) | (with_reducible refine Kd.C_drewN ?_ _) | (with_reducible refine Kd.C_drew ?_))); (case side2 => exact (Kd.R_reads' HO259.out).2.1); (case side3 => repeat (first | exact (Kd.R_reads' HO266.out).2.2 | (with_reducible refine Kd.C_alloc ?_ _) | (with_reducible refine Kd.C_drewN ?_ _) | (with_reducible refine Kd.C_drew ?_))); (case side4 => exact (Kd.R_reads' HO266.out).2.1); rintro e w' ⟨rfl, ⟨nd, rfl⟩⟩; (try first | exact ⟨rfl, _, World.drewN_drewN _ _ _⟩ | exact ⟨rfl, _, Eq.trans (World.drewN_drewN _ _ _) (congrArg (World.drewN _) (Nat.add_assoc _ _ _))⟩)))
                                 repeat (go_quiet (first | (go_at_call 23; (with_reducible refine (impl_TwoSquares.calls k6 t215 t256 true _ A74.out).mono ?_); rintro e w80 ⟨v258, rfl, ho0, hb⟩; have n0_ := Aside0.mk (Kd.N_elder' (by (with_reducible repeat (first | apply Kd.N_alloc | apply Kd.N_drewN | apply Kd.N_drew)); exact HO_6.out) (Kd.R_base ho0) hb); have n1_ := Aside0.mk (Kd.N_elder' (by (with_reducible repeat (first | apply Kd.N_alloc | apply Kd.N_drewN | apply Kd.N_drew)); exact HO_139.out) (Kd.R_base ho0) hb); have n2_ := Aside0.mk (Kd.V_elder' (by (with_reducible repeat (first | apply Kd.V_alloc | apply Kd.V_drewN | apply Kd.V_drew)); exact HL251_0.out) (Kd.R_base ho0) hb); have n3_ := Aside0.mk (Kd.R_lower ho0 (below_size (by repeat (first | (with_reducible first | exact HB.out | apply below_alloc | apply pw_below_drewN | apply below_drew1) | exact HB.out | exact Below.refl _ _)))); have n4_ := Aside0.mk ((by with_reducible first | exact Kd.C_below HR251_0.out hb | exact Kd.C_below (Kd.C_drewN HR251_0.out _) hb | exact Kd.C_below (Kd.C_alloc HR251_0.out _) hb | exact Kd.C_below (Kd.C_drewN (Kd.C_drewN HR251_0.out _) _) hb)); have n5_ := Aside0.mk (below_step (by repeat (first | (with_reducible first | exact HB.out | apply below_alloc | apply pw_below_drewN | apply below_drew1) | exact HB.out | exact Below.refl _ _)) hb); clear HO_6; clear HO_139; clear HL251_0; clear HR251_0; clear HB; have HO_6 := n0_; have HO_139 := n1_; have HL251_0 := n2_; have HO259 := n3_; have HR251_0 := n4_; have HB := n5_; clear n0_ n1_ n2_ n3_ n4_ n5_; (try clear hb); (try clear hb2); (try clear hk); (try clear hi); (try clear ho0)) | (go_at_call 24; (with_reducible refine (impl_AllTwoSquares.calls k6 t215 t260 true _ A75.out).mono ?_); rintro e w81 ⟨v262, rfl, ho0, hb⟩; have n0_ := Aside0.mk (Kd.N_elder' (by (with_reducible repeat (first | apply Kd.N_alloc | apply Kd.N_drewN | apply Kd.N_drew)); exact HO_6.out) (Kd.S_base ho0) hb); have n1_ := Aside0.mk (Kd.N_elder' (by (with_reducible repeat (first | apply Kd.N_alloc | apply Kd.N_drewN | apply Kd.N_drew)); exact HO_139.out) (Kd.S_base ho0) hb); have n2_ := Aside0.mk (Kd.V_elder' (by (with_reducible repeat (first | apply Kd.V_alloc | apply Kd.V_drewN | apply Kd.V_drew)); exact HL251_0.out) (Kd.S_base ho0) hb); have n3_ := Aside0.mk (Kd.R_below (by (with_reducible repeat (first | apply Kd.R_alloc | apply Kd.R_drewN | apply Kd.R_drew)); exact HO259.out) hb); have n4_ := Aside0.mk (Kd.N_lower (Kd.N_mono (ok' := fun k_ => some k_ ≠ (.slice (some ad251) t216.length co52 : Value).ownBlock ∧ some k_ ≠ (.slice (some ad251) t216.length co52 : Value).ownBlock ∧ some k_ ≠ (v258 : Value).ownBlock) (Kd.S_N (Kd.S_bound ho0)) (fun k_ hk_ => ⟨(Kd.fresh' (Kd.N_lt (by (with_reducible repeat (first | apply Kd.N_alloc | apply Kd.N_drewN | apply Kd.N_drew)); exact HO_6.out)) k_ hk_.2.1), (Kd.fresh' (Kd.N_lt (by (with_reducible repeat (first | apply Kd.N_alloc | apply Kd.N_drewN | apply Kd.N_drew)); exact HO_139.out)) k_ hk_.2.1), (Kd.fresh' (Kd.R_lt (by (with_reducible repeat (first | apply Kd.R_alloc | apply Kd.R_drewN | apply Kd.R_drew)); exact HO259.out)) k_ hk_.2.1)⟩)) (below_size (by repeat (first | (with_reducible first | exact HB.out | apply below_alloc | apply pw_below_drewN | apply below_drew1) | exact HB.out | exact Below.refl _ _)))); have n5_ := Aside0.mk ((by with_reducible first | exact Kd.C_below HR251_0.out hb | exact Kd.C_below (Kd.C_drewN HR251_0.out _) hb | exact Kd.C_below (Kd.C_alloc HR251_0.out _) hb | exact Kd.C_below (Kd.C_drewN (Kd.C_drewN HR251_0.out _) _) hb)); have n6_ := Aside0.mk (below_step (by repeat (first | (with_reducible first | exact HB.out | apply below_alloc | apply pw_below_drewN | apply below_drew1) | exact HB.out | exact Below.refl _ _)) hb); clear HO_6; clear HO_139; clear HL251_0; clear HO259; clear HR251_0; clear HB; have HO_6 := n0_; have HO_139 := n1_; have HL251_0 := n2_; have HO259 := n3_; have HO263 := n4_; have HR251_0 := n5_; have HB := n6_; clear n0_ n1_ n2_ n3_ n4_ n5_ n6_; (try clear hb); (try clear hb2); (try clear hk); (try clear hi); (try clear ho0); obtain ⟨Ao82, co82, eo82⟩ := Kd.N_slice HO263.out; subst eo82) | ((with_reducible refine gate_dst (N := 242) rfl ?_); (try (refine gate_guard (by rfl) ?_; dsimp only)); refine Kd.R_lit (Kd.int .i64) _ 3 ?hg (N := 242) ?hd (xs := ([rd (rd_L2 t216 (ji68)) 1, rd (rd_L2 t216 (ji68)) 0] : List Int)) (inner := [.int .i64 (rd (rd_L2 t216 (ji68)) 1), .int .i64 (rd (rd_L2 t216 (ji68)) 0)]) (ok := fun _ => True) (okp := fun _ => True) ?hr ?hp (fun _ hk => hk) trivial (Below.refl _ _) (Nat.le_refl _) (by simp) ?_; (case hd => rfl); (case hg => rfl); (case hr => first | (go_simp; done) | (go_simp; rfl)); (case hp => exact (Reps.one (show Kd.M (Kd.int .i64) _ _ _ (rd (rd_L2 t216 (ji68)) 1) [.int .i64 (rd (rd_L2 t216 (ji68)) 1)] from rfl) (Reps.one (show Kd.M (Kd.int .i64) _ _ _ (rd (rd_L2 t216 (ji68)) 0) [.int .i64 (rd (rd_L2 t216 (ji68)) 0)] from rfl) (Reps.none _ _)))); intro v265 w83 ho84 hb hg_ hnew_; clear hg_ hnew_; (first | rw [← Ny264.out] at ho84 | (simp only [Int.reduceToNat] at ho84; rw [← Ny264.out] at ho84)); have n0_ := Aside0.mk (Kd.N_elder' (by (with_reducible repeat (first | apply Kd.N_alloc | apply Kd.N_drewN | apply Kd.N_drew)); exact HO_6.out) (Kd.R_base ho84) hb); have n1_ := Aside0.mk (Kd.N_elder' (by (with_reducible repeat (first | apply Kd.N_alloc | apply Kd.N_drewN | apply Kd.N_drew)); exact HO_139.out) (Kd.R_base ho84) hb); have n2_ := Aside0.mk (Kd.V_elder' (by (with_reducible repeat (first | apply Kd.V_alloc | apply Kd.V_drewN | apply Kd.V_drew)); exact HL251_0.out) (Kd.R_base ho84) hb); have n3_ := Aside0.mk (Kd.R_elder' (by (with_reducible repeat (first | apply Kd.R_alloc | apply Kd.R_drewN | apply Kd.R_drew)); exact HO259.out) (Kd.R_base ho84) hb); have n4_ := Aside0.mk (Kd.N_elder' (by (with_reducible repeat (first | apply Kd.N_alloc | apply Kd.N_drewN | apply Kd.N_drew)); exact HO263.out) (Kd.R_base ho84) hb); have n5_ := Aside0.mk (Kd.R_lower (Kd.R_new' ho84 (Kd.R_lt (by (with_reducible repeat (first | apply Kd.R_alloc | apply Kd.R_drewN | apply Kd.R_drew)); exact HO259.out))) (below_size (by repeat (first | (with_reducible first | exact HB.out | apply below_alloc | apply pw_below_drewN | apply below_drew1) | exact HB.out | exact Below.refl _ _)))); have n6_ := Aside0.mk ((by with_reducible first | exact Kd.C_below HR251_0.out hb | exact Kd.C_below (Kd.C_drewN HR251_0.out _) hb | exact Kd.C_below (Kd.C_alloc HR251_0.out _) hb | exact Kd.C_below (Kd.C_drewN (Kd.C_drewN HR251_0.out _) _) hb)); have n7_ := Aside0.mk (below_step (by repeat (first | (with_reducible first | exact HB.out | apply below_alloc | apply pw_below_drewN | apply below_drew1) | exact HB.out | exact Below.refl _ _)) hb); clear HO_6; clear HO_139; clear HL251_0; clear HO259; clear HO263; clear HR251_0; clear HB; have HO_6 := n0_; have HO_139 := n1_; have HL251_0 := n2_; have HO259 := n3_; have HO263 := n4_; have HO266 := n5_; have HR251_0 := n6_; have HB := n7_; clear n0_ n1_ n2_ n3_ n4_ n5_ n6_ n7_; clear hb ho84; obtain ⟨Ao85, co85, eo85⟩ := Kd.R_slice HO259.out; subst eo85; obtain ⟨Ao86, co86, eo86⟩ := Kd.R_slice HO266.out; subst eo86) | (go_at_call 25; (with_reducible refine (laws_vSame.calls k6 _ _ t256 _ _ y264 t267 _ ?side1 ?side2 ?side3 ?side4 A79.out).mono ?_); (case side1 => repeat (first | exact (Kd.R_reads' HO259.out).2.2 | (with_reducible refine Kd.C_alloc ?_ _) | (with_reducible refine Kd.C_drewN ?_ _) | (with_reducible refine Kd.C_drew ?_))); (case side2 => exact (Kd.R_reads' HO259.out).2.1); (case side3 => repeat (first | exact (Kd.R_reads' HO266.out).2.2 | (with_reducible refine Kd.C_alloc ?_ _) | (with_reducible refine Kd.C_drewN ?_ _) | (with_reducible refine Kd.C_drew ?_))); (case side4 => exact (Kd.R_reads' HO266.out).2.1); rintro e w' ⟨rfl, ⟨nd, rfl⟩⟩; (try first | exact ⟨rfl, _, World.drewN_drewN _ _ _⟩ | exact ⟨rfl, _, Eq.trans (World.drewN_drewN _ _ _) (congrArg (World.drewN _) (Nat.add_assoc _ _ _))⟩))); try go_wp2_with (first | (go_at_call 23; (with_reducible refine (impl_TwoSquares.calls k6 t215 t256 true _ A74.out).mono ?_); rintro e w80 ⟨v258, rfl, ho0, hb⟩; have n0_ := Aside0.mk (Kd.N_elder' (by (with_reducible repeat (first | apply Kd.N_alloc | apply Kd.N_drewN | apply Kd.N_drew)); exact HO_6.out) (Kd.R_base ho0) hb); have n1_ := Aside0.mk (Kd.N_elder' (by (with_reducible repeat (first | apply Kd.N_alloc | apply Kd.N_drewN | apply Kd.N_drew)); exact HO_139.out) (Kd.R_base ho0) hb); have n2_ := Aside0.mk (Kd.V_elder' (by (with_reducible repeat (first | apply Kd.V_alloc | apply Kd.V_drewN | apply Kd.V_drew)); exact HL251_0.out) (Kd.R_base ho0) hb); have n3_ := Aside0.mk (Kd.R_lower ho0 (below_size (by repeat (first | (with_reducible first | exact HB.out | apply below_alloc | apply pw_below_drewN | apply below_drew1) | exact HB.out | exact Below.refl _ _)))); have n4_ := Aside0.mk ((by with_reducible first | exact Kd.C_below HR251_0.out hb | exact Kd.C_below (Kd.C_drewN HR251_0.out _) hb | exact Kd.C_below (Kd.C_alloc HR251_0.out _) hb | exact Kd.C_below (Kd.C_drewN (Kd.C_drewN HR251_0.out _) _) hb)); have n5_ := Aside0.mk (below_step (by repeat (first | (with_reducible first | exact HB.out | apply below_alloc | apply pw_below_drewN | apply below_drew1) | exact HB.out | exact Below.refl _ _)) hb); clear HO_6; clear HO_139; clear HL251_0; clear HR251_0; clear HB; have HO_6 := n0_; have HO_139 := n1_; have HL251_0 := n2_; have HO259 := n3_; have HR251_0 := n4_; have HB := n5_; clear n0_ n1_ n2_ n3_ n4_ n5_; (try clear hb); (try clear hb2); (try clear hk); (try clear hi); (try clear ho0)) | (go_at_call 24; (with_reducible refine (impl_AllTwoSquares.calls k6 t215 t260 true _ A75.out).mono ?_); rintro e w81 ⟨v262, rfl, ho0, hb⟩; have n0_ := Aside0.mk (Kd.N_elder' (by (with_reducible repeat (first | apply Kd.N_alloc | apply Kd.N_drewN | apply Kd.N_drew)); exact HO_6.out) (Kd.S_base ho0) hb); have n1_ := Aside0.mk (Kd.N_elder' (by (with_reducible repeat (first | apply Kd.N_alloc | apply Kd.N_drewN | apply Kd.N_drew)); exact HO_139.out) (Kd.S_base ho0) hb); have n2_ := Aside0.mk (Kd.V_elder' (by (with_reducible repeat (first | apply Kd.V_alloc | apply Kd.V_drewN | apply Kd.V_drew)); exact HL251_0.out) (Kd.S_base ho0) hb); have n3_ := Aside0.mk (Kd.R_below (by (with_reducible repeat (first | apply Kd.R_alloc | apply Kd.R_drewN | apply Kd.R_drew)); exact HO259.out) hb); have n4_ := Aside0.mk (Kd.N_lower (Kd.N_mono (ok' := fun k_ => some k_ ≠ (.slice (some ad251) t216.length co52 : Value).ownBlock ∧ some k_ ≠ (.slice (some ad251) t216.length co52 : Value).ownBlock ∧ some k_ ≠ (v258 : Value).ownBlock) (Kd.S_N (Kd.S_bound ho0)) (fun k_ hk_ => ⟨(Kd.fresh' (Kd.N_lt (by (with_reducible repeat (first | apply Kd.N_alloc | apply Kd.N_drewN | apply Kd.N_drew)); exact HO_6.out)) k_ hk_.2.1), (Kd.fresh' (Kd.N_lt (by (with_reducible repeat (first | apply Kd.N_alloc | apply Kd.N_drewN | apply Kd.N_drew)); exact HO_139.out)) k_ hk_.2.1), (Kd.fresh' (Kd.R_lt (by (with_reducible repeat (first | apply Kd.R_alloc | apply Kd.R_drewN | apply Kd.R_drew)); exact HO259.out)) k_ hk_.2.1)⟩)) (below_size (by repeat (first | (with_reducible first | exact HB.out | apply below_alloc | apply pw_below_drewN | apply below_drew1) | exact HB.out | exact Below.refl _ _)))); have n5_ := Aside0.mk ((by with_reducible first | exact Kd.C_below HR251_0.out hb | exact Kd.C_below (Kd.C_drewN HR251_0.out _) hb | exact Kd.C_below (Kd.C_alloc HR251_0.out _) hb | exact Kd.C_below (Kd.C_drewN (Kd.C_drewN HR251_0.out _) _) hb)); have n6_ := Aside0.mk (below_step (by repeat (first | (with_reducible first | exact HB.out | apply below_alloc | apply pw_below_drewN | apply below_drew1) | exact HB.out | exact Below.refl _ _)) hb); clear HO_6; clear HO_139; clear HL251_0; clear HO259; clear HR251_0; clear HB; have HO_6 := n0_; have HO_139 := n1_; have HL251_0 := n2_; have HO259 := n3_; have HO263 := n4_; have HR251_0 := n5_; have HB := n6_; clear n0_ n1_ n2_ n3_ n4_ n5_ n6_; (try clear hb); (try clear hb2); (try clear hk); (try clear hi); (try clear ho0); obtain ⟨Ao82, co82, eo82⟩ := Kd.N_slice HO263.out; subst eo82) | ((with_reducible refine gate_dst (N := 242) rfl ?_); (try (refine gate_guard (by rfl) ?_; dsimp only)); refine Kd.R_lit (Kd.int .i64) _ 3 ?hg (N := 242) ?hd (xs := ([rd (rd_L2 t216 (ji68)) 1, rd (rd_L2 t216 (ji68)) 0] : List Int)) (inner := [.int .i64 (rd (rd_L2 t216 (ji68)) 1), .int .i64 (rd (rd_L2 t216 (ji68)) 0)]) (ok := fun _ => True) (okp := fun _ => True) ?hr ?hp (fun _ hk => hk) trivial (Below.refl _ _) (Nat.le_refl _) (by simp) ?_; (case hd => rfl); (case hg => rfl); (case hr => first | (go_simp; done) | (go_simp; rfl)); (case hp => exact (Reps.one (show Kd.M (Kd.int .i64) _ _ _ (rd (rd_L2 t216 (ji68)) 1) [.int .i64 (rd (rd_L2 t216 (ji68)) 1)] from rfl) (Reps.one (show Kd.M (Kd.int .i64) _ _ _ (rd (rd_L2 t216 (ji68)) 0) [.int .i64 (rd (rd_L2 t216 (ji68)) 0)] from rfl) (Reps.none _ _)))); intro v265 w83 ho84 hb hg_ hnew_; clear hg_ hnew_; (first | rw [← Ny264.out] at ho84 | (simp only [Int.reduceToNat] at ho84; rw [← Ny264.out] at ho84)); have n0_ := Aside0.mk (Kd.N_elder' (by (with_reducible repeat (first | apply Kd.N_alloc | apply Kd.N_drewN | apply Kd.N_drew)); exact HO_6.out) (Kd.R_base ho84) hb); have n1_ := Aside0.mk (Kd.N_elder' (by (with_reducible repeat (first | apply Kd.N_alloc | apply Kd.N_drewN | apply Kd.N_drew)); exact HO_139.out) (Kd.R_base ho84) hb); have n2_ := Aside0.mk (Kd.V_elder' (by (with_reducible repeat (first | apply Kd.V_alloc | apply Kd.V_drewN | apply Kd.V_drew)); exact HL251_0.out) (Kd.R_base ho84) hb); have n3_ := Aside0.mk (Kd.R_elder' (by (with_reducible repeat (first | apply Kd.R_alloc | apply Kd.R_drewN | apply Kd.R_drew)); exact HO259.out) (Kd.R_base ho84) hb); have n4_ := Aside0.mk (Kd.N_elder' (by (with_reducible repeat (first | apply Kd.N_alloc | apply Kd.N_drewN | apply Kd.N_drew)); exact HO263.out) (Kd.R_base ho84) hb); have n5_ := Aside0.mk (Kd.R_lower (Kd.R_new' ho84 (Kd.R_lt (by (with_reducible repeat (first | apply Kd.R_alloc | apply Kd.R_drewN | apply Kd.R_drew)); exact HO259.out))) (below_size (by repeat (first | (with_reducible first | exact HB.out | apply below_alloc | apply pw_below_drewN | apply below_drew1) | exact HB.out | exact Below.refl _ _)))); have n6_ := Aside0.mk ((by with_reducible first | exact Kd.C_below HR251_0.out hb | exact Kd.C_below (Kd.C_drewN HR251_0.out _) hb | exact Kd.C_below (Kd.C_alloc HR251_0.out _) hb | exact Kd.C_below (Kd.C_drewN (Kd.C_drewN HR251_0.out _) _) hb)); have n7_ := Aside0.mk (below_step (by repeat (first | (with_reducible first | exact HB.out | apply below_alloc | apply pw_below_drewN | apply below_drew1) | exact HB.out | exact Below.refl _ _)) hb); clear HO_6; clear HO_139; clear HL251_0; clear HO259; clear HO263; clear HR251_0; clear HB; have HO_6 := n0_; have HO_139 := n1_; have HL251_0 := n2_; have HO259 := n3_; have HO263 := n4_; have HO266 := n5_; have HR251_0 := n6_; have HB := n7_; clear n0_ n1_ n2_ n3_ n4_ n5_ n6_ n7_; clear hb ho84; obtain ⟨Ao85, co85, eo85⟩ := Kd.R_slice HO259.out; subst eo85; obtain ⟨Ao86, co86, eo86⟩ := Kd.R_slice HO266.out; subst eo86) | (go_at_call 25; (with_reducible refine (laws_vSame.calls k6 _ _ t256 _ _ y264 t267 _ ?side1 ?side2 ?side3 ?side4 A79.out).mono ?_); (case side1 => repeat (first | exact (Kd.R_reads' HO259.out).2.2 | (with_reducible refine Kd.C_alloc ?_ _) | (with_reducible refine Kd.C_drewN ?_ _) | (with_reducible refine Kd.C_drew ?_))); (case side2 => exact (Kd.R_reads' HO259.out).2.1); (case side3 => repeat (first | exact (Kd.R_reads' HO266.out).2.2 | (with_reducible refine Kd.C_alloc ?_ _) | (with_reducible refine Kd.C_drewN ?_ _) | (with_reducible refine Kd.C_drew ?_))); (case side4 => exact (Kd.R_reads' HO266.out).2.1); rintro e w' ⟨rfl, ⟨nd, rfl⟩⟩; (try first | exact ⟨rfl, _, World.drewN_drewN _ _ _⟩ | exact ⟨rfl, _, Eq.trans (World.drewN_drewN _ _ _) (congrArg (World.drewN _) (Nat.add_assoc _ _ _))⟩))))
                                 go_ret
                                 exact ⟨by first | rfl | (simp [errW_none, errW_some] <;> rfl) | (simp only [← hji68]; first | rfl | (simp [errW_none, errW_some] <;> rfl)) | (simp [*, errW_none, errW_some] <;> rfl), by repeat (first | (with_reducible first | exact HB.out | apply below_alloc | apply pw_below_drewN | apply below_drew1) | exact HB.out | exact Below.refl _ _)⟩
                                ·
                                 rw [if_neg c78] at H
                                 exact absurd (H.trans (congrArg some hrT)) (by simp)
                               ·
                                replace c77 := Bool.eq_false_iff.mpr c77
                                subst c77
                                have H1 : (some false) = some r := by rw [if_neg (show ¬ (false = true) by decide)] at H; exact H
                                exact absurd (H1.trans (congrArg some hrT)) (by simp)
                              ·
                               replace c76 := Bool.eq_false_iff.mpr c76
                               subst c76
                               have H1 : (some false) = some r := by rw [if_neg (show ¬ (false = true) by decide)] at H; exact H
                               exact absurd (H1.trans (congrArg some hrT)) (by simp)
                             ·
                              rw [if_neg c73] at H
                              have c73b0 : decide ((rd (rd_L2 t216 (ji68)) 0) < (rd (rd_L2 t216 (ji68)) 1)) = false := decide_eq_false c73
                              clear c73
                              replace H := Option.bind_eq_some_iff.mp H
                              obtain ⟨⟨t268, t269⟩, A940, H⟩ := H
                              replace H : ((impl_AllTwoSquares.f k6 t215).bind fun bt272 => (if t269 = true then (if bt272.2 = true then (if (bt272.1.length : Int) = 1 then ((laws_vSame.f k6 t268 (([rd (rd_L2 t216 (ji68)) 0, rd (rd_L2 t216 (ji68)) 1] : List Int))).bind fun t279 => (some t279)) else (some false)) else (some false)) else (some false))) = some r := H
                              have A94 := Aside0.mk A940
                              clear A940
                              replace H := Option.bind_eq_some_iff.mp H
                              obtain ⟨⟨t272, t273⟩, A950, H⟩ := H
                              replace H : (if t269 = true then (if t273 = true then (if (t272.length : Int) = 1 then ((laws_vSame.f k6 t268 (([rd (rd_L2 t216 (ji68)) 0, rd (rd_L2 t216 (ji68)) 1] : List Int))).bind fun t279 => (some t279)) else (some false)) else (some false)) else (some false)) = some r := H
                              have A95 := Aside0.mk A950
                              clear A950
                              by_cases c96 : t269 = true
                              ·
                               subst c96
                               have H1 : (if t273 = true then (if (t272.length : Int) = 1 then ((laws_vSame.f k6 t268 (([rd (rd_L2 t216 (ji68)) 0, rd (rd_L2 t216 (ji68)) 1] : List Int))).bind fun t279 => (some t279)) else (some false)) else (some false)) = some r := by rw [if_pos rfl] at H; exact H
                               clear H
                               have H := H1
                               clear H1
                               by_cases c97 : t273 = true
                               ·
                                subst c97
                                have H1 : (if (t272.length : Int) = 1 then ((laws_vSame.f k6 t268 (([rd (rd_L2 t216 (ji68)) 0, rd (rd_L2 t216 (ji68)) 1] : List Int))).bind fun t279 => (some t279)) else (some false)) = some r := by rw [if_pos rfl] at H; exact H
                                clear H
                                have H := H1
                                clear H1
                                by_cases c98 : (t272.length : Int) = 1
                                ·
                                 rw [if_pos c98] at H
                                 have c98b0 : ((t272.length : Int) == 1) = true := beq_iff_eq.mpr c98
                                 have c98b1 : ((t272.length : Int) != 1) = false := bne_eq_false_iff_eq.mpr c98
                                 clear c98
                                 obtain ⟨y276, hy276⟩ : ∃ y_ : List Int, y_ = (([rd (rd_L2 t216 (ji68)) 0, rd (rd_L2 t216 (ji68)) 1] : List Int)) := ⟨_, rfl⟩
                                 replace H : ((laws_vSame.f k6 t268 y276).bind fun t279 => (some t279)) = some r := by first | (rw [hy276]; with_reducible exact H) | (have H2_ := (Option.bind_some _ _).symm.trans H; rw [hy276]; with_reducible exact H2_) | (have H2_ := (Option.bind_some _ _).symm.trans H; with_reducible exact H2_) | with_reducible exact H | (rw [hy276]; exact H) | exact H
                                 have Ny276 := Aside0.mk hy276
                                 clear hy276
                                 replace H := Option.bind_eq_some_iff.mp H
                                 obtain ⟨t279, A990, H⟩ := H
                                 replace H : (some t279) = some r := H
                                 have A99 := Aside0.mk A990
                                 clear A990
                                 obtain rfl := Option.some.inj H
                                 have p251 : 0 ≤ ((ji68) : Int) := of_decide_eq_true (by first | (with_reducible assumption) | assumption)
                                 have q251 : (ji68) < (t216.length : Int) := of_decide_eq_true (by first | (with_reducible assumption) | assumption)
                                 obtain ⟨ad251, A251_0, c251_0, e251, hx251_0, hl251_0, hi251_0⟩ := at_L2 (Kd.N_reads' HO_6.out).2.2 (ji68) p251 q251
                                 cases e251
                                 obtain ⟨ce251, hce251, hMe251, hcc251⟩ := Kd.N_get HO_6.out [] (ji68) p251 (by first | exact q251 | exact of_decide_eq_true (by first | (with_reducible assumption) | assumption) | (have e_ := (Kd.N_reads' HO_6.out).1; omega))
                                 obtain ⟨ua251_0, uc251_0, rfl, ul251_0, ge251_0⟩ := Kd.FK_slice_open hMe251
                                 have hv251_0 := hcc251 0 _ rfl
                                 rw [Nat.add_zero, show ((Kd.slice 3 (Kd.int .i64))).sz = 1 from rfl, Nat.mul_one] at hv251_0
                                 replace hv251_0 := Option.some.inj (hv251_0.symm.trans hx251_0)
                                 injection hv251_0 with hva_ hvn_ hvc_
                                 rw [hva_] at ge251_0
                                 rw [hvc_] at ul251_0
                                 have HL251_0 := Aside0.mk (show Kd.V (Kd.int .i64) 3 _ w.heap.size _ _ (rd_L2 t216 (ji68)) from Kd.V_mk ul251_0 ge251_0)
                                 clear hva_ hvn_ hvc_ ge251_0 ul251_0
                                 clear hcc251 hce251
                                 have HR251_0 := Aside0.mk hi251_0
                                 have HC251_0 := Aside0.mk hl251_0
                                 clear hi251_0 hl251_0
                                 replace p251 := eq_true p251
                                 replace q251 := eq_true q251
                                 have p252 : 0 ≤ (0 : Int) := (by omega)
                                 have q252 : 0 < ((rd_L2 t216 (ji68)).length : Int) := of_decide_eq_true (by first | (with_reducible assumption) | assumption)
                                 obtain ⟨ad252, e252, hx252_0⟩ := Kd.at_int (by repeat (first | (with_reducible exact HR251_0.out) | (with_reducible refine Kd.C_alloc ?_ _) | (with_reducible refine Kd.C_drewN ?_ _) | (with_reducible refine Kd.C_drew ?_) | exact HR251_0.out)) 0 p252 q252
                                 cases e252
                                 have qi252 : (0 < (rd_L2 t216 (ji68)).length) = True := eq_true (by omega)
                                 (try rw [show ((0 : Int)).toNat = 0 from rfl] at hx252_0)
                                 (try rw [Addr.add_zero'] at hx252_0)
                                 replace p252 := eq_true p252
                                 replace q252 := eq_true q252
                                 have p253 : 0 ≤ (1 : Int) := (by omega)
                                 have q253 : 1 < ((rd_L2 t216 (ji68)).length : Int) := of_decide_eq_true (by first | (with_reducible assumption) | assumption)
                                 obtain ⟨ad253, e253, hx253_0⟩ := Kd.at_int (by repeat (first | (with_reducible exact HR251_0.out) | (with_reducible refine Kd.C_alloc ?_ _) | (with_reducible refine Kd.C_drewN ?_ _) | (with_reducible refine Kd.C_drew ?_) | exact HR251_0.out)) 1 p253 q253
                                 obtain rfl : ad252 = ad253 := (by injection e253)
                                 (try simp only [show (1 : Int).toNat = 1 from rfl, Nat.reduceMul, Nat.reduceEqDiff, Go.Addr.add, ↓reduceIte] at hx253_0)
                                 have qi253 : (1 < (rd_L2 t216 (ji68)).length) = True := eq_true (by omega)
                                 (try rw [show ((1 : Int)).toNat = 1 from rfl] at hx253_0)
                                 replace p253 := eq_true p253
                                 replace q253 := eq_true q253
                                 go_wp2_with (first | (go_at_call 23; (with_reducible refine (impl_TwoSquares.calls k6 t215 t268 true _ A94.out).mono ?_); rintro e w100 ⟨v270, rfl, ho0, hb⟩; have n0_ := Aside0.mk (Kd.N_elder' (by (with_reducible repeat (first | apply Kd.N_alloc | apply Kd.N_drewN | apply Kd.N_drew)); exact HO_6.out) (Kd.R_base ho0) hb); have n1_ := Aside0.mk (Kd.N_elder' (by (with_reducible repeat (first | apply Kd.N_alloc | apply Kd.N_drewN | apply Kd.N_drew)); exact HO_139.out) (Kd.R_base ho0) hb); have n2_ := Aside0.mk (Kd.V_elder' (by (with_reducible repeat (first | apply Kd.V_alloc | apply Kd.V_drewN | apply Kd.V_drew)); exact HL251_0.out) (Kd.R_base ho0) hb); have n3_ := Aside0.mk (Kd.R_lower ho0 (below_size (by repeat (first | (with_reducible first | exact HB.out | apply below_alloc | apply pw_below_drewN | apply below_drew1) | exact HB.out | exact Below.refl _ _)))); have n4_ := Aside0.mk ((by with_reducible first | exact Kd.C_below HR251_0.out hb | exact Kd.C_below (Kd.C_drewN HR251_0.out _) hb | exact Kd.C_below (Kd.C_alloc HR251_0.out _) hb | exact Kd.C_below (Kd.C_drewN (Kd.C_drewN HR251_0.out _) _) hb)); have n5_ := Aside0.mk (below_step (by repeat (first | (with_reducible first | exact HB.out | apply below_alloc | apply pw_below_drewN | apply below_drew1) | exact HB.out | exact Below.refl _ _)) hb); clear HO_6; clear HO_139; clear HL251_0; clear HR251_0; clear HB; have HO_6 := n0_; have HO_139 := n1_; have HL251_0 := n2_; have HO271 := n3_; have HR251_0 := n4_; have HB := n5_; clear n0_ n1_ n2_ n3_ n4_ n5_; (try clear hb); (try clear hb2); (try clear hk); (try clear hi); (try clear ho0)) | (go_at_call 24; (with_reducible refine (impl_AllTwoSquares.calls k6 t215 t272 true _ A95.out).mono ?_); rintro e w101 ⟨v274, rfl, ho0, hb⟩; have n0_ := Aside0.mk (Kd.N_elder' (by (with_reducible repeat (first | apply Kd.N_alloc | apply Kd.N_drewN | apply Kd.N_drew)); exact HO_6.out) (Kd.S_base ho0) hb); have n1_ := Aside0.mk (Kd.N_elder' (by (with_reducible repeat (first | apply Kd.N_alloc | apply Kd.N_drewN | apply Kd.N_drew)); exact HO_139.out) (Kd.S_base ho0) hb); have n2_ := Aside0.mk (Kd.V_elder' (by (with_reducible repeat (first | apply Kd.V_alloc | apply Kd.V_drewN | apply Kd.V_drew)); exact HL251_0.out) (Kd.S_base ho0) hb); have n3_ := Aside0.mk (Kd.R_below (by (with_reducible repeat (first | apply Kd.R_alloc | apply Kd.R_drewN | apply Kd.R_drew)); exact HO271.out) hb); have n4_ := Aside0.mk (Kd.N_lower (Kd.N_mono (ok' := fun k_ => some k_ ≠ (.slice (some ad251) t216.length co52 : Value).ownBlock ∧ some k_ ≠ (.slice (some ad251) t216.length co52 : Value).ownBlock ∧ some k_ ≠ (v270 : Value).ownBlock) (Kd.S_N (Kd.S_bound ho0)) (fun k_ hk_ => ⟨(Kd.fresh' (Kd.N_lt (by (with_reducible repeat (first | apply Kd.N_alloc | apply Kd.N_drewN | apply Kd.N_drew)); exact HO_6.out)) k_ hk_.2.1), (Kd.fresh' (Kd.N_lt (by (with_reducible repeat (first | apply Kd.N_alloc | apply Kd.N_drewN | apply Kd.N_drew)); exact HO_139.out)) k_ hk_.2.1), (Kd.fresh' (Kd.R_lt (by (with_reducible repeat (first | apply Kd.R_alloc | apply Kd.R_drewN | apply Kd.R_drew)); exact HO271.out)) k_ hk_.2.1)⟩)) (below_size (by repeat (first | (with_reducible first | exact HB.out | apply below_alloc | apply pw_below_drewN | apply below_drew1) | exact HB.out | exact Below.refl _ _)))); have n5_ := Aside0.mk ((by with_reducible first | exact Kd.C_below HR251_0.out hb | exact Kd.C_below (Kd.C_drewN HR251_0.out _) hb | exact Kd.C_below (Kd.C_alloc HR251_0.out _) hb | exact Kd.C_below (Kd.C_drewN (Kd.C_drewN HR251_0.out _) _) hb)); have n6_ := Aside0.mk (below_step (by repeat (first | (with_reducible first | exact HB.out | apply below_alloc | apply pw_below_drewN | apply below_drew1) | exact HB.out | exact Below.refl _ _)) hb); clear HO_6; clear HO_139; clear HL251_0; clear HO271; clear HR251_0; clear HB; have HO_6 := n0_; have HO_139 := n1_; have HL251_0 := n2_; have HO271 := n3_; have HO275 := n4_; have HR251_0 := n5_; have HB := n6_; clear n0_ n1_ n2_ n3_ n4_ n5_ n6_; (try clear hb); (try clear hb2); (try clear hk); (try clear hi); (try clear ho0); obtain ⟨Ao102, co102, eo102⟩ := Kd.N_slice HO275.out; subst eo102) | ((with_reducible refine gate_dst (N := 242) rfl ?_); (try (refine gate_guard (by rfl) ?_; dsimp only)); refine Kd.R_lit (Kd.int .i64) _ 3 ?hg (N := 242) ?hd (xs := ([rd (rd_L2 t216 (ji68)) 0, rd (rd_L2 t216 (ji68)) 1] : List Int)) (inner := [.int .i64 (rd (rd_L2 t216 (ji68)) 0), .int .i64 (rd (rd_L2 t216 (ji68)) 1)]) (ok := fun _ => True) (okp := fun _ => True) ?hr ?hp (fun _ hk => hk) trivial (Below.refl _ _) (Nat.le_refl _) (by simp) ?_; (case hd => rfl); (case hg => rfl); (case hr => first | (go_simp; done) | (go_simp; rfl)); (case hp => exact (Reps.one (show Kd.M (Kd.int .i64) _ _ _ (rd (rd_L2 t216 (ji68)) 0) [.int .i64 (rd (rd_L2 t216 (ji68)) 0)] from rfl) (Reps.one (show Kd.M (Kd.int .i64) _ _ _ (rd (rd_L2 t216 (ji68)) 1) [.int .i64 (rd (rd_L2 t216 (ji68)) 1)] from rfl) (Reps.none _ _)))); intro v277 w103 ho104 hb hg_ hnew_; clear hg_ hnew_; (first | rw [← Ny276.out] at ho104 | (simp only [Int.reduceToNat] at ho104; rw [← Ny276.out] at ho104)); have n0_ := Aside0.mk (Kd.N_elder' (by (with_reducible repeat (first | apply Kd.N_alloc | apply Kd.N_drewN | apply Kd.N_drew)); exact HO_6.out) (Kd.R_base ho104) hb); have n1_ := Aside0.mk (Kd.N_elder' (by (with_reducible repeat (first | apply Kd.N_alloc | apply Kd.N_drewN | apply Kd.N_drew)); exact HO_139.out) (Kd.R_base ho104) hb); have n2_ := Aside0.mk (Kd.V_elder' (by (with_reducible repeat (first | apply Kd.V_alloc | apply Kd.V_drewN | apply Kd.V_drew)); exact HL251_0.out) (Kd.R_base ho104) hb); have n3_ := Aside0.mk (Kd.R_elder' (by (with_reducible repeat (first | apply Kd.R_alloc | apply Kd.R_drewN | apply Kd.R_drew)); exact HO271.out) (Kd.R_base ho104) hb); have n4_ := Aside0.mk (Kd.N_elder' (by (with_reducible repeat (first | apply Kd.N_alloc | apply Kd.N_drewN | apply Kd.N_drew)); exact HO275.out) (Kd.R_base ho104) hb); have n5_ := Aside0.mk (Kd.R_lower (Kd.R_new' ho104 (Kd.R_lt (by (with_reducible repeat (first | apply Kd.R_alloc | apply Kd.R_drewN | apply Kd.R_drew)); exact HO271.out))) (below_size (by repeat (first | (with_reducible first | exact HB.out | apply below_alloc | apply pw_below_drewN | apply below_drew1) | exact HB.out | exact Below.refl _ _)))); have n6_ := Aside0.mk ((by with_reducible first | exact Kd.C_below HR251_0.out hb | exact Kd.C_below (Kd.C_drewN HR251_0.out _) hb | exact Kd.C_below (Kd.C_alloc HR251_0.out _) hb | exact Kd.C_below (Kd.C_drewN (Kd.C_drewN HR251_0.out _) _) hb)); have n7_ := Aside0.mk (below_step (by repeat (first | (with_reducible first | exact HB.out | apply below_alloc | apply pw_below_drewN | apply below_drew1) | exact HB.out | exact Below.refl _ _)) hb); clear HO_6; clear HO_139; clear HL251_0; clear HO271; clear HO275; clear HR251_0; clear HB; have HO_6 := n0_; have HO_139 := n1_; have HL251_0 := n2_; have HO271 := n3_; have HO275 := n4_; have HO278 := n5_; have HR251_0 := n6_; have HB := n7_; clear n0_ n1_ n2_ n3_ n4_ n5_ n6_ n7_; clear hb ho104; obtain ⟨Ao105, co105, eo105⟩ := Kd.R_slice HO271.out; subst eo105; obtain ⟨Ao106, co106, eo106⟩ := Kd.R_slice HO278.out; subst eo106) | (go_at_call 25; (with_reducible refine (laws_vSame.calls k6 _ _ t268 _ _ y276 t279 _ ?side1 ?side2 ?side3 ?side4 A99.out).mono ?_); (case side1 => repeat (first | exact (Kd.R_reads' HO271.out).2.2 | (with_reducible refine Kd.C_alloc ?_ _) | (with_reducible refine Kd.C_drewN ?_ _) | (with_reducible refine Kd.C_drew ?_))); (case side2 => exact (Kd.R_reads' HO271.out).2.1); (case side3 => repeat (first | exact (Kd.R_reads' HO278.out).2.2 | (with_reducible refine Kd.C_alloc ?_ _) | (with_reducible refine Kd.C_drewN ?_ _) | (with_reducible refine Kd.C_drew ?_))); (case side4 => exact (Kd.R_reads' HO278.out).2.1); rintro e w' ⟨rfl, ⟨nd, rfl⟩⟩; (try first | exact ⟨rfl, _, World.drewN_drewN _ _ _⟩ | exact ⟨rfl, _, Eq.trans (World.drewN_drewN _ _ _) (congrArg (World.drewN _) (Nat.add_assoc _ _ _))⟩)))
                                 repeat (go_quiet (first | (go_at_call 23; (with_reducible refine (impl_TwoSquares.calls k6 t215 t268 true _ A94.out).mono ?_); rintro e w100 ⟨v270, rfl, ho0, hb⟩; have n0_ := Aside0.mk (Kd.N_elder' (by (with_reducible repeat (first | apply Kd.N_alloc | apply Kd.N_drewN | apply Kd.N_drew)); exact HO_6.out) (Kd.R_base ho0) hb); have n1_ := Aside0.mk (Kd.N_elder' (by (with_reducible repeat (first | apply Kd.N_alloc | apply Kd.N_drewN | apply Kd.N_drew)); exact HO_139.out) (Kd.R_base ho0) hb); have n2_ := Aside0.mk (Kd.V_elder' (by (with_reducible repeat (first | apply Kd.V_alloc | apply Kd.V_drewN | apply Kd.V_drew)); exact HL251_0.out) (Kd.R_base ho0) hb); have n3_ := Aside0.mk (Kd.R_lower ho0 (below_size (by repeat (first | (with_reducible first | exact HB.out | apply below_alloc | apply pw_below_drewN | apply below_drew1) | exact HB.out | exact Below.refl _ _)))); have n4_ := Aside0.mk ((by with_reducible first | exact Kd.C_below HR251_0.out hb | exact Kd.C_below (Kd.C_drewN HR251_0.out _) hb | exact Kd.C_below (Kd.C_alloc HR251_0.out _) hb | exact Kd.C_below (Kd.C_drewN (Kd.C_drewN HR251_0.out _) _) hb)); have n5_ := Aside0.mk (below_step (by repeat (first | (with_reducible first | exact HB.out | apply below_alloc | apply pw_below_drewN | apply below_drew1) | exact HB.out | exact Below.refl _ _)) hb); clear HO_6; clear HO_139; clear HL251_0; clear HR251_0; clear HB; have HO_6 := n0_; have HO_139 := n1_; have HL251_0 := n2_; have HO271 := n3_; have HR251_0 := n4_; have HB := n5_; clear n0_ n1_ n2_ n3_ n4_ n5_; (try clear hb); (try clear hb2); (try clear hk); (try clear hi); (try clear ho0)) | (go_at_call 24; (with_reducible refine (impl_AllTwoSquares.calls k6 t215 t272 true _ A95.out).mono ?_); rintro e w101 ⟨v274, rfl, ho0, hb⟩; have n0_ := Aside0.mk (Kd.N_elder' (by (with_reducible repeat (first | apply Kd.N_alloc | apply Kd.N_drewN | apply Kd.N_drew)); exact HO_6.out) (Kd.S_base ho0) hb); have n1_ := Aside0.mk (Kd.N_elder' (by (with_reducible repeat (first | apply Kd.N_alloc | apply Kd.N_drewN | apply Kd.N_drew)); exact HO_139.out) (Kd.S_base ho0) hb); have n2_ := Aside0.mk (Kd.V_elder' (by (with_reducible repeat (first | apply Kd.V_alloc | apply Kd.V_drewN | apply Kd.V_drew)); exact HL251_0.out) (Kd.S_base ho0) hb); have n3_ := Aside0.mk (Kd.R_below (by (with_reducible repeat (first | apply Kd.R_alloc | apply Kd.R_drewN | apply Kd.R_drew)); exact HO271.out) hb); have n4_ := Aside0.mk (Kd.N_lower (Kd.N_mono (ok' := fun k_ => some k_ ≠ (.slice (some ad251) t216.length co52 : Value).ownBlock ∧ some k_ ≠ (.slice (some ad251) t216.length co52 : Value).ownBlock ∧ some k_ ≠ (v270 : Value).ownBlock) (Kd.S_N (Kd.S_bound ho0)) (fun k_ hk_ => ⟨(Kd.fresh' (Kd.N_lt (by (with_reducible repeat (first | apply Kd.N_alloc | apply Kd.N_drewN | apply Kd.N_drew)); exact HO_6.out)) k_ hk_.2.1), (Kd.fresh' (Kd.N_lt (by (with_reducible repeat (first | apply Kd.N_alloc | apply Kd.N_drewN | apply Kd.N_drew)); exact HO_139.out)) k_ hk_.2.1), (Kd.fresh' (Kd.R_lt (by (with_reducible repeat (first | apply Kd.R_alloc | apply Kd.R_drewN | apply Kd.R_drew)); exact HO271.out)) k_ hk_.2.1)⟩)) (below_size (by repeat (first | (with_reducible first | exact HB.out | apply below_alloc | apply pw_below_drewN | apply below_drew1) | exact HB.out | exact Below.refl _ _)))); have n5_ := Aside0.mk ((by with_reducible first | exact Kd.C_below HR251_0.out hb | exact Kd.C_below (Kd.C_drewN HR251_0.out _) hb | exact Kd.C_below (Kd.C_alloc HR251_0.out _) hb | exact Kd.C_below (Kd.C_drewN (Kd.C_drewN HR251_0.out _) _) hb)); have n6_ := Aside0.mk (below_step (by repeat (first | (with_reducible first | exact HB.out | apply below_alloc | apply pw_below_drewN | apply below_drew1) | exact HB.out | exact Below.refl _ _)) hb); clear HO_6; clear HO_139; clear HL251_0; clear HO271; clear HR251_0; clear HB; have HO_6 := n0_; have HO_139 := n1_; have HL251_0 := n2_; have HO271 := n3_; have HO275 := n4_; have HR251_0 := n5_; have HB := n6_; clear n0_ n1_ n2_ n3_ n4_ n5_ n6_; (try clear hb); (try clear hb2); (try clear hk); (try clear hi); (try clear ho0); obtain ⟨Ao102, co102, eo102⟩ := Kd.N_slice HO275.out; subst eo102) | ((with_reducible refine gate_dst (N := 242) rfl ?_); (try (refine gate_guard (by rfl) ?_; dsimp only)); refine Kd.R_lit (Kd.int .i64) _ 3 ?hg (N := 242) ?hd (xs := ([rd (rd_L2 t216 (ji68)) 0, rd (rd_L2 t216 (ji68)) 1] : List Int)) (inner := [.int .i64 (rd (rd_L2 t216 (ji68)) 0), .int .i64 (rd (rd_L2 t216 (ji68)) 1)]) (ok := fun _ => True) (okp := fun _ => True) ?hr ?hp (fun _ hk => hk) trivial (Below.refl _ _) (Nat.le_refl _) (by simp) ?_; (case hd => rfl); (case hg => rfl); (case hr => first | (go_simp; done) | (go_simp; rfl)); (case hp => exact (Reps.one (show Kd.M (Kd.int .i64) _ _ _ (rd (rd_L2 t216 (ji68)) 0) [.int .i64 (rd (rd_L2 t216 (ji68)) 0)] from rfl) (Reps.one (show Kd.M (Kd.int .i64) _ _ _ (rd (rd_L2 t216 (ji68)) 1) [.int .i64 (rd (rd_L2 t216 (ji68)) 1)] from rfl) (Reps.none _ _)))); intro v277 w103 ho104 hb hg_ hnew_; clear hg_ hnew_; (first | rw [← Ny276.out] at ho104 | (simp only [Int.reduceToNat] at ho104; rw [← Ny276.out] at ho104)); have n0_ := Aside0.mk (Kd.N_elder' (by (with_reducible repeat (first | apply Kd.N_alloc | apply Kd.N_drewN | apply Kd.N_drew)); exact HO_6.out) (Kd.R_base ho104) hb); have n1_ := Aside0.mk (Kd.N_elder' (by (with_reducible repeat (first | apply Kd.N_alloc | apply Kd.N_drewN | apply Kd.N_drew)); exact HO_139.out) (Kd.R_base ho104) hb); have n2_ := Aside0.mk (Kd.V_elder' (by (with_reducible repeat (first | apply Kd.V_alloc | apply Kd.V_drewN | apply Kd.V_drew)); exact HL251_0.out) (Kd.R_base ho104) hb); have n3_ := Aside0.mk (Kd.R_elder' (by (with_reducible repeat (first | apply Kd.R_alloc | apply Kd.R_drewN | apply Kd.R_drew)); exact HO271.out) (Kd.R_base ho104) hb); have n4_ := Aside0.mk (Kd.N_elder' (by (with_reducible repeat (first | apply Kd.N_alloc | apply Kd.N_drewN | apply Kd.N_drew)); exact HO275.out) (Kd.R_base ho104) hb); have n5_ := Aside0.mk (Kd.R_lower (Kd.R_new' ho104 (Kd.R_lt (by (with_reducible repeat (first | apply Kd.R_alloc | apply Kd.R_drewN | apply Kd.R_drew)); exact HO271.out))) (below_size (by repeat (first | (with_reducible first | exact HB.out | apply below_alloc | apply pw_below_drewN | apply below_drew1) | exact HB.out | exact Below.refl _ _)))); have n6_ := Aside0.mk ((by with_reducible first | exact Kd.C_below HR251_0.out hb | exact Kd.C_below (Kd.C_drewN HR251_0.out _) hb | exact Kd.C_below (Kd.C_alloc HR251_0.out _) hb | exact Kd.C_below (Kd.C_drewN (Kd.C_drewN HR251_0.out _) _) hb)); have n7_ := Aside0.mk (below_step (by repeat (first | (with_reducible first | exact HB.out | apply below_alloc | apply pw_below_drewN | apply below_drew1) | exact HB.out | exact Below.refl _ _)) hb); clear HO_6; clear HO_139; clear HL251_0; clear HO271; clear HO275; clear HR251_0; clear HB; have HO_6 := n0_; have HO_139 := n1_; have HL251_0 := n2_; have HO271 := n3_; have HO275 := n4_; have HO278 := n5_; have HR251_0 := n6_; have HB := n7_; clear n0_ n1_ n2_ n3_ n4_ n5_ n6_ n7_; clear hb ho104; obtain ⟨Ao105, co105, eo105⟩ := Kd.R_slice HO271.out; subst eo105; obtain ⟨Ao106, co106, eo106⟩ := Kd.R_slice HO278.out; subst eo106) | (go_at_call 25; (with_reducible refine (laws_vSame.calls k6 _ _ t268 _ _ y276 t279 _ ?side1 ?side2 ?side3 ?side4 A99.out).mono ?_); (case side1 => repeat (first | exact (Kd.R_reads' HO271.out).2.2 | (with_reducible refine Kd.C_alloc ?_ _) | (with_reducible refine Kd.C_drewN ?_ _) | (with_reducible refine Kd.C_drew ?_))); (case side2 => exact (Kd.R_reads' HO271.out).2.1); (case side3 => repeat (first | exact (Kd.R_reads' HO278.out).2.2 | (with_reducible refine Kd.C_alloc ?_ _) | (with_reducible refine Kd.C_drewN ?_ _) | (with_reducible refine Kd.C_drew ?_))); (case side4 => exact (Kd.R_reads' HO278.out).2.1); rintro e w' ⟨rfl, ⟨nd, rfl⟩⟩; (try first | exact ⟨rfl, _, World.drewN_drewN _ _ _⟩ | exact ⟨rfl, _, Eq.trans (World.drewN_drewN _ _ _) (congrArg (World.drewN _) (Nat.add_assoc _ _ _))⟩))); try go_wp2_with (first | (go_at_call 23; (with_reducible refine (impl_TwoSquares.calls k6 t215 t268 true _ A94.out).mono ?_); rintro e w100 ⟨v270, rfl, ho0, hb⟩; have n0_ := Aside0.mk (Kd.N_elder' (by (with_reducible repeat (first | apply Kd.N_alloc | apply Kd.N_drewN | apply Kd.N_drew)); exact HO_6.out) (Kd.R_base ho0) hb); have n1_ := Aside0.mk (Kd.N_elder' (by (with_reducible repeat (first | apply Kd.N_alloc | apply Kd.N_drewN | apply Kd.N_drew)); exact HO_139.out) (Kd.R_base ho0) hb); have n2_ := Aside0.mk (Kd.V_elder' (by (with_reducible repeat (first | apply Kd.V_alloc | apply Kd.V_drewN | apply Kd.V_drew)); exact HL251_0.out) (Kd.R_base ho0) hb); have n3_ := Aside0.mk (Kd.R_lower ho0 (below_size (by repeat (first | (with_reducible first | exact HB.out | apply below_alloc | apply pw_below_drewN | apply below_drew1) | exact HB.out | exact Below.refl _ _)))); have n4_ := Aside0.mk ((by with_reducible first | exact Kd.C_below HR251_0.out hb | exact Kd.C_below (Kd.C_drewN HR251_0.out _) hb | exact Kd.C_below (Kd.C_alloc HR251_0.out _) hb | exact Kd.C_below (Kd.C_drewN (Kd.C_drewN HR251_0.out _) _) hb)); have n5_ := Aside0.mk (below_step (by repeat (first | (with_reducible first | exact HB.out | apply below_alloc | apply pw_below_drewN | apply below_drew1) | exact HB.out | exact Below.refl _ _)) hb); clear HO_6; clear HO_139; clear HL251_0; clear HR251_0; clear HB; have HO_6 := n0_; have HO_139 := n1_; have HL251_0 := n2_; have HO271 := n3_; have HR251_0 := n4_; have HB := n5_; clear n0_ n1_ n2_ n3_ n4_ n5_; (try clear hb); (try clear hb2); (try clear hk); (try clear hi); (try clear ho0)) | (go_at_call 24; (with_reducible refine (impl_AllTwoSquares.calls k6 t215 t272 true _ A95.out).mono ?_); rintro e w101 ⟨v274, rfl, ho0, hb⟩; have n0_ := Aside0.mk (Kd.N_elder' (by (with_reducible repeat (first | apply Kd.N_alloc | apply Kd.N_drewN | apply Kd.N_drew)); exact HO_6.out) (Kd.S_base ho0) hb); have n1_ := Aside0.mk (Kd.N_elder' (by (with_reducible repeat (first | apply Kd.N_alloc | apply Kd.N_drewN | apply Kd.N_drew)); exact HO_139.out) (Kd.S_base ho0) hb); have n2_ := Aside0.mk (Kd.V_elder' (by (with_reducible repeat (first | apply Kd.V_alloc | apply Kd.V_drewN | apply Kd.V_drew)); exact HL251_0.out) (Kd.S_base ho0) hb); have n3_ := Aside0.mk (Kd.R_below (by (with_reducible repeat (first | apply Kd.R_alloc | apply Kd.R_drewN | apply Kd.R_drew)); exact HO271.out) hb); have n4_ := Aside0.mk (Kd.N_lower (Kd.N_mono (ok' := fun k_ => some k_ ≠ (.slice (some ad251) t216.length co52 : Value).ownBlock ∧ some k_ ≠ (.slice (some ad251) t216.length co52 : Value).ownBlock ∧ some k_ ≠ (v270 : Value).ownBlock) (Kd.S_N (Kd.S_bound ho0)) (fun k_ hk_ => ⟨(Kd.fresh' (Kd.N_lt (by (with_reducible repeat (first | apply Kd.N_alloc | apply Kd.N_drewN | apply Kd.N_drew)); exact HO_6.out)) k_ hk_.2.1), (Kd.fresh' (Kd.N_lt (by (with_reducible repeat (first | apply Kd.N_alloc | apply Kd.N_drewN | apply Kd.N_drew)); exact HO_139.out)) k_ hk_.2.1), (Kd.fresh' (Kd.R_lt (by (with_reducible repeat (first | apply Kd.R_alloc | apply Kd.R_drewN | apply Kd.R_drew)); exact HO271.out)) k_ hk_.2.1)⟩)) (below_size (by repeat (first | (with_reducible first | exact HB.out | apply below_alloc | apply pw_below_drewN | apply below_drew1) | exact HB.out | exact Below.refl _ _)))); have n5_ := Aside0.mk ((by with_reducible first | exact Kd.C_below HR251_0.out hb | exact Kd.C_below (Kd.C_drewN HR251_0.out _) hb | exact Kd.C_below (Kd.C_alloc HR251_0.out _) hb | exact Kd.C_below (Kd.C_drewN (Kd.C_drewN HR251_0.out _) _) hb)); have n6_ := Aside0.mk (below_step (by repeat (first | (with_reducible first | exact HB.out | apply below_alloc | apply pw_below_drewN | apply below_drew1) | exact HB.out | exact Below.refl _ _)) hb); clear HO_6; clear HO_139; clear HL251_0; clear HO271; clear HR251_0; clear HB; have HO_6 := n0_; have HO_139 := n1_; have HL251_0 := n2_; have HO271 := n3_; have HO275 := n4_; have HR251_0 := n5_; have HB := n6_; clear n0_ n1_ n2_ n3_ n4_ n5_ n6_; (try clear hb); (try clear hb2); (try clear hk); (try clear hi); (try clear ho0); obtain ⟨Ao102, co102, eo102⟩ := Kd.N_slice HO275.out; subst eo102) | ((with_reducible refine gate_dst (N := 242) rfl ?_); (try (refine gate_guard (by rfl) ?_; dsimp only)); refine Kd.R_lit (Kd.int .i64) _ 3 ?hg (N := 242) ?hd (xs := ([rd (rd_L2 t216 (ji68)) 0, rd (rd_L2 t216 (ji68)) 1] : List Int)) (inner := [.int .i64 (rd (rd_L2 t216 (ji68)) 0), .int .i64 (rd (rd_L2 t216 (ji68)) 1)]) (ok := fun _ => True) (okp := fun _ => True) ?hr ?hp (fun _ hk => hk) trivial (Below.refl _ _) (Nat.le_refl _) (by simp) ?_; (case hd => rfl); (case hg => rfl); (case hr => first | (go_simp; done) | (go_simp; rfl)); (case hp => exact (Reps.one (show Kd.M (Kd.int .i64) _ _ _ (rd (rd_L2 t216 (ji68)) 0) [.int .i64 (rd (rd_L2 t216 (ji68)) 0)] from rfl) (Reps.one (show Kd.M (Kd.int .i64) _ _ _ (rd (rd_L2 t216 (ji68)) 1) [.int .i64 (rd (rd_L2 t216 (ji68)) 1)] from rfl) (Reps.none _ _)))); intro v277 w103 ho104 hb hg_ hnew_; clear hg_ hnew_; (first | rw [← Ny276.out] at ho104 | (simp only [Int.reduceToNat] at ho104; rw [← Ny276.out] at ho104)); have n0_ := Aside0.mk (Kd.N_elder' (by (with_reducible repeat (first | apply Kd.N_alloc | apply Kd.N_drewN | apply Kd.N_drew)); exact HO_6.out) (Kd.R_base ho104) hb); have n1_ := Aside0.mk (Kd.N_elder' (by (with_reducible repeat (first | apply Kd.N_alloc | apply Kd.N_drewN | apply Kd.N_drew)); exact HO_139.out) (Kd.R_base ho104) hb); have n2_ := Aside0.mk (Kd.V_elder' (by (with_reducible repeat (first | apply Kd.V_alloc | apply Kd.V_drewN | apply Kd.V_drew)); exact HL251_0.out) (Kd.R_base ho104) hb); have n3_ := Aside0.mk (Kd.R_elder' (by (with_reducible repeat (first | apply Kd.R_alloc | apply Kd.R_drewN | apply Kd.R_drew)); exact HO271.out) (Kd.R_base ho104) hb); have n4_ := Aside0.mk (Kd.N_elder' (by (with_reducible repeat (first | apply Kd.N_alloc | apply Kd.N_drewN | apply Kd.N_drew)); exact HO275.out) (Kd.R_base ho104) hb); have n5_ := Aside0.mk (Kd.R_lower (Kd.R_new' ho104 (Kd.R_lt (by (with_reducible repeat (first | apply Kd.R_alloc | apply Kd.R_drewN | apply Kd.R_drew)); exact HO271.out))) (below_size (by repeat (first | (with_reducible first | exact HB.out | apply below_alloc | apply pw_below_drewN | apply below_drew1) | exact HB.out | exact Below.refl _ _)))); have n6_ := Aside0.mk ((by with_reducible first | exact Kd.C_below HR251_0.out hb | exact Kd.C_below (Kd.C_drewN HR251_0.out _) hb | exact Kd.C_below (Kd.C_alloc HR251_0.out _) hb | exact Kd.C_below (Kd.C_drewN (Kd.C_drewN HR251_0.out _) _) hb)); have n7_ := Aside0.mk (below_step (by repeat (first | (with_reducible first | exact HB.out | apply below_alloc | apply pw_below_drewN | apply below_drew1) | exact HB.out | exact Below.refl _ _)) hb); clear HO_6; clear HO_139; clear HL251_0; clear HO271; clear HO275; clear HR251_0; clear HB; have HO_6 := n0_; have HO_139 := n1_; have HL251_0 := n2_; have HO271 := n3_; have HO275 := n4_; have HO278 := n5_; have HR251_0 := n6_; have HB := n7_; clear n0_ n1_ n2_ n3_ n4_ n5_ n6_ n7_; clear hb ho104; obtain ⟨Ao105, co105, eo105⟩ := Kd.R_slice HO271.out; subst eo105; obtain ⟨Ao106, co106, eo106⟩ := Kd.R_slice HO278.out; subst eo106) | (go_at_call 25; (with_reducible refine (laws_vSame.calls k6 _ _ t268 _ _ y276 t279 _ ?side1 ?side2 ?side3 ?side4 A99.out).mono ?_); (case side1 => repeat (first | exact (Kd.R_reads' HO271.out).2.2 | (with_reducible refine Kd.C_alloc ?_ _) | (with_reducible refine Kd.C_drewN ?_ _) | (with_reducible refine Kd.C_drew ?_))); (case side2 => exact (Kd.R_reads' HO271.out).2.1); (case side3 => repeat (first | exact (Kd.R_reads' HO278.out).2.2 | (with_reducible refine Kd.C_alloc ?_ _) | (with_reducible refine Kd.C_drewN ?_ _) | (with_reducible refine Kd.C_drew ?_))); (case side4 => exact (Kd.R_reads' HO278.out).2.1); rintro e w' ⟨rfl, ⟨nd, rfl⟩⟩; (try first | exact ⟨rfl, _, World.drewN_drewN _ _ _⟩ | exact ⟨rfl, _, Eq.trans (World.drewN_drewN _ _ _) (congrArg (World.drewN _) (Nat.add_assoc _ _ _))⟩))))
                                 go_ret
                                 exact ⟨by first | rfl | (simp [errW_none, errW_some] <;> rfl) | (simp only [← hji68]; first | rfl | (simp [errW_none, errW_some] <;> rfl)) | (simp [*, errW_none, errW_some] <;> rfl), by repeat (first | (with_reducible first | exact HB.out | apply below_alloc | apply pw_below_drewN | apply below_drew1) | exact HB.out | exact Below.refl _ _)⟩
                                ·
                                 rw [if_neg c98] at H
                                 exact absurd (H.trans (congrArg some hrT)) (by simp)
                               ·
                                replace c97 := Bool.eq_false_iff.mpr c97
                                subst c97
                                have H1 : (some false) = some r := by rw [if_neg (show ¬ (false = true) by decide)] at H; exact H
                                exact absurd (H1.trans (congrArg some hrT)) (by simp)
                              ·
                               replace c96 := Bool.eq_false_iff.mpr c96
                               subst c96
                               have H1 : (some false) = some r := by rw [if_neg (show ¬ (false = true) by decide)] at H; exact H
                               exact absurd (H1.trans (congrArg some hrT)) (by simp)
                            ·
                             rw [if_neg c72] at H
                             exact absurd H (by simp)
                           ·
                            rw [if_neg c71] at H
                            exact absurd H (by simp)
                          ·
                           rw [if_neg c70] at H
                           exact absurd H (by simp)
                         ·
                          rw [if_neg c69] at H
                          exact absurd H (by simp)
                ·
                 replace c41 := Bool.eq_false_iff.mpr c41
                 subst c41
                 have H1 : (some true) = some r := by rw [if_neg (show ¬ (false = true) by decide)] at H; exact H
                 clear H
                 have H := H1
                 clear H1
                 obtain rfl := Option.some.inj H
                 go_wp2
                 repeat (go_quiet (fail); try go_wp2)
                 go_ret
                 exact ⟨by first | rfl | (simp [errW_none, errW_some] <;> rfl) | (simp [*, errW_none, errW_some] <;> rfl), by repeat (first | (with_reducible first | exact HB.out | apply below_alloc | apply pw_below_drewN | apply below_drew1) | exact HB.out | exact Below.refl _ _)⟩

/-- THE ONE PURE STATEMENT of laws_FnTwoSquaresDescend: yours. -/
def laws_FnTwoSquaresDescend.Pure : Prop := ∀ (l0 : List Int) (l1 : List Int), l0.length ≤ maxLen → l0.length * 1 ≤ 140737488351232 → (∀ x ∈ l0, (Lit.int .u8 x).wf = true) → l1.length ≤ maxLen → l1.length * 1 ≤ 140737488351232 → (∀ x ∈ l1, (Lit.int .u8 x).wf = true) → ∃ k, laws_FnTwoSquaresDescend.f k l0 l1 = some true
theorem laws_FnTwoSquaresDescend.walk (P : laws_FnTwoSquaresDescend.Pure) (a0 : Option Addr) (len0 cap0 : Nat) (z0 : List Int) (a1 : Option Addr) (len1 cap1 : Nat) (z1 : List Int) (w : World) (w0 : (a0 = none ∧ len0 = 0 ∧ cap0 = 0 ∧ z0 = []) ∨ ∃ x, a0 = some x ∧ len0 ≤ cap0 ∧ cap0 ≤ maxLen ∧ z0.length = cap0 ∧ (∀ i, i < z0.length → w.cell? (x.add i) = some (.int .u8 (z0.getD i 0))) ∧ ∀ n ∈ z0, (Lit.int .u8 n).wf = true) (y0 : len0 * 1 ≤ 140737488351232) (w1 : (a1 = none ∧ len1 = 0 ∧ cap1 = 0 ∧ z1 = []) ∨ ∃ x, a1 = some x ∧ len1 ≤ cap1 ∧ cap1 ≤ maxLen ∧ z1.length = cap1 ∧ (∀ i, i < z1.length → w.cell? (x.add i) = some (.int .u8 (z1.getD i 0))) ∧ ∀ n ∈ z1, (Lit.int .u8 n).wf = true) (y1 : len1 * 1 ≤ 140737488351232) :
 Calls Try.prog 4 #[.slice a0 len0 cap0, .slice a1 len1 cap1] w fun e w' => e = .returned (.bool true) ∧ Below w.heap.size w w' := by
 obtain ⟨l0, rfl, hr0, hm0, hw0, hc0⟩ := ReadsInt.ofRowC w0
 obtain ⟨l1, rfl, hr1, hm1, hw1, hc1⟩ := ReadsInt.ofRowC w1
 obtain ⟨k, h⟩ := P l0 l1 hm0 y0 hw0 hm1 y1 hw1
 refine (laws_FnTwoSquaresDescend.calls k _ _ l0 _ _ l1 true w (Kd.C_of_reads (d := (0 : Int)) (h1 := fun _ => rfl) hr0) hc0 (Kd.C_of_reads (d := (0 : Int)) (h1 := fun _ => rfl) hr1) hc1 h rfl).mono ?_
 rintro e w' ⟨rfl, hd⟩
 exact ⟨rfl, hd⟩

end Go.Proofs.Ytpmbffchkcemoaa.P
