-- Written by a program of this session (wip/mkprint.py over the kit's print), out of the translation. Not trusted: Lean checks it.
import Derived.Test.YtfdbjiddhgfcnaaPx0
import Derived.Test.YtfdbjiddhgfcnaaPx1
import Derived.Test.YtfdbjiddhgfcnaaPx2
import Derived.Test.YtfdbjiddhgfcnaaPx3
import Derived.Test.YtfdbjiddhgfcnaaPx4
import Derived.Test.YtfdbjiddhgfcnaaPx5
import Derived.Test.YtfdbjiddhgfcnaaPx6
namespace Go.Proofs.Ytfdbjiddhgfcnaa.P
open Go.RowKit Go.Proofs.YtfdbjiddhgfcnaaW.PrintWords Go.Proofs.YtfdbjiddhgfcnaaW.PrintLast Go.Proofs.YtfdbjiddhgfcnaaW.PrintMore
attribute [local go_sem] max2_int min2_int max_two min_two max_three min_three max_four min_four   -- for this text's walks alone
set_option linter.unusedVariables false
set_option linter.unusedSimpArgs false

/-! ### laws_FnClassesOfPairs: function 3 -/
mutual
def laws_FnClassesOfPairs.j0 : Nat → List Int → Int → Int → Int → List (List Int) → Bool → List (List Int) → Bool → Option (Bool)
 | 0, _, _, _, _, _, _, _, _ => none
 | k + 1, x1, x5, x6, x7, x8, x11, x12, x99 => if x99 = true then (some false) else ((spec_DrawKsUpTo.f x1).bind fun bt344 => ((impl_KsUpTo.f k bt344.1 bt344.2).bind fun bt346 => ((spec_KsUpTo.f k bt344.1 bt344.2).bind fun bt350 => (if (bt346.2 != bt350.2) = true then (laws_FnClassesOfPairs.j1 k x1 x5 x6 x7 x8 x11 x12 bt344.1 bt346.1 bt346.2 true) else ((laws_vSame.f k bt346.1 bt350.1).bind fun t354 => (laws_FnClassesOfPairs.j1 k x1 x5 x6 x7 x8 x11 x12 bt344.1 bt346.1 bt346.2 (!t354)))))))
def laws_FnClassesOfPairs.j1 : Nat → List Int → Int → Int → Int → List (List Int) → Bool → List (List Int) → Int → List Int → Bool → Bool → Option (Bool)
 | 0, _, _, _, _, _, _, _, _, _, _, _ => none
 | k + 1, x1, x5, x6, x7, x8, x11, x12, x16, x18, x19, x125 => if x125 = true then (some false) else (if x19 = true then (laws_FnClassesOfPairs.j2 k x1 x5 x6 x7 x8 x11 x12 x18 (x16 == 1)) else (laws_FnClassesOfPairs.j2 k x1 x5 x6 x7 x8 x11 x12 x18 false))
def laws_FnClassesOfPairs.j2 : Nat → List Int → Int → Int → Int → List (List Int) → Bool → List (List Int) → List Int → Bool → Option (Bool)
 | 0, _, _, _, _, _, _, _, _, _ => none
 | k + 1, x1, x5, x6, x7, x8, x11, x12, x18, x130 => if x130 = true then (laws_FnClassesOfPairs.l0 k x1 x5 x6 x7 x8 x11 x12 x18 (x18.length : Int) 0) else (laws_FnClassesOfPairs.j4 k x1 x5 x6 x7 x8 x11 x12)
def laws_FnClassesOfPairs.j4 : Nat → List Int → Int → Int → Int → List (List Int) → Bool → List (List Int) → Option (Bool)
 | 0, _, _, _, _, _, _, _ => none
 | k + 1, x1, x5, x6, x7, x8, x11, x12 => (spec_DrawKOfPair.f k x1).bind fun bt356 => ((impl_KOfPair.f bt356.1 bt356.2.1 bt356.2.2).bind fun bt359 => ((spec_KOfPair.f k bt356.1 bt356.2.1 bt356.2.2).bind fun bt361 => (if (bt359.2 != bt361.2) = true then (laws_FnClassesOfPairs.j5 k x5 x6 x7 x8 x11 x12 true) else (if bt359.1 = bt361.1 then (if bt359.2 = true then ((laws_vPair.f bt356.1 bt356.2.1 bt359.1 bt356.2.2).bind fun t363 => (laws_FnClassesOfPairs.j5 k x5 x6 x7 x8 x11 x12 (!t363))) else (laws_FnClassesOfPairs.j5 k x5 x6 x7 x8 x11 x12 false)) else (laws_FnClassesOfPairs.j5 k x5 x6 x7 x8 x11 x12 true)))))
def laws_FnClassesOfPairs.j5 : Nat → Int → Int → Int → List (List Int) → Bool → List (List Int) → Bool → Option (Bool)
 | 0, _, _, _, _, _, _, _ => none
 | k + 1, x5, x6, x7, x8, x11, x12, x178 => if x178 = true then (some false) else (if x11 = true then (laws_FnClassesOfPairs.l1 k x5 x6 x7 x8 x12 x8 (x8.length : Int) 0) else (some true))
def laws_FnClassesOfPairs.l1 : Nat → Int → Int → Int → List (List Int) → List (List Int) → List (List Int) → Int → Int → Option (Bool)
 | 0, _, _, _, _, _, _, _, _ => none
 | k + 1, x5, x6, x7, x8, x12, x181, x182, x183 => if x183 < x182 then (if 0 ≤ x183 then (if x183 < (x181.length : Int) then (if 0 < ((rd_L2 x181 x183).length : Int) then (if 1 < ((rd_L2 x181 x183).length : Int) then ((impl_LeastPair.f k (rd (rd_L2 x181 x183) 0) (rd (rd_L2 x181 x183) 1) x5 x6).bind fun bt367 => (if bt367.2.2 = true then ((laws_vHas.f k x12 (([bt367.1, bt367.2.1] : List Int))).bind fun t373 => (if t373 = true then ((laws_vPair.f (rd (rd_L2 x181 x183) 0) (rd (rd_L2 x181 x183) 1) x5 x6).bind fun t376 => (if t376 = true then (if (rd (rd_L2 x181 x183) 0) > x7 then (some false) else (if x183 > 0 then (if 0 ≤ (wrap64 (x183 - 1)) then (if (wrap64 (x183 - 1)) < (x8.length : Int) then ((laws_vBefore.f k (rd_L2 x8 (wrap64 (x183 - 1))) (rd_L2 x181 x183)).bind fun t379 => (if t379 = true then (laws_FnClassesOfPairs.l1 k x5 x6 x7 x8 x12 x181 x182 (wrap64 (x183 + 1))) else (some false))) else (none)) else (none)) else (laws_FnClassesOfPairs.l1 k x5 x6 x7 x8 x12 x181 x182 (wrap64 (x183 + 1))))) else (some false))) else (some false))) else (some false))) else (none)) else (none)) else (none)) else (none)) else (some true)
def laws_FnClassesOfPairs.l0 : Nat → List Int → Int → Int → Int → List (List Int) → Bool → List (List Int) → List Int → Int → Int → Option (Bool)
 | 0, _, _, _, _, _, _, _, _, _, _ => none
 | k + 1, x1, x5, x6, x7, x8, x11, x12, x131, x132, x133 => if x133 < x132 then (if 0 ≤ x133 then (if x133 < (x131.length : Int) then (if (rd x131 x133) = 3 then (laws_FnClassesOfPairs.l0 k x1 x5 x6 x7 x8 x11 x12 x131 x132 (wrap64 (x133 + 1))) else (some false)) else (none)) else (none)) else (laws_FnClassesOfPairs.j4 k x1 x5 x6 x7 x8 x11 x12)
end
def laws_FnClassesOfPairs.f (k : Nat) (l0 : List Int) (l1 : List Int) : Option (Bool) := (laws_big.f l0 l1).bind fun t322 => (if t322 = true then (some true) else ((spec_DrawPairsUpTo.f l0).bind fun bt323 => ((impl_PairsUpTo.f k bt323.1 bt323.2.1 bt323.2.2).bind fun bt326 => ((spec_PairsUpTo.f k bt323.1 bt323.2.1 bt323.2.2).bind fun bt330 => ((impl_ClassesUpTo.f k bt323.1 bt323.2.1 bt323.2.2).bind fun bt334 => ((spec_ClassesUpTo.f k bt323.1 bt323.2.1 bt323.2.2).bind fun bt338 => (if (bt326.2 != bt330.2) = true then (laws_FnClassesOfPairs.j0 k l1 bt323.1 bt323.2.1 bt323.2.2 bt326.1 bt330.2 bt334.1 true) else ((laws_vSameLists.f k bt326.1 bt330.1).bind fun t342 => (if t342 = true then (if (bt334.2 != bt338.2) = true then (laws_FnClassesOfPairs.j0 k l1 bt323.1 bt323.2.1 bt323.2.2 bt326.1 bt330.2 bt334.1 true) else ((laws_vSameLists.f k bt334.1 bt338.1).bind fun t343 => (if t343 = true then (if bt326.2 = true then (laws_FnClassesOfPairs.j0 k l1 bt323.1 bt323.2.1 bt323.2.2 bt326.1 bt330.2 bt334.1 (!bt334.2)) else (laws_FnClassesOfPairs.j0 k l1 bt323.1 bt323.2.1 bt323.2.2 bt326.1 bt330.2 bt334.1 false)) else (laws_FnClassesOfPairs.j0 k l1 bt323.1 bt323.2.1 bt323.2.2 bt326.1 bt330.2 bt334.1 true)))) else (laws_FnClassesOfPairs.j0 k l1 bt323.1 bt323.2.1 bt323.2.2 bt326.1 bt330.2 bt334.1 true))))))))))
theorem laws_FnClassesOfPairs.mono_l : ∀ k, (∀ y0 y1 y2 y3 y4 y5 y6 y7, LeO (laws_FnClassesOfPairs.j0 k y0 y1 y2 y3 y4 y5 y6 y7) (laws_FnClassesOfPairs.j0 (k + 1) y0 y1 y2 y3 y4 y5 y6 y7)) ∧ (∀ y0 y1 y2 y3 y4 y5 y6 y7 y8 y9 y10, LeO (laws_FnClassesOfPairs.j1 k y0 y1 y2 y3 y4 y5 y6 y7 y8 y9 y10) (laws_FnClassesOfPairs.j1 (k + 1) y0 y1 y2 y3 y4 y5 y6 y7 y8 y9 y10)) ∧ (∀ y0 y1 y2 y3 y4 y5 y6 y7 y8, LeO (laws_FnClassesOfPairs.j2 k y0 y1 y2 y3 y4 y5 y6 y7 y8) (laws_FnClassesOfPairs.j2 (k + 1) y0 y1 y2 y3 y4 y5 y6 y7 y8)) ∧ (∀ y0 y1 y2 y3 y4 y5 y6, LeO (laws_FnClassesOfPairs.j4 k y0 y1 y2 y3 y4 y5 y6) (laws_FnClassesOfPairs.j4 (k + 1) y0 y1 y2 y3 y4 y5 y6)) ∧ (∀ y0 y1 y2 y3 y4 y5 y6, LeO (laws_FnClassesOfPairs.j5 k y0 y1 y2 y3 y4 y5 y6) (laws_FnClassesOfPairs.j5 (k + 1) y0 y1 y2 y3 y4 y5 y6)) ∧ (∀ y0 y1 y2 y3 y4 y5 y6 y7, LeO (laws_FnClassesOfPairs.l1 k y0 y1 y2 y3 y4 y5 y6 y7) (laws_FnClassesOfPairs.l1 (k + 1) y0 y1 y2 y3 y4 y5 y6 y7)) ∧ (∀ y0 y1 y2 y3 y4 y5 y6 y7 y8 y9, LeO (laws_FnClassesOfPairs.l0 k y0 y1 y2 y3 y4 y5 y6 y7 y8 y9) (laws_FnClassesOfPairs.l0 (k + 1) y0 y1 y2 y3 y4 y5 y6 y7 y8 y9))
 | 0 => ⟨fun _ _ _ _ _ _ _ _ r h => by simp [laws_FnClassesOfPairs.j0] at h, fun _ _ _ _ _ _ _ _ _ _ _ r h => by simp [laws_FnClassesOfPairs.j1] at h, fun _ _ _ _ _ _ _ _ _ r h => by simp [laws_FnClassesOfPairs.j2] at h, fun _ _ _ _ _ _ _ r h => by simp [laws_FnClassesOfPairs.j4] at h, fun _ _ _ _ _ _ _ r h => by simp [laws_FnClassesOfPairs.j5] at h, fun _ _ _ _ _ _ _ _ r h => by simp [laws_FnClassesOfPairs.l1] at h, fun _ _ _ _ _ _ _ _ _ _ r h => by simp [laws_FnClassesOfPairs.l0] at h⟩
 | k + 1 => by
  obtain ⟨ih0, ih1, ih2, ih3, ih4, ih5, ih6⟩ := laws_FnClassesOfPairs.mono_l k
  refine ⟨?_, ?_, ?_, ?_, ?_, ?_, ?_⟩
  ·
   intro y0 y1 y2 y3 y4 y5 y6 y7
   unfold laws_FnClassesOfPairs.j0
   repeat' first
   | (with_reducible exact ih0 _ _ _ _ _ _ _ _)
   | (with_reducible exact ih1 _ _ _ _ _ _ _ _ _ _ _)
   | (with_reducible exact ih2 _ _ _ _ _ _ _ _ _)
   | (with_reducible exact ih3 _ _ _ _ _ _ _)
   | (with_reducible exact ih4 _ _ _ _ _ _ _)
   | (with_reducible exact ih5 _ _ _ _ _ _ _ _)
   | (with_reducible exact ih6 _ _ _ _ _ _ _ _ _ _)
   | (with_reducible exact impl_ClassesUpTo.mono _ _ _ _)
   | (with_reducible exact impl_KsUpTo.mono _ _ _)
   | (with_reducible exact impl_LeastPair.mono _ _ _ _ _)
   | (with_reducible exact impl_PairsUpTo.mono _ _ _ _)
   | (with_reducible exact laws_vBefore.mono _ _ _)
   | (with_reducible exact laws_vHas.mono _ _ _)
   | (with_reducible exact laws_vSame.mono _ _ _)
   | (with_reducible exact laws_vSameLists.mono _ _ _)
   | (with_reducible exact spec_ClassesUpTo.mono _ _ _ _)
   | (with_reducible exact spec_DrawKOfPair.mono _ _)
   | (with_reducible exact spec_KOfPair.mono _ _ _ _)
   | (with_reducible exact spec_KsUpTo.mono _ _ _)
   | (with_reducible exact spec_PairsUpTo.mono _ _ _ _)
   | (with_reducible exact LeO.refl _)
   | (with_reducible exact LeO.none _)
   | (with_reducible refine LeO.ite ?_ ?_)
   | (with_reducible refine LeO.bind ?_ (fun _ => ?_))
   | exact ih0 _ _ _ _ _ _ _ _
   | exact ih1 _ _ _ _ _ _ _ _ _ _ _
   | exact ih2 _ _ _ _ _ _ _ _ _
   | exact ih3 _ _ _ _ _ _ _
   | exact ih4 _ _ _ _ _ _ _
   | exact ih5 _ _ _ _ _ _ _ _
   | exact ih6 _ _ _ _ _ _ _ _ _ _
   | exact impl_ClassesUpTo.mono _ _ _ _
   | exact impl_KsUpTo.mono _ _ _
   | exact impl_LeastPair.mono _ _ _ _ _
   | exact impl_PairsUpTo.mono _ _ _ _
   | exact laws_vBefore.mono _ _ _
   | exact laws_vHas.mono _ _ _
   | exact laws_vSame.mono _ _ _
   | exact laws_vSameLists.mono _ _ _
   | exact spec_ClassesUpTo.mono _ _ _ _
   | exact spec_DrawKOfPair.mono _ _
   | exact spec_KOfPair.mono _ _ _ _
   | exact spec_KsUpTo.mono _ _ _
   | exact spec_PairsUpTo.mono _ _ _ _
   | exact LeO.none _
   | refine LeO.ite ?_ ?_
   | refine LeO.bind ?_ (fun _ => ?_)
  ·
   intro y0 y1 y2 y3 y4 y5 y6 y7 y8 y9 y10
   unfold laws_FnClassesOfPairs.j1
   repeat' first
   | (with_reducible exact ih0 _ _ _ _ _ _ _ _)
   | (with_reducible exact ih1 _ _ _ _ _ _ _ _ _ _ _)
   | (with_reducible exact ih2 _ _ _ _ _ _ _ _ _)
   | (with_reducible exact ih3 _ _ _ _ _ _ _)
   | (with_reducible exact ih4 _ _ _ _ _ _ _)
   | (with_reducible exact ih5 _ _ _ _ _ _ _ _)
   | (with_reducible exact ih6 _ _ _ _ _ _ _ _ _ _)
   | (with_reducible exact impl_ClassesUpTo.mono _ _ _ _)
   | (with_reducible exact impl_KsUpTo.mono _ _ _)
   | (with_reducible exact impl_LeastPair.mono _ _ _ _ _)
   | (with_reducible exact impl_PairsUpTo.mono _ _ _ _)
   | (with_reducible exact laws_vBefore.mono _ _ _)
   | (with_reducible exact laws_vHas.mono _ _ _)
   | (with_reducible exact laws_vSame.mono _ _ _)
   | (with_reducible exact laws_vSameLists.mono _ _ _)
   | (with_reducible exact spec_ClassesUpTo.mono _ _ _ _)
   | (with_reducible exact spec_DrawKOfPair.mono _ _)
   | (with_reducible exact spec_KOfPair.mono _ _ _ _)
   | (with_reducible exact spec_KsUpTo.mono _ _ _)
   | (with_reducible exact spec_PairsUpTo.mono _ _ _ _)
   | (with_reducible exact LeO.refl _)
   | (with_reducible exact LeO.none _)
   | (with_reducible refine LeO.ite ?_ ?_)
   | (with_reducible refine LeO.bind ?_ (fun _ => ?_))
   | exact ih0 _ _ _ _ _ _ _ _
   | exact ih1 _ _ _ _ _ _ _ _ _ _ _
   | exact ih2 _ _ _ _ _ _ _ _ _
   | exact ih3 _ _ _ _ _ _ _
   | exact ih4 _ _ _ _ _ _ _
   | exact ih5 _ _ _ _ _ _ _ _
   | exact ih6 _ _ _ _ _ _ _ _ _ _
   | exact impl_ClassesUpTo.mono _ _ _ _
   | exact impl_KsUpTo.mono _ _ _
   | exact impl_LeastPair.mono _ _ _ _ _
   | exact impl_PairsUpTo.mono _ _ _ _
   | exact laws_vBefore.mono _ _ _
   | exact laws_vHas.mono _ _ _
   | exact laws_vSame.mono _ _ _
   | exact laws_vSameLists.mono _ _ _
   | exact spec_ClassesUpTo.mono _ _ _ _
   | exact spec_DrawKOfPair.mono _ _
   | exact spec_KOfPair.mono _ _ _ _
   | exact spec_KsUpTo.mono _ _ _
   | exact spec_PairsUpTo.mono _ _ _ _
   | exact LeO.none _
   | refine LeO.ite ?_ ?_
   | refine LeO.bind ?_ (fun _ => ?_)
  ·
   intro y0 y1 y2 y3 y4 y5 y6 y7 y8
   unfold laws_FnClassesOfPairs.j2
   repeat' first
   | (with_reducible exact ih0 _ _ _ _ _ _ _ _)
   | (with_reducible exact ih1 _ _ _ _ _ _ _ _ _ _ _)
   | (with_reducible exact ih2 _ _ _ _ _ _ _ _ _)
   | (with_reducible exact ih3 _ _ _ _ _ _ _)
   | (with_reducible exact ih4 _ _ _ _ _ _ _)
   | (with_reducible exact ih5 _ _ _ _ _ _ _ _)
   | (with_reducible exact ih6 _ _ _ _ _ _ _ _ _ _)
   | (with_reducible exact impl_ClassesUpTo.mono _ _ _ _)
   | (with_reducible exact impl_KsUpTo.mono _ _ _)
   | (with_reducible exact impl_LeastPair.mono _ _ _ _ _)
   | (with_reducible exact impl_PairsUpTo.mono _ _ _ _)
   | (with_reducible exact laws_vBefore.mono _ _ _)
   | (with_reducible exact laws_vHas.mono _ _ _)
   | (with_reducible exact laws_vSame.mono _ _ _)
   | (with_reducible exact laws_vSameLists.mono _ _ _)
   | (with_reducible exact spec_ClassesUpTo.mono _ _ _ _)
   | (with_reducible exact spec_DrawKOfPair.mono _ _)
   | (with_reducible exact spec_KOfPair.mono _ _ _ _)
   | (with_reducible exact spec_KsUpTo.mono _ _ _)
   | (with_reducible exact spec_PairsUpTo.mono _ _ _ _)
   | (with_reducible exact LeO.refl _)
   | (with_reducible exact LeO.none _)
   | (with_reducible refine LeO.ite ?_ ?_)
   | (with_reducible refine LeO.bind ?_ (fun _ => ?_))
   | exact ih0 _ _ _ _ _ _ _ _
   | exact ih1 _ _ _ _ _ _ _ _ _ _ _
   | exact ih2 _ _ _ _ _ _ _ _ _
   | exact ih3 _ _ _ _ _ _ _
   | exact ih4 _ _ _ _ _ _ _
   | exact ih5 _ _ _ _ _ _ _ _
   | exact ih6 _ _ _ _ _ _ _ _ _ _
   | exact impl_ClassesUpTo.mono _ _ _ _
   | exact impl_KsUpTo.mono _ _ _
   | exact impl_LeastPair.mono _ _ _ _ _
   | exact impl_PairsUpTo.mono _ _ _ _
   | exact laws_vBefore.mono _ _ _
   | exact laws_vHas.mono _ _ _
   | exact laws_vSame.mono _ _ _
   | exact laws_vSameLists.mono _ _ _
   | exact spec_ClassesUpTo.mono _ _ _ _
   | exact spec_DrawKOfPair.mono _ _
   | exact spec_KOfPair.mono _ _ _ _
   | exact spec_KsUpTo.mono _ _ _
   | exact spec_PairsUpTo.mono _ _ _ _
   | exact LeO.none _
   | refine LeO.ite ?_ ?_
   | refine LeO.bind ?_ (fun _ => ?_)
  ·
   intro y0 y1 y2 y3 y4 y5 y6
   unfold laws_FnClassesOfPairs.j4
   repeat' first
   | (with_reducible exact ih0 _ _ _ _ _ _ _ _)
   | (with_reducible exact ih1 _ _ _ _ _ _ _ _ _ _ _)
   | (with_reducible exact ih2 _ _ _ _ _ _ _ _ _)
   | (with_reducible exact ih3 _ _ _ _ _ _ _)
   | (with_reducible exact ih4 _ _ _ _ _ _ _)
   | (with_reducible exact ih5 _ _ _ _ _ _ _ _)
   | (with_reducible exact ih6 _ _ _ _ _ _ _ _ _ _)
   | (with_reducible exact impl_ClassesUpTo.mono _ _ _ _)
   | (with_reducible exact impl_KsUpTo.mono _ _ _)
   | (with_reducible exact impl_LeastPair.mono _ _ _ _ _)
   | (with_reducible exact impl_PairsUpTo.mono _ _ _ _)
   | (with_reducible exact laws_vBefore.mono _ _ _)
   | (with_reducible exact laws_vHas.mono _ _ _)
   | (with_reducible exact laws_vSame.mono _ _ _)
   | (with_reducible exact laws_vSameLists.mono _ _ _)
   | (with_reducible exact spec_ClassesUpTo.mono _ _ _ _)
   | (with_reducible exact spec_DrawKOfPair.mono _ _)
   | (with_reducible exact spec_KOfPair.mono _ _ _ _)
   | (with_reducible exact spec_KsUpTo.mono _ _ _)
   | (with_reducible exact spec_PairsUpTo.mono _ _ _ _)
   | (with_reducible exact LeO.refl _)
   | (with_reducible exact LeO.none _)
   | (with_reducible refine LeO.ite ?_ ?_)
   | (with_reducible refine LeO.bind ?_ (fun _ => ?_))
   | exact ih0 _ _ _ _ _ _ _ _
   | exact ih1 _ _ _ _ _ _ _ _ _ _ _
   | exact ih2 _ _ _ _ _ _ _ _ _
   | exact ih3 _ _ _ _ _ _ _
   | exact ih4 _ _ _ _ _ _ _
   | exact ih5 _ _ _ _ _ _ _ _
   | exact ih6 _ _ _ _ _ _ _ _ _ _
   | exact impl_ClassesUpTo.mono _ _ _ _
   | exact impl_KsUpTo.mono _ _ _
   | exact impl_LeastPair.mono _ _ _ _ _
   | exact impl_PairsUpTo.mono _ _ _ _
   | exact laws_vBefore.mono _ _ _
   | exact laws_vHas.mono _ _ _
   | exact laws_vSame.mono _ _ _
   | exact laws_vSameLists.mono _ _ _
   | exact spec_ClassesUpTo.mono _ _ _ _
   | exact spec_DrawKOfPair.mono _ _
   | exact spec_KOfPair.mono _ _ _ _
   | exact spec_KsUpTo.mono _ _ _
   | exact spec_PairsUpTo.mono _ _ _ _
   | exact LeO.none _
   | refine LeO.ite ?_ ?_
   | refine LeO.bind ?_ (fun _ => ?_)
  ·
   intro y0 y1 y2 y3 y4 y5 y6
   unfold laws_FnClassesOfPairs.j5
   repeat' first
   | (with_reducible exact ih0 _ _ _ _ _ _ _ _)
   | (with_reducible exact ih1 _ _ _ _ _ _ _ _ _ _ _)
   | (with_reducible exact ih2 _ _ _ _ _ _ _ _ _)
   | (with_reducible exact ih3 _ _ _ _ _ _ _)
   | (with_reducible exact ih4 _ _ _ _ _ _ _)
   | (with_reducible exact ih5 _ _ _ _ _ _ _ _)
   | (with_reducible exact ih6 _ _ _ _ _ _ _ _ _ _)
   | (with_reducible exact impl_ClassesUpTo.mono _ _ _ _)
   | (with_reducible exact impl_KsUpTo.mono _ _ _)
   | (with_reducible exact impl_LeastPair.mono _ _ _ _ _)
   | (with_reducible exact impl_PairsUpTo.mono _ _ _ _)
   | (with_reducible exact laws_vBefore.mono _ _ _)
   | (with_reducible exact laws_vHas.mono _ _ _)
   | (with_reducible exact laws_vSame.mono _ _ _)
   | (with_reducible exact laws_vSameLists.mono _ _ _)
   | (with_reducible exact spec_ClassesUpTo.mono _ _ _ _)
   | (with_reducible exact spec_DrawKOfPair.mono _ _)
   | (with_reducible exact spec_KOfPair.mono _ _ _ _)
   | (with_reducible exact spec_KsUpTo.mono _ _ _)
   | (with_reducible exact spec_PairsUpTo.mono _ _ _ _)
   | (with_reducible exact LeO.refl _)
   | (with_reducible exact LeO.none _)
   | (with_reducible refine LeO.ite ?_ ?_)
   | (with_reducible refine LeO.bind ?_ (fun _ => ?_))
   | exact ih0 _ _ _ _ _ _ _ _
   | exact ih1 _ _ _ _ _ _ _ _ _ _ _
   | exact ih2 _ _ _ _ _ _ _ _ _
   | exact ih3 _ _ _ _ _ _ _
   | exact ih4 _ _ _ _ _ _ _
   | exact ih5 _ _ _ _ _ _ _ _
   | exact ih6 _ _ _ _ _ _ _ _ _ _
   | exact impl_ClassesUpTo.mono _ _ _ _
   | exact impl_KsUpTo.mono _ _ _
   | exact impl_LeastPair.mono _ _ _ _ _
   | exact impl_PairsUpTo.mono _ _ _ _
   | exact laws_vBefore.mono _ _ _
   | exact laws_vHas.mono _ _ _
   | exact laws_vSame.mono _ _ _
   | exact laws_vSameLists.mono _ _ _
   | exact spec_ClassesUpTo.mono _ _ _ _
   | exact spec_DrawKOfPair.mono _ _
   | exact spec_KOfPair.mono _ _ _ _
   | exact spec_KsUpTo.mono _ _ _
   | exact spec_PairsUpTo.mono _ _ _ _
   | exact LeO.none _
   | refine LeO.ite ?_ ?_
   | refine LeO.bind ?_ (fun _ => ?_)
  ·
   intro y0 y1 y2 y3 y4 y5 y6 y7
   unfold laws_FnClassesOfPairs.l1
   repeat' first
   | (with_reducible exact ih0 _ _ _ _ _ _ _ _)
   | (with_reducible exact ih1 _ _ _ _ _ _ _ _ _ _ _)
   | (with_reducible exact ih2 _ _ _ _ _ _ _ _ _)
   | (with_reducible exact ih3 _ _ _ _ _ _ _)
   | (with_reducible exact ih4 _ _ _ _ _ _ _)
   | (with_reducible exact ih5 _ _ _ _ _ _ _ _)
   | (with_reducible exact ih6 _ _ _ _ _ _ _ _ _ _)
   | (with_reducible exact impl_ClassesUpTo.mono _ _ _ _)
   | (with_reducible exact impl_KsUpTo.mono _ _ _)
   | (with_reducible exact impl_LeastPair.mono _ _ _ _ _)
   | (with_reducible exact impl_PairsUpTo.mono _ _ _ _)
   | (with_reducible exact laws_vBefore.mono _ _ _)
   | (with_reducible exact laws_vHas.mono _ _ _)
   | (with_reducible exact laws_vSame.mono _ _ _)
   | (with_reducible exact laws_vSameLists.mono _ _ _)
   | (with_reducible exact spec_ClassesUpTo.mono _ _ _ _)
   | (with_reducible exact spec_DrawKOfPair.mono _ _)
   | (with_reducible exact spec_KOfPair.mono _ _ _ _)
   | (with_reducible exact spec_KsUpTo.mono _ _ _)
   | (with_reducible exact spec_PairsUpTo.mono _ _ _ _)
   | (with_reducible exact LeO.refl _)
   | (with_reducible exact LeO.none _)
   | (with_reducible refine LeO.ite ?_ ?_)
   | (with_reducible refine LeO.bind ?_ (fun _ => ?_))
   | exact ih0 _ _ _ _ _ _ _ _
   | exact ih1 _ _ _ _ _ _ _ _ _ _ _
   | exact ih2 _ _ _ _ _ _ _ _ _
   | exact ih3 _ _ _ _ _ _ _
   | exact ih4 _ _ _ _ _ _ _
   | exact ih5 _ _ _ _ _ _ _ _
   | exact ih6 _ _ _ _ _ _ _ _ _ _
   | exact impl_ClassesUpTo.mono _ _ _ _
   | exact impl_KsUpTo.mono _ _ _
   | exact impl_LeastPair.mono _ _ _ _ _
   | exact impl_PairsUpTo.mono _ _ _ _
   | exact laws_vBefore.mono _ _ _
   | exact laws_vHas.mono _ _ _
   | exact laws_vSame.mono _ _ _
   | exact laws_vSameLists.mono _ _ _
   | exact spec_ClassesUpTo.mono _ _ _ _
   | exact spec_DrawKOfPair.mono _ _
   | exact spec_KOfPair.mono _ _ _ _
   | exact spec_KsUpTo.mono _ _ _
   | exact spec_PairsUpTo.mono _ _ _ _
   | exact LeO.none _
   | refine LeO.ite ?_ ?_
   | refine LeO.bind ?_ (fun _ => ?_)
  ·
   intro y0 y1 y2 y3 y4 y5 y6 y7 y8 y9
   unfold laws_FnClassesOfPairs.l0
   repeat' first
   | (with_reducible exact ih0 _ _ _ _ _ _ _ _)
   | (with_reducible exact ih1 _ _ _ _ _ _ _ _ _ _ _)
   | (with_reducible exact ih2 _ _ _ _ _ _ _ _ _)
   | (with_reducible exact ih3 _ _ _ _ _ _ _)
   | (with_reducible exact ih4 _ _ _ _ _ _ _)
   | (with_reducible exact ih5 _ _ _ _ _ _ _ _)
   | (with_reducible exact ih6 _ _ _ _ _ _ _ _ _ _)
   | (with_reducible exact impl_ClassesUpTo.mono _ _ _ _)
   | (with_reducible exact impl_KsUpTo.mono _ _ _)
   | (with_reducible exact impl_LeastPair.mono _ _ _ _ _)
   | (with_reducible exact impl_PairsUpTo.mono _ _ _ _)
   | (with_reducible exact laws_vBefore.mono _ _ _)
   | (with_reducible exact laws_vHas.mono _ _ _)
   | (with_reducible exact laws_vSame.mono _ _ _)
   | (with_reducible exact laws_vSameLists.mono _ _ _)
   | (with_reducible exact spec_ClassesUpTo.mono _ _ _ _)
   | (with_reducible exact spec_DrawKOfPair.mono _ _)
   | (with_reducible exact spec_KOfPair.mono _ _ _ _)
   | (with_reducible exact spec_KsUpTo.mono _ _ _)
   | (with_reducible exact spec_PairsUpTo.mono _ _ _ _)
   | (with_reducible exact LeO.refl _)
   | (with_reducible exact LeO.none _)
   | (with_reducible refine LeO.ite ?_ ?_)
   | (with_reducible refine LeO.bind ?_ (fun _ => ?_))
   | exact ih0 _ _ _ _ _ _ _ _
   | exact ih1 _ _ _ _ _ _ _ _ _ _ _
   | exact ih2 _ _ _ _ _ _ _ _ _
   | exact ih3 _ _ _ _ _ _ _
   | exact ih4 _ _ _ _ _ _ _
   | exact ih5 _ _ _ _ _ _ _ _
   | exact ih6 _ _ _ _ _ _ _ _ _ _
   | exact impl_ClassesUpTo.mono _ _ _ _
   | exact impl_KsUpTo.mono _ _ _
   | exact impl_LeastPair.mono _ _ _ _ _
   | exact impl_PairsUpTo.mono _ _ _ _
   | exact laws_vBefore.mono _ _ _
   | exact laws_vHas.mono _ _ _
   | exact laws_vSame.mono _ _ _
   | exact laws_vSameLists.mono _ _ _
   | exact spec_ClassesUpTo.mono _ _ _ _
   | exact spec_DrawKOfPair.mono _ _
   | exact spec_KOfPair.mono _ _ _ _
   | exact spec_KsUpTo.mono _ _ _
   | exact spec_PairsUpTo.mono _ _ _ _
   | exact LeO.none _
   | refine LeO.ite ?_ ?_
   | refine LeO.bind ?_ (fun _ => ?_)
theorem laws_FnClassesOfPairs.mono : ∀ a0 a1 k, LeO (laws_FnClassesOfPairs.f k a0 a1) (laws_FnClassesOfPairs.f (k + 1) a0 a1) := by
 intro a0 a1 k
 obtain ⟨ih0, ih1, ih2, ih3, ih4, ih5, ih6⟩ := laws_FnClassesOfPairs.mono_l k
 unfold laws_FnClassesOfPairs.f
 repeat' first
  | (with_reducible exact ih0 _ _ _ _ _ _ _ _)
  | (with_reducible exact ih1 _ _ _ _ _ _ _ _ _ _ _)
  | (with_reducible exact ih2 _ _ _ _ _ _ _ _ _)
  | (with_reducible exact ih3 _ _ _ _ _ _ _)
  | (with_reducible exact ih4 _ _ _ _ _ _ _)
  | (with_reducible exact ih5 _ _ _ _ _ _ _ _)
  | (with_reducible exact ih6 _ _ _ _ _ _ _ _ _ _)
  | (with_reducible exact impl_ClassesUpTo.mono _ _ _ _)
  | (with_reducible exact impl_KsUpTo.mono _ _ _)
  | (with_reducible exact impl_LeastPair.mono _ _ _ _ _)
  | (with_reducible exact impl_PairsUpTo.mono _ _ _ _)
  | (with_reducible exact laws_vBefore.mono _ _ _)
  | (with_reducible exact laws_vHas.mono _ _ _)
  | (with_reducible exact laws_vSame.mono _ _ _)
  | (with_reducible exact laws_vSameLists.mono _ _ _)
  | (with_reducible exact spec_ClassesUpTo.mono _ _ _ _)
  | (with_reducible exact spec_DrawKOfPair.mono _ _)
  | (with_reducible exact spec_KOfPair.mono _ _ _ _)
  | (with_reducible exact spec_KsUpTo.mono _ _ _)
  | (with_reducible exact spec_PairsUpTo.mono _ _ _ _)
  | (with_reducible exact LeO.refl _)
  | (with_reducible exact LeO.none _)
  | (with_reducible refine LeO.ite ?_ ?_)
  | (with_reducible refine LeO.bind ?_ (fun _ => ?_))
  | exact ih0 _ _ _ _ _ _ _ _
  | exact ih1 _ _ _ _ _ _ _ _ _ _ _
  | exact ih2 _ _ _ _ _ _ _ _ _
  | exact ih3 _ _ _ _ _ _ _
  | exact ih4 _ _ _ _ _ _ _
  | exact ih5 _ _ _ _ _ _ _ _
  | exact ih6 _ _ _ _ _ _ _ _ _ _
  | exact impl_ClassesUpTo.mono _ _ _ _
  | exact impl_KsUpTo.mono _ _ _
  | exact impl_LeastPair.mono _ _ _ _ _
  | exact impl_PairsUpTo.mono _ _ _ _
  | exact laws_vBefore.mono _ _ _
  | exact laws_vHas.mono _ _ _
  | exact laws_vSame.mono _ _ _
  | exact laws_vSameLists.mono _ _ _
  | exact spec_ClassesUpTo.mono _ _ _ _
  | exact spec_DrawKOfPair.mono _ _
  | exact spec_KOfPair.mono _ _ _ _
  | exact spec_KsUpTo.mono _ _ _
  | exact spec_PairsUpTo.mono _ _ _ _
  | exact LeO.none _
  | refine LeO.ite ?_ ?_
  | refine LeO.bind ?_ (fun _ => ?_)
def laws_FnClassesOfPairs.T32 : Bool × List (List Nat × List Nat) := (true, [([], []), ([0], [0]), ([1], [1]), ([], []), ([3], [3]), ([4], [4]), ([], []), ([], []), ([2, 5, 6, 7], [2, 5, 6, 7]), ([8], [8]), ([9], [9]), ([9], [9]), ([9], [9]), ([10, 8, 0, 1, 2, 3, 4, 5, 6, 7, 8, 9, 10], [10]), ([11, 13, 0, 1, 2, 3, 4, 5, 6, 7, 8, 9, 10, 11, 13], [11]), ([12, 14, 0, 1, 2, 3, 4, 5, 6, 7, 8, 9, 10, 11, 12, 13, 14], [12])])
def laws_FnClassesOfPairs.B32 : List Nat := [0, 1, 3, 0, 8, 24, 0, 0, 255, 511, 1023, 1023, 1023, 2047, 12287, 32767]
theorem laws_FnClassesOfPairs.tab32 : rtab .any (opsOf Try.f3 32) = laws_FnClassesOfPairs.T32 := by kernel_rfl
theorem laws_FnClassesOfPairs.bits32 : waitsOk laws_FnClassesOfPairs.T32.2 laws_FnClassesOfPairs.B32 = true := by kernel_rfl
def laws_FnClassesOfPairs.T33 : Bool × List (List Nat × List Nat) := (true, [([], []), ([0], [0]), ([1], [1]), ([2], [2]), ([2], [2]), ([2], [2]), ([4, 5, 2], [2, 4, 5]), ([3, 6, 2, 2], [2, 3, 6]), ([7, 2], [2, 7]), ([2, 8], [2, 8]), ([9, 7], [9]), ([10], [10]), ([11, 10], [10, 11]), ([12, 10], [10, 12]), ([10], [10]), ([14, 10], [10, 14]), ([15, 10], [10, 15]), ([10], [10]), ([10], [10]), ([13, 16, 17, 18, 10, 10], [10, 13, 16, 17, 18]), ([19, 10], [10, 19]), ([10, 20], [10, 20]), ([21, 19], [21]), ([22], [22]), ([23, 22], [22, 23]), ([24, 22], [22, 24]), ([22], [22]), ([25, 26, 22], [22, 25, 26]), ([22, 27], [22, 27]), ([28, 22], [28]), ([29], [29]), ([30, 29], [29, 30]), ([31, 29, 29], [29, 31]), ([32], [32]), ([32], [32]), ([34, 32], [32, 34]), ([33, 35, 32], [32, 33, 35]), ([36, 32], [32, 36]), ([32], [32]), ([37, 38, 32, 32], [32, 37, 38]), ([39, 32], [32, 39]), ([32, 40, 29], [29, 32, 40]), ([29, 41], [29, 41])])
def laws_FnClassesOfPairs.B33 : List Nat := [0, 1, 3, 7, 7, 7, 55, 127, 255, 511, 1023, 2047, 4095, 8191, 2047, 18431, 51199, 2047, 2047, 524287, 1048575, 2097151, 4194303, 8388607, 16777215, 33554431, 8388607, 134217727, 268435455, 536870911, 1073741823, 2147483647, 4294967295, 8589934591, 8589934591, 25769803775, 68719476735, 137438953471, 8589934591, 549755813887, 1099511627775, 2199023255551, 4398046511103]
theorem laws_FnClassesOfPairs.tab33 : rtab .any (opsOf Try.f3 33) = laws_FnClassesOfPairs.T33 := by kernel_rfl
theorem laws_FnClassesOfPairs.bits33 : waitsOk laws_FnClassesOfPairs.T33.2 laws_FnClassesOfPairs.B33 = true := by kernel_rfl
theorem laws_FnClassesOfPairs.j0_no : ∀ {k y0 y1 y2 y3 y4 y5 y6}, laws_FnClassesOfPairs.j0 k y0 y1 y2 y3 y4 y5 y6 true = some true → False := by
 intro k y0 y1 y2 y3 y4 y5 y6 h
 cases k <;> simp [laws_FnClassesOfPairs.j0] at h
theorem laws_FnClassesOfPairs.j1_no : ∀ {k y0 y1 y2 y3 y4 y5 y6 y7 y8 y9}, laws_FnClassesOfPairs.j1 k y0 y1 y2 y3 y4 y5 y6 y7 y8 y9 true = some true → False := by
 intro k y0 y1 y2 y3 y4 y5 y6 y7 y8 y9 h
 cases k <;> simp [laws_FnClassesOfPairs.j1] at h
theorem laws_FnClassesOfPairs.j5_no : ∀ {k y0 y1 y2 y3 y4 y5}, laws_FnClassesOfPairs.j5 k y0 y1 y2 y3 y4 y5 true = some true → False := by
 intro k y0 y1 y2 y3 y4 y5 h
 cases k <;> simp [laws_FnClassesOfPairs.j5] at h
set_option maxHeartbeats 8000000 in
set_option maxRecDepth 100000 in
theorem laws_FnClassesOfPairs.calls (k : Nat) (A0 : Option Addr) (c0 : Nat) (l0 : List Int) (A1 : Option Addr) (c1 : Nat) (l1 : List Int) (r : Bool) (w : World) (hr0 : Kd.C (Kd.int .u8) w A0 l0.length l0) (hc0 : l0.length ≤ c0) (hr1 : Kd.C (Kd.int .u8) w A1 l1.length l1) (hc1 : l1.length ≤ c1) (h : laws_FnClassesOfPairs.f k l0 l1 = some r) (hrT : r = true) :
 Calls Try.prog 3 #[.slice A0 l0.length c0, .slice A1 l1.length c1] w fun e w' => e = .returned (.bool r) ∧ Below w.heap.size w w' := by
 have HR0 := Aside0.mk hr0
 have HC0 := Aside0.mk hc0
 clear hr0 hc0
 have HR1 := Aside0.mk hr1
 have HC1 := Aside0.mk hc1
 clear hr1 hc1
 have HB := Aside0.mk (Below.refl w.heap.size w)
 have H : ((laws_big.f l0 l1).bind fun t322 => (if t322 = true then (some true) else ((spec_DrawPairsUpTo.f l0).bind fun bt323 => ((impl_PairsUpTo.f k bt323.1 bt323.2.1 bt323.2.2).bind fun bt326 => ((spec_PairsUpTo.f k bt323.1 bt323.2.1 bt323.2.2).bind fun bt330 => ((impl_ClassesUpTo.f k bt323.1 bt323.2.1 bt323.2.2).bind fun bt334 => ((spec_ClassesUpTo.f k bt323.1 bt323.2.1 bt323.2.2).bind fun bt338 => (if (bt326.2 != bt330.2) = true then (laws_FnClassesOfPairs.j0 k l1 bt323.1 bt323.2.1 bt323.2.2 bt326.1 bt330.2 bt334.1 true) else ((laws_vSameLists.f k bt326.1 bt330.1).bind fun t342 => (if t342 = true then (if (bt334.2 != bt338.2) = true then (laws_FnClassesOfPairs.j0 k l1 bt323.1 bt323.2.1 bt323.2.2 bt326.1 bt330.2 bt334.1 true) else ((laws_vSameLists.f k bt334.1 bt338.1).bind fun t343 => (if t343 = true then (if bt326.2 = true then (laws_FnClassesOfPairs.j0 k l1 bt323.1 bt323.2.1 bt323.2.2 bt326.1 bt330.2 bt334.1 (!bt334.2)) else (laws_FnClassesOfPairs.j0 k l1 bt323.1 bt323.2.1 bt323.2.2 bt326.1 bt330.2 bt334.1 false)) else (laws_FnClassesOfPairs.j0 k l1 bt323.1 bt323.2.1 bt323.2.2 bt326.1 bt330.2 bt334.1 true)))) else (laws_FnClassesOfPairs.j0 k l1 bt323.1 bt323.2.1 bt323.2.2 bt326.1 bt330.2 bt334.1 true))))))))))) = some r := h
 clear h
 replace H := Option.bind_eq_some_iff.mp H
 obtain ⟨t322, A30, H⟩ := H
 replace H : (if t322 = true then (some true) else ((spec_DrawPairsUpTo.f l0).bind fun bt323 => ((impl_PairsUpTo.f k bt323.1 bt323.2.1 bt323.2.2).bind fun bt326 => ((spec_PairsUpTo.f k bt323.1 bt323.2.1 bt323.2.2).bind fun bt330 => ((impl_ClassesUpTo.f k bt323.1 bt323.2.1 bt323.2.2).bind fun bt334 => ((spec_ClassesUpTo.f k bt323.1 bt323.2.1 bt323.2.2).bind fun bt338 => (if (bt326.2 != bt330.2) = true then (laws_FnClassesOfPairs.j0 k l1 bt323.1 bt323.2.1 bt323.2.2 bt326.1 bt330.2 bt334.1 true) else ((laws_vSameLists.f k bt326.1 bt330.1).bind fun t342 => (if t342 = true then (if (bt334.2 != bt338.2) = true then (laws_FnClassesOfPairs.j0 k l1 bt323.1 bt323.2.1 bt323.2.2 bt326.1 bt330.2 bt334.1 true) else ((laws_vSameLists.f k bt334.1 bt338.1).bind fun t343 => (if t343 = true then (if bt326.2 = true then (laws_FnClassesOfPairs.j0 k l1 bt323.1 bt323.2.1 bt323.2.2 bt326.1 bt330.2 bt334.1 (!bt334.2)) else (laws_FnClassesOfPairs.j0 k l1 bt323.1 bt323.2.1 bt323.2.2 bt326.1 bt330.2 bt334.1 false)) else (laws_FnClassesOfPairs.j0 k l1 bt323.1 bt323.2.1 bt323.2.2 bt326.1 bt330.2 bt334.1 true)))) else (laws_FnClassesOfPairs.j0 k l1 bt323.1 bt323.2.1 bt323.2.2 bt326.1 bt330.2 bt334.1 true)))))))))) = some r := H
 have A3 := Aside0.mk A30
 clear A30
 by_cases c4 : t322 = true
 ·
  subst c4
  have H1 : (some true) = some r := by rw [if_pos rfl] at H; exact H
  clear H
  have H := H1
  clear H1
  obtain rfl := Option.some.inj H
  go_enter Try.func3, Try.ntmps3
  go_wp2_with (first | ((with_reducible refine gate_callee (f := 4) rfl ?_); refine goesL_ (some 38) rfl rfl Try.func4 (by kernel_rfl) rfl #[.slice A0 l0.length c0, .slice A1 l1.length c1] rfl (by (try simp only [List.map_toArray, List.map_cons, List.map_nil]); first | done | rfl | (simp only [List.length_drop, List.length_take]; rfl)) ?_; (with_reducible refine (laws_big.calls _ _ l0 _ _ l1 true _ ?side1 ?side2 ?side3 ?side4 A3.out).mono ?_); (case side1 => repeat (first | exact HR0.out | (with_reducible refine Kd.C_alloc ?_ _) | (with_reducible refine Kd.C_drewN ?_ _) | (with_reducible refine Kd.C_drew ?_))); (case side2 => exact HC0.out); (case side3 => repeat (first | exact HR1.out | (with_reducible refine Kd.C_alloc ?_ _) | (with_reducible refine Kd.C_drewN ?_ _) | (with_reducible refine Kd.C_drew ?_))); (case side4 => exact HC1.out); rintro e w' ⟨rfl, ⟨nd, rfl⟩⟩; refine ⟨_, rfl, ?_⟩))
  go_ret
  exact ⟨by first | rfl | (simp [errW_none, errW_some] <;> rfl) | (simp [*, errW_none, errW_some] <;> rfl), by repeat (first | (with_reducible first | exact HB.out | apply below_alloc | apply pw_below_drewN | apply below_drew1) | exact HB.out | exact Below.refl _ _)⟩
 ·
  as_aux_lemma =>
   replace c4 := Bool.eq_false_iff.mpr c4
   subst c4
   have H1 : ((spec_DrawPairsUpTo.f l0).bind fun bt323 => ((impl_PairsUpTo.f k bt323.1 bt323.2.1 bt323.2.2).bind fun bt326 => ((spec_PairsUpTo.f k bt323.1 bt323.2.1 bt323.2.2).bind fun bt330 => ((impl_ClassesUpTo.f k bt323.1 bt323.2.1 bt323.2.2).bind fun bt334 => ((spec_ClassesUpTo.f k bt323.1 bt323.2.1 bt323.2.2).bind fun bt338 => (if (bt326.2 != bt330.2) = true then (laws_FnClassesOfPairs.j0 k l1 bt323.1 bt323.2.1 bt323.2.2 bt326.1 bt330.2 bt334.1 true) else ((laws_vSameLists.f k bt326.1 bt330.1).bind fun t342 => (if t342 = true then (if (bt334.2 != bt338.2) = true then (laws_FnClassesOfPairs.j0 k l1 bt323.1 bt323.2.1 bt323.2.2 bt326.1 bt330.2 bt334.1 true) else ((laws_vSameLists.f k bt334.1 bt338.1).bind fun t343 => (if t343 = true then (if bt326.2 = true then (laws_FnClassesOfPairs.j0 k l1 bt323.1 bt323.2.1 bt323.2.2 bt326.1 bt330.2 bt334.1 (!bt334.2)) else (laws_FnClassesOfPairs.j0 k l1 bt323.1 bt323.2.1 bt323.2.2 bt326.1 bt330.2 bt334.1 false)) else (laws_FnClassesOfPairs.j0 k l1 bt323.1 bt323.2.1 bt323.2.2 bt326.1 bt330.2 bt334.1 true)))) else (laws_FnClassesOfPairs.j0 k l1 bt323.1 bt323.2.1 bt323.2.2 bt326.1 bt330.2 bt334.1 true))))))))) = some r := by rw [if_neg (show ¬ (false = true) by decide)] at H; exact H
   clear H
   have H := H1
   clear H1
   replace H := Option.bind_eq_some_iff.mp H
   obtain ⟨⟨t323, t324, t325⟩, A50, H⟩ := H
   replace H : ((impl_PairsUpTo.f k t323 t324 t325).bind fun bt326 => ((spec_PairsUpTo.f k t323 t324 t325).bind fun bt330 => ((impl_ClassesUpTo.f k t323 t324 t325).bind fun bt334 => ((spec_ClassesUpTo.f k t323 t324 t325).bind fun bt338 => (if (bt326.2 != bt330.2) = true then (laws_FnClassesOfPairs.j0 k l1 t323 t324 t325 bt326.1 bt330.2 bt334.1 true) else ((laws_vSameLists.f k bt326.1 bt330.1).bind fun t342 => (if t342 = true then (if (bt334.2 != bt338.2) = true then (laws_FnClassesOfPairs.j0 k l1 t323 t324 t325 bt326.1 bt330.2 bt334.1 true) else ((laws_vSameLists.f k bt334.1 bt338.1).bind fun t343 => (if t343 = true then (if bt326.2 = true then (laws_FnClassesOfPairs.j0 k l1 t323 t324 t325 bt326.1 bt330.2 bt334.1 (!bt334.2)) else (laws_FnClassesOfPairs.j0 k l1 t323 t324 t325 bt326.1 bt330.2 bt334.1 false)) else (laws_FnClassesOfPairs.j0 k l1 t323 t324 t325 bt326.1 bt330.2 bt334.1 true)))) else (laws_FnClassesOfPairs.j0 k l1 t323 t324 t325 bt326.1 bt330.2 bt334.1 true)))))))) = some r := H
   have A5 := Aside0.mk A50
   clear A50
   replace H := Option.bind_eq_some_iff.mp H
   obtain ⟨⟨t326, t327⟩, A60, H⟩ := H
   replace H : ((spec_PairsUpTo.f k t323 t324 t325).bind fun bt330 => ((impl_ClassesUpTo.f k t323 t324 t325).bind fun bt334 => ((spec_ClassesUpTo.f k t323 t324 t325).bind fun bt338 => (if (t327 != bt330.2) = true then (laws_FnClassesOfPairs.j0 k l1 t323 t324 t325 t326 bt330.2 bt334.1 true) else ((laws_vSameLists.f k t326 bt330.1).bind fun t342 => (if t342 = true then (if (bt334.2 != bt338.2) = true then (laws_FnClassesOfPairs.j0 k l1 t323 t324 t325 t326 bt330.2 bt334.1 true) else ((laws_vSameLists.f k bt334.1 bt338.1).bind fun t343 => (if t343 = true then (if t327 = true then (laws_FnClassesOfPairs.j0 k l1 t323 t324 t325 t326 bt330.2 bt334.1 (!bt334.2)) else (laws_FnClassesOfPairs.j0 k l1 t323 t324 t325 t326 bt330.2 bt334.1 false)) else (laws_FnClassesOfPairs.j0 k l1 t323 t324 t325 t326 bt330.2 bt334.1 true)))) else (laws_FnClassesOfPairs.j0 k l1 t323 t324 t325 t326 bt330.2 bt334.1 true))))))) = some r := H
   have A6 := Aside0.mk A60
   clear A60
   replace H := Option.bind_eq_some_iff.mp H
   obtain ⟨⟨t330, t331⟩, A70, H⟩ := H
   replace H : ((impl_ClassesUpTo.f k t323 t324 t325).bind fun bt334 => ((spec_ClassesUpTo.f k t323 t324 t325).bind fun bt338 => (if (t327 != t331) = true then (laws_FnClassesOfPairs.j0 k l1 t323 t324 t325 t326 t331 bt334.1 true) else ((laws_vSameLists.f k t326 t330).bind fun t342 => (if t342 = true then (if (bt334.2 != bt338.2) = true then (laws_FnClassesOfPairs.j0 k l1 t323 t324 t325 t326 t331 bt334.1 true) else ((laws_vSameLists.f k bt334.1 bt338.1).bind fun t343 => (if t343 = true then (if t327 = true then (laws_FnClassesOfPairs.j0 k l1 t323 t324 t325 t326 t331 bt334.1 (!bt334.2)) else (laws_FnClassesOfPairs.j0 k l1 t323 t324 t325 t326 t331 bt334.1 false)) else (laws_FnClassesOfPairs.j0 k l1 t323 t324 t325 t326 t331 bt334.1 true)))) else (laws_FnClassesOfPairs.j0 k l1 t323 t324 t325 t326 t331 bt334.1 true)))))) = some r := H
   have A7 := Aside0.mk A70
   clear A70
   replace H := Option.bind_eq_some_iff.mp H
   obtain ⟨⟨t334, t335⟩, A80, H⟩ := H
   replace H : ((spec_ClassesUpTo.f k t323 t324 t325).bind fun bt338 => (if (t327 != t331) = true then (laws_FnClassesOfPairs.j0 k l1 t323 t324 t325 t326 t331 t334 true) else ((laws_vSameLists.f k t326 t330).bind fun t342 => (if t342 = true then (if (t335 != bt338.2) = true then (laws_FnClassesOfPairs.j0 k l1 t323 t324 t325 t326 t331 t334 true) else ((laws_vSameLists.f k t334 bt338.1).bind fun t343 => (if t343 = true then (if t327 = true then (laws_FnClassesOfPairs.j0 k l1 t323 t324 t325 t326 t331 t334 (!t335)) else (laws_FnClassesOfPairs.j0 k l1 t323 t324 t325 t326 t331 t334 false)) else (laws_FnClassesOfPairs.j0 k l1 t323 t324 t325 t326 t331 t334 true)))) else (laws_FnClassesOfPairs.j0 k l1 t323 t324 t325 t326 t331 t334 true))))) = some r := H
   have A8 := Aside0.mk A80
   clear A80
   replace H := Option.bind_eq_some_iff.mp H
   obtain ⟨⟨t338, t339⟩, A90, H⟩ := H
   replace H : (if (t327 != t331) = true then (laws_FnClassesOfPairs.j0 k l1 t323 t324 t325 t326 t331 t334 true) else ((laws_vSameLists.f k t326 t330).bind fun t342 => (if t342 = true then (if (t335 != t339) = true then (laws_FnClassesOfPairs.j0 k l1 t323 t324 t325 t326 t331 t334 true) else ((laws_vSameLists.f k t334 t338).bind fun t343 => (if t343 = true then (if t327 = true then (laws_FnClassesOfPairs.j0 k l1 t323 t324 t325 t326 t331 t334 (!t335)) else (laws_FnClassesOfPairs.j0 k l1 t323 t324 t325 t326 t331 t334 false)) else (laws_FnClassesOfPairs.j0 k l1 t323 t324 t325 t326 t331 t334 true)))) else (laws_FnClassesOfPairs.j0 k l1 t323 t324 t325 t326 t331 t334 true)))) = some r := H
   have A9 := Aside0.mk A90
   clear A90
   have HC10 := Aside0.mk H
   clear H
   go_enter Try.func3, Try.ntmps3
   go_upto_region 8 with (first | ((with_reducible refine gate_callee (f := 4) rfl ?_); refine goesL_ (some 38) rfl rfl Try.func4 (by kernel_rfl) rfl #[.slice A0 l0.length c0, .slice A1 l1.length c1] rfl (by (try simp only [List.map_toArray, List.map_cons, List.map_nil]); first | done | rfl | (simp only [List.length_drop, List.length_take]; rfl)) ?_; (with_reducible refine (laws_big.calls _ _ l0 _ _ l1 false _ ?side1 ?side2 ?side3 ?side4 A3.out).mono ?_); (case side1 => repeat (first | exact HR0.out | (with_reducible refine Kd.C_alloc ?_ _) | (with_reducible refine Kd.C_drewN ?_ _) | (with_reducible refine Kd.C_drew ?_))); (case side2 => exact HC0.out); (case side3 => repeat (first | exact HR1.out | (with_reducible refine Kd.C_alloc ?_ _) | (with_reducible refine Kd.C_drewN ?_ _) | (with_reducible refine Kd.C_drew ?_))); (case side4 => exact HC1.out); rintro e w' ⟨rfl, ⟨nd, rfl⟩⟩; refine ⟨_, rfl, ?_⟩) | ((with_reducible refine gate_callee (f := 5) rfl ?_); refine goesL_ (some 41) rfl rfl Try.func5 (by kernel_rfl) rfl #[.slice A0 l0.length c0] rfl (by (try simp only [List.map_toArray, List.map_cons, List.map_nil]); first | done | rfl | (simp only [List.length_drop, List.length_take]; rfl)) ?_; (with_reducible refine (spec_DrawPairsUpTo.calls _ _ l0 t323 t324 t325 _ ?side1 ?side2 A5.out).mono ?_); (case side1 => repeat (first | exact HR0.out | (with_reducible refine Kd.C_alloc ?_ _) | (with_reducible refine Kd.C_drewN ?_ _) | (with_reducible refine Kd.C_drew ?_))); (case side2 => exact HC0.out); rintro e w11 ⟨rfl, hb⟩; refine ⟨_, rfl, ?_⟩; have n0_ := Aside0.mk (below_step (by repeat (first | (with_reducible first | exact HB.out | apply below_alloc | apply pw_below_drewN | apply below_drew1) | exact HB.out | exact Below.refl _ _)) hb); clear HB; have HB := n0_; clear n0_; (try clear hb); (try clear hb2); (try clear hk); (try clear hi)) | ((with_reducible refine gate_callee (f := 6) rfl ?_); refine goesL_ (some 49) rfl rfl Try.func6 (by kernel_rfl) rfl #[.int .i64 t323, .int .i64 t324, .int .i64 t325] rfl (by (try simp only [List.map_toArray, List.map_cons, List.map_nil]); first | done | rfl | (simp only [List.length_drop, List.length_take]; rfl)) ?_; (with_reducible refine (impl_PairsUpTo.calls k t323 t324 t325 t326 t327 _ A6.out).mono ?_); rintro e w12 ⟨v328, rfl, ho0, hb⟩; refine ⟨_, rfl, ?_⟩; have n0_ := Aside0.mk (Kd.S_lower ho0 (below_size (by repeat (first | (with_reducible first | exact HB.out | apply below_alloc | apply pw_below_drewN | apply below_drew1) | exact HB.out | exact Below.refl _ _)))); have n1_ := Aside0.mk (below_step (by repeat (first | (with_reducible first | exact HB.out | apply below_alloc | apply pw_below_drewN | apply below_drew1) | exact HB.out | exact Below.refl _ _)) hb); clear HB; have HO329 := n0_; have HB := n1_; clear n0_ n1_; (try clear hb); (try clear hb2); (try clear hk); (try clear hi); (try clear ho0)) | ((with_reducible refine gate_callee (f := 7) rfl ?_); refine goesL_ (some 56) rfl rfl Try.func7 (by kernel_rfl) rfl #[.int .i64 t323, .int .i64 t324, .int .i64 t325] rfl (by (try simp only [List.map_toArray, List.map_cons, List.map_nil]); first | done | rfl | (simp only [List.length_drop, List.length_take]; rfl)) ?_; (with_reducible refine (spec_PairsUpTo.calls k t323 t324 t325 t330 t331 _ A7.out).mono ?_); rintro e w13 ⟨v332, rfl, ho0, hb⟩; refine ⟨_, rfl, ?_⟩; have n0_ := Aside0.mk (Kd.S_elder' (by (with_reducible repeat (first | apply Kd.S_alloc | apply Kd.S_drewN | apply Kd.S_drew)); exact HO329.out) (Kd.S_base ho0) hb); have n1_ := Aside0.mk (Kd.S_lower (Kd.S_new' ho0 (Kd.S_lt (by (with_reducible repeat (first | apply Kd.S_alloc | apply Kd.S_drewN | apply Kd.S_drew)); exact HO329.out))) (below_size (by repeat (first | (with_reducible first | exact HB.out | apply below_alloc | apply pw_below_drewN | apply below_drew1) | exact HB.out | exact Below.refl _ _)))); have n2_ := Aside0.mk (below_step (by repeat (first | (with_reducible first | exact HB.out | apply below_alloc | apply pw_below_drewN | apply below_drew1) | exact HB.out | exact Below.refl _ _)) hb); clear HO329; clear HB; have HO329 := n0_; have HO333 := n1_; have HB := n2_; clear n0_ n1_ n2_; (try clear hb); (try clear hb2); (try clear hk); (try clear hi); (try clear ho0)) | ((with_reducible refine gate_callee (f := 8) rfl ?_); refine goesL_ (some 63) rfl rfl Try.func8 (by kernel_rfl) rfl #[.int .i64 t323, .int .i64 t324, .int .i64 t325] rfl (by (try simp only [List.map_toArray, List.map_cons, List.map_nil]); first | done | rfl | (simp only [List.length_drop, List.length_take]; rfl)) ?_; (with_reducible refine (impl_ClassesUpTo.calls k t323 t324 t325 t334 t335 _ A8.out).mono ?_); rintro e w14 ⟨v336, rfl, ho0, hb⟩; refine ⟨_, rfl, ?_⟩; have n0_ := Aside0.mk (Kd.S_elder' (by (with_reducible repeat (first | apply Kd.S_alloc | apply Kd.S_drewN | apply Kd.S_drew)); exact HO329.out) (Kd.S_base ho0) hb); have n1_ := Aside0.mk (Kd.S_elder' (by (with_reducible repeat (first | apply Kd.S_alloc | apply Kd.S_drewN | apply Kd.S_drew)); exact HO333.out) (Kd.S_base ho0) hb); have n2_ := Aside0.mk (Kd.S_lower (Kd.S_new' (Kd.S_new' ho0 (Kd.S_lt (by (with_reducible repeat (first | apply Kd.S_alloc | apply Kd.S_drewN | apply Kd.S_drew)); exact HO329.out))) (Kd.S_lt (by (with_reducible repeat (first | apply Kd.S_alloc | apply Kd.S_drewN | apply Kd.S_drew)); exact HO333.out))) (below_size (by repeat (first | (with_reducible first | exact HB.out | apply below_alloc | apply pw_below_drewN | apply below_drew1) | exact HB.out | exact Below.refl _ _)))); have n3_ := Aside0.mk (below_step (by repeat (first | (with_reducible first | exact HB.out | apply below_alloc | apply pw_below_drewN | apply below_drew1) | exact HB.out | exact Below.refl _ _)) hb); clear HO329; clear HO333; clear HB; have HO329 := n0_; have HO333 := n1_; have HO337 := n2_; have HB := n3_; clear n0_ n1_ n2_ n3_; (try clear hb); (try clear hb2); (try clear hk); (try clear hi); (try clear ho0)) | ((with_reducible refine gate_callee (f := 9) rfl ?_); refine goesL_ (some 70) rfl rfl Try.func9 (by kernel_rfl) rfl #[.int .i64 t323, .int .i64 t324, .int .i64 t325] rfl (by (try simp only [List.map_toArray, List.map_cons, List.map_nil]); first | done | rfl | (simp only [List.length_drop, List.length_take]; rfl)) ?_; (with_reducible refine (spec_ClassesUpTo.calls k t323 t324 t325 t338 t339 _ A9.out).mono ?_); rintro e w15 ⟨v340, rfl, ho0, hb⟩; refine ⟨_, rfl, ?_⟩; have n0_ := Aside0.mk (Kd.S_elder' (by (with_reducible repeat (first | apply Kd.S_alloc | apply Kd.S_drewN | apply Kd.S_drew)); exact HO329.out) (Kd.S_base ho0) hb); have n1_ := Aside0.mk (Kd.S_elder' (by (with_reducible repeat (first | apply Kd.S_alloc | apply Kd.S_drewN | apply Kd.S_drew)); exact HO333.out) (Kd.S_base ho0) hb); have n2_ := Aside0.mk (Kd.S_elder' (by (with_reducible repeat (first | apply Kd.S_alloc | apply Kd.S_drewN | apply Kd.S_drew)); exact HO337.out) (Kd.S_base ho0) hb); have n3_ := Aside0.mk (Kd.S_lower (Kd.S_new' (Kd.S_new' (Kd.S_new' ho0 (Kd.S_lt (by (with_reducible repeat (first | apply Kd.S_alloc | apply Kd.S_drewN | apply Kd.S_drew)); exact HO329.out))) (Kd.S_lt (by (with_reducible repeat (first | apply Kd.S_alloc | apply Kd.S_drewN | apply Kd.S_drew)); exact HO333.out))) (Kd.S_lt (by (with_reducible repeat (first | apply Kd.S_alloc | apply Kd.S_drewN | apply Kd.S_drew)); exact HO337.out))) (below_size (by repeat (first | (with_reducible first | exact HB.out | apply below_alloc | apply pw_below_drewN | apply below_drew1) | exact HB.out | exact Below.refl _ _)))); have n4_ := Aside0.mk (below_step (by repeat (first | (with_reducible first | exact HB.out | apply below_alloc | apply pw_below_drewN | apply below_drew1) | exact HB.out | exact Below.refl _ _)) hb); clear HO329; clear HO333; clear HO337; clear HB; have HO329 := n0_; have HO333 := n1_; have HO337 := n2_; have HO341 := n3_; have HB := n4_; clear n0_ n1_ n2_ n3_ n4_; (try clear hb); (try clear hb2); (try clear hk); (try clear hi); (try clear ho0)))
   (try simp only [Act.put, List.setIfInBounds_toArray, List.set_cons_zero, List.set_cons_succ])
   go_cut [99] (fun v99 wc => ∃ (kq : Nat) (x99_9 : Bool), v99 = .bool x99_9 ∧ Aside0 (laws_FnClassesOfPairs.j0 kq l1 t323 t324 t325 t326 t331 t334 x99_9 = some r) ∧ Aside0 (kq ≤ k) ∧ Aside0 (Kd.S (Kd.slice 3 (Kd.int .i64)) 32 wc w.heap.size (fun k_ => some k_ ≠ (v336 : Value).ownBlock) v328 t326) ∧ Aside0 (Kd.S (Kd.slice 3 (Kd.int .i64)) 32 wc w.heap.size (fun k_ => some k_ ≠ (v328 : Value).ownBlock) v336 t334) ∧ Aside0 (Below w.heap.size w wc))
   case first =>
    as_aux_lemma =>
     have H := HC10.out
     clear HC10
     by_cases c16 : (t327 != t331) = true
     ·
      rw [if_pos c16] at H
      exact absurd (H.trans (congrArg some hrT)) (fun h_ => laws_FnClassesOfPairs.j0_no h_)
     ·
      rw [if_neg c16] at H
      have c16b0 : (t327 != t331) = false := by simpa using c16
      (try (have c16b1 : decide (t327 = t331) = true := by simpa using c16))
      (try (have c16b2 : (t327 == t331) = true := by simpa using c16))
      clear c16
      (first | rw [c16b0] | (simp only [i64_w, i32_w]; rw [c16b0]) | skip)
      replace H := Option.bind_eq_some_iff.mp H
      obtain ⟨t342, A170, H⟩ := H
      replace H : (if t342 = true then (if (t335 != t339) = true then (laws_FnClassesOfPairs.j0 k l1 t323 t324 t325 t326 t331 t334 true) else ((laws_vSameLists.f k t334 t338).bind fun t343 => (if t343 = true then (if t327 = true then (laws_FnClassesOfPairs.j0 k l1 t323 t324 t325 t326 t331 t334 (!t335)) else (laws_FnClassesOfPairs.j0 k l1 t323 t324 t325 t326 t331 t334 false)) else (laws_FnClassesOfPairs.j0 k l1 t323 t324 t325 t326 t331 t334 true)))) else (laws_FnClassesOfPairs.j0 k l1 t323 t324 t325 t326 t331 t334 true)) = some r := H
      have A17 := Aside0.mk A170
      clear A170
      by_cases c18 : t342 = true
      ·
       subst c18
       have H1 : (if (t335 != t339) = true then (laws_FnClassesOfPairs.j0 k l1 t323 t324 t325 t326 t331 t334 true) else ((laws_vSameLists.f k t334 t338).bind fun t343 => (if t343 = true then (if t327 = true then (laws_FnClassesOfPairs.j0 k l1 t323 t324 t325 t326 t331 t334 (!t335)) else (laws_FnClassesOfPairs.j0 k l1 t323 t324 t325 t326 t331 t334 false)) else (laws_FnClassesOfPairs.j0 k l1 t323 t324 t325 t326 t331 t334 true)))) = some r := by rw [if_pos rfl] at H; exact H
       clear H
       have H := H1
       clear H1
       by_cases c19 : (t335 != t339) = true
       ·
        rw [if_pos c19] at H
        exact absurd (H.trans (congrArg some hrT)) (fun h_ => laws_FnClassesOfPairs.j0_no h_)
       ·
        rw [if_neg c19] at H
        have c19b0 : (t335 != t339) = false := by simpa using c19
        (try (have c19b1 : decide (t335 = t339) = true := by simpa using c19))
        (try (have c19b2 : (t335 == t339) = true := by simpa using c19))
        clear c19
        replace H := Option.bind_eq_some_iff.mp H
        obtain ⟨t343, A220, H⟩ := H
        replace H : (if t343 = true then (if t327 = true then (laws_FnClassesOfPairs.j0 k l1 t323 t324 t325 t326 t331 t334 (!t335)) else (laws_FnClassesOfPairs.j0 k l1 t323 t324 t325 t326 t331 t334 false)) else (laws_FnClassesOfPairs.j0 k l1 t323 t324 t325 t326 t331 t334 true)) = some r := H
        have A22 := Aside0.mk A220
        clear A220
        by_cases c23 : t343 = true
        ·
         subst c23
         have H1 : (if t327 = true then (laws_FnClassesOfPairs.j0 k l1 t323 t324 t325 t326 t331 t334 (!t335)) else (laws_FnClassesOfPairs.j0 k l1 t323 t324 t325 t326 t331 t334 false)) = some r := by rw [if_pos rfl] at H; exact H
         clear H
         have H := H1
         clear H1
         by_cases c24 : t327 = true
         ·
          subst c24
          have H1 : (laws_FnClassesOfPairs.j0 k l1 t323 t324 t325 t326 t331 t334 (!t335)) = some r := by rw [if_pos rfl] at H; exact H
          clear H
          have H := H1
          clear H1
          have H' := Aside0.mk H
          clear H
          obtain ⟨Ao25, co25, eo25⟩ := Kd.S_slice HO329.out
          subst eo25
          obtain ⟨Ao26, co26, eo26⟩ := Kd.S_slice HO333.out
          subst eo26
          go_wp2_with (first | (go_at_call 10; (with_reducible refine (laws_vSameLists.calls k _ _ t326 _ _ t330 true _ ?side1 ?side2 ?side3 ?side4 A17.out).mono ?_); (case side1 => repeat (first | exact (Kd.S_reads' HO329.out).2.2 | (with_reducible refine Kd.C_alloc ?_ _) | (with_reducible refine Kd.C_drewN ?_ _) | (with_reducible refine Kd.C_drew ?_))); (case side2 => exact (Kd.S_reads' HO329.out).2.1); (case side3 => repeat (first | exact (Kd.S_reads' HO333.out).2.2 | (with_reducible refine Kd.C_alloc ?_ _) | (with_reducible refine Kd.C_drewN ?_ _) | (with_reducible refine Kd.C_drew ?_))); (case side4 => exact (Kd.S_reads' HO333.out).2.1); rintro e w' ⟨rfl, ⟨nd, rfl⟩⟩; obtain ⟨Ao27, co27, eo27⟩ := Kd.S_slice HO337.out; subst eo27; obtain ⟨Ao28, co28, eo28⟩ := Kd.S_slice HO341.out; subst eo28) | (go_at_call 10; (with_reducible refine (laws_vSameLists.calls k _ _ t334 _ _ t338 true _ ?side1 ?side2 ?side3 ?side4 A22.out).mono ?_); (case side1 => repeat (first | exact (Kd.S_reads' HO337.out).2.2 | (with_reducible refine Kd.C_alloc ?_ _) | (with_reducible refine Kd.C_drewN ?_ _) | (with_reducible refine Kd.C_drew ?_))); (case side2 => exact (Kd.S_reads' HO337.out).2.1); (case side3 => repeat (first | exact (Kd.S_reads' HO341.out).2.2 | (with_reducible refine Kd.C_alloc ?_ _) | (with_reducible refine Kd.C_drewN ?_ _) | (with_reducible refine Kd.C_drew ?_))); (case side4 => exact (Kd.S_reads' HO341.out).2.1); rintro e w' ⟨rfl, ⟨nd, rfl⟩⟩))
          go_meet
          case rel => exact ⟨_, (!t335), (by first | rfl | (simp; done) | (simp [*]; done)), H', ⟨by first | omega | exact Nat.le_refl _⟩, ⟨by (with_reducible repeat (first | apply Kd.S_alloc | apply Kd.S_drewN | apply Kd.S_drew)); exact Kd.S_mono HO329.out (fun _ hk => hk.1.2)⟩, ⟨by (with_reducible repeat (first | apply Kd.S_alloc | apply Kd.S_drewN | apply Kd.S_drew)); exact Kd.S_mono HO337.out (fun _ hk => hk.1.1.2)⟩, ⟨by repeat (first | (with_reducible first | exact HB.out | apply below_alloc | apply pw_below_drewN | apply below_drew1) | exact HB.out | exact Below.refl _ _)⟩⟩
         ·
          replace c24 := Bool.eq_false_iff.mpr c24
          subst c24
          have H1 : (laws_FnClassesOfPairs.j0 k l1 t323 t324 t325 t326 t331 t334 false) = some r := by rw [if_neg (show ¬ (false = true) by decide)] at H; exact H
          clear H
          have H := H1
          clear H1
          have H' := Aside0.mk H
          clear H
          obtain ⟨Ao29, co29, eo29⟩ := Kd.S_slice HO329.out
          subst eo29
          obtain ⟨Ao30, co30, eo30⟩ := Kd.S_slice HO333.out
          subst eo30
          go_wp2_with (first | (go_at_call 10; (with_reducible refine (laws_vSameLists.calls k _ _ t326 _ _ t330 true _ ?side1 ?side2 ?side3 ?side4 A17.out).mono ?_); (case side1 => repeat (first | exact (Kd.S_reads' HO329.out).2.2 | (with_reducible refine Kd.C_alloc ?_ _) | (with_reducible refine Kd.C_drewN ?_ _) | (with_reducible refine Kd.C_drew ?_))); (case side2 => exact (Kd.S_reads' HO329.out).2.1); (case side3 => repeat (first | exact (Kd.S_reads' HO333.out).2.2 | (with_reducible refine Kd.C_alloc ?_ _) | (with_reducible refine Kd.C_drewN ?_ _) | (with_reducible refine Kd.C_drew ?_))); (case side4 => exact (Kd.S_reads' HO333.out).2.1); rintro e w' ⟨rfl, ⟨nd, rfl⟩⟩; obtain ⟨Ao31, co31, eo31⟩ := Kd.S_slice HO337.out; subst eo31; obtain ⟨Ao32, co32, eo32⟩ := Kd.S_slice HO341.out; subst eo32) | (go_at_call 10; (with_reducible refine (laws_vSameLists.calls k _ _ t334 _ _ t338 true _ ?side1 ?side2 ?side3 ?side4 A22.out).mono ?_); (case side1 => repeat (first | exact (Kd.S_reads' HO337.out).2.2 | (with_reducible refine Kd.C_alloc ?_ _) | (with_reducible refine Kd.C_drewN ?_ _) | (with_reducible refine Kd.C_drew ?_))); (case side2 => exact (Kd.S_reads' HO337.out).2.1); (case side3 => repeat (first | exact (Kd.S_reads' HO341.out).2.2 | (with_reducible refine Kd.C_alloc ?_ _) | (with_reducible refine Kd.C_drewN ?_ _) | (with_reducible refine Kd.C_drew ?_))); (case side4 => exact (Kd.S_reads' HO341.out).2.1); rintro e w' ⟨rfl, ⟨nd, rfl⟩⟩))
          go_meet
          case rel => exact ⟨_, (false), (by first | rfl | (simp; done) | (simp [*]; done)), H', ⟨by first | omega | exact Nat.le_refl _⟩, ⟨by (with_reducible repeat (first | apply Kd.S_alloc | apply Kd.S_drewN | apply Kd.S_drew)); exact Kd.S_mono HO329.out (fun _ hk => hk.1.2)⟩, ⟨by (with_reducible repeat (first | apply Kd.S_alloc | apply Kd.S_drewN | apply Kd.S_drew)); exact Kd.S_mono HO337.out (fun _ hk => hk.1.1.2)⟩, ⟨by repeat (first | (with_reducible first | exact HB.out | apply below_alloc | apply pw_below_drewN | apply below_drew1) | exact HB.out | exact Below.refl _ _)⟩⟩
        ·
         replace c23 := Bool.eq_false_iff.mpr c23
         subst c23
         have H1 : (laws_FnClassesOfPairs.j0 k l1 t323 t324 t325 t326 t331 t334 true) = some r := by rw [if_neg (show ¬ (false = true) by decide)] at H; exact H
         exact absurd (H1.trans (congrArg some hrT)) (fun h_ => laws_FnClassesOfPairs.j0_no h_)
      ·
       replace c18 := Bool.eq_false_iff.mpr c18
       subst c18
       have H1 : (laws_FnClassesOfPairs.j0 k l1 t323 t324 t325 t326 t331 t334 true) = some r := by rw [if_neg (show ¬ (false = true) by decide)] at H; exact H
       exact absurd (H1.trans (congrArg some hrT)) (fun h_ => laws_FnClassesOfPairs.j0_no h_)
   case rest =>
    as_aux_lemma =>
     clear HC10; (try clear c1); (try clear c2); (try clear p2); (try clear c3); (try clear c4); (try clear c5); (try clear c6); (try clear c7); (try clear c8); (try clear c9); (try clear c16); (try clear c16b0); (try clear c16b1); (try clear c16b2); (try clear c18); (try clear c19); (try clear c19b0); (try clear c19b1); (try clear c19b2); (try clear c23); (try clear c24)
     obtain ⟨kq, x99_9, rfl, HA, HJ9, HO_8, HO_12, HB⟩ := hcut
     cases kq with
     | zero => exact absurd HA.out (by simp [laws_FnClassesOfPairs.j0])
     | succ kj9 =>
      have H := HA.out
      clear HA
      simp only [laws_FnClassesOfPairs.j0] at H
      by_cases c39 : x99_9 = true
      ·
       subst c39
       have H1 : (some false) = some r := by rw [if_pos rfl] at H; exact H
       exact absurd (H1.trans (congrArg some hrT)) (by simp)
      ·
       as_aux_lemma =>
        replace c39 := Bool.eq_false_iff.mpr c39
        subst c39
        have H1 : ((spec_DrawKsUpTo.f l1).bind fun bt344 => ((impl_KsUpTo.f kj9 bt344.1 bt344.2).bind fun bt346 => ((spec_KsUpTo.f kj9 bt344.1 bt344.2).bind fun bt350 => (if (bt346.2 != bt350.2) = true then (laws_FnClassesOfPairs.j1 kj9 l1 t323 t324 t325 t326 t331 t334 bt344.1 bt346.1 bt346.2 true) else ((laws_vSame.f kj9 bt346.1 bt350.1).bind fun t354 => (laws_FnClassesOfPairs.j1 kj9 l1 t323 t324 t325 t326 t331 t334 bt344.1 bt346.1 bt346.2 (!t354))))))) = some r := by rw [if_neg (show ¬ (false = true) by decide)] at H; exact H
        clear H
        have H := H1
        clear H1
        replace H := Option.bind_eq_some_iff.mp H
        obtain ⟨⟨t344, t345⟩, A400, H⟩ := H
        replace H : ((impl_KsUpTo.f kj9 t344 t345).bind fun bt346 => ((spec_KsUpTo.f kj9 t344 t345).bind fun bt350 => (if (bt346.2 != bt350.2) = true then (laws_FnClassesOfPairs.j1 kj9 l1 t323 t324 t325 t326 t331 t334 t344 bt346.1 bt346.2 true) else ((laws_vSame.f kj9 bt346.1 bt350.1).bind fun t354 => (laws_FnClassesOfPairs.j1 kj9 l1 t323 t324 t325 t326 t331 t334 t344 bt346.1 bt346.2 (!t354)))))) = some r := H
        have A40 := Aside0.mk A400
        clear A400
        replace H := Option.bind_eq_some_iff.mp H
        obtain ⟨⟨t346, t347⟩, A410, H⟩ := H
        replace H : ((spec_KsUpTo.f kj9 t344 t345).bind fun bt350 => (if (t347 != bt350.2) = true then (laws_FnClassesOfPairs.j1 kj9 l1 t323 t324 t325 t326 t331 t334 t344 t346 t347 true) else ((laws_vSame.f kj9 t346 bt350.1).bind fun t354 => (laws_FnClassesOfPairs.j1 kj9 l1 t323 t324 t325 t326 t331 t334 t344 t346 t347 (!t354))))) = some r := H
        have A41 := Aside0.mk A410
        clear A410
        replace H := Option.bind_eq_some_iff.mp H
        obtain ⟨⟨t350, t351⟩, A420, H⟩ := H
        replace H : (if (t347 != t351) = true then (laws_FnClassesOfPairs.j1 kj9 l1 t323 t324 t325 t326 t331 t334 t344 t346 t347 true) else ((laws_vSame.f kj9 t346 t350).bind fun t354 => (laws_FnClassesOfPairs.j1 kj9 l1 t323 t324 t325 t326 t331 t334 t344 t346 t347 (!t354)))) = some r := H
        have A42 := Aside0.mk A420
        clear A420
        have HC43 := Aside0.mk H
        clear H
        go_upto_region 13 with (first | ((with_reducible refine gate_callee (f := 11) rfl ?_); refine goesL_ (some 102) rfl rfl Try.func11 (by kernel_rfl) rfl #[.slice A1 l1.length c1] rfl (by (try simp only [List.map_toArray, List.map_cons, List.map_nil]); first | done | rfl | (simp only [List.length_drop, List.length_take]; rfl)) ?_; (with_reducible refine (spec_DrawKsUpTo.calls _ _ l1 t344 t345 _ ?side1 ?side2 A40.out).mono ?_); (case side1 => repeat (first | exact (Kd.C_below HR1.out HB.out) | (with_reducible refine Kd.C_alloc ?_ _) | (with_reducible refine Kd.C_drewN ?_ _) | (with_reducible refine Kd.C_drew ?_))); (case side2 => exact HC1.out); rintro e w44 ⟨rfl, hb⟩; refine ⟨_, rfl, ?_⟩; have n0_ := Aside0.mk (Kd.S_below (by (with_reducible repeat (first | apply Kd.S_alloc | apply Kd.S_drewN | apply Kd.S_drew)); exact HO_8.out) hb); have n1_ := Aside0.mk (Kd.S_below (by (with_reducible repeat (first | apply Kd.S_alloc | apply Kd.S_drewN | apply Kd.S_drew)); exact HO_12.out) hb); have n2_ := Aside0.mk (below_step (by repeat (first | (with_reducible first | exact HB.out | apply below_alloc | apply pw_below_drewN | apply below_drew1) | exact HB.out | exact Below.refl _ _)) hb); clear HO_8; clear HO_12; clear HB; have HO_8 := n0_; have HO_12 := n1_; have HB := n2_; clear n0_ n1_ n2_; (try clear hb); (try clear hb2); (try clear hk); (try clear hi)) | ((with_reducible refine gate_callee (f := 12) rfl ?_); refine goesL_ (some 108) rfl rfl Try.func12 (by kernel_rfl) rfl #[.int .i64 t344, .int .i64 t345] rfl (by (try simp only [List.map_toArray, List.map_cons, List.map_nil]); first | done | rfl | (simp only [List.length_drop, List.length_take]; rfl)) ?_; (with_reducible refine (impl_KsUpTo.calls kj9 t344 t345 t346 t347 _ A41.out).mono ?_); rintro e w45 ⟨v348, rfl, ho0, hb⟩; refine ⟨_, rfl, ?_⟩; have n0_ := Aside0.mk (Kd.S_elder' (by (with_reducible repeat (first | apply Kd.S_alloc | apply Kd.S_drewN | apply Kd.S_drew)); exact HO_8.out) (Kd.R_base ho0) hb); have n1_ := Aside0.mk (Kd.S_elder' (by (with_reducible repeat (first | apply Kd.S_alloc | apply Kd.S_drewN | apply Kd.S_drew)); exact HO_12.out) (Kd.R_base ho0) hb); have n2_ := Aside0.mk (Kd.R_lower ho0 (below_size (by repeat (first | (with_reducible first | exact HB.out | apply below_alloc | apply pw_below_drewN | apply below_drew1) | exact HB.out | exact Below.refl _ _)))); have n3_ := Aside0.mk (below_step (by repeat (first | (with_reducible first | exact HB.out | apply below_alloc | apply pw_below_drewN | apply below_drew1) | exact HB.out | exact Below.refl _ _)) hb); clear HO_8; clear HO_12; clear HB; have HO_8 := n0_; have HO_12 := n1_; have HO349 := n2_; have HB := n3_; clear n0_ n1_ n2_ n3_; (try clear hb); (try clear hb2); (try clear hk); (try clear hi); (try clear ho0)) | ((with_reducible refine gate_callee (f := 13) rfl ?_); refine goesL_ (some 114) rfl rfl Try.func13 (by kernel_rfl) rfl #[.int .i64 t344, .int .i64 t345] rfl (by (try simp only [List.map_toArray, List.map_cons, List.map_nil]); first | done | rfl | (simp only [List.length_drop, List.length_take]; rfl)) ?_; (with_reducible refine (spec_KsUpTo.calls kj9 t344 t345 t350 t351 _ A42.out).mono ?_); rintro e w46 ⟨v352, rfl, ho0, hb⟩; refine ⟨_, rfl, ?_⟩; have n0_ := Aside0.mk (Kd.S_elder' (by (with_reducible repeat (first | apply Kd.S_alloc | apply Kd.S_drewN | apply Kd.S_drew)); exact HO_8.out) (Kd.R_base ho0) hb); have n1_ := Aside0.mk (Kd.S_elder' (by (with_reducible repeat (first | apply Kd.S_alloc | apply Kd.S_drewN | apply Kd.S_drew)); exact HO_12.out) (Kd.R_base ho0) hb); have n2_ := Aside0.mk (Kd.R_elder' (by (with_reducible repeat (first | apply Kd.R_alloc | apply Kd.R_drewN | apply Kd.R_drew)); exact HO349.out) (Kd.R_base ho0) hb); have n3_ := Aside0.mk (Kd.R_lower (Kd.R_new' ho0 (Kd.R_lt (by (with_reducible repeat (first | apply Kd.R_alloc | apply Kd.R_drewN | apply Kd.R_drew)); exact HO349.out))) (below_size (by repeat (first | (with_reducible first | exact HB.out | apply below_alloc | apply pw_below_drewN | apply below_drew1) | exact HB.out | exact Below.refl _ _)))); have n4_ := Aside0.mk (below_step (by repeat (first | (with_reducible first | exact HB.out | apply below_alloc | apply pw_below_drewN | apply below_drew1) | exact HB.out | exact Below.refl _ _)) hb); clear HO_8; clear HO_12; clear HO349; clear HB; have HO_8 := n0_; have HO_12 := n1_; have HO349 := n2_; have HO353 := n3_; have HB := n4_; clear n0_ n1_ n2_ n3_ n4_; (try clear hb); (try clear hb2); (try clear hk); (try clear hi); (try clear ho0)))
        (try simp only [Act.put, List.setIfInBounds_toArray, List.set_cons_zero, List.set_cons_succ])
        go_cut [125] (fun v125 wc => ∃ (kq : Nat) (x125_42 : Bool), v125 = .bool x125_42 ∧ Aside0 (laws_FnClassesOfPairs.j1 kq l1 t323 t324 t325 t326 t331 t334 t344 t346 t347 x125_42 = some r) ∧ Aside0 (kq ≤ kj9) ∧ Aside0 (Kd.S (Kd.slice 3 (Kd.int .i64)) 32 wc w.heap.size (fun k_ => some k_ ≠ (v336 : Value).ownBlock ∧ some k_ ≠ (v348 : Value).ownBlock) v328 t326) ∧ Aside0 (Kd.S (Kd.slice 3 (Kd.int .i64)) 32 wc w.heap.size (fun k_ => some k_ ≠ (v328 : Value).ownBlock ∧ some k_ ≠ (v348 : Value).ownBlock) v336 t334) ∧ Aside0 (Kd.R (Kd.int .i64) 3 wc w.heap.size (fun _ => True) v348 t346) ∧ Aside0 (Below w.heap.size w wc))
        case first =>
         as_aux_lemma =>
          have H := HC43.out
          clear HC43
          by_cases c47 : (t347 != t351) = true
          ·
           rw [if_pos c47] at H
           exact absurd (H.trans (congrArg some hrT)) (fun h_ => laws_FnClassesOfPairs.j1_no h_)
          ·
           rw [if_neg c47] at H
           have c47b0 : (t347 != t351) = false := by simpa using c47
           (try (have c47b1 : decide (t347 = t351) = true := by simpa using c47))
           (try (have c47b2 : (t347 == t351) = true := by simpa using c47))
           clear c47
           (first | rw [c47b0] | (simp only [i64_w, i32_w]; rw [c47b0]) | skip)
           replace H := Option.bind_eq_some_iff.mp H
           obtain ⟨t354, A480, H⟩ := H
           replace H : (laws_FnClassesOfPairs.j1 kj9 l1 t323 t324 t325 t326 t331 t334 t344 t346 t347 (!t354)) = some r := H
           have A48 := Aside0.mk A480
           clear A480
           have H' := Aside0.mk H
           clear H
           obtain ⟨Ao49, co49, eo49⟩ := Kd.R_slice HO349.out
           subst eo49
           obtain ⟨Ao50, co50, eo50⟩ := Kd.R_slice HO353.out
           subst eo50
           go_wp2_with (first | (go_at_call 14; (with_reducible refine (laws_vSame.calls kj9 _ _ t346 _ _ t350 t354 _ ?side1 ?side2 ?side3 ?side4 A48.out).mono ?_); (case side1 => repeat (first | exact (Kd.R_reads' HO349.out).2.2 | (with_reducible refine Kd.C_alloc ?_ _) | (with_reducible refine Kd.C_drewN ?_ _) | (with_reducible refine Kd.C_drew ?_))); (case side2 => exact (Kd.R_reads' HO349.out).2.1); (case side3 => repeat (first | exact (Kd.R_reads' HO353.out).2.2 | (with_reducible refine Kd.C_alloc ?_ _) | (with_reducible refine Kd.C_drewN ?_ _) | (with_reducible refine Kd.C_drew ?_))); (case side4 => exact (Kd.R_reads' HO353.out).2.1); rintro e w' ⟨rfl, ⟨nd, rfl⟩⟩))
           go_meet
           case rel => exact ⟨_, (!t354), (by first | rfl | (simp; done) | (simp [*]; done)), H', ⟨by have := HJ9.out; first | omega | exact Nat.le_refl _⟩, ⟨by (with_reducible repeat (first | apply Kd.S_alloc | apply Kd.S_drewN | apply Kd.S_drew)); exact Kd.S_mono HO_8.out (fun _ hk => ⟨hk.1.1, hk.1.2⟩)⟩, ⟨by (with_reducible repeat (first | apply Kd.S_alloc | apply Kd.S_drewN | apply Kd.S_drew)); exact Kd.S_mono HO_12.out (fun _ hk => ⟨hk.1.1, hk.1.2⟩)⟩, ⟨by (with_reducible repeat (first | apply Kd.R_alloc | apply Kd.R_drewN | apply Kd.R_drew)); exact Kd.R_mono HO349.out (fun _ hk => trivial)⟩, ⟨by repeat (first | (with_reducible first | exact HB.out | apply below_alloc | apply pw_below_drewN | apply below_drew1) | exact HB.out | exact Below.refl _ _)⟩⟩
        case rest =>
         as_aux_lemma =>
          clear HC43; (try clear c1); (try clear c2); (try clear p2); (try clear c3); (try clear c4); (try clear c5); (try clear c6); (try clear c7); (try clear c8); (try clear c9); (try clear c11); (try clear c12); (try clear c13); (try clear c16); (try clear c16b0); (try clear c16b1); (try clear c16b2); (try clear c18); (try clear c19); (try clear c19b0); (try clear c19b1); (try clear c19b2); (try clear c23); (try clear c24); (try clear c39); (try clear c47); (try clear c47b0); (try clear c47b1); (try clear c47b2); (try clear p2)
          obtain ⟨kq, x125_42, rfl, HA, HJ42, HO_8, HO_12, HO_18, HB⟩ := hcut
          cases kq with
          | zero => exact absurd HA.out (by simp [laws_FnClassesOfPairs.j1])
          | succ kj42 =>
           have H := HA.out
           clear HA
           simp only [laws_FnClassesOfPairs.j1] at H
           by_cases c51 : x125_42 = true
           ·
            subst c51
            have H1 : (some false) = some r := by rw [if_pos rfl] at H; exact H
            exact absurd (H1.trans (congrArg some hrT)) (by simp)
           ·
            as_aux_lemma =>
             replace c51 := Bool.eq_false_iff.mpr c51
             subst c51
             have H1 : (if t347 = true then (laws_FnClassesOfPairs.j2 kj42 l1 t323 t324 t325 t326 t331 t334 t346 (t344 == 1)) else (laws_FnClassesOfPairs.j2 kj42 l1 t323 t324 t325 t326 t331 t334 t346 false)) = some r := by rw [if_neg (show ¬ (false = true) by decide)] at H; exact H
             clear H
             have H := H1
             clear H1
             have HC52 := Aside0.mk H
             clear H
             go_upto_region 15 with (fail)
             go_cut [130] (fun v130 wc => ∃ (kq : Nat) (x130_51 : Bool), v130 = .bool x130_51 ∧ Aside0 (laws_FnClassesOfPairs.j2 kq l1 t323 t324 t325 t326 t331 t334 t346 x130_51 = some r) ∧ Aside0 (kq ≤ kj42) ∧ Aside0 (Kd.S (Kd.slice 3 (Kd.int .i64)) 32 wc w.heap.size (fun k_ => some k_ ≠ (v336 : Value).ownBlock ∧ some k_ ≠ (v348 : Value).ownBlock) v328 t326) ∧ Aside0 (Kd.S (Kd.slice 3 (Kd.int .i64)) 32 wc w.heap.size (fun k_ => some k_ ≠ (v328 : Value).ownBlock ∧ some k_ ≠ (v348 : Value).ownBlock) v336 t334) ∧ Aside0 (Kd.R (Kd.int .i64) 3 wc w.heap.size (fun _ => True) v348 t346) ∧ Aside0 (Below w.heap.size w wc))
             case first =>
              as_aux_lemma =>
               have H := HC52.out
               clear HC52
               by_cases c53 : t347 = true
               ·
                subst c53
                have H1 : (laws_FnClassesOfPairs.j2 kj42 l1 t323 t324 t325 t326 t331 t334 t346 (t344 == 1)) = some r := by rw [if_pos rfl] at H; exact H
                clear H
                have H := H1
                clear H1
                have H' := Aside0.mk H
                clear H
                go_wp2
                go_meet
                case rel => exact ⟨_, ((t344 == 1)), (by first | rfl | (simp; done) | (simp [*]; done)), H', ⟨by have := HJ9.out; have := HJ42.out; first | omega | exact Nat.le_refl _⟩, ⟨by (with_reducible repeat (first | apply Kd.S_alloc | apply Kd.S_drewN | apply Kd.S_drew)); exact HO_8.out⟩, ⟨by (with_reducible repeat (first | apply Kd.S_alloc | apply Kd.S_drewN | apply Kd.S_drew)); exact HO_12.out⟩, ⟨by (with_reducible repeat (first | apply Kd.R_alloc | apply Kd.R_drewN | apply Kd.R_drew)); exact HO_18.out⟩, ⟨by repeat (first | (with_reducible first | exact HB.out | apply below_alloc | apply pw_below_drewN | apply below_drew1) | exact HB.out | exact Below.refl _ _)⟩⟩
               ·
                replace c53 := Bool.eq_false_iff.mpr c53
                subst c53
                have H1 : (laws_FnClassesOfPairs.j2 kj42 l1 t323 t324 t325 t326 t331 t334 t346 false) = some r := by rw [if_neg (show ¬ (false = true) by decide)] at H; exact H
                clear H
                have H := H1
                clear H1
                have H' := Aside0.mk H
                clear H
                go_wp2
                go_meet
                case rel => exact ⟨_, (false), (by first | rfl | (simp; done) | (simp [*]; done)), H', ⟨by have := HJ9.out; have := HJ42.out; first | omega | exact Nat.le_refl _⟩, ⟨by (with_reducible repeat (first | apply Kd.S_alloc | apply Kd.S_drewN | apply Kd.S_drew)); exact HO_8.out⟩, ⟨by (with_reducible repeat (first | apply Kd.S_alloc | apply Kd.S_drewN | apply Kd.S_drew)); exact HO_12.out⟩, ⟨by (with_reducible repeat (first | apply Kd.R_alloc | apply Kd.R_drewN | apply Kd.R_drew)); exact HO_18.out⟩, ⟨by repeat (first | (with_reducible first | exact HB.out | apply below_alloc | apply pw_below_drewN | apply below_drew1) | exact HB.out | exact Below.refl _ _)⟩⟩
             case rest =>
              as_aux_lemma =>
               clear HC52; (try clear c1); (try clear c2); (try clear p2); (try clear c3); (try clear c4); (try clear c5); (try clear c6); (try clear c7); (try clear c8); (try clear c9); (try clear c11); (try clear c12); (try clear c13); (try clear c16); (try clear c16b0); (try clear c16b1); (try clear c16b2); (try clear c18); (try clear c19); (try clear c19b0); (try clear c19b1); (try clear c19b2); (try clear c23); (try clear c24); (try clear c39); (try clear c47); (try clear c47b0); (try clear c47b1); (try clear c47b2); (try clear c51); (try clear c53); (try clear p2)
               obtain ⟨kq, x130_51, rfl, HA, HJ51, HO_8, HO_12, HO_18, HB⟩ := hcut
               cases kq with
               | zero => exact absurd HA.out (by simp [laws_FnClassesOfPairs.j2])
               | succ kj51 =>
                have H := HA.out
                clear HA
                simp only [laws_FnClassesOfPairs.j2] at H
                have HC54 := Aside0.mk H
                clear H
                go_upto_if 130 with (fail)
                go_cut [] (fun wc => ∃ (kq : Nat), Aside0 (laws_FnClassesOfPairs.j4 kq l1 t323 t324 t325 t326 t331 t334 = some r) ∧ Aside0 (kq ≤ kj51) ∧ Aside0 (Kd.S (Kd.slice 3 (Kd.int .i64)) 32 wc w.heap.size (fun k_ => some k_ ≠ (v336 : Value).ownBlock) v328 t326) ∧ Aside0 (Kd.S (Kd.slice 3 (Kd.int .i64)) 32 wc w.heap.size (fun k_ => some k_ ≠ (v328 : Value).ownBlock) v336 t334) ∧ Aside0 (Below w.heap.size w wc))
                case first =>
                 as_aux_lemma =>
                  have H := HC54.out
                  clear HC54
                  by_cases c55 : x130_51 = true
                  ·
                   as_aux_lemma =>
                    subst c55
                    have H1 : (laws_FnClassesOfPairs.l0 kj51 l1 t323 t324 t325 t326 t331 t334 t346 (t346.length : Int) 0) = some r := by rw [if_pos rfl] at H; exact H
                    clear H
                    have H := H1
                    clear H1
                    have H' := Aside0.mk H
                    clear H
                    obtain ⟨Ao56, co56, eo56⟩ := Kd.R_slice HO_18.out
                    subst eo56
                    go_wp2
                    go_loopg [133] kj51 (fun kq v133 w' => ∃ (x133_4 : Int), v133 = .int .i64 x133_4 ∧ Aside0 (laws_FnClassesOfPairs.l0 kq l1 t323 t324 t325 t326 t331 t334 t346 (t346.length : Int) x133_4 = some r) ∧ Aside0 (kq ≤ kj51) ∧ Aside0 (Kd.S (Kd.slice 3 (Kd.int .i64)) 32 w' w.heap.size (fun k_ => some k_ ≠ (v336 : Value).ownBlock ∧ some k_ ≠ ((.slice Ao56 t346.length co56) : Value).ownBlock) v328 t326) ∧ Aside0 (Kd.S (Kd.slice 3 (Kd.int .i64)) 32 w' w.heap.size (fun k_ => some k_ ≠ (v328 : Value).ownBlock ∧ some k_ ≠ ((.slice Ao56 t346.length co56) : Value).ownBlock) v336 t334) ∧ Aside0 (Kd.R (Kd.int .i64) 3 w' w.heap.size (fun _ => True) (.slice Ao56 t346.length co56) t346) ∧ Aside0 (Below w.heap.size w w'))
                    case atStart => exact ⟨(0), (by first | rfl | (simp; done) | (simp [*]; done)), H', ⟨Nat.le_refl _⟩, ⟨by (with_reducible repeat (first | apply Kd.S_alloc | apply Kd.S_drewN | apply Kd.S_drew)); exact HO_8.out⟩, ⟨by (with_reducible repeat (first | apply Kd.S_alloc | apply Kd.S_drewN | apply Kd.S_drew)); exact HO_12.out⟩, ⟨by (with_reducible repeat (first | apply Kd.R_alloc | apply Kd.R_drewN | apply Kd.R_drew)); exact HO_18.out⟩, ⟨by repeat (first | (with_reducible first | exact HB.out | apply below_alloc | apply pw_below_drewN | apply below_drew1) | exact HB.out | exact Below.refl _ _)⟩⟩
                    case round =>
                     as_aux_lemma =>
                      clear H'; (try clear c1); (try clear c2); (try clear p2); (try clear c3); (try clear c4); (try clear c5); (try clear c6); (try clear c7); (try clear c8); (try clear c9); (try clear c11); (try clear c12); (try clear c13); (try clear c16); (try clear c16b0); (try clear c16b1); (try clear c16b2); (try clear c18); (try clear c19); (try clear c19b0); (try clear c19b1); (try clear c19b2); (try clear c23); (try clear c24); (try clear c39); (try clear c47); (try clear c47b0); (try clear c47b1); (try clear c47b2); (try clear c51); (try clear c53); (try clear c55); (try clear p2)
                      obtain ⟨x133_4, rfl, HA, HK4, HO_8, HO_12, HO_131, HB⟩ := hrel
                      cases gk with
                      | zero => exact absurd HA.out (by simp [laws_FnClassesOfPairs.l0])
                      | succ k4 =>
                       have H := HA.out
                       clear HA
                       simp only [laws_FnClassesOfPairs.l0] at H
                       by_cases c57 : x133_4 < (t346.length : Int)
                       ·
                        rw [if_pos c57] at H
                        have c57b0 : decide (x133_4 < (t346.length : Int)) = true := decide_eq_true c57
                        clear c57
                        (first | rw [c57b0] | (simp only [i64_w, i32_w]; rw [c57b0]) | skip)
                        by_cases c58 : 0 ≤ x133_4
                        ·
                         rw [if_pos c58] at H
                         have c58b0 : decide (0 ≤ x133_4) = true := decide_eq_true c58
                         clear c58
                         by_cases c59 : x133_4 < (t346.length : Int)
                         ·
                          rw [if_pos c59] at H
                          have c59b0 : decide (x133_4 < (t346.length : Int)) = true := decide_eq_true c59
                          clear c59
                          by_cases c60 : (rd t346 x133_4) = 3
                          ·
                           rw [if_pos c60] at H
                           have c60b0 : ((rd t346 x133_4) == 3) = true := beq_iff_eq.mpr c60
                           have c60b1 : ((rd t346 x133_4) != 3) = false := bne_eq_false_iff_eq.mpr c60
                           clear c60
                           have H' := Aside0.mk H
                           clear H
                           have p355 : 0 ≤ (x133_4 : Int) := of_decide_eq_true (by first | (with_reducible assumption) | assumption)
                           have q355 : x133_4 < (t346.length : Int) := of_decide_eq_true (by first | (with_reducible assumption) | assumption)
                           obtain ⟨ad355, e355, hx355_0⟩ := Kd.at_int (Kd.R_reads' HO_131.out).2.2 x133_4 p355 q355
                           cases e355
                           replace p355 := eq_true p355
                           replace q355 := eq_true q355
                           go_wp2
                           go_roundg k4
                           case measure => have := HJ9.out; have := HJ42.out; have := HJ51.out; have := HK4.out; omega
                           case rel => exact ⟨(wrap64 (x133_4 + 1)), (by first | rfl | (simp; done) | (simp [*]; done)), H', ⟨by have := HJ9.out; have := HJ42.out; have := HJ51.out; have := HK4.out; omega⟩, ⟨by (with_reducible repeat (first | apply Kd.S_alloc | apply Kd.S_drewN | apply Kd.S_drew)); exact HO_8.out⟩, ⟨by (with_reducible repeat (first | apply Kd.S_alloc | apply Kd.S_drewN | apply Kd.S_drew)); exact HO_12.out⟩, ⟨by (with_reducible repeat (first | apply Kd.R_alloc | apply Kd.R_drewN | apply Kd.R_drew)); exact HO_131.out⟩, ⟨by repeat (first | (with_reducible first | exact HB.out | apply below_alloc | apply pw_below_drewN | apply below_drew1) | exact HB.out | exact Below.refl _ _)⟩⟩
                          ·
                           rw [if_neg c60] at H
                           exact absurd (H.trans (congrArg some hrT)) (by simp)
                         ·
                          rw [if_neg c59] at H
                          exact absurd H (by simp)
                        ·
                         rw [if_neg c58] at H
                         exact absurd H (by simp)
                       ·
                        rw [if_neg c57] at H
                        have c57b0 : decide (x133_4 < (t346.length : Int)) = false := decide_eq_false c57
                        clear c57
                        (first | rw [c57b0] | (simp only [i64_w, i32_w]; rw [c57b0]) | skip)
                        have H' := Aside0.mk H
                        clear H
                        go_wp2
                        go_meet
                        case rel => exact ⟨_, H', ⟨by have := HJ9.out; have := HJ42.out; have := HJ51.out; have := HK4.out; first | omega | exact Nat.le_refl _⟩, ⟨by (with_reducible repeat (first | apply Kd.S_alloc | apply Kd.S_drewN | apply Kd.S_drew)); exact Kd.S_mono HO_8.out (fun _ hk => hk.1)⟩, ⟨by (with_reducible repeat (first | apply Kd.S_alloc | apply Kd.S_drewN | apply Kd.S_drew)); exact Kd.S_mono HO_12.out (fun _ hk => hk.1)⟩, ⟨by repeat (first | (with_reducible first | exact HB.out | apply below_alloc | apply pw_below_drewN | apply below_drew1) | exact HB.out | exact Below.refl _ _)⟩⟩
                  ·
                   replace c55 := Bool.eq_false_iff.mpr c55
                   subst c55
                   have H1 : (laws_FnClassesOfPairs.j4 kj51 l1 t323 t324 t325 t326 t331 t334) = some r := by rw [if_neg (show ¬ (false = true) by decide)] at H; exact H
                   clear H
                   have H := H1
                   clear H1
                   have H' := Aside0.mk H
                   clear H
                   go_wp2
                   go_meet
                   case rel => exact ⟨_, H', ⟨by have := HJ9.out; have := HJ42.out; have := HJ51.out; first | omega | exact Nat.le_refl _⟩, ⟨by (with_reducible repeat (first | apply Kd.S_alloc | apply Kd.S_drewN | apply Kd.S_drew)); exact Kd.S_mono HO_8.out (fun _ hk => hk.1)⟩, ⟨by (with_reducible repeat (first | apply Kd.S_alloc | apply Kd.S_drewN | apply Kd.S_drew)); exact Kd.S_mono HO_12.out (fun _ hk => hk.1)⟩, ⟨by repeat (first | (with_reducible first | exact HB.out | apply below_alloc | apply pw_below_drewN | apply below_drew1) | exact HB.out | exact Below.refl _ _)⟩⟩
                case rest =>
                 as_aux_lemma =>
                  clear HC54; (try clear c1); (try clear c2); (try clear p2); (try clear c3); (try clear p3); (try clear q3); (try clear hx3); (try clear c4); (try clear c5); (try clear c6); (try clear p6); (try clear c7); (try clear c8); (try clear c9); (try clear c11); (try clear c12); (try clear c13); (try clear c16); (try clear c16b0); (try clear c16b1); (try clear c16b2); (try clear c18); (try clear c19); (try clear c19b0); (try clear c19b1); (try clear c19b2); (try clear c23); (try clear c24); (try clear p35); (try clear q35); (try clear hx35); (try clear c39); (try clear c47); (try clear c47b0); (try clear c47b1); (try clear c47b2); (try clear c51); (try clear c53); (try clear c55); (try clear c57); (try clear c57b0); (try clear c58); (try clear c58b0); (try clear c59); (try clear c59b0); (try clear c60); (try clear c60b0); (try clear c60b1); (try clear hx355_0); (try clear p2); (try clear p355); (try clear q355)
                  obtain ⟨kq, HA, HJ53, HO_8, HO_12, HB⟩ := hcut
                  cases kq with
                  | zero => exact absurd HA.out (by simp [laws_FnClassesOfPairs.j4])
                  | succ kj53 =>
                   have H := HA.out
                   clear HA
                   simp only [laws_FnClassesOfPairs.j4] at H
                   replace H := Option.bind_eq_some_iff.mp H
                   obtain ⟨⟨t356, t357, t358⟩, A610, H⟩ := H
                   replace H : ((impl_KOfPair.f t356 t357 t358).bind fun bt359 => ((spec_KOfPair.f kj53 t356 t357 t358).bind fun bt361 => (if (bt359.2 != bt361.2) = true then (laws_FnClassesOfPairs.j5 kj53 t323 t324 t325 t326 t331 t334 true) else (if bt359.1 = bt361.1 then (if bt359.2 = true then ((laws_vPair.f t356 t357 bt359.1 t358).bind fun t363 => (laws_FnClassesOfPairs.j5 kj53 t323 t324 t325 t326 t331 t334 (!t363))) else (laws_FnClassesOfPairs.j5 kj53 t323 t324 t325 t326 t331 t334 false)) else (laws_FnClassesOfPairs.j5 kj53 t323 t324 t325 t326 t331 t334 true))))) = some r := H
                   have A61 := Aside0.mk A610
                   clear A610
                   replace H := Option.bind_eq_some_iff.mp H
                   obtain ⟨⟨t359, t360⟩, A620, H⟩ := H
                   replace H : ((spec_KOfPair.f kj53 t356 t357 t358).bind fun bt361 => (if (t360 != bt361.2) = true then (laws_FnClassesOfPairs.j5 kj53 t323 t324 t325 t326 t331 t334 true) else (if t359 = bt361.1 then (if t360 = true then ((laws_vPair.f t356 t357 t359 t358).bind fun t363 => (laws_FnClassesOfPairs.j5 kj53 t323 t324 t325 t326 t331 t334 (!t363))) else (laws_FnClassesOfPairs.j5 kj53 t323 t324 t325 t326 t331 t334 false)) else (laws_FnClassesOfPairs.j5 kj53 t323 t324 t325 t326 t331 t334 true)))) = some r := H
                   have A62 := Aside0.mk A620
                   clear A620
                   replace H := Option.bind_eq_some_iff.mp H
                   obtain ⟨⟨t361, t362⟩, A630, H⟩ := H
                   replace H : (if (t360 != t362) = true then (laws_FnClassesOfPairs.j5 kj53 t323 t324 t325 t326 t331 t334 true) else (if t359 = t361 then (if t360 = true then ((laws_vPair.f t356 t357 t359 t358).bind fun t363 => (laws_FnClassesOfPairs.j5 kj53 t323 t324 t325 t326 t331 t334 (!t363))) else (laws_FnClassesOfPairs.j5 kj53 t323 t324 t325 t326 t331 t334 false)) else (laws_FnClassesOfPairs.j5 kj53 t323 t324 t325 t326 t331 t334 true))) = some r := H
                   have A63 := Aside0.mk A630
                   clear A630
                   have HC64 := Aside0.mk H
                   clear H
                   go_upto_region 25 with (first | ((with_reducible refine gate_callee (f := 15) rfl ?_); refine goesL_ (some 142) rfl rfl Try.func15 (by kernel_rfl) rfl #[.slice A1 l1.length c1] rfl (by (try simp only [List.map_toArray, List.map_cons, List.map_nil]); first | done | rfl | (simp only [List.length_drop, List.length_take]; rfl)) ?_; (with_reducible refine (spec_DrawKOfPair.calls kj53 _ _ l1 t356 t357 t358 _ ?side1 ?side2 A61.out).mono ?_); (case side1 => repeat (first | exact (Kd.C_below HR1.out HB.out) | (with_reducible refine Kd.C_alloc ?_ _) | (with_reducible refine Kd.C_drewN ?_ _) | (with_reducible refine Kd.C_drew ?_))); (case side2 => exact HC1.out); rintro e w65 ⟨rfl, hb⟩; refine ⟨_, rfl, ?_⟩; have n0_ := Aside0.mk (Kd.S_below (by (with_reducible repeat (first | apply Kd.S_alloc | apply Kd.S_drewN | apply Kd.S_drew)); exact HO_8.out) hb); have n1_ := Aside0.mk (Kd.S_below (by (with_reducible repeat (first | apply Kd.S_alloc | apply Kd.S_drewN | apply Kd.S_drew)); exact HO_12.out) hb); have n2_ := Aside0.mk (below_step (by repeat (first | (with_reducible first | exact HB.out | apply below_alloc | apply pw_below_drewN | apply below_drew1) | exact HB.out | exact Below.refl _ _)) hb); clear HO_8; clear HO_12; clear HB; have HO_8 := n0_; have HO_12 := n1_; have HB := n2_; clear n0_ n1_ n2_; (try clear hb); (try clear hb2); (try clear hk); (try clear hi)) | ((with_reducible refine gate_callee (f := 16) rfl ?_); refine goesL_ (some 150) rfl rfl Try.func16 (by kernel_rfl) rfl #[.int .i64 t356, .int .i64 t357, .int .i64 t358] rfl (by (try simp only [List.map_toArray, List.map_cons, List.map_nil]); first | done | rfl | (simp only [List.length_drop, List.length_take]; rfl)) ?_; (with_reducible refine (impl_KOfPair.calls t356 t357 t358 t359 t360 _ A62.out).mono ?_); rintro e w' ⟨rfl, ⟨nd, rfl⟩⟩; refine ⟨_, rfl, ?_⟩) | ((with_reducible refine gate_callee (f := 17) rfl ?_); refine goesL_ (some 157) rfl rfl Try.func17 (by kernel_rfl) rfl #[.int .i64 t356, .int .i64 t357, .int .i64 t358] rfl (by (try simp only [List.map_toArray, List.map_cons, List.map_nil]); first | done | rfl | (simp only [List.length_drop, List.length_take]; rfl)) ?_; (with_reducible refine (spec_KOfPair.calls kj53 t356 t357 t358 t361 t362 _ A63.out).mono ?_); rintro e w' ⟨rfl, ⟨nd, rfl⟩⟩; refine ⟨_, rfl, ?_⟩))
                   (try simp only [Act.put, List.setIfInBounds_toArray, List.set_cons_zero, List.set_cons_succ])
                   go_cut [178] (fun v178 wc => ∃ (kq : Nat) (x178_63 : Bool), v178 = .bool x178_63 ∧ Aside0 (laws_FnClassesOfPairs.j5 kq t323 t324 t325 t326 t331 t334 x178_63 = some r) ∧ Aside0 (kq ≤ kj53) ∧ Aside0 (Kd.S (Kd.slice 3 (Kd.int .i64)) 32 wc w.heap.size (fun k_ => some k_ ≠ (v336 : Value).ownBlock) v328 t326) ∧ Aside0 (Kd.S (Kd.slice 3 (Kd.int .i64)) 32 wc w.heap.size (fun k_ => some k_ ≠ (v328 : Value).ownBlock) v336 t334) ∧ Aside0 (Below w.heap.size w wc))
                   case first =>
                    as_aux_lemma =>
                     have H := HC64.out
                     clear HC64
                     by_cases c66 : (t360 != t362) = true
                     ·
                      rw [if_pos c66] at H
                      exact absurd (H.trans (congrArg some hrT)) (fun h_ => laws_FnClassesOfPairs.j5_no h_)
                     ·
                      rw [if_neg c66] at H
                      have c66b0 : (t360 != t362) = false := by simpa using c66
                      (try (have c66b1 : decide (t360 = t362) = true := by simpa using c66))
                      (try (have c66b2 : (t360 == t362) = true := by simpa using c66))
                      clear c66
                      (first | rw [c66b0] | (simp only [i64_w, i32_w]; rw [c66b0]) | skip)
                      by_cases c67 : t359 = t361
                      ·
                       rw [if_pos c67] at H
                       have c67b0 : (t359 == t361) = true := beq_iff_eq.mpr c67
                       have c67b1 : (t359 != t361) = false := bne_eq_false_iff_eq.mpr c67
                       clear c67
                       by_cases c68 : t360 = true
                       ·
                        subst c68
                        have H1 : ((laws_vPair.f t356 t357 t359 t358).bind fun t363 => (laws_FnClassesOfPairs.j5 kj53 t323 t324 t325 t326 t331 t334 (!t363))) = some r := by rw [if_pos rfl] at H; exact H
                        clear H
                        have H := H1
                        clear H1
                        replace H := Option.bind_eq_some_iff.mp H
                        obtain ⟨t363, A690, H⟩ := H
                        replace H : (laws_FnClassesOfPairs.j5 kj53 t323 t324 t325 t326 t331 t334 (!t363)) = some r := H
                        have A69 := Aside0.mk A690
                        clear A690
                        have H' := Aside0.mk H
                        clear H
                        go_wp2_with (first | (go_at_call 18; (with_reducible refine (laws_vPair.calls t356 t357 t359 t358 t363 _ A69.out).mono ?_); rintro e w' ⟨rfl, ⟨nd, rfl⟩⟩))
                        go_meet
                        case rel => exact ⟨_, (!t363), (by first | rfl | (simp; done) | (simp [*]; done)), H', ⟨by have := HJ9.out; have := HJ42.out; have := HJ51.out; have := HJ53.out; first | omega | exact Nat.le_refl _⟩, ⟨by (with_reducible repeat (first | apply Kd.S_alloc | apply Kd.S_drewN | apply Kd.S_drew)); exact HO_8.out⟩, ⟨by (with_reducible repeat (first | apply Kd.S_alloc | apply Kd.S_drewN | apply Kd.S_drew)); exact HO_12.out⟩, ⟨by repeat (first | (with_reducible first | exact HB.out | apply below_alloc | apply pw_below_drewN | apply below_drew1) | exact HB.out | exact Below.refl _ _)⟩⟩
                       ·
                        replace c68 := Bool.eq_false_iff.mpr c68
                        subst c68
                        have H1 : (laws_FnClassesOfPairs.j5 kj53 t323 t324 t325 t326 t331 t334 false) = some r := by rw [if_neg (show ¬ (false = true) by decide)] at H; exact H
                        clear H
                        have H := H1
                        clear H1
                        have H' := Aside0.mk H
                        clear H
                        go_wp2
                        go_meet
                        case rel => exact ⟨_, (false), (by first | rfl | (simp; done) | (simp [*]; done)), H', ⟨by have := HJ9.out; have := HJ42.out; have := HJ51.out; have := HJ53.out; first | omega | exact Nat.le_refl _⟩, ⟨by (with_reducible repeat (first | apply Kd.S_alloc | apply Kd.S_drewN | apply Kd.S_drew)); exact HO_8.out⟩, ⟨by (with_reducible repeat (first | apply Kd.S_alloc | apply Kd.S_drewN | apply Kd.S_drew)); exact HO_12.out⟩, ⟨by repeat (first | (with_reducible first | exact HB.out | apply below_alloc | apply pw_below_drewN | apply below_drew1) | exact HB.out | exact Below.refl _ _)⟩⟩
                      ·
                       rw [if_neg c67] at H
                       exact absurd (H.trans (congrArg some hrT)) (fun h_ => laws_FnClassesOfPairs.j5_no h_)
                   case rest =>
                    as_aux_lemma =>
                     clear HC64; (try clear c1); (try clear c2); (try clear p2); (try clear c3); (try clear p3); (try clear q3); (try clear hx3); (try clear c4); (try clear c5); (try clear c6); (try clear p6); (try clear c7); (try clear c8); (try clear c9); (try clear c11); (try clear c12); (try clear c13); (try clear c15); (try clear c16); (try clear c16b0); (try clear c16b1); (try clear c16b2); (try clear c17); (try clear c18); (try clear c19); (try clear c19b0); (try clear c19b1); (try clear c19b2); (try clear c23); (try clear c24); (try clear p35); (try clear q35); (try clear hx35); (try clear c39); (try clear c47); (try clear c47b0); (try clear c47b1); (try clear c47b2); (try clear c51); (try clear c53); (try clear c55); (try clear c57); (try clear c57b0); (try clear c58); (try clear c58b0); (try clear c59); (try clear c59b0); (try clear c60); (try clear c60b0); (try clear c60b1); (try clear p64); (try clear c66); (try clear c66b0); (try clear c66b1); (try clear c66b2); (try clear c67); (try clear c67b0); (try clear c67b1); (try clear c68); (try clear hx355_0); (try clear p2); (try clear p3); (try clear p35); (try clear p355); (try clear p6); (try clear q3); (try clear q35); (try clear q355)
                     obtain ⟨kq, x178_63, rfl, HA, HJ63, HO_8, HO_12, HB⟩ := hcut
                     cases kq with
                     | zero => exact absurd HA.out (by simp [laws_FnClassesOfPairs.j5])
                     | succ kj63 =>
                      have H := HA.out
                      clear HA
                      simp only [laws_FnClassesOfPairs.j5] at H
                      by_cases c70 : x178_63 = true
                      ·
                       subst c70
                       have H1 : (some false) = some r := by rw [if_pos rfl] at H; exact H
                       exact absurd (H1.trans (congrArg some hrT)) (by simp)
                      ·
                       as_aux_lemma =>
                        replace c70 := Bool.eq_false_iff.mpr c70
                        subst c70
                        have H1 : (if t331 = true then (laws_FnClassesOfPairs.l1 kj63 t323 t324 t325 t326 t334 t326 (t326.length : Int) 0) else (some true)) = some r := by rw [if_neg (show ¬ (false = true) by decide)] at H; exact H
                        clear H
                        have H := H1
                        clear H1
                        by_cases c71 : t331 = true
                        ·
                         as_aux_lemma =>
                          subst c71
                          have H1 : (laws_FnClassesOfPairs.l1 kj63 t323 t324 t325 t326 t334 t326 (t326.length : Int) 0) = some r := by rw [if_pos rfl] at H; exact H
                          clear H
                          have H := H1
                          clear H1
                          have H' := Aside0.mk H
                          clear H
                          obtain ⟨Ao72, co72, eo72⟩ := Kd.S_slice HO_8.out
                          subst eo72
                          go_wp2
                          go_loopg [183] kj63 (fun kq v183 w' => ∃ (x183_6 : Int), v183 = .int .i64 x183_6 ∧ Aside0 (laws_FnClassesOfPairs.l1 kq t323 t324 t325 t326 t334 t326 (t326.length : Int) x183_6 = some r) ∧ Aside0 (kq ≤ kj63) ∧ Aside0 (Kd.S (Kd.slice 3 (Kd.int .i64)) 32 w' w.heap.size (fun k_ => some k_ ≠ (v336 : Value).ownBlock) (.slice Ao72 t326.length co72) t326) ∧ Aside0 (Kd.S (Kd.slice 3 (Kd.int .i64)) 32 w' w.heap.size (fun k_ => some k_ ≠ ((.slice Ao72 t326.length co72) : Value).ownBlock ∧ some k_ ≠ ((.slice Ao72 t326.length co72) : Value).ownBlock) v336 t334) ∧ Aside0 (Kd.S (Kd.slice 3 (Kd.int .i64)) 32 w' w.heap.size (fun k_ => some k_ ≠ (v336 : Value).ownBlock) (.slice Ao72 t326.length co72) t326) ∧ Aside0 (Below w.heap.size w w'))
                          case atStart => exact ⟨(0), (by first | rfl | (simp; done) | (simp [*]; done)), H', ⟨Nat.le_refl _⟩, ⟨by (with_reducible repeat (first | apply Kd.S_alloc | apply Kd.S_drewN | apply Kd.S_drew)); exact HO_8.out⟩, ⟨by (with_reducible repeat (first | apply Kd.S_alloc | apply Kd.S_drewN | apply Kd.S_drew)); exact Kd.S_mono HO_12.out (fun _ hk => ⟨hk, hk⟩)⟩, ⟨by (with_reducible repeat (first | apply Kd.S_alloc | apply Kd.S_drewN | apply Kd.S_drew)); exact HO_8.out⟩, ⟨by repeat (first | (with_reducible first | exact HB.out | apply below_alloc | apply pw_below_drewN | apply below_drew1) | exact HB.out | exact Below.refl _ _)⟩⟩
                          case round =>
                           as_aux_lemma =>
                            clear H'; (try clear c1); (try clear c2); (try clear p2); (try clear c3); (try clear p3); (try clear q3); (try clear hx3); (try clear c4); (try clear c5); (try clear c6); (try clear p6); (try clear c7); (try clear c8); (try clear c9); (try clear c11); (try clear c12); (try clear c13); (try clear c15); (try clear c16); (try clear c16b0); (try clear c16b1); (try clear c16b2); (try clear c17); (try clear c18); (try clear c19); (try clear c19b0); (try clear c19b1); (try clear c19b2); (try clear c23); (try clear c24); (try clear p35); (try clear q35); (try clear hx35); (try clear c39); (try clear c47); (try clear c47b0); (try clear c47b1); (try clear c47b2); (try clear c51); (try clear c53); (try clear c55); (try clear c57); (try clear c57b0); (try clear c58); (try clear c58b0); (try clear c59); (try clear c59b0); (try clear c60); (try clear c60b0); (try clear c60b1); (try clear p64); (try clear c66); (try clear c66b0); (try clear c66b1); (try clear c66b2); (try clear c67); (try clear c67b0); (try clear c67b1); (try clear c68); (try clear c70); (try clear c71); (try clear hx355_0); (try clear p2); (try clear p3); (try clear p35); (try clear p355); (try clear p6); (try clear p64); (try clear q3); (try clear q35); (try clear q355)
                            obtain ⟨x183_6, rfl, HA, HK6, HO_8, HO_12, HO_181, HB⟩ := hrel
                            cases gk with
                            | zero => exact absurd HA.out (by simp [laws_FnClassesOfPairs.l1])
                            | succ k6 =>
                             have H := HA.out
                             clear HA
                             simp only [laws_FnClassesOfPairs.l1] at H
                             by_cases c73 : x183_6 < (t326.length : Int)
                             ·
                              as_aux_lemma =>
                               rw [if_pos c73] at H
                               have c73b0 : decide (x183_6 < (t326.length : Int)) = true := decide_eq_true c73
                               clear c73
                               by_cases c74 : 0 ≤ x183_6
                               ·
                                as_aux_lemma =>
                                 rw [if_pos c74] at H
                                 have c74b0 : decide (0 ≤ x183_6) = true := decide_eq_true c74
                                 clear c74
                                 by_cases c75 : x183_6 < (t326.length : Int)
                                 ·
                                  as_aux_lemma =>
                                   rw [if_pos c75] at H
                                   have c75b0 : decide (x183_6 < (t326.length : Int)) = true := decide_eq_true c75
                                   clear c75
                                   by_cases c76 : 0 < ((rd_L2 t326 x183_6).length : Int)
                                   ·
                                    as_aux_lemma =>
                                     rw [if_pos c76] at H
                                     have c76b0 : decide (0 < ((rd_L2 t326 x183_6).length : Int)) = true := decide_eq_true c76
                                     have c76b1 : decide (0 < (rd_L2 t326 x183_6).length) = true := decide_eq_true (by omega)
                                     clear c76
                                     by_cases c77 : 1 < ((rd_L2 t326 x183_6).length : Int)
                                     ·
                                      as_aux_lemma =>
                                       rw [if_pos c77] at H
                                       have c77b0 : decide (1 < ((rd_L2 t326 x183_6).length : Int)) = true := decide_eq_true c77
                                       have c77b1 : decide (1 < (rd_L2 t326 x183_6).length) = true := decide_eq_true (by omega)
                                       clear c77
                                       replace H := Option.bind_eq_some_iff.mp H
                                       obtain ⟨⟨t367, t368, t369⟩, A780, H⟩ := H
                                       replace H : (if t369 = true then ((laws_vHas.f k6 t334 (([t367, t368] : List Int))).bind fun t373 => (if t373 = true then ((laws_vPair.f (rd (rd_L2 t326 x183_6) 0) (rd (rd_L2 t326 x183_6) 1) t323 t324).bind fun t376 => (if t376 = true then (if (rd (rd_L2 t326 x183_6) 0) > t325 then (some false) else (if x183_6 > 0 then (if 0 ≤ (wrap64 (x183_6 - 1)) then (if (wrap64 (x183_6 - 1)) < (t326.length : Int) then ((laws_vBefore.f k6 (rd_L2 t326 (wrap64 (x183_6 - 1))) (rd_L2 t326 x183_6)).bind fun t379 => (if t379 = true then (laws_FnClassesOfPairs.l1 k6 t323 t324 t325 t326 t334 t326 (t326.length : Int) (wrap64 (x183_6 + 1))) else (some false))) else (none)) else (none)) else (laws_FnClassesOfPairs.l1 k6 t323 t324 t325 t326 t334 t326 (t326.length : Int) (wrap64 (x183_6 + 1))))) else (some false))) else (some false))) else (some false)) = some r := H
                                       have A78 := Aside0.mk A780
                                       clear A780
                                       by_cases c79 : t369 = true
                                       ·
                                        as_aux_lemma =>
                                         subst c79
                                         have H1 : ((laws_vHas.f k6 t334 (([t367, t368] : List Int))).bind fun t373 => (if t373 = true then ((laws_vPair.f (rd (rd_L2 t326 x183_6) 0) (rd (rd_L2 t326 x183_6) 1) t323 t324).bind fun t376 => (if t376 = true then (if (rd (rd_L2 t326 x183_6) 0) > t325 then (some false) else (if x183_6 > 0 then (if 0 ≤ (wrap64 (x183_6 - 1)) then (if (wrap64 (x183_6 - 1)) < (t326.length : Int) then ((laws_vBefore.f k6 (rd_L2 t326 (wrap64 (x183_6 - 1))) (rd_L2 t326 x183_6)).bind fun t379 => (if t379 = true then (laws_FnClassesOfPairs.l1 k6 t323 t324 t325 t326 t334 t326 (t326.length : Int) (wrap64 (x183_6 + 1))) else (some false))) else (none)) else (none)) else (laws_FnClassesOfPairs.l1 k6 t323 t324 t325 t326 t334 t326 (t326.length : Int) (wrap64 (x183_6 + 1))))) else (some false))) else (some false))) = some r := by rw [if_pos rfl] at H; exact H
                                         clear H
                                         have H := H1
                                         clear H1
                                         obtain ⟨y370, hy370⟩ : ∃ y_ : List Int, y_ = (([t367, t368] : List Int)) := ⟨_, rfl⟩
                                         replace H : ((laws_vHas.f k6 t334 y370).bind fun t373 => (if t373 = true then ((laws_vPair.f (rd (rd_L2 t326 x183_6) 0) (rd (rd_L2 t326 x183_6) 1) t323 t324).bind fun t376 => (if t376 = true then (if (rd (rd_L2 t326 x183_6) 0) > t325 then (some false) else (if x183_6 > 0 then (if 0 ≤ (wrap64 (x183_6 - 1)) then (if (wrap64 (x183_6 - 1)) < (t326.length : Int) then ((laws_vBefore.f k6 (rd_L2 t326 (wrap64 (x183_6 - 1))) (rd_L2 t326 x183_6)).bind fun t379 => (if t379 = true then (laws_FnClassesOfPairs.l1 k6 t323 t324 t325 t326 t334 t326 (t326.length : Int) (wrap64 (x183_6 + 1))) else (some false))) else (none)) else (none)) else (laws_FnClassesOfPairs.l1 k6 t323 t324 t325 t326 t334 t326 (t326.length : Int) (wrap64 (x183_6 + 1))))) else (some false))) else (some false))) = some r := by first | (rw [hy370]; with_reducible exact H) | (have H2_ := (Option.bind_some _ _).symm.trans H; rw [hy370]; with_reducible exact H2_) | (have H2_ := (Option.bind_some _ _).symm.trans H; with_reducible exact H2_) | with_reducible exact H | (rw [hy370]; exact H) | exact H
                                         have Ny370 := Aside0.mk hy370
                                         clear hy370
                                         replace H := Option.bind_eq_some_iff.mp H
                                         obtain ⟨t373, A800, H⟩ := H
                                         replace H : (if t373 = true then ((laws_vPair.f (rd (rd_L2 t326 x183_6) 0) (rd (rd_L2 t326 x183_6) 1) t323 t324).bind fun t376 => (if t376 = true then (if (rd (rd_L2 t326 x183_6) 0) > t325 then (some false) else (if x183_6 > 0 then (if 0 ≤ (wrap64 (x183_6 - 1)) then (if (wrap64 (x183_6 - 1)) < (t326.length : Int) then ((laws_vBefore.f k6 (rd_L2 t326 (wrap64 (x183_6 - 1))) (rd_L2 t326 x183_6)).bind fun t379 => (if t379 = true then (laws_FnClassesOfPairs.l1 k6 t323 t324 t325 t326 t334 t326 (t326.length : Int) (wrap64 (x183_6 + 1))) else (some false))) else (none)) else (none)) else (laws_FnClassesOfPairs.l1 k6 t323 t324 t325 t326 t334 t326 (t326.length : Int) (wrap64 (x183_6 + 1))))) else (some false))) else (some false)) = some r := H
                                         have A80 := Aside0.mk A800
                                         clear A800
                                         by_cases c81 : t373 = true
                                         ·
                                          as_aux_lemma =>
                                           subst c81
                                           have H1 : ((laws_vPair.f (rd (rd_L2 t326 x183_6) 0) (rd (rd_L2 t326 x183_6) 1) t323 t324).bind fun t376 => (if t376 = true then (if (rd (rd_L2 t326 x183_6) 0) > t325 then (some false) else (if x183_6 > 0 then (if 0 ≤ (wrap64 (x183_6 - 1)) then (if (wrap64 (x183_6 - 1)) < (t326.length : Int) then ((laws_vBefore.f k6 (rd_L2 t326 (wrap64 (x183_6 - 1))) (rd_L2 t326 x183_6)).bind fun t379 => (if t379 = true then (laws_FnClassesOfPairs.l1 k6 t323 t324 t325 t326 t334 t326 (t326.length : Int) (wrap64 (x183_6 + 1))) else (some false))) else (none)) else (none)) else (laws_FnClassesOfPairs.l1 k6 t323 t324 t325 t326 t334 t326 (t326.length : Int) (wrap64 (x183_6 + 1))))) else (some false))) = some r := by rw [if_pos rfl] at H; exact H
                                           clear H
                                           have H := H1
                                           clear H1
                                           replace H := Option.bind_eq_some_iff.mp H
                                           obtain ⟨t376, A820, H⟩ := H
                                           replace H : (if t376 = true then (if (rd (rd_L2 t326 x183_6) 0) > t325 then (some false) else (if x183_6 > 0 then (if 0 ≤ (wrap64 (x183_6 - 1)) then (if (wrap64 (x183_6 - 1)) < (t326.length : Int) then ((laws_vBefore.f k6 (rd_L2 t326 (wrap64 (x183_6 - 1))) (rd_L2 t326 x183_6)).bind fun t379 => (if t379 = true then (laws_FnClassesOfPairs.l1 k6 t323 t324 t325 t326 t334 t326 (t326.length : Int) (wrap64 (x183_6 + 1))) else (some false))) else (none)) else (none)) else (laws_FnClassesOfPairs.l1 k6 t323 t324 t325 t326 t334 t326 (t326.length : Int) (wrap64 (x183_6 + 1))))) else (some false)) = some r := H
                                           have A82 := Aside0.mk A820
                                           clear A820
                                           by_cases c83 : t376 = true
                                           ·
                                            as_aux_lemma =>
                                             subst c83
                                             have H1 : (if (rd (rd_L2 t326 x183_6) 0) > t325 then (some false) else (if x183_6 > 0 then (if 0 ≤ (wrap64 (x183_6 - 1)) then (if (wrap64 (x183_6 - 1)) < (t326.length : Int) then ((laws_vBefore.f k6 (rd_L2 t326 (wrap64 (x183_6 - 1))) (rd_L2 t326 x183_6)).bind fun t379 => (if t379 = true then (laws_FnClassesOfPairs.l1 k6 t323 t324 t325 t326 t334 t326 (t326.length : Int) (wrap64 (x183_6 + 1))) else (some false))) else (none)) else (none)) else (laws_FnClassesOfPairs.l1 k6 t323 t324 t325 t326 t334 t326 (t326.length : Int) (wrap64 (x183_6 + 1))))) = some r := by rw [if_pos rfl] at H; exact H
                                             clear H
                                             have H := H1
                                             clear H1
                                             by_cases c84 : (rd (rd_L2 t326 x183_6) 0) > t325
                                             ·
                                              rw [if_pos c84] at H
                                              exact absurd (H.trans (congrArg some hrT)) (by simp)
                                             ·
                                              as_aux_lemma =>
                                               rw [if_neg c84] at H
                                               have c84b0 : decide (t325 < (rd (rd_L2 t326 x183_6) 0)) = false := decide_eq_false c84
                                               clear c84
                                               by_cases c92 : x183_6 > 0
                                               ·
                                                as_aux_lemma =>
                                                 rw [if_pos c92] at H
                                                 have c92b0 : decide (0 < x183_6) = true := decide_eq_true c92
                                                 clear c92
                                                 obtain ⟨ji93, hji93⟩ : ∃ j_ : Int, (wrap64 (x183_6 - 1)) = j_ := ⟨_, rfl⟩
                                                 replace H : (if 0 ≤ (ji93) then (if (ji93) < (t326.length : Int) then ((laws_vBefore.f k6 (rd_L2 t326 (ji93)) (rd_L2 t326 x183_6)).bind fun t379 => (if t379 = true then (laws_FnClassesOfPairs.l1 k6 t323 t324 t325 t326 t334 t326 (t326.length : Int) (wrap64 (x183_6 + 1))) else (some false))) else (none)) else (none)) = some r := by first | (rw [hji93] at H; exact H) | (simp only [hji93] at H ⊢; exact H)
                                                 (try rw [hji93] at A78)
                                                 (try rw [hji93] at A80)
                                                 (try rw [hji93] at A82)
                                                 have hji93w : (IntKind.i64.wrap (x183_6 - 1)) = ji93 := (i64_w _).trans hji93
                                                 by_cases c94 : 0 ≤ (ji93)
                                                 ·
                                                  as_aux_lemma =>
                                                   rw [if_pos c94] at H
                                                   have c94b0 : decide (0 ≤ (ji93)) = true := decide_eq_true c94
                                                   clear c94
                                                   by_cases c95 : (ji93) < (t326.length : Int)
                                                   ·
                                                    as_aux_lemma =>
                                                     rw [if_pos c95] at H
                                                     have c95b0 : decide ((ji93) < (t326.length : Int)) = true := decide_eq_true c95
                                                     clear c95
                                                     replace H := Option.bind_eq_some_iff.mp H
                                                     obtain ⟨t379, A960, H⟩ := H
                                                     replace H : (if t379 = true then (laws_FnClassesOfPairs.l1 k6 t323 t324 t325 t326 t334 t326 (t326.length : Int) (wrap64 (x183_6 + 1))) else (some false)) = some r := H
                                                     have A96 := Aside0.mk A960
                                                     clear A960
                                                     by_cases c97 : t379 = true
                                                     ·
                                                      as_aux_lemma =>
                                                       subst c97
                                                       have H1 : (laws_FnClassesOfPairs.l1 k6 t323 t324 t325 t326 t334 t326 (t326.length : Int) (wrap64 (x183_6 + 1))) = some r := by rw [if_pos rfl] at H; exact H
                                                       clear H
                                                       have H := H1
                                                       clear H1
                                                       have H' := Aside0.mk H
                                                       clear H
                                                       have p364 : 0 ≤ (x183_6 : Int) := of_decide_eq_true (by first | (with_reducible assumption) | assumption)
                                                       have q364 : x183_6 < (t326.length : Int) := of_decide_eq_true (by first | (with_reducible assumption) | assumption)
                                                       obtain ⟨ad364, A364_0, c364_0, e364, hx364_0, hl364_0, hi364_0⟩ := at_L2 (Kd.S_reads' HO_181.out).2.2 x183_6 p364 q364
                                                       cases e364
                                                       obtain ⟨ce364, hce364, hMe364, hcc364⟩ := Kd.S_get HO_181.out [] x183_6 p364 (by first | exact q364 | exact of_decide_eq_true (by first | (with_reducible assumption) | assumption) | (have e_ := (Kd.S_reads' HO_181.out).1; omega))
                                                       obtain ⟨ve364_0, rfl, ge364_0⟩ := hMe364
                                                       have hv364_0 := hcc364 0 _ rfl
                                                       rw [Nat.add_zero, show ((Kd.slice 3 (Kd.int .i64))).sz = 1 from rfl, Nat.mul_one] at hv364_0
                                                       replace hv364_0 := Option.some.inj (hv364_0.symm.trans hx364_0)
                                                       rw [hv364_0] at ge364_0
                                                       have HL364_0 := Aside0.mk (show Kd.R (Kd.int .i64) 3 _ _ _ _ (rd_L2 t326 x183_6) from ge364_0)
                                                       clear hv364_0 ge364_0
                                                       clear hcc364 hce364
                                                       have HR364_0 := Aside0.mk hi364_0
                                                       have HC364_0 := Aside0.mk hl364_0
                                                       clear hi364_0 hl364_0
                                                       replace p364 := eq_true p364
                                                       replace q364 := eq_true q364
                                                       try go_wp2
                                                       have n0_ := Aside0.mk (Kd.S_drew HO_8.out)
                                                       have n1_ := Aside0.mk (Kd.S_drew HO_12.out)
                                                       have n2_ := Aside0.mk (Kd.S_drew HO_181.out)
                                                       have n3_ := Aside0.mk (Kd.R_drew HL364_0.out)
                                                       have n4_ := Aside0.mk (Kd.C_drew HR364_0.out)
                                                       have n5_ := Aside0.mk (below_drew1 HB.out)
                                                       clear HO_8; clear HO_12; clear HO_181; clear HL364_0; clear HR364_0; clear HB
                                                       have HO_8 := n0_
                                                       have HO_12 := n1_
                                                       have HO_181 := n2_
                                                       have HL364_0 := n3_
                                                       have HR364_0 := n4_
                                                       have HB := n5_
                                                       clear n0_ n1_ n2_ n3_ n4_ n5_
                                                       have p365 : 0 ≤ (0 : Int) := (by omega)
                                                       have q365 : 0 < ((rd_L2 t326 x183_6).length : Int) := of_decide_eq_true (by first | (with_reducible assumption) | assumption)
                                                       obtain ⟨ad365, e365, hx365_0⟩ := Kd.at_int (by repeat (first | (with_reducible exact HR364_0.out) | (with_reducible refine Kd.C_alloc ?_ _) | (with_reducible refine Kd.C_drewN ?_ _) | (with_reducible refine Kd.C_drew ?_) | exact HR364_0.out)) 0 p365 q365
                                                       cases e365
                                                       have qi365 : (0 < (rd_L2 t326 x183_6).length) = True := eq_true (by omega)
                                                       (try rw [show ((0 : Int)).toNat = 0 from rfl] at hx365_0)
                                                       (try rw [Addr.add_zero'] at hx365_0)
                                                       replace p365 := eq_true p365
                                                       replace q365 := eq_true q365
                                                       have p366 : 0 ≤ (1 : Int) := (by omega)
                                                       have q366 : 1 < ((rd_L2 t326 x183_6).length : Int) := of_decide_eq_true (by first | (with_reducible assumption) | assumption)
                                                       obtain ⟨ad366, e366, hx366_0⟩ := Kd.at_int (by repeat (first | (with_reducible exact HR364_0.out) | (with_reducible refine Kd.C_alloc ?_ _) | (with_reducible refine Kd.C_drewN ?_ _) | (with_reducible refine Kd.C_drew ?_) | exact HR364_0.out)) 1 p366 q366
                                                       obtain rfl : ad365 = ad366 := (by injection e366)
                                                       (try simp only [show (1 : Int).toNat = 1 from rfl, Nat.reduceMul, Nat.reduceEqDiff, Go.Addr.add, ↓reduceIte] at hx366_0)
                                                       have qi366 : (1 < (rd_L2 t326 x183_6).length) = True := eq_true (by omega)
                                                       (try rw [show ((1 : Int)).toNat = 1 from rfl] at hx366_0)
                                                       replace p366 := eq_true p366
                                                       replace q366 := eq_true q366
                                                       refine start_ (n := 16) (S := fun w' => w'.cell? ad365 = some (.int .i64 (rd (rd_L2 t326 x183_6) 0)) ∧ w'.cell? ⟨ad365.block, ad365.off + 1, none⟩ = some (.int .i64 (rd (rd_L2 t326 x183_6) 1))) (ds := []) #[false, false, false, false, false, false, false, false, false, false, false, false, false, false, false, false] (by kernel_rfl) rfl rfl ⟨hx365_0, hx366_0⟩ (fun hHeld => ?_); refine with_tabW laws_FnClassesOfPairs.tab32 laws_FnClassesOfPairs.bits32 (fun HT_ HW_ => ?_)
                                                       generalize wr.drew = w98 at HO_8 HO_12 HO_181 HL364_0 HR364_0 HB hx365_0 hx366_0 hHeld ⊢
                                                       refine pure_ (i := 0) (N := some 189) (v := ?_) (a' := ?_) #[true, false, false, false, false, false, false, false, false, false, false, false, false, false, false, false] rfl rfl (any_of HT_.out (by kernel_rfl)) (fun _ _ _ h => h) (Or.inl ⟨by rfl, ?_⟩) ?_ ?_
                                                       rotate_left
                                                       ·
                                                        intro w'
                                                        go_simp
                                                        with_reducible rfl
                                                       rotate_left
                                                       ·
                                                        simp only [Act.put, List.setIfInBounds_toArray, List.set_cons_zero, List.set_cons_succ, i64_w, i32_w]
                                                        rfl
                                                       refine pure_ (i := 1) (N := some 190) (v := ?_) (a' := ?_) #[true, true, false, false, false, false, false, false, false, false, false, false, false, false, false, false] rfl rfl (any_of HT_.out (by kernel_rfl)) (fun _ _ _ h => h) (Or.inl ⟨by rfl, ?_⟩) ?_ ?_
                                                       rotate_left
                                                       ·
                                                        intro w'
                                                        go_simp
                                                        with_reducible rfl
                                                       rotate_left
                                                       ·
                                                        simp only [Act.put, List.setIfInBounds_toArray, List.set_cons_zero, List.set_cons_succ, i64_w, i32_w]
                                                        rfl
                                                       refine pure_ (i := 3) (N := some 192) (v := ?_) (a' := ?_) #[true, true, false, true, false, false, false, false, false, false, false, false, false, false, false, false] rfl rfl (any_of HT_.out (by kernel_rfl)) (fun _ _ _ h => h) (Or.inl ⟨by rfl, ?_⟩) ?_ ?_
                                                       rotate_left
                                                       ·
                                                        intro w'
                                                        go_simp
                                                        with_reducible rfl
                                                       rotate_left
                                                       ·
                                                        simp only [Act.put, List.setIfInBounds_toArray, List.set_cons_zero, List.set_cons_succ, i64_w, i32_w]
                                                        rfl
                                                       refine pure_ (i := 4) (N := some 193) (v := ?_) (a' := ?_) #[true, true, false, true, true, false, false, false, false, false, false, false, false, false, false, false] rfl rfl (any_of HT_.out (by kernel_rfl)) (fun _ _ _ h => h) (Or.inl ⟨by rfl, ?_⟩) ?_ ?_
                                                       rotate_left
                                                       ·
                                                        intro w'
                                                        go_simp
                                                        with_reducible rfl
                                                       rotate_left
                                                       ·
                                                        simp only [Act.put, List.setIfInBounds_toArray, List.set_cons_zero, List.set_cons_succ, i64_w, i32_w]
                                                        rfl
                                                       refine pure_ (i := 6) (N := some 195) (v := ?_) (a' := ?_) #[true, true, false, true, true, false, true, false, false, false, false, false, false, false, false, false] rfl rfl (any_of HT_.out (by kernel_rfl)) (fun _ _ _ h => h) (Or.inl ⟨by rfl, ?_⟩) ?_ ?_
                                                       rotate_left
                                                       ·
                                                        intro w'
                                                        go_simp
                                                        with_reducible rfl
                                                       rotate_left
                                                       ·
                                                        simp only [Act.put, List.setIfInBounds_toArray, List.set_cons_zero, List.set_cons_succ, i64_w, i32_w]
                                                        rfl
                                                       refine pure_ (i := 7) (N := some 196) (v := ?_) (a' := ?_) #[true, true, false, true, true, false, true, true, false, false, false, false, false, false, false, false] rfl rfl (any_of HT_.out (by kernel_rfl)) (fun _ _ _ h => h) (Or.inl ⟨by rfl, ?_⟩) ?_ ?_
                                                       rotate_left
                                                       ·
                                                        intro w'
                                                        go_simp
                                                        with_reducible rfl
                                                       rotate_left
                                                       ·
                                                        simp only [Act.put, List.setIfInBounds_toArray, List.set_cons_zero, List.set_cons_succ, i64_w, i32_w]
                                                        rfl
                                                       refine take_ (i := 2) (N := some 191) (v := ?_) (a' := ?_) #[true, true, true, true, true, false, true, true, false, false, false, false, false, false, false, false] rfl rfl (take_ofW HT_.out HW_.out (by kernel_rfl)) (fun _ _ _ h => h) (Or.inl ⟨by rfl, ?_⟩) hHeld ?_ ?_
                                                       rotate_left
                                                       ·
                                                        rintro w' ⟨s0, s1⟩
                                                        go_simp
                                                        with_reducible rfl
                                                       rotate_left
                                                       ·
                                                        simp only [Act.put, List.setIfInBounds_toArray, List.set_cons_zero, List.set_cons_succ, i64_w, i32_w]
                                                        rfl
                                                       refine take_ (i := 5) (N := some 194) (v := ?_) (a' := ?_) #[true, true, true, true, true, true, true, true, false, false, false, false, false, false, false, false] rfl rfl (take_ofW HT_.out HW_.out (by kernel_rfl)) (fun _ _ _ h => h) (Or.inl ⟨by rfl, ?_⟩) hHeld ?_ ?_
                                                       rotate_left
                                                       ·
                                                        rintro w' ⟨s0, s1⟩
                                                        go_simp
                                                        with_reducible rfl
                                                       rotate_left
                                                       ·
                                                        simp only [Act.put, List.setIfInBounds_toArray, List.set_cons_zero, List.set_cons_succ, i64_w, i32_w]
                                                        rfl
                                                       refine one_ (i := 8) (N := some 197) #[true, true, true, true, true, true, true, true, true, false, false, false, false, false, false, false] rfl rfl (one_of HT_.out (by kernel_rfl)) (by decide) (fun K hK => ?_)
                                                       refine goes_ Try.func19 (by kernel_rfl) rfl #[.int .i64 (rd (rd_L2 t326 x183_6) 0), .int .i64 (rd (rd_L2 t326 x183_6) 1), .int .i64 t323, .int .i64 t324] (by rfl) rfl rfl (by (try simp only [List.map_toArray, List.map_cons, List.map_nil]); first | done | rfl | (simp only [List.length_drop, List.length_take]; rfl)) ?_
                                                       with_reducible refine (impl_LeastPair.calls k6 (rd (rd_L2 t326 x183_6) 0) (rd (rd_L2 t326 x183_6) 1) t323 t324 t367 t368 true _ A78.out).mono ?_
                                                       rintro e w99 ⟨rfl, hb⟩
                                                       have HS0_ := (hb.cell (World.block_lt_of_cell? _ _ (hHeld.1))).trans (hHeld.1)
                                                       have HS1_ := (hb.cell (World.block_lt_of_cell? _ _ (hHeld.2))).trans (hHeld.2)
                                                       refine ⟨_, rfl, ?_⟩
                                                       have n0_ := Aside0.mk (Kd.S_below (by (with_reducible repeat (first | apply Kd.S_alloc | apply Kd.S_drewN | apply Kd.S_drew)); exact HO_8.out) hb)
                                                       have n1_ := Aside0.mk (Kd.S_below (by (with_reducible repeat (first | apply Kd.S_alloc | apply Kd.S_drewN | apply Kd.S_drew)); exact HO_12.out) hb)
                                                       have n2_ := Aside0.mk (Kd.S_below (by (with_reducible repeat (first | apply Kd.S_alloc | apply Kd.S_drewN | apply Kd.S_drew)); exact HO_181.out) hb)
                                                       have n3_ := Aside0.mk (Kd.R_below (by (with_reducible repeat (first | apply Kd.R_alloc | apply Kd.R_drewN | apply Kd.R_drew)); exact HL364_0.out) hb)
                                                       have n4_ := Aside0.mk ((by with_reducible first | exact Kd.C_below HR364_0.out hb | exact Kd.C_below (Kd.C_drewN HR364_0.out _) hb | exact Kd.C_below (Kd.C_alloc HR364_0.out _) hb | exact Kd.C_below (Kd.C_drewN (Kd.C_drewN HR364_0.out _) _) hb))
                                                       have n5_ := Aside0.mk (below_step (by repeat (first | (with_reducible first | exact HB.out | apply below_alloc | apply pw_below_drewN | apply below_drew1) | exact HB.out | exact Below.refl _ _)) hb)
                                                       clear HO_8; clear HO_12; clear HO_181; clear HL364_0; clear HR364_0; clear HB
                                                       have HO_8 := n0_
                                                       have HO_12 := n1_
                                                       have HO_181 := n2_
                                                       have HL364_0 := n3_
                                                       have HR364_0 := n4_
                                                       have HB := n5_
                                                       clear n0_ n1_ n2_ n3_ n4_ n5_
                                                       (try clear hb)
                                                       (try clear hb2)
                                                       (try clear hk)
                                                       (try clear hi)
                                                       refine hK.out _ _ ⟨HS0_, HS1_⟩ (fun hHeld => ?_)
                                                       clear hK K
                                                       refine norm_ (a' := ?_) ?_ ?_
                                                       rotate_left
                                                       ·
                                                        show Act.put _ (some 197) _ = _
                                                        simp only [Act.put, List.setIfInBounds_toArray, List.set_cons_zero, List.set_cons_succ, i64_w, i32_w]
                                                        rfl
                                                       refine pure_ (i := 9) (N := some 188) (v := ?_) (a' := ?_) #[true, true, true, true, true, true, true, true, true, true, false, false, false, false, false, false] rfl rfl (any_of HT_.out (by kernel_rfl)) (fun _ _ _ h => h) (Or.inl ⟨by rfl, ?_⟩) ?_ ?_
                                                       rotate_left
                                                       ·
                                                        intro w'
                                                        go_simp
                                                        with_reducible rfl
                                                       rotate_left
                                                       ·
                                                        simp only [Act.put, List.setIfInBounds_toArray, List.set_cons_zero, List.set_cons_succ, i64_w, i32_w]
                                                        rfl
                                                       refine pure_ (i := 10) (N := some 198) (v := ?_) (a' := ?_) #[true, true, true, true, true, true, true, true, true, true, true, false, false, false, false, false] rfl rfl (any_of HT_.out (by kernel_rfl)) (fun _ _ _ h => h) (Or.inl ⟨by rfl, ?_⟩) ?_ ?_
                                                       rotate_left
                                                       ·
                                                        intro w'
                                                        go_simp
                                                        with_reducible rfl
                                                       rotate_left
                                                       ·
                                                        simp only [Act.put, List.setIfInBounds_toArray, List.set_cons_zero, List.set_cons_succ, i64_w, i32_w]
                                                        rfl
                                                       refine pure_ (i := 11) (N := some 199) (v := ?_) (a' := ?_) #[true, true, true, true, true, true, true, true, true, true, true, true, false, false, false, false] rfl rfl (any_of HT_.out (by kernel_rfl)) (fun _ _ _ h => h) (Or.inl ⟨by rfl, ?_⟩) ?_ ?_
                                                       rotate_left
                                                       ·
                                                        intro w'
                                                        go_simp
                                                        with_reducible rfl
                                                       rotate_left
                                                       ·
                                                        simp only [Act.put, List.setIfInBounds_toArray, List.set_cons_zero, List.set_cons_succ, i64_w, i32_w]
                                                        rfl
                                                       refine pure_ (i := 12) (N := some 200) (v := ?_) (a' := ?_) #[true, true, true, true, true, true, true, true, true, true, true, true, true, false, false, false] rfl rfl (any_of HT_.out (by kernel_rfl)) (fun _ _ _ h => h) (Or.inl ⟨by rfl, ?_⟩) ?_ ?_
                                                       rotate_left
                                                       ·
                                                        intro w'
                                                        go_simp
                                                        with_reducible rfl
                                                       rotate_left
                                                       ·
                                                        simp only [Act.put, List.setIfInBounds_toArray, List.set_cons_zero, List.set_cons_succ, i64_w, i32_w]
                                                        rfl
                                                       refine pure_ (i := 13) (N := some 33) (v := ?_) (a' := ?_) #[true, true, true, true, true, true, true, true, true, true, true, true, true, true, false, false] rfl rfl (any_of HT_.out (by kernel_rfl)) (fun _ _ _ h => h) (Or.inl ⟨by rfl, ?_⟩) ?_ ?_
                                                       rotate_left
                                                       ·
                                                        intro w'
                                                        go_simp
                                                        with_reducible rfl
                                                       rotate_left
                                                       ·
                                                        simp only [Act.put, List.setIfInBounds_toArray, List.set_cons_zero, List.set_cons_succ, i64_w, i32_w]
                                                        rfl
                                                       refine pure_ (i := 14) (N := some 34) (v := ?_) (a' := ?_) #[true, true, true, true, true, true, true, true, true, true, true, true, true, true, true, false] rfl rfl (any_of HT_.out (by kernel_rfl)) (fun _ _ _ h => h) (Or.inl ⟨by rfl, ?_⟩) ?_ ?_
                                                       rotate_left
                                                       ·
                                                        intro w'
                                                        go_simp
                                                        with_reducible rfl
                                                       rotate_left
                                                       ·
                                                        simp only [Act.put, List.setIfInBounds_toArray, List.set_cons_zero, List.set_cons_succ, i64_w, i32_w]
                                                        rfl
                                                       refine pure_ (i := 15) (N := some 35) (v := ?_) (a' := ?_) #[true, true, true, true, true, true, true, true, true, true, true, true, true, true, true, true] rfl rfl (any_of HT_.out (by kernel_rfl)) (fun _ _ _ h => h) (Or.inl ⟨by rfl, ?_⟩) ?_ ?_
                                                       rotate_left
                                                       ·
                                                        intro w'
                                                        go_simp
                                                        with_reducible rfl
                                                       rotate_left
                                                       ·
                                                        simp only [Act.put, List.setIfInBounds_toArray, List.set_cons_zero, List.set_cons_succ, i64_w, i32_w]
                                                        rfl
                                                       refine done_ (done_of HT_.out (by kernel_rfl)) ?_
                                                       try go_wp2
                                                       have n0_ := Aside0.mk (Kd.S_drew HO_8.out)
                                                       have n1_ := Aside0.mk (Kd.S_drew HO_12.out)
                                                       have n2_ := Aside0.mk (Kd.S_drew HO_181.out)
                                                       have n3_ := Aside0.mk (Kd.R_drew HL364_0.out)
                                                       have n4_ := Aside0.mk (Kd.C_drew HR364_0.out)
                                                       have n5_ := Aside0.mk (below_drew1 HB.out)
                                                       clear HO_8; clear HO_12; clear HO_181; clear HL364_0; clear HR364_0; clear HB
                                                       have HO_8 := n0_
                                                       have HO_12 := n1_
                                                       have HO_181 := n2_
                                                       have HL364_0 := n3_
                                                       have HR364_0 := n4_
                                                       have HB := n5_
                                                       clear n0_ n1_ n2_ n3_ n4_ n5_
                                                       have p378 : 0 ≤ ((ji93) : Int) := of_decide_eq_true (by first | (with_reducible assumption) | assumption)
                                                       have q378 : (ji93) < (t326.length : Int) := of_decide_eq_true (by first | (with_reducible assumption) | assumption)
                                                       obtain ⟨ad378, A378_0, c378_0, e378, hx378_0, hl378_0, hi378_0⟩ := at_L2 (Kd.S_reads' HO_8.out).2.2 (ji93) p378 q378
                                                       obtain rfl : ad364 = ad378 := (by injection e378)
                                                       obtain ⟨ce378, hce378, hMe378, hcc378⟩ := Kd.S_get HO_8.out [] (ji93) p378 (by first | exact q378 | exact of_decide_eq_true (by first | (with_reducible assumption) | assumption) | (have e_ := (Kd.S_reads' HO_8.out).1; omega))
                                                       obtain ⟨ve378_0, rfl, ge378_0⟩ := hMe378
                                                       have hv378_0 := hcc378 0 _ rfl
                                                       rw [Nat.add_zero, show ((Kd.slice 3 (Kd.int .i64))).sz = 1 from rfl, Nat.mul_one] at hv378_0
                                                       replace hv378_0 := Option.some.inj (hv378_0.symm.trans hx378_0)
                                                       rw [hv378_0] at ge378_0
                                                       have HL378_0 := Aside0.mk (show Kd.R (Kd.int .i64) 3 _ _ _ _ (rd_L2 t326 (ji93)) from ge378_0)
                                                       clear hv378_0 ge378_0
                                                       clear hcc378 hce378
                                                       have HR378_0 := Aside0.mk hi378_0
                                                       have HC378_0 := Aside0.mk hl378_0
                                                       clear hi378_0 hl378_0
                                                       replace p378 := eq_true p378
                                                       replace q378 := eq_true q378
                                                       have p374 : 0 ≤ (0 : Int) := (by omega)
                                                       have q374 : 0 < ((rd_L2 t326 x183_6).length : Int) := of_decide_eq_true (by first | (with_reducible assumption) | assumption)
                                                       obtain ⟨ad374, e374, hx374_0⟩ := Kd.at_int (by repeat (first | (with_reducible exact HR364_0.out) | (with_reducible refine Kd.C_alloc ?_ _) | (with_reducible refine Kd.C_drewN ?_ _) | (with_reducible refine Kd.C_drew ?_) | exact HR364_0.out)) 0 p374 q374
                                                       obtain rfl : ad365 = ad374 := (by injection e374)
                                                       have qi374 : (0 < (rd_L2 t326 x183_6).length) = True := eq_true (by omega)
                                                       (try rw [show ((0 : Int)).toNat = 0 from rfl] at hx374_0)
                                                       (try rw [Addr.add_zero'] at hx374_0)
                                                       replace p374 := eq_true p374
                                                       replace q374 := eq_true q374
                                                       have p375 : 0 ≤ (1 : Int) := (by omega)
                                                       have q375 : 1 < ((rd_L2 t326 x183_6).length : Int) := of_decide_eq_true (by first | (with_reducible assumption) | assumption)
                                                       obtain ⟨ad375, e375, hx375_0⟩ := Kd.at_int (by repeat (first | (with_reducible exact HR364_0.out) | (with_reducible refine Kd.C_alloc ?_ _) | (with_reducible refine Kd.C_drewN ?_ _) | (with_reducible refine Kd.C_drew ?_) | exact HR364_0.out)) 1 p375 q375
                                                       obtain rfl : ad365 = ad375 := (by injection e375)
                                                       (try simp only [show (1 : Int).toNat = 1 from rfl, Nat.reduceMul, Nat.reduceEqDiff, Go.Addr.add, ↓reduceIte] at hx375_0)
                                                       have qi375 : (1 < (rd_L2 t326 x183_6).length) = True := eq_true (by omega)
                                                       (try rw [show ((1 : Int)).toNat = 1 from rfl] at hx375_0)
                                                       replace p375 := eq_true p375
                                                       replace q375 := eq_true q375
                                                       have p377 : 0 ≤ (0 : Int) := (by omega)
                                                       have q377 : 0 < ((rd_L2 t326 x183_6).length : Int) := of_decide_eq_true (by first | (with_reducible assumption) | assumption)
                                                       obtain ⟨ad377, e377, hx377_0⟩ := Kd.at_int (by repeat (first | (with_reducible exact HR364_0.out) | (with_reducible refine Kd.C_alloc ?_ _) | (with_reducible refine Kd.C_drewN ?_ _) | (with_reducible refine Kd.C_drew ?_) | exact HR364_0.out)) 0 p377 q377
                                                       obtain rfl : ad365 = ad377 := (by injection e377)
                                                       have qi377 : (0 < (rd_L2 t326 x183_6).length) = True := eq_true (by omega)
                                                       (try rw [show ((0 : Int)).toNat = 0 from rfl] at hx377_0)
                                                       (try rw [Addr.add_zero'] at hx377_0)
                                                       replace p377 := eq_true p377
                                                       replace q377 := eq_true q377
                                                       refine start_ (n := 43) (S := fun w' => w'.cell? ad365 = some (.int .i64 (rd (rd_L2 t326 x183_6) 0)) ∧ w'.cell? ⟨ad365.block, ad365.off + 1, none⟩ = some (.int .i64 (rd (rd_L2 t326 x183_6) 1)) ∧ w'.cell? ad365 = some (.int .i64 (rd (rd_L2 t326 x183_6) 0)) ∧ w'.cell? (ad364.add ((ji93)).toNat) = some (.slice A378_0 (rd_L2 t326 (ji93)).length c378_0)) (ds := []) #[false, false, false, false, false, false, false, false, false, false, false, false, false, false, false, false, false, false, false, false, false, false, false, false, false, false, false, false, false, false, false, false, false, false, false, false, false, false, false, false, false, false, false] (by kernel_rfl) rfl rfl ⟨hx374_0, hx375_0, hx377_0, hx378_0⟩ (fun hHeld => ?_); refine with_tabW laws_FnClassesOfPairs.tab33 laws_FnClassesOfPairs.bits33 (fun HT_ HW_ => ?_)
                                                       generalize w99.drew = w100 at HO_8 HO_12 HO_181 HL364_0 HR364_0 HB HL378_0 HR378_0 hx378_0 hHeld ⊢
                                                       refine pure_ (i := 0) (N := some 201) (v := ?_) (a' := ?_) #[true, false, false, false, false, false, false, false, false, false, false, false, false, false, false, false, false, false, false, false, false, false, false, false, false, false, false, false, false, false, false, false, false, false, false, false, false, false, false, false, false, false, false] rfl rfl (any_of HT_.out (by kernel_rfl)) (fun _ _ _ h => h) (Or.inl ⟨by rfl, ?_⟩) ?_ ?_
                                                       rotate_left
                                                       ·
                                                        intro w'
                                                        go_simp
                                                        with_reducible rfl
                                                       rotate_left
                                                       ·
                                                        simp only [Act.put, List.setIfInBounds_toArray, List.set_cons_zero, List.set_cons_succ, i64_w, i32_w]
                                                        rfl
                                                       refine pure_ (i := 1) (N := some 202) (v := ?_) (a' := ?_) #[true, true, false, false, false, false, false, false, false, false, false, false, false, false, false, false, false, false, false, false, false, false, false, false, false, false, false, false, false, false, false, false, false, false, false, false, false, false, false, false, false, false, false] rfl rfl (any_of HT_.out (by kernel_rfl)) (fun _ _ _ h => h) (Or.inl ⟨by rfl, ?_⟩) ?_ ?_
                                                       rotate_left
                                                       ·
                                                        intro w'
                                                        go_simp
                                                        with_reducible rfl
                                                       rotate_left
                                                       ·
                                                        simp only [Act.put, List.setIfInBounds_toArray, List.set_cons_zero, List.set_cons_succ, i64_w, i32_w]
                                                        rfl
                                                       refine pure_ (i := 2) (N := some 203) (v := ?_) (a' := ?_) #[true, true, true, false, false, false, false, false, false, false, false, false, false, false, false, false, false, false, false, false, false, false, false, false, false, false, false, false, false, false, false, false, false, false, false, false, false, false, false, false, false, false, false] rfl rfl (any_of HT_.out (by kernel_rfl)) (fun _ _ _ h => h) (Or.inl ⟨by rfl, ?_⟩) ?_ ?_
                                                       rotate_left
                                                       ·
                                                        intro w'
                                                        go_simp
                                                        with_reducible rfl
                                                       rotate_left
                                                       ·
                                                        simp only [Act.put, List.setIfInBounds_toArray, List.set_cons_zero, List.set_cons_succ, i64_w, i32_w]
                                                        rfl
                                                       refine pure_ (i := 3) (N := some 204) (v := ?_) (a' := ?_) #[true, true, true, true, false, false, false, false, false, false, false, false, false, false, false, false, false, false, false, false, false, false, false, false, false, false, false, false, false, false, false, false, false, false, false, false, false, false, false, false, false, false, false] rfl rfl (any_of HT_.out (by kernel_rfl)) (fun _ _ _ h => h) (Or.inl ⟨by rfl, ?_⟩) ?_ ?_
                                                       rotate_left
                                                       ·
                                                        intro w'
                                                        go_simp
                                                        with_reducible rfl
                                                       rotate_left
                                                       ·
                                                        simp only [Act.put, List.setIfInBounds_toArray, List.set_cons_zero, List.set_cons_succ, i64_w, i32_w]
                                                        rfl
                                                       refine pure_ (i := 4) (N := some 205) (v := ?_) (a' := ?_) #[true, true, true, true, true, false, false, false, false, false, false, false, false, false, false, false, false, false, false, false, false, false, false, false, false, false, false, false, false, false, false, false, false, false, false, false, false, false, false, false, false, false, false] rfl rfl (any_of HT_.out (by kernel_rfl)) (fun _ _ _ h => h) (Or.inl ⟨by rfl, ?_⟩) ?_ ?_
                                                       rotate_left
                                                       ·
                                                        intro w'
                                                        go_simp
                                                        with_reducible rfl
                                                       rotate_left
                                                       ·
                                                        simp only [Act.put, List.setIfInBounds_toArray, List.set_cons_zero, List.set_cons_succ, i64_w, i32_w]
                                                        rfl
                                                       refine pure_ (i := 5) (N := some 206) (v := ?_) (a' := ?_) #[true, true, true, true, true, true, false, false, false, false, false, false, false, false, false, false, false, false, false, false, false, false, false, false, false, false, false, false, false, false, false, false, false, false, false, false, false, false, false, false, false, false, false] rfl rfl (any_of HT_.out (by kernel_rfl)) (fun _ _ _ h => h) (Or.inl ⟨by rfl, ?_⟩) ?_ ?_
                                                       rotate_left
                                                       ·
                                                        intro w'
                                                        go_simp
                                                        with_reducible rfl
                                                       rotate_left
                                                       ·
                                                        simp only [Act.put, List.setIfInBounds_toArray, List.set_cons_zero, List.set_cons_succ, i64_w, i32_w]
                                                        rfl
                                                       refine one_ (i := 6) (N := some 207) #[true, true, true, true, true, true, true, false, false, false, false, false, false, false, false, false, false, false, false, false, false, false, false, false, false, false, false, false, false, false, false, false, false, false, false, false, false, false, false, false, false, false, false] rfl rfl (one_of HT_.out (by kernel_rfl)) (by decide) (fun K hK => ?_)
                                                       refine Kd.R_lit_step (Kd.int .i64) _ 3 ?hg (N := 207) ?hd (xs := ([t367, t368] : List Int)) (inner := [.int .i64 t367, .int .i64 t368]) (ok := fun _ => True) (okp := fun _ => True) ?hr ?hp (fun _ hk => hk) trivial (Below.refl _ _) (Nat.le_refl _) (by simp) ?_; (case hd => rfl); (case hg => rfl); (case hr => first | (go_simp; done) | (go_simp; rfl)); (case hp => exact (Reps.one (show Kd.M (Kd.int .i64) _ _ _ t367 [.int .i64 t367] from rfl) (Reps.one (show Kd.M (Kd.int .i64) _ _ _ t368 [.int .i64 t368] from rfl) (Reps.none _ _))))
                                                       intro v371 w101 ho102 hb hg_ hnew_
                                                       have HS0_ := (hb.cell (World.block_lt_of_cell? _ _ (hHeld.1))).trans (hHeld.1)
                                                       have HS1_ := (hb.cell (World.block_lt_of_cell? _ _ (hHeld.2.1))).trans (hHeld.2.1)
                                                       have HS2_ := (hb.cell (World.block_lt_of_cell? _ _ (hHeld.2.2.1))).trans (hHeld.2.2.1)
                                                       have HS3_ := (hb.cell (World.block_lt_of_cell? _ _ (hHeld.2.2.2))).trans (hHeld.2.2.2)
                                                       clear hg_ hnew_
                                                       (first | rw [← Ny370.out] at ho102 | (simp only [Int.reduceToNat] at ho102; rw [← Ny370.out] at ho102))
                                                       have n0_ := Aside0.mk (Kd.S_elder' (by (with_reducible repeat (first | apply Kd.S_alloc | apply Kd.S_drewN | apply Kd.S_drew)); exact HO_8.out) (Kd.R_base ho102) hb)
                                                       have n1_ := Aside0.mk (Kd.S_elder' (by (with_reducible repeat (first | apply Kd.S_alloc | apply Kd.S_drewN | apply Kd.S_drew)); exact HO_12.out) (Kd.R_base ho102) hb)
                                                       have n2_ := Aside0.mk (Kd.S_elder' (by (with_reducible repeat (first | apply Kd.S_alloc | apply Kd.S_drewN | apply Kd.S_drew)); exact HO_181.out) (Kd.R_base ho102) hb)
                                                       have n3_ := Aside0.mk (Kd.R_elder' (by (with_reducible repeat (first | apply Kd.R_alloc | apply Kd.R_drewN | apply Kd.R_drew)); exact HL364_0.out) (Kd.R_base ho102) hb)
                                                       have n4_ := Aside0.mk (Kd.R_lower (Kd.R_new' ho102 (Kd.R_lt (by (with_reducible repeat (first | apply Kd.R_alloc | apply Kd.R_drewN | apply Kd.R_drew)); exact HL364_0.out))) (below_size (by repeat (first | (with_reducible first | exact HB.out | apply below_alloc | apply pw_below_drewN | apply below_drew1) | exact HB.out | exact Below.refl _ _))))
                                                       have n5_ := Aside0.mk ((by with_reducible first | exact Kd.C_below HR364_0.out hb | exact Kd.C_below (Kd.C_drewN HR364_0.out _) hb | exact Kd.C_below (Kd.C_alloc HR364_0.out _) hb | exact Kd.C_below (Kd.C_drewN (Kd.C_drewN HR364_0.out _) _) hb))
                                                       have n5_x := Aside0.mk ((by with_reducible first | exact Kd.C_below HR378_0.out hb | exact Kd.C_below (Kd.C_drewN HR378_0.out _) hb | exact Kd.C_below (Kd.C_alloc HR378_0.out _) hb | exact Kd.C_below (Kd.C_drewN (Kd.C_drewN HR378_0.out _) _) hb))
                                                       have n6_ := Aside0.mk (below_step (by repeat (first | (with_reducible first | exact HB.out | apply below_alloc | apply pw_below_drewN | apply below_drew1) | exact HB.out | exact Below.refl _ _)) hb)
                                                       clear HO_8; clear HO_12; clear HO_181; clear HL364_0; clear HR364_0; clear HB
                                                       have HO_8 := n0_
                                                       have HO_12 := n1_
                                                       have HO_181 := n2_
                                                       have HL364_0 := n3_
                                                       have HO372 := n4_
                                                       have HR364_0 := n5_
                                                       clear HR378_0
                                                       have HR378_0 := n5_x
                                                       clear n5_x
                                                       have HB := n6_
                                                       clear n0_ n1_ n2_ n3_ n4_ n5_ n6_
                                                       clear hb ho102
                                                       obtain ⟨Ao103, co103, eo103⟩ := Kd.S_slice HO_12.out
                                                       (first | subst eo103 | (injection eo103 with f1_ f2_ f3_; have f4_ := f1_.symm; have f5_ := f3_.symm; clear f1_ f2_ f3_; subst f4_; subst f5_))
                                                       obtain ⟨Ao104, co104, eo104⟩ := Kd.R_slice HO372.out
                                                       (first | subst eo104 | (injection eo104 with f1_ f2_ f3_; have f4_ := f1_.symm; have f5_ := f3_.symm; clear f1_ f2_ f3_; subst f4_; subst f5_))
                                                       refine hK.out _ _ ⟨HS0_, HS1_, HS2_, HS3_⟩ (fun hHeld => ?_)
                                                       clear hK K
                                                       refine norm_ (a' := ?_) ?_ ?_
                                                       rotate_left
                                                       ·
                                                        show Act.put _ (some 207) _ = _
                                                        simp only [Act.put, List.setIfInBounds_toArray, List.set_cons_zero, List.set_cons_succ, i64_w, i32_w]
                                                        rfl
                                                       refine one_ (i := 7) (N := some 208) #[true, true, true, true, true, true, true, true, false, false, false, false, false, false, false, false, false, false, false, false, false, false, false, false, false, false, false, false, false, false, false, false, false, false, false, false, false, false, false, false, false, false, false] rfl rfl (one_of HT_.out (by kernel_rfl)) (by decide) (fun K hK => ?_)
                                                       refine goes_ Try.func20 (by kernel_rfl) rfl #[.slice Ao103 t334.length co103, .slice Ao104 y370.length co104] (by rfl) rfl rfl (by (try simp only [List.map_toArray, List.map_cons, List.map_nil]); first | done | rfl | (simp only [List.length_drop, List.length_take]; rfl)) ?_
                                                       with_reducible refine (laws_vHas.calls k6 _ _ t334 _ _ y370 true _ ?side1 ?side2 ?side3 ?side4 A80.out).mono ?_
                                                       (case side1 => repeat (first | exact (Kd.S_reads' HO_12.out).2.2 | (with_reducible refine Kd.C_alloc ?_ _) | (with_reducible refine Kd.C_drewN ?_ _) | (with_reducible refine Kd.C_drew ?_)))
                                                       (case side2 => exact (Kd.S_reads' HO_12.out).2.1)
                                                       (case side3 => repeat (first | exact (Kd.R_reads' HO372.out).2.2 | (with_reducible refine Kd.C_alloc ?_ _) | (with_reducible refine Kd.C_drewN ?_ _) | (with_reducible refine Kd.C_drew ?_)))
                                                       (case side4 => exact (Kd.R_reads' HO372.out).2.1)
                                                       rintro e w' ⟨rfl, ⟨nd, rfl⟩⟩
                                                       refine ⟨_, rfl, ?_⟩
                                                       refine hK.out _ _ ⟨hHeld.1, hHeld.2.1, hHeld.2.2.1, hHeld.2.2.2⟩ (fun hHeld => ?_)
                                                       clear hK K
                                                       refine norm_ (a' := ?_) ?_ ?_
                                                       rotate_left
                                                       ·
                                                        show Act.put _ (some 208) _ = _
                                                        simp only [Act.put, List.setIfInBounds_toArray, List.set_cons_zero, List.set_cons_succ, i64_w, i32_w]
                                                        rfl
                                                       refine pure_ (i := 8) (N := some 209) (v := ?_) (a' := ?_) #[true, true, true, true, true, true, true, true, true, false, false, false, false, false, false, false, false, false, false, false, false, false, false, false, false, false, false, false, false, false, false, false, false, false, false, false, false, false, false, false, false, false, false] rfl rfl (any_of HT_.out (by kernel_rfl)) (fun _ _ _ h => h) (Or.inl ⟨by rfl, ?_⟩) ?_ ?_
                                                       rotate_left
                                                       ·
                                                        intro w'
                                                        go_simp
                                                        with_reducible rfl
                                                       rotate_left
                                                       ·
                                                        simp only [Act.put, List.setIfInBounds_toArray, List.set_cons_zero, List.set_cons_succ, i64_w, i32_w]
                                                        rfl
                                                       refine pure_ (i := 9) (N := some 210) (v := ?_) (a' := ?_) #[true, true, true, true, true, true, true, true, true, true, false, false, false, false, false, false, false, false, false, false, false, false, false, false, false, false, false, false, false, false, false, false, false, false, false, false, false, false, false, false, false, false, false] rfl rfl (any_of HT_.out (by kernel_rfl)) (fun _ _ _ h => h) (Or.inl ⟨by rfl, ?_⟩) ?_ ?_
                                                       rotate_left
                                                       ·
                                                        intro w'
                                                        go_simp
                                                        with_reducible rfl
                                                       rotate_left
                                                       ·
                                                        simp only [Act.put, List.setIfInBounds_toArray, List.set_cons_zero, List.set_cons_succ, i64_w, i32_w]
                                                        rfl
                                                       refine pure_ (i := 10) (N := some 211) (v := ?_) (a' := ?_) #[true, true, true, true, true, true, true, true, true, true, true, false, false, false, false, false, false, false, false, false, false, false, false, false, false, false, false, false, false, false, false, false, false, false, false, false, false, false, false, false, false, false, false] rfl rfl (any_of HT_.out (by kernel_rfl)) (fun _ _ _ h => h) (Or.inl ⟨by rfl, ?_⟩) ?_ ?_
                                                       rotate_left
                                                       ·
                                                        intro w'
                                                        go_simp
                                                        with_reducible rfl
                                                       rotate_left
                                                       ·
                                                        simp only [Act.put, List.setIfInBounds_toArray, List.set_cons_zero, List.set_cons_succ, i64_w, i32_w]
                                                        rfl
                                                       refine pure_ (i := 11) (N := some 212) (v := ?_) (a' := ?_) #[true, true, true, true, true, true, true, true, true, true, true, true, false, false, false, false, false, false, false, false, false, false, false, false, false, false, false, false, false, false, false, false, false, false, false, false, false, false, false, false, false, false, false] rfl rfl (any_of HT_.out (by kernel_rfl)) (fun _ _ _ h => h) (Or.inl ⟨by rfl, ?_⟩) ?_ ?_
                                                       rotate_left
                                                       ·
                                                        intro w'
                                                        go_simp
                                                        with_reducible rfl
                                                       rotate_left
                                                       ·
                                                        simp only [Act.put, List.setIfInBounds_toArray, List.set_cons_zero, List.set_cons_succ, i64_w, i32_w]
                                                        rfl
                                                       refine pure_ (i := 12) (N := some 213) (v := ?_) (a' := ?_) #[true, true, true, true, true, true, true, true, true, true, true, true, true, false, false, false, false, false, false, false, false, false, false, false, false, false, false, false, false, false, false, false, false, false, false, false, false, false, false, false, false, false, false] rfl rfl (any_of HT_.out (by kernel_rfl)) (fun _ _ _ h => h) (Or.inl ⟨by rfl, ?_⟩) ?_ ?_
                                                       rotate_left
                                                       ·
                                                        intro w'
                                                        go_simp
                                                        with_reducible rfl
                                                       rotate_left
                                                       ·
                                                        simp only [Act.put, List.setIfInBounds_toArray, List.set_cons_zero, List.set_cons_succ, i64_w, i32_w]
                                                        rfl
                                                       refine pure_ (i := 14) (N := some 215) (v := ?_) (a' := ?_) #[true, true, true, true, true, true, true, true, true, true, true, true, true, false, true, false, false, false, false, false, false, false, false, false, false, false, false, false, false, false, false, false, false, false, false, false, false, false, false, false, false, false, false] rfl rfl (any_of HT_.out (by kernel_rfl)) (fun _ _ _ h => h) (Or.inl ⟨by rfl, ?_⟩) ?_ ?_
                                                       rotate_left
                                                       ·
                                                        intro w'
                                                        go_simp
                                                        with_reducible rfl
                                                       rotate_left
                                                       ·
                                                        simp only [Act.put, List.setIfInBounds_toArray, List.set_cons_zero, List.set_cons_succ, i64_w, i32_w]
                                                        rfl
                                                       refine pure_ (i := 15) (N := some 216) (v := ?_) (a' := ?_) #[true, true, true, true, true, true, true, true, true, true, true, true, true, false, true, true, false, false, false, false, false, false, false, false, false, false, false, false, false, false, false, false, false, false, false, false, false, false, false, false, false, false, false] rfl rfl (any_of HT_.out (by kernel_rfl)) (fun _ _ _ h => h) (Or.inl ⟨by rfl, ?_⟩) ?_ ?_
                                                       rotate_left
                                                       ·
                                                        intro w'
                                                        go_simp
                                                        with_reducible rfl
                                                       rotate_left
                                                       ·
                                                        simp only [Act.put, List.setIfInBounds_toArray, List.set_cons_zero, List.set_cons_succ, i64_w, i32_w]
                                                        rfl
                                                       refine pure_ (i := 17) (N := some 218) (v := ?_) (a' := ?_) #[true, true, true, true, true, true, true, true, true, true, true, true, true, false, true, true, false, true, false, false, false, false, false, false, false, false, false, false, false, false, false, false, false, false, false, false, false, false, false, false, false, false, false] rfl rfl (any_of HT_.out (by kernel_rfl)) (fun _ _ _ h => h) (Or.inl ⟨by rfl, ?_⟩) ?_ ?_
                                                       rotate_left
                                                       ·
                                                        intro w'
                                                        go_simp
                                                        with_reducible rfl
                                                       rotate_left
                                                       ·
                                                        simp only [Act.put, List.setIfInBounds_toArray, List.set_cons_zero, List.set_cons_succ, i64_w, i32_w]
                                                        rfl
                                                       refine pure_ (i := 18) (N := some 219) (v := ?_) (a' := ?_) #[true, true, true, true, true, true, true, true, true, true, true, true, true, false, true, true, false, true, true, false, false, false, false, false, false, false, false, false, false, false, false, false, false, false, false, false, false, false, false, false, false, false, false] rfl rfl (any_of HT_.out (by kernel_rfl)) (fun _ _ _ h => h) (Or.inl ⟨by rfl, ?_⟩) ?_ ?_
                                                       rotate_left
                                                       ·
                                                        intro w'
                                                        go_simp
                                                        with_reducible rfl
                                                       rotate_left
                                                       ·
                                                        simp only [Act.put, List.setIfInBounds_toArray, List.set_cons_zero, List.set_cons_succ, i64_w, i32_w]
                                                        rfl
                                                       refine take_ (i := 13) (N := some 214) (v := ?_) (a' := ?_) #[true, true, true, true, true, true, true, true, true, true, true, true, true, true, true, true, false, true, true, false, false, false, false, false, false, false, false, false, false, false, false, false, false, false, false, false, false, false, false, false, false, false, false] rfl rfl (take_ofW HT_.out HW_.out (by kernel_rfl)) (fun _ _ _ h => h) (Or.inl ⟨by rfl, ?_⟩) hHeld ?_ ?_
                                                       rotate_left
                                                       ·
                                                        rintro w' ⟨s0, s1, s2, s3⟩
                                                        go_simp
                                                        with_reducible rfl
                                                       rotate_left
                                                       ·
                                                        simp only [Act.put, List.setIfInBounds_toArray, List.set_cons_zero, List.set_cons_succ, i64_w, i32_w]
                                                        rfl
                                                       refine take_ (i := 16) (N := some 217) (v := ?_) (a' := ?_) #[true, true, true, true, true, true, true, true, true, true, true, true, true, true, true, true, true, true, true, false, false, false, false, false, false, false, false, false, false, false, false, false, false, false, false, false, false, false, false, false, false, false, false] rfl rfl (take_ofW HT_.out HW_.out (by kernel_rfl)) (fun _ _ _ h => h) (Or.inl ⟨by rfl, ?_⟩) hHeld ?_ ?_
                                                       rotate_left
                                                       ·
                                                        rintro w' ⟨s0, s1, s2, s3⟩
                                                        go_simp
                                                        with_reducible rfl
                                                       rotate_left
                                                       ·
                                                        simp only [Act.put, List.setIfInBounds_toArray, List.set_cons_zero, List.set_cons_succ, i64_w, i32_w]
                                                        rfl
                                                       refine one_ (i := 19) (N := some 220) #[true, true, true, true, true, true, true, true, true, true, true, true, true, true, true, true, true, true, true, true, false, false, false, false, false, false, false, false, false, false, false, false, false, false, false, false, false, false, false, false, false, false, false] rfl rfl (one_of HT_.out (by kernel_rfl)) (by decide) (fun K hK => ?_)
                                                       refine goes_ Try.func18 (by kernel_rfl) rfl #[.int .i64 (rd (rd_L2 t326 x183_6) 0), .int .i64 (rd (rd_L2 t326 x183_6) 1), .int .i64 t323, .int .i64 t324] (by rfl) rfl rfl (by (try simp only [List.map_toArray, List.map_cons, List.map_nil]); first | done | rfl | (simp only [List.length_drop, List.length_take]; rfl)) ?_
                                                       with_reducible refine (laws_vPair.calls (rd (rd_L2 t326 x183_6) 0) (rd (rd_L2 t326 x183_6) 1) t323 t324 true _ A82.out).mono ?_
                                                       rintro e w' ⟨rfl, ⟨nd, rfl⟩⟩
                                                       refine ⟨_, rfl, ?_⟩
                                                       refine hK.out _ _ ⟨hHeld.1, hHeld.2.1, hHeld.2.2.1, hHeld.2.2.2⟩ (fun hHeld => ?_)
                                                       clear hK K
                                                       refine norm_ (a' := ?_) ?_ ?_
                                                       rotate_left
                                                       ·
                                                        show Act.put _ (some 220) _ = _
                                                        simp only [Act.put, List.setIfInBounds_toArray, List.set_cons_zero, List.set_cons_succ, i64_w, i32_w]
                                                        rfl
                                                       refine pure_ (i := 20) (N := some 221) (v := ?_) (a' := ?_) #[true, true, true, true, true, true, true, true, true, true, true, true, true, true, true, true, true, true, true, true, true, false, false, false, false, false, false, false, false, false, false, false, false, false, false, false, false, false, false, false, false, false, false] rfl rfl (any_of HT_.out (by kernel_rfl)) (fun _ _ _ h => h) (Or.inl ⟨by rfl, ?_⟩) ?_ ?_
                                                       rotate_left
                                                       ·
                                                        intro w'
                                                        go_simp
                                                        with_reducible rfl
                                                       rotate_left
                                                       ·
                                                        simp only [Act.put, List.setIfInBounds_toArray, List.set_cons_zero, List.set_cons_succ, i64_w, i32_w]
                                                        rfl
                                                       refine pure_ (i := 21) (N := some 222) (v := ?_) (a' := ?_) #[true, true, true, true, true, true, true, true, true, true, true, true, true, true, true, true, true, true, true, true, true, true, false, false, false, false, false, false, false, false, false, false, false, false, false, false, false, false, false, false, false, false, false] rfl rfl (any_of HT_.out (by kernel_rfl)) (fun _ _ _ h => h) (Or.inl ⟨by rfl, ?_⟩) ?_ ?_
                                                       rotate_left
                                                       ·
                                                        intro w'
                                                        go_simp
                                                        with_reducible rfl
                                                       rotate_left
                                                       ·
                                                        simp only [Act.put, List.setIfInBounds_toArray, List.set_cons_zero, List.set_cons_succ, i64_w, i32_w]
                                                        rfl
                                                       refine pure_ (i := 22) (N := some 223) (v := ?_) (a' := ?_) #[true, true, true, true, true, true, true, true, true, true, true, true, true, true, true, true, true, true, true, true, true, true, true, false, false, false, false, false, false, false, false, false, false, false, false, false, false, false, false, false, false, false, false] rfl rfl (any_of HT_.out (by kernel_rfl)) (fun _ _ _ h => h) (Or.inl ⟨by rfl, ?_⟩) ?_ ?_
                                                       rotate_left
                                                       ·
                                                        intro w'
                                                        go_simp
                                                        with_reducible rfl
                                                       rotate_left
                                                       ·
                                                        simp only [Act.put, List.setIfInBounds_toArray, List.set_cons_zero, List.set_cons_succ, i64_w, i32_w]
                                                        rfl
                                                       refine pure_ (i := 23) (N := some 224) (v := ?_) (a' := ?_) #[true, true, true, true, true, true, true, true, true, true, true, true, true, true, true, true, true, true, true, true, true, true, true, true, false, false, false, false, false, false, false, false, false, false, false, false, false, false, false, false, false, false, false] rfl rfl (any_of HT_.out (by kernel_rfl)) (fun _ _ _ h => h) (Or.inl ⟨by rfl, ?_⟩) ?_ ?_
                                                       rotate_left
                                                       ·
                                                        intro w'
                                                        go_simp
                                                        with_reducible rfl
                                                       rotate_left
                                                       ·
                                                        simp only [Act.put, List.setIfInBounds_toArray, List.set_cons_zero, List.set_cons_succ, i64_w, i32_w]
                                                        rfl
                                                       refine pure_ (i := 24) (N := some 225) (v := ?_) (a' := ?_) #[true, true, true, true, true, true, true, true, true, true, true, true, true, true, true, true, true, true, true, true, true, true, true, true, true, false, false, false, false, false, false, false, false, false, false, false, false, false, false, false, false, false, false] rfl rfl (any_of HT_.out (by kernel_rfl)) (fun _ _ _ h => h) (Or.inl ⟨by rfl, ?_⟩) ?_ ?_
                                                       rotate_left
                                                       ·
                                                        intro w'
                                                        go_simp
                                                        with_reducible rfl
                                                       rotate_left
                                                       ·
                                                        simp only [Act.put, List.setIfInBounds_toArray, List.set_cons_zero, List.set_cons_succ, i64_w, i32_w]
                                                        rfl
                                                       refine pure_ (i := 26) (N := some 227) (v := ?_) (a' := ?_) #[true, true, true, true, true, true, true, true, true, true, true, true, true, true, true, true, true, true, true, true, true, true, true, true, true, false, true, false, false, false, false, false, false, false, false, false, false, false, false, false, false, false, false] rfl rfl (any_of HT_.out (by kernel_rfl)) (fun _ _ _ h => h) (Or.inl ⟨by rfl, ?_⟩) ?_ ?_
                                                       rotate_left
                                                       ·
                                                        intro w'
                                                        go_simp
                                                        with_reducible rfl
                                                       rotate_left
                                                       ·
                                                        simp only [Act.put, List.setIfInBounds_toArray, List.set_cons_zero, List.set_cons_succ, i64_w, i32_w]
                                                        rfl
                                                       refine take_ (i := 25) (N := some 226) (v := ?_) (a' := ?_) #[true, true, true, true, true, true, true, true, true, true, true, true, true, true, true, true, true, true, true, true, true, true, true, true, true, true, true, false, false, false, false, false, false, false, false, false, false, false, false, false, false, false, false] rfl rfl (take_ofW HT_.out HW_.out (by kernel_rfl)) (fun _ _ _ h => h) (Or.inl ⟨by rfl, ?_⟩) hHeld ?_ ?_
                                                       rotate_left
                                                       ·
                                                        rintro w' ⟨s0, s1, s2, s3⟩
                                                        go_simp
                                                        with_reducible rfl
                                                       rotate_left
                                                       ·
                                                        simp only [Act.put, List.setIfInBounds_toArray, List.set_cons_zero, List.set_cons_succ, i64_w, i32_w]
                                                        rfl
                                                       refine pure_ (i := 27) (N := some 228) (v := ?_) (a' := ?_) #[true, true, true, true, true, true, true, true, true, true, true, true, true, true, true, true, true, true, true, true, true, true, true, true, true, true, true, true, false, false, false, false, false, false, false, false, false, false, false, false, false, false, false] rfl rfl (any_of HT_.out (by kernel_rfl)) (fun _ _ _ h => h) (Or.inl ⟨by rfl, ?_⟩) ?_ ?_
                                                       rotate_left
                                                       ·
                                                        intro w'
                                                        go_simp
                                                        with_reducible rfl
                                                       rotate_left
                                                       ·
                                                        simp only [Act.put, List.setIfInBounds_toArray, List.set_cons_zero, List.set_cons_succ, i64_w, i32_w]
                                                        rfl
                                                       refine pure_ (i := 28) (N := some 229) (v := ?_) (a' := ?_) #[true, true, true, true, true, true, true, true, true, true, true, true, true, true, true, true, true, true, true, true, true, true, true, true, true, true, true, true, true, false, false, false, false, false, false, false, false, false, false, false, false, false, false] rfl rfl (any_of HT_.out (by kernel_rfl)) (fun _ _ _ h => h) (Or.inl ⟨by rfl, ?_⟩) ?_ ?_
                                                       rotate_left
                                                       ·
                                                        intro w'
                                                        go_simp
                                                        with_reducible rfl
                                                       rotate_left
                                                       ·
                                                        simp only [Act.put, List.setIfInBounds_toArray, List.set_cons_zero, List.set_cons_succ, i64_w, i32_w]
                                                        rfl
                                                       refine pure_ (i := 29) (N := some 230) (v := ?_) (a' := ?_) #[true, true, true, true, true, true, true, true, true, true, true, true, true, true, true, true, true, true, true, true, true, true, true, true, true, true, true, true, true, true, false, false, false, false, false, false, false, false, false, false, false, false, false] rfl rfl (any_of HT_.out (by kernel_rfl)) (fun _ _ _ h => h) (Or.inl ⟨by rfl, ?_⟩) ?_ ?_
                                                       rotate_left
                                                       ·
                                                        intro w'
                                                        go_simp
                                                        with_reducible rfl
                                                       rotate_left
                                                       ·
                                                        simp only [Act.put, List.setIfInBounds_toArray, List.set_cons_zero, List.set_cons_succ, i64_w, i32_w]
                                                        rfl
                                                       refine pure_ (i := 30) (N := some 231) (v := ?_) (a' := ?_) #[true, true, true, true, true, true, true, true, true, true, true, true, true, true, true, true, true, true, true, true, true, true, true, true, true, true, true, true, true, true, true, false, false, false, false, false, false, false, false, false, false, false, false] rfl rfl (any_of HT_.out (by kernel_rfl)) (fun _ _ _ h => h) (Or.inl ⟨by rfl, ?_⟩) ?_ ?_
                                                       rotate_left
                                                       ·
                                                        intro w'
                                                        go_simp
                                                        with_reducible rfl
                                                       rotate_left
                                                       ·
                                                        simp only [Act.put, List.setIfInBounds_toArray, List.set_cons_zero, List.set_cons_succ, i64_w, i32_w]
                                                        rfl
                                                       refine pure_ (i := 31) (N := some 232) (v := ?_) (a' := ?_) #[true, true, true, true, true, true, true, true, true, true, true, true, true, true, true, true, true, true, true, true, true, true, true, true, true, true, true, true, true, true, true, true, false, false, false, false, false, false, false, false, false, false, false] rfl rfl (any_of HT_.out (by kernel_rfl)) (fun _ _ _ h => h) (Or.inl ⟨by rfl, ?_⟩) ?_ ?_
                                                       rotate_left
                                                       ·
                                                        intro w'
                                                        go_simp
                                                        with_reducible rfl
                                                       rotate_left
                                                       ·
                                                        simp only [Act.put, List.setIfInBounds_toArray, List.set_cons_zero, List.set_cons_succ, i64_w, i32_w]
                                                        rfl
                                                       refine pure_ (i := 32) (N := some 233) (v := ?_) (a' := ?_) #[true, true, true, true, true, true, true, true, true, true, true, true, true, true, true, true, true, true, true, true, true, true, true, true, true, true, true, true, true, true, true, true, true, false, false, false, false, false, false, false, false, false, false] rfl rfl (any_of HT_.out (by kernel_rfl)) (fun _ _ _ h => h) (Or.inl ⟨by rfl, ?_⟩) ?_ ?_
                                                       rotate_left
                                                       ·
                                                        intro w'
                                                        go_simp
                                                        with_reducible rfl
                                                       rotate_left
                                                       ·
                                                        simp only [Act.put, List.setIfInBounds_toArray, List.set_cons_zero, List.set_cons_succ, i64_w, i32_w]
                                                        rfl
                                                       refine pure_ (i := 33) (N := some 234) (v := ?_) (a' := ?_) #[true, true, true, true, true, true, true, true, true, true, true, true, true, true, true, true, true, true, true, true, true, true, true, true, true, true, true, true, true, true, true, true, true, true, false, false, false, false, false, false, false, false, false] rfl rfl (any_of HT_.out (by kernel_rfl)) (fun _ _ _ h => h) (Or.inl ⟨by rfl, ?_⟩) ?_ ?_
                                                       rotate_left
                                                       ·
                                                        intro w'
                                                        go_simp
                                                        with_reducible rfl
                                                       rotate_left
                                                       ·
                                                        simp only [Act.put, List.setIfInBounds_toArray, List.set_cons_zero, List.set_cons_succ, i64_w, i32_w]
                                                        rfl
                                                       refine pure_ (i := 34) (N := some 235) (v := ?_) (a' := ?_) #[true, true, true, true, true, true, true, true, true, true, true, true, true, true, true, true, true, true, true, true, true, true, true, true, true, true, true, true, true, true, true, true, true, true, true, false, false, false, false, false, false, false, false] rfl rfl (any_of HT_.out (by kernel_rfl)) (fun _ _ _ h => h) (Or.inl ⟨by rfl, ?_⟩) ?_ ?_
                                                       rotate_left
                                                       ·
                                                        intro w'
                                                        go_simp
                                                        with_reducible rfl
                                                       rotate_left
                                                       ·
                                                        simp only [Act.put, List.setIfInBounds_toArray, List.set_cons_zero, List.set_cons_succ, i64_w, i32_w]
                                                        rfl
                                                       refine pure_ (i := 35) (N := some 236) (v := ?_) (a' := ?_) #[true, true, true, true, true, true, true, true, true, true, true, true, true, true, true, true, true, true, true, true, true, true, true, true, true, true, true, true, true, true, true, true, true, true, true, true, false, false, false, false, false, false, false] rfl rfl (any_of HT_.out (by kernel_rfl)) (fun _ _ _ h => h) (Or.inl ⟨by rfl, ?_⟩) ?_ ?_
                                                       rotate_left
                                                       ·
                                                        intro w'
                                                        go_simp
                                                        with_reducible rfl
                                                       rotate_left
                                                       ·
                                                        simp only [Act.put, List.setIfInBounds_toArray, List.set_cons_zero, List.set_cons_succ, i64_w, i32_w]
                                                        rfl
                                                       refine pure_ (i := 36) (N := some 237) (v := ?_) (a' := ?_) #[true, true, true, true, true, true, true, true, true, true, true, true, true, true, true, true, true, true, true, true, true, true, true, true, true, true, true, true, true, true, true, true, true, true, true, true, true, false, false, false, false, false, false] rfl rfl (any_of HT_.out (by kernel_rfl)) (fun _ _ _ h => h) (Or.inl ⟨by rfl, ?_⟩) ?_ ?_
                                                       rotate_left
                                                       ·
                                                        intro w'
                                                        go_simp
                                                        with_reducible rfl
                                                       rotate_left
                                                       ·
                                                        simp only [Act.put, List.setIfInBounds_toArray, List.set_cons_zero, List.set_cons_succ, i64_w, i32_w]
                                                        rfl
                                                       refine pure_ (i := 38) (N := some 239) (v := ?_) (a' := ?_) #[true, true, true, true, true, true, true, true, true, true, true, true, true, true, true, true, true, true, true, true, true, true, true, true, true, true, true, true, true, true, true, true, true, true, true, true, true, false, true, false, false, false, false] rfl rfl (any_of HT_.out (by kernel_rfl)) (fun _ _ _ h => h) (Or.inl ⟨by rfl, ?_⟩) ?_ ?_
                                                       rotate_left
                                                       ·
                                                        intro w'
                                                        go_simp
                                                        with_reducible rfl
                                                       rotate_left
                                                       ·
                                                        simp only [Act.put, List.setIfInBounds_toArray, List.set_cons_zero, List.set_cons_succ, i64_w, i32_w]
                                                        rfl
                                                       refine take_ (i := 37) (N := some 238) (v := ?_) (a' := ?_) #[true, true, true, true, true, true, true, true, true, true, true, true, true, true, true, true, true, true, true, true, true, true, true, true, true, true, true, true, true, true, true, true, true, true, true, true, true, true, true, false, false, false, false] rfl rfl (take_ofW HT_.out HW_.out (by kernel_rfl)) (fun _ _ _ h => h) (Or.inl ⟨by rfl, ?_⟩) hHeld ?_ ?_
                                                       rotate_left
                                                       ·
                                                        rintro w' ⟨s0, s1, s2, s3⟩
                                                        go_simp
                                                        with_reducible rfl
                                                       rotate_left
                                                       ·
                                                        simp only [Act.put, List.setIfInBounds_toArray, List.set_cons_zero, List.set_cons_succ, i64_w, i32_w]
                                                        rfl
                                                       refine one_ (i := 39) (N := some 240) #[true, true, true, true, true, true, true, true, true, true, true, true, true, true, true, true, true, true, true, true, true, true, true, true, true, true, true, true, true, true, true, true, true, true, true, true, true, true, true, true, false, false, false] rfl rfl (one_of HT_.out (by kernel_rfl)) (by decide) (fun K hK => ?_)
                                                       refine goes_ Try.func21 (by kernel_rfl) rfl #[.slice A378_0 (rd_L2 t326 (ji93)).length c378_0, .slice (some ad365) (rd_L2 t326 x183_6).length c364_0] (by rfl) rfl rfl (by (try simp only [List.map_toArray, List.map_cons, List.map_nil]); first | done | (simp only [hji93]; rfl) | rfl | (simp only [List.length_drop, List.length_take]; rfl)) ?_
                                                       with_reducible refine (laws_vBefore.calls k6 _ _ (rd_L2 t326 (ji93)) _ _ (rd_L2 t326 x183_6) true _ ?side1 ?side2 ?side3 ?side4 A96.out).mono ?_
                                                       (case side1 => repeat (first | exact (by repeat (first | (with_reducible exact HR378_0.out) | (with_reducible refine Kd.C_alloc ?_ _) | (with_reducible refine Kd.C_drewN ?_ _) | (with_reducible refine Kd.C_drew ?_) | exact HR378_0.out)) | (with_reducible refine Kd.C_alloc ?_ _) | (with_reducible refine Kd.C_drewN ?_ _) | (with_reducible refine Kd.C_drew ?_)))
                                                       (case side2 => exact HC378_0.out)
                                                       (case side3 => repeat (first | exact (by repeat (first | (with_reducible exact HR364_0.out) | (with_reducible refine Kd.C_alloc ?_ _) | (with_reducible refine Kd.C_drewN ?_ _) | (with_reducible refine Kd.C_drew ?_) | exact HR364_0.out)) | (with_reducible refine Kd.C_alloc ?_ _) | (with_reducible refine Kd.C_drewN ?_ _) | (with_reducible refine Kd.C_drew ?_)))
                                                       (case side4 => exact HC364_0.out)
                                                       rintro e w' ⟨rfl, ⟨nd, rfl⟩⟩
                                                       refine ⟨_, rfl, ?_⟩
                                                       refine hK.out _ _ ⟨hHeld.1, hHeld.2.1, hHeld.2.2.1, hHeld.2.2.2⟩ (fun hHeld => ?_)
                                                       clear hK K
                                                       refine norm_ (a' := ?_) ?_ ?_
                                                       rotate_left
                                                       ·
                                                        show Act.put _ (some 240) _ = _
                                                        simp only [Act.put, List.setIfInBounds_toArray, List.set_cons_zero, List.set_cons_succ, i64_w, i32_w]
                                                        rfl
                                                       refine pure_ (i := 40) (N := some 241) (v := ?_) (a' := ?_) #[true, true, true, true, true, true, true, true, true, true, true, true, true, true, true, true, true, true, true, true, true, true, true, true, true, true, true, true, true, true, true, true, true, true, true, true, true, true, true, true, true, false, false] rfl rfl (any_of HT_.out (by kernel_rfl)) (fun _ _ _ h => h) (Or.inl ⟨by rfl, ?_⟩) ?_ ?_
                                                       rotate_left
                                                       ·
                                                        intro w'
                                                        go_simp
                                                        with_reducible rfl
                                                       rotate_left
                                                       ·
                                                        simp only [Act.put, List.setIfInBounds_toArray, List.set_cons_zero, List.set_cons_succ, i64_w, i32_w]
                                                        rfl
                                                       refine pure_ (i := 41) (N := some 242) (v := ?_) (a' := ?_) #[true, true, true, true, true, true, true, true, true, true, true, true, true, true, true, true, true, true, true, true, true, true, true, true, true, true, true, true, true, true, true, true, true, true, true, true, true, true, true, true, true, true, false] rfl rfl (any_of HT_.out (by kernel_rfl)) (fun _ _ _ h => h) (Or.inl ⟨by rfl, ?_⟩) ?_ ?_
                                                       rotate_left
                                                       ·
                                                        intro w'
                                                        go_simp
                                                        with_reducible rfl
                                                       rotate_left
                                                       ·
                                                        simp only [Act.put, List.setIfInBounds_toArray, List.set_cons_zero, List.set_cons_succ, i64_w, i32_w]
                                                        rfl
                                                       refine pure_ (i := 42) (N := some 243) (v := ?_) (a' := ?_) #[true, true, true, true, true, true, true, true, true, true, true, true, true, true, true, true, true, true, true, true, true, true, true, true, true, true, true, true, true, true, true, true, true, true, true, true, true, true, true, true, true, true, true] rfl rfl (any_of HT_.out (by kernel_rfl)) (fun _ _ _ h => h) (Or.inl ⟨by rfl, ?_⟩) ?_ ?_
                                                       rotate_left
                                                       ·
                                                        intro w'
                                                        go_simp
                                                        with_reducible rfl
                                                       rotate_left
                                                       ·
                                                        simp only [Act.put, List.setIfInBounds_toArray, List.set_cons_zero, List.set_cons_succ, i64_w, i32_w]
                                                        rfl
                                                       refine done_ (done_of HT_.out (by kernel_rfl)) ?_
                                                       try go_wp2
                                                       go_roundg k6
                                                       case measure => have := HJ9.out; have := HJ42.out; have := HJ51.out; have := HJ53.out; have := HJ63.out; have := HK6.out; omega
                                                       case rel => exact ⟨(wrap64 (x183_6 + 1)), (by first | rfl | (simp; done) | (simp [*]; done)), H', ⟨by have := HJ9.out; have := HJ42.out; have := HJ51.out; have := HJ53.out; have := HJ63.out; have := HK6.out; omega⟩, ⟨by (with_reducible repeat (first | apply Kd.S_alloc | apply Kd.S_drewN | apply Kd.S_drew)); exact Kd.S_mono HO_8.out (fun _ hk => hk.1)⟩, ⟨by (with_reducible repeat (first | apply Kd.S_alloc | apply Kd.S_drewN | apply Kd.S_drew)); exact Kd.S_mono HO_12.out (fun _ hk => ⟨hk.1.1, hk.1.2⟩)⟩, ⟨by (with_reducible repeat (first | apply Kd.S_alloc | apply Kd.S_drewN | apply Kd.S_drew)); exact Kd.S_mono HO_181.out (fun _ hk => hk.1)⟩, ⟨by repeat (first | (with_reducible first | exact HB.out | apply below_alloc | apply pw_below_drewN | apply below_drew1) | exact HB.out | exact Below.refl _ _)⟩⟩
                                                     ·
                                                      replace c97 := Bool.eq_false_iff.mpr c97
                                                      subst c97
                                                      have H1 : (some false) = some r := by rw [if_neg (show ¬ (false = true) by decide)] at H; exact H
                                                      exact absurd (H1.trans (congrArg some hrT)) (by simp)
                                                   ·
                                                    rw [if_neg c95] at H
                                                    exact absurd H (by simp)
                                                 ·
                                                  rw [if_neg c94] at H
                                                  exact absurd H (by simp)
                                               ·
                                                as_aux_lemma =>
                                                 rw [if_neg c92] at H
                                                 have c92b0 : decide (0 < x183_6) = false := decide_eq_false c92
                                                 clear c92
                                                 have H' := Aside0.mk H
                                                 clear H
                                                 have p364 : 0 ≤ (x183_6 : Int) := of_decide_eq_true (by first | (with_reducible assumption) | assumption)
                                                 have q364 : x183_6 < (t326.length : Int) := of_decide_eq_true (by first | (with_reducible assumption) | assumption)
                                                 obtain ⟨ad364, A364_0, c364_0, e364, hx364_0, hl364_0, hi364_0⟩ := at_L2 (Kd.S_reads' HO_181.out).2.2 x183_6 p364 q364
                                                 cases e364
                                                 obtain ⟨ce364, hce364, hMe364, hcc364⟩ := Kd.S_get HO_181.out [] x183_6 p364 (by first | exact q364 | exact of_decide_eq_true (by first | (with_reducible assumption) | assumption) | (have e_ := (Kd.S_reads' HO_181.out).1; omega))
                                                 obtain ⟨ve364_0, rfl, ge364_0⟩ := hMe364
                                                 have hv364_0 := hcc364 0 _ rfl
                                                 rw [Nat.add_zero, show ((Kd.slice 3 (Kd.int .i64))).sz = 1 from rfl, Nat.mul_one] at hv364_0
                                                 replace hv364_0 := Option.some.inj (hv364_0.symm.trans hx364_0)
                                                 rw [hv364_0] at ge364_0
                                                 have HL364_0 := Aside0.mk (show Kd.R (Kd.int .i64) 3 _ _ _ _ (rd_L2 t326 x183_6) from ge364_0)
                                                 clear hv364_0 ge364_0
                                                 clear hcc364 hce364
                                                 have HR364_0 := Aside0.mk hi364_0
                                                 have HC364_0 := Aside0.mk hl364_0
                                                 clear hi364_0 hl364_0
                                                 replace p364 := eq_true p364
                                                 replace q364 := eq_true q364
                                                 try go_wp2
                                                 have n0_ := Aside0.mk (Kd.S_drew HO_8.out)
                                                 have n1_ := Aside0.mk (Kd.S_drew HO_12.out)
                                                 have n2_ := Aside0.mk (Kd.S_drew HO_181.out)
                                                 have n3_ := Aside0.mk (Kd.R_drew HL364_0.out)
                                                 have n4_ := Aside0.mk (Kd.C_drew HR364_0.out)
                                                 have n5_ := Aside0.mk (below_drew1 HB.out)
                                                 clear HO_8; clear HO_12; clear HO_181; clear HL364_0; clear HR364_0; clear HB
                                                 have HO_8 := n0_
                                                 have HO_12 := n1_
                                                 have HO_181 := n2_
                                                 have HL364_0 := n3_
                                                 have HR364_0 := n4_
                                                 have HB := n5_
                                                 clear n0_ n1_ n2_ n3_ n4_ n5_
                                                 have p365 : 0 ≤ (0 : Int) := (by omega)
                                                 have q365 : 0 < ((rd_L2 t326 x183_6).length : Int) := of_decide_eq_true (by first | (with_reducible assumption) | assumption)
                                                 obtain ⟨ad365, e365, hx365_0⟩ := Kd.at_int (by repeat (first | (with_reducible exact HR364_0.out) | (with_reducible refine Kd.C_alloc ?_ _) | (with_reducible refine Kd.C_drewN ?_ _) | (with_reducible refine Kd.C_drew ?_) | exact HR364_0.out)) 0 p365 q365
                                                 cases e365
                                                 have qi365 : (0 < (rd_L2 t326 x183_6).length) = True := eq_true (by omega)
                                                 (try rw [show ((0 : Int)).toNat = 0 from rfl] at hx365_0)
                                                 (try rw [Addr.add_zero'] at hx365_0)
                                                 replace p365 := eq_true p365
                                                 replace q365 := eq_true q365
                                                 have p366 : 0 ≤ (1 : Int) := (by omega)
                                                 have q366 : 1 < ((rd_L2 t326 x183_6).length : Int) := of_decide_eq_true (by first | (with_reducible assumption) | assumption)
                                                 obtain ⟨ad366, e366, hx366_0⟩ := Kd.at_int (by repeat (first | (with_reducible exact HR364_0.out) | (with_reducible refine Kd.C_alloc ?_ _) | (with_reducible refine Kd.C_drewN ?_ _) | (with_reducible refine Kd.C_drew ?_) | exact HR364_0.out)) 1 p366 q366
                                                 obtain rfl : ad365 = ad366 := (by injection e366)
                                                 (try simp only [show (1 : Int).toNat = 1 from rfl, Nat.reduceMul, Nat.reduceEqDiff, Go.Addr.add, ↓reduceIte] at hx366_0)
                                                 have qi366 : (1 < (rd_L2 t326 x183_6).length) = True := eq_true (by omega)
                                                 (try rw [show ((1 : Int)).toNat = 1 from rfl] at hx366_0)
                                                 replace p366 := eq_true p366
                                                 replace q366 := eq_true q366
                                                 refine start_ (n := 16) (S := fun w' => w'.cell? ad365 = some (.int .i64 (rd (rd_L2 t326 x183_6) 0)) ∧ w'.cell? ⟨ad365.block, ad365.off + 1, none⟩ = some (.int .i64 (rd (rd_L2 t326 x183_6) 1))) (ds := []) #[false, false, false, false, false, false, false, false, false, false, false, false, false, false, false, false] (by kernel_rfl) rfl rfl ⟨hx365_0, hx366_0⟩ (fun hHeld => ?_); refine with_tabW laws_FnClassesOfPairs.tab32 laws_FnClassesOfPairs.bits32 (fun HT_ HW_ => ?_)
                                                 generalize wr.drew = w112 at HO_8 HO_12 HO_181 HL364_0 HR364_0 HB hx365_0 hx366_0 hHeld ⊢
                                                 refine pure_ (i := 0) (N := some 189) (v := ?_) (a' := ?_) #[true, false, false, false, false, false, false, false, false, false, false, false, false, false, false, false] rfl rfl (any_of HT_.out (by kernel_rfl)) (fun _ _ _ h => h) (Or.inl ⟨by rfl, ?_⟩) ?_ ?_
                                                 rotate_left
                                                 ·
                                                  intro w'
                                                  go_simp
                                                  with_reducible rfl
                                                 rotate_left
                                                 ·
                                                  simp only [Act.put, List.setIfInBounds_toArray, List.set_cons_zero, List.set_cons_succ, i64_w, i32_w]
                                                  rfl
                                                 refine pure_ (i := 1) (N := some 190) (v := ?_) (a' := ?_) #[true, true, false, false, false, false, false, false, false, false, false, false, false, false, false, false] rfl rfl (any_of HT_.out (by kernel_rfl)) (fun _ _ _ h => h) (Or.inl ⟨by rfl, ?_⟩) ?_ ?_
                                                 rotate_left
                                                 ·
                                                  intro w'
                                                  go_simp
                                                  with_reducible rfl
                                                 rotate_left
                                                 ·
                                                  simp only [Act.put, List.setIfInBounds_toArray, List.set_cons_zero, List.set_cons_succ, i64_w, i32_w]
                                                  rfl
                                                 refine pure_ (i := 3) (N := some 192) (v := ?_) (a' := ?_) #[true, true, false, true, false, false, false, false, false, false, false, false, false, false, false, false] rfl rfl (any_of HT_.out (by kernel_rfl)) (fun _ _ _ h => h) (Or.inl ⟨by rfl, ?_⟩) ?_ ?_
                                                 rotate_left
                                                 ·
                                                  intro w'
                                                  go_simp
                                                  with_reducible rfl
                                                 rotate_left
                                                 ·
                                                  simp only [Act.put, List.setIfInBounds_toArray, List.set_cons_zero, List.set_cons_succ, i64_w, i32_w]
                                                  rfl
                                                 refine pure_ (i := 4) (N := some 193) (v := ?_) (a' := ?_) #[true, true, false, true, true, false, false, false, false, false, false, false, false, false, false, false] rfl rfl (any_of HT_.out (by kernel_rfl)) (fun _ _ _ h => h) (Or.inl ⟨by rfl, ?_⟩) ?_ ?_
                                                 rotate_left
                                                 ·
                                                  intro w'
                                                  go_simp
                                                  with_reducible rfl
                                                 rotate_left
                                                 ·
                                                  simp only [Act.put, List.setIfInBounds_toArray, List.set_cons_zero, List.set_cons_succ, i64_w, i32_w]
                                                  rfl
                                                 refine pure_ (i := 6) (N := some 195) (v := ?_) (a' := ?_) #[true, true, false, true, true, false, true, false, false, false, false, false, false, false, false, false] rfl rfl (any_of HT_.out (by kernel_rfl)) (fun _ _ _ h => h) (Or.inl ⟨by rfl, ?_⟩) ?_ ?_
                                                 rotate_left
                                                 ·
                                                  intro w'
                                                  go_simp
                                                  with_reducible rfl
                                                 rotate_left
                                                 ·
                                                  simp only [Act.put, List.setIfInBounds_toArray, List.set_cons_zero, List.set_cons_succ, i64_w, i32_w]
                                                  rfl
                                                 refine pure_ (i := 7) (N := some 196) (v := ?_) (a' := ?_) #[true, true, false, true, true, false, true, true, false, false, false, false, false, false, false, false] rfl rfl (any_of HT_.out (by kernel_rfl)) (fun _ _ _ h => h) (Or.inl ⟨by rfl, ?_⟩) ?_ ?_
                                                 rotate_left
                                                 ·
                                                  intro w'
                                                  go_simp
                                                  with_reducible rfl
                                                 rotate_left
                                                 ·
                                                  simp only [Act.put, List.setIfInBounds_toArray, List.set_cons_zero, List.set_cons_succ, i64_w, i32_w]
                                                  rfl
                                                 refine take_ (i := 2) (N := some 191) (v := ?_) (a' := ?_) #[true, true, true, true, true, false, true, true, false, false, false, false, false, false, false, false] rfl rfl (take_ofW HT_.out HW_.out (by kernel_rfl)) (fun _ _ _ h => h) (Or.inl ⟨by rfl, ?_⟩) hHeld ?_ ?_
                                                 rotate_left
                                                 ·
                                                  rintro w' ⟨s0, s1⟩
                                                  go_simp
                                                  with_reducible rfl
                                                 rotate_left
                                                 ·
                                                  simp only [Act.put, List.setIfInBounds_toArray, List.set_cons_zero, List.set_cons_succ, i64_w, i32_w]
                                                  rfl
                                                 refine take_ (i := 5) (N := some 194) (v := ?_) (a' := ?_) #[true, true, true, true, true, true, true, true, false, false, false, false, false, false, false, false] rfl rfl (take_ofW HT_.out HW_.out (by kernel_rfl)) (fun _ _ _ h => h) (Or.inl ⟨by rfl, ?_⟩) hHeld ?_ ?_
                                                 rotate_left
                                                 ·
                                                  rintro w' ⟨s0, s1⟩
                                                  go_simp
                                                  with_reducible rfl
                                                 rotate_left
                                                 ·
                                                  simp only [Act.put, List.setIfInBounds_toArray, List.set_cons_zero, List.set_cons_succ, i64_w, i32_w]
                                                  rfl
                                                 refine one_ (i := 8) (N := some 197) #[true, true, true, true, true, true, true, true, true, false, false, false, false, false, false, false] rfl rfl (one_of HT_.out (by kernel_rfl)) (by decide) (fun K hK => ?_)
                                                 refine goes_ Try.func19 (by kernel_rfl) rfl #[.int .i64 (rd (rd_L2 t326 x183_6) 0), .int .i64 (rd (rd_L2 t326 x183_6) 1), .int .i64 t323, .int .i64 t324] (by rfl) rfl rfl (by (try simp only [List.map_toArray, List.map_cons, List.map_nil]); first | done | rfl | (simp only [List.length_drop, List.length_take]; rfl)) ?_
                                                 with_reducible refine (impl_LeastPair.calls k6 (rd (rd_L2 t326 x183_6) 0) (rd (rd_L2 t326 x183_6) 1) t323 t324 t367 t368 true _ A78.out).mono ?_
                                                 rintro e w113 ⟨rfl, hb⟩
                                                 have HS0_ := (hb.cell (World.block_lt_of_cell? _ _ (hHeld.1))).trans (hHeld.1)
                                                 have HS1_ := (hb.cell (World.block_lt_of_cell? _ _ (hHeld.2))).trans (hHeld.2)
                                                 refine ⟨_, rfl, ?_⟩
                                                 have n0_ := Aside0.mk (Kd.S_below (by (with_reducible repeat (first | apply Kd.S_alloc | apply Kd.S_drewN | apply Kd.S_drew)); exact HO_8.out) hb)
                                                 have n1_ := Aside0.mk (Kd.S_below (by (with_reducible repeat (first | apply Kd.S_alloc | apply Kd.S_drewN | apply Kd.S_drew)); exact HO_12.out) hb)
                                                 have n2_ := Aside0.mk (Kd.S_below (by (with_reducible repeat (first | apply Kd.S_alloc | apply Kd.S_drewN | apply Kd.S_drew)); exact HO_181.out) hb)
                                                 have n3_ := Aside0.mk (Kd.R_below (by (with_reducible repeat (first | apply Kd.R_alloc | apply Kd.R_drewN | apply Kd.R_drew)); exact HL364_0.out) hb)
                                                 have n4_ := Aside0.mk ((by with_reducible first | exact Kd.C_below HR364_0.out hb | exact Kd.C_below (Kd.C_drewN HR364_0.out _) hb | exact Kd.C_below (Kd.C_alloc HR364_0.out _) hb | exact Kd.C_below (Kd.C_drewN (Kd.C_drewN HR364_0.out _) _) hb))
                                                 have n5_ := Aside0.mk (below_step (by repeat (first | (with_reducible first | exact HB.out | apply below_alloc | apply pw_below_drewN | apply below_drew1) | exact HB.out | exact Below.refl _ _)) hb)
                                                 clear HO_8; clear HO_12; clear HO_181; clear HL364_0; clear HR364_0; clear HB
                                                 have HO_8 := n0_
                                                 have HO_12 := n1_
                                                 have HO_181 := n2_
                                                 have HL364_0 := n3_
                                                 have HR364_0 := n4_
                                                 have HB := n5_
                                                 clear n0_ n1_ n2_ n3_ n4_ n5_
                                                 (try clear hb)
                                                 (try clear hb2)
                                                 (try clear hk)
                                                 (try clear hi)
                                                 refine hK.out _ _ ⟨HS0_, HS1_⟩ (fun hHeld => ?_)
                                                 clear hK K
                                                 refine norm_ (a' := ?_) ?_ ?_
                                                 rotate_left
                                                 ·
                                                  show Act.put _ (some 197) _ = _
                                                  simp only [Act.put, List.setIfInBounds_toArray, List.set_cons_zero, List.set_cons_succ, i64_w, i32_w]
                                                  rfl
                                                 refine pure_ (i := 9) (N := some 188) (v := ?_) (a' := ?_) #[true, true, true, true, true, true, true, true, true, true, false, false, false, false, false, false] rfl rfl (any_of HT_.out (by kernel_rfl)) (fun _ _ _ h => h) (Or.inl ⟨by rfl, ?_⟩) ?_ ?_
                                                 rotate_left
                                                 ·
                                                  intro w'
                                                  go_simp
                                                  with_reducible rfl
                                                 rotate_left
                                                 ·
                                                  simp only [Act.put, List.setIfInBounds_toArray, List.set_cons_zero, List.set_cons_succ, i64_w, i32_w]
                                                  rfl
                                                 refine pure_ (i := 10) (N := some 198) (v := ?_) (a' := ?_) #[true, true, true, true, true, true, true, true, true, true, true, false, false, false, false, false] rfl rfl (any_of HT_.out (by kernel_rfl)) (fun _ _ _ h => h) (Or.inl ⟨by rfl, ?_⟩) ?_ ?_
                                                 rotate_left
                                                 ·
                                                  intro w'
                                                  go_simp
                                                  with_reducible rfl
                                                 rotate_left
                                                 ·
                                                  simp only [Act.put, List.setIfInBounds_toArray, List.set_cons_zero, List.set_cons_succ, i64_w, i32_w]
                                                  rfl
                                                 refine pure_ (i := 11) (N := some 199) (v := ?_) (a' := ?_) #[true, true, true, true, true, true, true, true, true, true, true, true, false, false, false, false] rfl rfl (any_of HT_.out (by kernel_rfl)) (fun _ _ _ h => h) (Or.inl ⟨by rfl, ?_⟩) ?_ ?_
                                                 rotate_left
                                                 ·
                                                  intro w'
                                                  go_simp
                                                  with_reducible rfl
                                                 rotate_left
                                                 ·
                                                  simp only [Act.put, List.setIfInBounds_toArray, List.set_cons_zero, List.set_cons_succ, i64_w, i32_w]
                                                  rfl
                                                 refine pure_ (i := 12) (N := some 200) (v := ?_) (a' := ?_) #[true, true, true, true, true, true, true, true, true, true, true, true, true, false, false, false] rfl rfl (any_of HT_.out (by kernel_rfl)) (fun _ _ _ h => h) (Or.inl ⟨by rfl, ?_⟩) ?_ ?_
                                                 rotate_left
                                                 ·
                                                  intro w'
                                                  go_simp
                                                  with_reducible rfl
                                                 rotate_left
                                                 ·
                                                  simp only [Act.put, List.setIfInBounds_toArray, List.set_cons_zero, List.set_cons_succ, i64_w, i32_w]
                                                  rfl
                                                 refine pure_ (i := 13) (N := some 33) (v := ?_) (a' := ?_) #[true, true, true, true, true, true, true, true, true, true, true, true, true, true, false, false] rfl rfl (any_of HT_.out (by kernel_rfl)) (fun _ _ _ h => h) (Or.inl ⟨by rfl, ?_⟩) ?_ ?_
                                                 rotate_left
                                                 ·
                                                  intro w'
                                                  go_simp
                                                  with_reducible rfl
                                                 rotate_left
                                                 ·
                                                  simp only [Act.put, List.setIfInBounds_toArray, List.set_cons_zero, List.set_cons_succ, i64_w, i32_w]
                                                  rfl
                                                 refine pure_ (i := 14) (N := some 34) (v := ?_) (a' := ?_) #[true, true, true, true, true, true, true, true, true, true, true, true, true, true, true, false] rfl rfl (any_of HT_.out (by kernel_rfl)) (fun _ _ _ h => h) (Or.inl ⟨by rfl, ?_⟩) ?_ ?_
                                                 rotate_left
                                                 ·
                                                  intro w'
                                                  go_simp
                                                  with_reducible rfl
                                                 rotate_left
                                                 ·
                                                  simp only [Act.put, List.setIfInBounds_toArray, List.set_cons_zero, List.set_cons_succ, i64_w, i32_w]
                                                  rfl
                                                 refine pure_ (i := 15) (N := some 35) (v := ?_) (a' := ?_) #[true, true, true, true, true, true, true, true, true, true, true, true, true, true, true, true] rfl rfl (any_of HT_.out (by kernel_rfl)) (fun _ _ _ h => h) (Or.inl ⟨by rfl, ?_⟩) ?_ ?_
                                                 rotate_left
                                                 ·
                                                  intro w'
                                                  go_simp
                                                  with_reducible rfl
                                                 rotate_left
                                                 ·
                                                  simp only [Act.put, List.setIfInBounds_toArray, List.set_cons_zero, List.set_cons_succ, i64_w, i32_w]
                                                  rfl
                                                 refine done_ (done_of HT_.out (by kernel_rfl)) ?_
                                                 try go_wp2
                                                 have n0_ := Aside0.mk (Kd.S_drew HO_8.out)
                                                 have n1_ := Aside0.mk (Kd.S_drew HO_12.out)
                                                 have n2_ := Aside0.mk (Kd.S_drew HO_181.out)
                                                 have n3_ := Aside0.mk (Kd.R_drew HL364_0.out)
                                                 have n4_ := Aside0.mk (Kd.C_drew HR364_0.out)
                                                 have n5_ := Aside0.mk (below_drew1 HB.out)
                                                 clear HO_8; clear HO_12; clear HO_181; clear HL364_0; clear HR364_0; clear HB
                                                 have HO_8 := n0_
                                                 have HO_12 := n1_
                                                 have HO_181 := n2_
                                                 have HL364_0 := n3_
                                                 have HR364_0 := n4_
                                                 have HB := n5_
                                                 clear n0_ n1_ n2_ n3_ n4_ n5_
                                                 have p374 : 0 ≤ (0 : Int) := (by omega)
                                                 have q374 : 0 < ((rd_L2 t326 x183_6).length : Int) := of_decide_eq_true (by first | (with_reducible assumption) | assumption)
                                                 obtain ⟨ad374, e374, hx374_0⟩ := Kd.at_int (by repeat (first | (with_reducible exact HR364_0.out) | (with_reducible refine Kd.C_alloc ?_ _) | (with_reducible refine Kd.C_drewN ?_ _) | (with_reducible refine Kd.C_drew ?_) | exact HR364_0.out)) 0 p374 q374
                                                 obtain rfl : ad365 = ad374 := (by injection e374)
                                                 have qi374 : (0 < (rd_L2 t326 x183_6).length) = True := eq_true (by omega)
                                                 (try rw [show ((0 : Int)).toNat = 0 from rfl] at hx374_0)
                                                 (try rw [Addr.add_zero'] at hx374_0)
                                                 replace p374 := eq_true p374
                                                 replace q374 := eq_true q374
                                                 have p375 : 0 ≤ (1 : Int) := (by omega)
                                                 have q375 : 1 < ((rd_L2 t326 x183_6).length : Int) := of_decide_eq_true (by first | (with_reducible assumption) | assumption)
                                                 obtain ⟨ad375, e375, hx375_0⟩ := Kd.at_int (by repeat (first | (with_reducible exact HR364_0.out) | (with_reducible refine Kd.C_alloc ?_ _) | (with_reducible refine Kd.C_drewN ?_ _) | (with_reducible refine Kd.C_drew ?_) | exact HR364_0.out)) 1 p375 q375
                                                 obtain rfl : ad365 = ad375 := (by injection e375)
                                                 (try simp only [show (1 : Int).toNat = 1 from rfl, Nat.reduceMul, Nat.reduceEqDiff, Go.Addr.add, ↓reduceIte] at hx375_0)
                                                 have qi375 : (1 < (rd_L2 t326 x183_6).length) = True := eq_true (by omega)
                                                 (try rw [show ((1 : Int)).toNat = 1 from rfl] at hx375_0)
                                                 replace p375 := eq_true p375
                                                 replace q375 := eq_true q375
                                                 have p377 : 0 ≤ (0 : Int) := (by omega)
                                                 have q377 : 0 < ((rd_L2 t326 x183_6).length : Int) := of_decide_eq_true (by first | (with_reducible assumption) | assumption)
                                                 obtain ⟨ad377, e377, hx377_0⟩ := Kd.at_int (by repeat (first | (with_reducible exact HR364_0.out) | (with_reducible refine Kd.C_alloc ?_ _) | (with_reducible refine Kd.C_drewN ?_ _) | (with_reducible refine Kd.C_drew ?_) | exact HR364_0.out)) 0 p377 q377
                                                 obtain rfl : ad365 = ad377 := (by injection e377)
                                                 have qi377 : (0 < (rd_L2 t326 x183_6).length) = True := eq_true (by omega)
                                                 (try rw [show ((0 : Int)).toNat = 0 from rfl] at hx377_0)
                                                 (try rw [Addr.add_zero'] at hx377_0)
                                                 replace p377 := eq_true p377
                                                 replace q377 := eq_true q377
                                                 refine start_ (n := 43) (S := fun w' => w'.cell? ad365 = some (.int .i64 (rd (rd_L2 t326 x183_6) 0)) ∧ w'.cell? ⟨ad365.block, ad365.off + 1, none⟩ = some (.int .i64 (rd (rd_L2 t326 x183_6) 1)) ∧ w'.cell? ad365 = some (.int .i64 (rd (rd_L2 t326 x183_6) 0))) (ds := []) #[false, false, false, false, false, false, false, false, false, false, false, false, false, false, false, false, false, false, false, false, false, false, false, false, false, false, false, false, false, false, false, false, false, false, false, false, false, false, false, false, false, false, false] (by kernel_rfl) rfl rfl ⟨hx374_0, hx375_0, hx377_0⟩ (fun hHeld => ?_); refine with_tabW laws_FnClassesOfPairs.tab33 laws_FnClassesOfPairs.bits33 (fun HT_ HW_ => ?_)
                                                 generalize w113.drew = w114 at HO_8 HO_12 HO_181 HL364_0 HR364_0 HB hHeld ⊢
                                                 refine pure_ (i := 0) (N := some 201) (v := ?_) (a' := ?_) #[true, false, false, false, false, false, false, false, false, false, false, false, false, false, false, false, false, false, false, false, false, false, false, false, false, false, false, false, false, false, false, false, false, false, false, false, false, false, false, false, false, false, false] rfl rfl (any_of HT_.out (by kernel_rfl)) (fun _ _ _ h => h) (Or.inl ⟨by rfl, ?_⟩) ?_ ?_
                                                 rotate_left
                                                 ·
                                                  intro w'
                                                  go_simp
                                                  with_reducible rfl
                                                 rotate_left
                                                 ·
                                                  simp only [Act.put, List.setIfInBounds_toArray, List.set_cons_zero, List.set_cons_succ, i64_w, i32_w]
                                                  rfl
                                                 refine pure_ (i := 1) (N := some 202) (v := ?_) (a' := ?_) #[true, true, false, false, false, false, false, false, false, false, false, false, false, false, false, false, false, false, false, false, false, false, false, false, false, false, false, false, false, false, false, false, false, false, false, false, false, false, false, false, false, false, false] rfl rfl (any_of HT_.out (by kernel_rfl)) (fun _ _ _ h => h) (Or.inl ⟨by rfl, ?_⟩) ?_ ?_
                                                 rotate_left
                                                 ·
                                                  intro w'
                                                  go_simp
                                                  with_reducible rfl
                                                 rotate_left
                                                 ·
                                                  simp only [Act.put, List.setIfInBounds_toArray, List.set_cons_zero, List.set_cons_succ, i64_w, i32_w]
                                                  rfl
                                                 refine pure_ (i := 2) (N := some 203) (v := ?_) (a' := ?_) #[true, true, true, false, false, false, false, false, false, false, false, false, false, false, false, false, false, false, false, false, false, false, false, false, false, false, false, false, false, false, false, false, false, false, false, false, false, false, false, false, false, false, false] rfl rfl (any_of HT_.out (by kernel_rfl)) (fun _ _ _ h => h) (Or.inl ⟨by rfl, ?_⟩) ?_ ?_
                                                 rotate_left
                                                 ·
                                                  intro w'
                                                  go_simp
                                                  with_reducible rfl
                                                 rotate_left
                                                 ·
                                                  simp only [Act.put, List.setIfInBounds_toArray, List.set_cons_zero, List.set_cons_succ, i64_w, i32_w]
                                                  rfl
                                                 refine pure_ (i := 3) (N := some 204) (v := ?_) (a' := ?_) #[true, true, true, true, false, false, false, false, false, false, false, false, false, false, false, false, false, false, false, false, false, false, false, false, false, false, false, false, false, false, false, false, false, false, false, false, false, false, false, false, false, false, false] rfl rfl (any_of HT_.out (by kernel_rfl)) (fun _ _ _ h => h) (Or.inl ⟨by rfl, ?_⟩) ?_ ?_
                                                 rotate_left
                                                 ·
                                                  intro w'
                                                  go_simp
                                                  with_reducible rfl
                                                 rotate_left
                                                 ·
                                                  simp only [Act.put, List.setIfInBounds_toArray, List.set_cons_zero, List.set_cons_succ, i64_w, i32_w]
                                                  rfl
                                                 refine pure_ (i := 4) (N := some 205) (v := ?_) (a' := ?_) #[true, true, true, true, true, false, false, false, false, false, false, false, false, false, false, false, false, false, false, false, false, false, false, false, false, false, false, false, false, false, false, false, false, false, false, false, false, false, false, false, false, false, false] rfl rfl (any_of HT_.out (by kernel_rfl)) (fun _ _ _ h => h) (Or.inl ⟨by rfl, ?_⟩) ?_ ?_
                                                 rotate_left
                                                 ·
                                                  intro w'
                                                  go_simp
                                                  with_reducible rfl
                                                 rotate_left
                                                 ·
                                                  simp only [Act.put, List.setIfInBounds_toArray, List.set_cons_zero, List.set_cons_succ, i64_w, i32_w]
                                                  rfl
                                                 refine pure_ (i := 5) (N := some 206) (v := ?_) (a' := ?_) #[true, true, true, true, true, true, false, false, false, false, false, false, false, false, false, false, false, false, false, false, false, false, false, false, false, false, false, false, false, false, false, false, false, false, false, false, false, false, false, false, false, false, false] rfl rfl (any_of HT_.out (by kernel_rfl)) (fun _ _ _ h => h) (Or.inl ⟨by rfl, ?_⟩) ?_ ?_
                                                 rotate_left
                                                 ·
                                                  intro w'
                                                  go_simp
                                                  with_reducible rfl
                                                 rotate_left
                                                 ·
                                                  simp only [Act.put, List.setIfInBounds_toArray, List.set_cons_zero, List.set_cons_succ, i64_w, i32_w]
                                                  rfl
                                                 refine one_ (i := 6) (N := some 207) #[true, true, true, true, true, true, true, false, false, false, false, false, false, false, false, false, false, false, false, false, false, false, false, false, false, false, false, false, false, false, false, false, false, false, false, false, false, false, false, false, false, false, false] rfl rfl (one_of HT_.out (by kernel_rfl)) (by decide) (fun K hK => ?_)
                                                 refine Kd.R_lit_step (Kd.int .i64) _ 3 ?hg (N := 207) ?hd (xs := ([t367, t368] : List Int)) (inner := [.int .i64 t367, .int .i64 t368]) (ok := fun _ => True) (okp := fun _ => True) ?hr ?hp (fun _ hk => hk) trivial (Below.refl _ _) (Nat.le_refl _) (by simp) ?_; (case hd => rfl); (case hg => rfl); (case hr => first | (go_simp; done) | (go_simp; rfl)); (case hp => exact (Reps.one (show Kd.M (Kd.int .i64) _ _ _ t367 [.int .i64 t367] from rfl) (Reps.one (show Kd.M (Kd.int .i64) _ _ _ t368 [.int .i64 t368] from rfl) (Reps.none _ _))))
                                                 intro v371 w115 ho116 hb hg_ hnew_
                                                 have HS0_ := (hb.cell (World.block_lt_of_cell? _ _ (hHeld.1))).trans (hHeld.1)
                                                 have HS1_ := (hb.cell (World.block_lt_of_cell? _ _ (hHeld.2.1))).trans (hHeld.2.1)
                                                 have HS2_ := (hb.cell (World.block_lt_of_cell? _ _ (hHeld.2.2))).trans (hHeld.2.2)
                                                 clear hg_ hnew_
                                                 (first | rw [← Ny370.out] at ho116 | (simp only [Int.reduceToNat] at ho116; rw [← Ny370.out] at ho116))
                                                 have n0_ := Aside0.mk (Kd.S_elder' (by (with_reducible repeat (first | apply Kd.S_alloc | apply Kd.S_drewN | apply Kd.S_drew)); exact HO_8.out) (Kd.R_base ho116) hb)
                                                 have n1_ := Aside0.mk (Kd.S_elder' (by (with_reducible repeat (first | apply Kd.S_alloc | apply Kd.S_drewN | apply Kd.S_drew)); exact HO_12.out) (Kd.R_base ho116) hb)
                                                 have n2_ := Aside0.mk (Kd.S_elder' (by (with_reducible repeat (first | apply Kd.S_alloc | apply Kd.S_drewN | apply Kd.S_drew)); exact HO_181.out) (Kd.R_base ho116) hb)
                                                 have n3_ := Aside0.mk (Kd.R_elder' (by (with_reducible repeat (first | apply Kd.R_alloc | apply Kd.R_drewN | apply Kd.R_drew)); exact HL364_0.out) (Kd.R_base ho116) hb)
                                                 have n4_ := Aside0.mk (Kd.R_lower (Kd.R_new' ho116 (Kd.R_lt (by (with_reducible repeat (first | apply Kd.R_alloc | apply Kd.R_drewN | apply Kd.R_drew)); exact HL364_0.out))) (below_size (by repeat (first | (with_reducible first | exact HB.out | apply below_alloc | apply pw_below_drewN | apply below_drew1) | exact HB.out | exact Below.refl _ _))))
                                                 have n5_ := Aside0.mk ((by with_reducible first | exact Kd.C_below HR364_0.out hb | exact Kd.C_below (Kd.C_drewN HR364_0.out _) hb | exact Kd.C_below (Kd.C_alloc HR364_0.out _) hb | exact Kd.C_below (Kd.C_drewN (Kd.C_drewN HR364_0.out _) _) hb))
                                                 have n6_ := Aside0.mk (below_step (by repeat (first | (with_reducible first | exact HB.out | apply below_alloc | apply pw_below_drewN | apply below_drew1) | exact HB.out | exact Below.refl _ _)) hb)
                                                 clear HO_8; clear HO_12; clear HO_181; clear HL364_0; clear HR364_0; clear HB
                                                 have HO_8 := n0_
                                                 have HO_12 := n1_
                                                 have HO_181 := n2_
                                                 have HL364_0 := n3_
                                                 have HO372 := n4_
                                                 have HR364_0 := n5_
                                                 have HB := n6_
                                                 clear n0_ n1_ n2_ n3_ n4_ n5_ n6_
                                                 clear hb ho116
                                                 obtain ⟨Ao117, co117, eo117⟩ := Kd.S_slice HO_12.out
                                                 (first | subst eo117 | (injection eo117 with f1_ f2_ f3_; have f4_ := f1_.symm; have f5_ := f3_.symm; clear f1_ f2_ f3_; subst f4_; subst f5_))
                                                 obtain ⟨Ao118, co118, eo118⟩ := Kd.R_slice HO372.out
                                                 (first | subst eo118 | (injection eo118 with f1_ f2_ f3_; have f4_ := f1_.symm; have f5_ := f3_.symm; clear f1_ f2_ f3_; subst f4_; subst f5_))
                                                 refine hK.out _ _ ⟨HS0_, HS1_, HS2_⟩ (fun hHeld => ?_)
                                                 clear hK K
                                                 refine norm_ (a' := ?_) ?_ ?_
                                                 rotate_left
                                                 ·
                                                  show Act.put _ (some 207) _ = _
                                                  simp only [Act.put, List.setIfInBounds_toArray, List.set_cons_zero, List.set_cons_succ, i64_w, i32_w]
                                                  rfl
                                                 refine one_ (i := 7) (N := some 208) #[true, true, true, true, true, true, true, true, false, false, false, false, false, false, false, false, false, false, false, false, false, false, false, false, false, false, false, false, false, false, false, false, false, false, false, false, false, false, false, false, false, false, false] rfl rfl (one_of HT_.out (by kernel_rfl)) (by decide) (fun K hK => ?_)
                                                 refine goes_ Try.func20 (by kernel_rfl) rfl #[.slice Ao117 t334.length co117, .slice Ao118 y370.length co118] (by rfl) rfl rfl (by (try simp only [List.map_toArray, List.map_cons, List.map_nil]); first | done | rfl | (simp only [List.length_drop, List.length_take]; rfl)) ?_
                                                 with_reducible refine (laws_vHas.calls k6 _ _ t334 _ _ y370 true _ ?side1 ?side2 ?side3 ?side4 A80.out).mono ?_
                                                 (case side1 => repeat (first | exact (Kd.S_reads' HO_12.out).2.2 | (with_reducible refine Kd.C_alloc ?_ _) | (with_reducible refine Kd.C_drewN ?_ _) | (with_reducible refine Kd.C_drew ?_)))
                                                 (case side2 => exact (Kd.S_reads' HO_12.out).2.1)
                                                 (case side3 => repeat (first | exact (Kd.R_reads' HO372.out).2.2 | (with_reducible refine Kd.C_alloc ?_ _) | (with_reducible refine Kd.C_drewN ?_ _) | (with_reducible refine Kd.C_drew ?_)))
                                                 (case side4 => exact (Kd.R_reads' HO372.out).2.1)
                                                 rintro e w' ⟨rfl, ⟨nd, rfl⟩⟩
                                                 refine ⟨_, rfl, ?_⟩
                                                 refine hK.out _ _ ⟨hHeld.1, hHeld.2.1, hHeld.2.2⟩ (fun hHeld => ?_)
                                                 clear hK K
                                                 refine norm_ (a' := ?_) ?_ ?_
                                                 rotate_left
                                                 ·
                                                  show Act.put _ (some 208) _ = _
                                                  simp only [Act.put, List.setIfInBounds_toArray, List.set_cons_zero, List.set_cons_succ, i64_w, i32_w]
                                                  rfl
                                                 refine pure_ (i := 8) (N := some 209) (v := ?_) (a' := ?_) #[true, true, true, true, true, true, true, true, true, false, false, false, false, false, false, false, false, false, false, false, false, false, false, false, false, false, false, false, false, false, false, false, false, false, false, false, false, false, false, false, false, false, false] rfl rfl (any_of HT_.out (by kernel_rfl)) (fun _ _ _ h => h) (Or.inl ⟨by rfl, ?_⟩) ?_ ?_
                                                 rotate_left
                                                 ·
                                                  intro w'
                                                  go_simp
                                                  with_reducible rfl
                                                 rotate_left
                                                 ·
                                                  simp only [Act.put, List.setIfInBounds_toArray, List.set_cons_zero, List.set_cons_succ, i64_w, i32_w]
                                                  rfl
                                                 refine pure_ (i := 9) (N := some 210) (v := ?_) (a' := ?_) #[true, true, true, true, true, true, true, true, true, true, false, false, false, false, false, false, false, false, false, false, false, false, false, false, false, false, false, false, false, false, false, false, false, false, false, false, false, false, false, false, false, false, false] rfl rfl (any_of HT_.out (by kernel_rfl)) (fun _ _ _ h => h) (Or.inl ⟨by rfl, ?_⟩) ?_ ?_
                                                 rotate_left
                                                 ·
                                                  intro w'
                                                  go_simp
                                                  with_reducible rfl
                                                 rotate_left
                                                 ·
                                                  simp only [Act.put, List.setIfInBounds_toArray, List.set_cons_zero, List.set_cons_succ, i64_w, i32_w]
                                                  rfl
                                                 refine pure_ (i := 10) (N := some 211) (v := ?_) (a' := ?_) #[true, true, true, true, true, true, true, true, true, true, true, false, false, false, false, false, false, false, false, false, false, false, false, false, false, false, false, false, false, false, false, false, false, false, false, false, false, false, false, false, false, false, false] rfl rfl (any_of HT_.out (by kernel_rfl)) (fun _ _ _ h => h) (Or.inl ⟨by rfl, ?_⟩) ?_ ?_
                                                 rotate_left
                                                 ·
                                                  intro w'
                                                  go_simp
                                                  with_reducible rfl
                                                 rotate_left
                                                 ·
                                                  simp only [Act.put, List.setIfInBounds_toArray, List.set_cons_zero, List.set_cons_succ, i64_w, i32_w]
                                                  rfl
                                                 refine pure_ (i := 11) (N := some 212) (v := ?_) (a' := ?_) #[true, true, true, true, true, true, true, true, true, true, true, true, false, false, false, false, false, false, false, false, false, false, false, false, false, false, false, false, false, false, false, false, false, false, false, false, false, false, false, false, false, false, false] rfl rfl (any_of HT_.out (by kernel_rfl)) (fun _ _ _ h => h) (Or.inl ⟨by rfl, ?_⟩) ?_ ?_
                                                 rotate_left
                                                 ·
                                                  intro w'
                                                  go_simp
                                                  with_reducible rfl
                                                 rotate_left
                                                 ·
                                                  simp only [Act.put, List.setIfInBounds_toArray, List.set_cons_zero, List.set_cons_succ, i64_w, i32_w]
                                                  rfl
                                                 refine pure_ (i := 12) (N := some 213) (v := ?_) (a' := ?_) #[true, true, true, true, true, true, true, true, true, true, true, true, true, false, false, false, false, false, false, false, false, false, false, false, false, false, false, false, false, false, false, false, false, false, false, false, false, false, false, false, false, false, false] rfl rfl (any_of HT_.out (by kernel_rfl)) (fun _ _ _ h => h) (Or.inl ⟨by rfl, ?_⟩) ?_ ?_
                                                 rotate_left
                                                 ·
                                                  intro w'
                                                  go_simp
                                                  with_reducible rfl
                                                 rotate_left
                                                 ·
                                                  simp only [Act.put, List.setIfInBounds_toArray, List.set_cons_zero, List.set_cons_succ, i64_w, i32_w]
                                                  rfl
                                                 refine pure_ (i := 14) (N := some 215) (v := ?_) (a' := ?_) #[true, true, true, true, true, true, true, true, true, true, true, true, true, false, true, false, false, false, false, false, false, false, false, false, false, false, false, false, false, false, false, false, false, false, false, false, false, false, false, false, false, false, false] rfl rfl (any_of HT_.out (by kernel_rfl)) (fun _ _ _ h => h) (Or.inl ⟨by rfl, ?_⟩) ?_ ?_
                                                 rotate_left
                                                 ·
                                                  intro w'
                                                  go_simp
                                                  with_reducible rfl
                                                 rotate_left
                                                 ·
                                                  simp only [Act.put, List.setIfInBounds_toArray, List.set_cons_zero, List.set_cons_succ, i64_w, i32_w]
                                                  rfl
                                                 refine pure_ (i := 15) (N := some 216) (v := ?_) (a' := ?_) #[true, true, true, true, true, true, true, true, true, true, true, true, true, false, true, true, false, false, false, false, false, false, false, false, false, false, false, false, false, false, false, false, false, false, false, false, false, false, false, false, false, false, false] rfl rfl (any_of HT_.out (by kernel_rfl)) (fun _ _ _ h => h) (Or.inl ⟨by rfl, ?_⟩) ?_ ?_
                                                 rotate_left
                                                 ·
                                                  intro w'
                                                  go_simp
                                                  with_reducible rfl
                                                 rotate_left
                                                 ·
                                                  simp only [Act.put, List.setIfInBounds_toArray, List.set_cons_zero, List.set_cons_succ, i64_w, i32_w]
                                                  rfl
                                                 refine pure_ (i := 17) (N := some 218) (v := ?_) (a' := ?_) #[true, true, true, true, true, true, true, true, true, true, true, true, true, false, true, true, false, true, false, false, false, false, false, false, false, false, false, false, false, false, false, false, false, false, false, false, false, false, false, false, false, false, false] rfl rfl (any_of HT_.out (by kernel_rfl)) (fun _ _ _ h => h) (Or.inl ⟨by rfl, ?_⟩) ?_ ?_
                                                 rotate_left
                                                 ·
                                                  intro w'
                                                  go_simp
                                                  with_reducible rfl
                                                 rotate_left
                                                 ·
                                                  simp only [Act.put, List.setIfInBounds_toArray, List.set_cons_zero, List.set_cons_succ, i64_w, i32_w]
                                                  rfl
                                                 refine pure_ (i := 18) (N := some 219) (v := ?_) (a' := ?_) #[true, true, true, true, true, true, true, true, true, true, true, true, true, false, true, true, false, true, true, false, false, false, false, false, false, false, false, false, false, false, false, false, false, false, false, false, false, false, false, false, false, false, false] rfl rfl (any_of HT_.out (by kernel_rfl)) (fun _ _ _ h => h) (Or.inl ⟨by rfl, ?_⟩) ?_ ?_
                                                 rotate_left
                                                 ·
                                                  intro w'
                                                  go_simp
                                                  with_reducible rfl
                                                 rotate_left
                                                 ·
                                                  simp only [Act.put, List.setIfInBounds_toArray, List.set_cons_zero, List.set_cons_succ, i64_w, i32_w]
                                                  rfl
                                                 refine take_ (i := 13) (N := some 214) (v := ?_) (a' := ?_) #[true, true, true, true, true, true, true, true, true, true, true, true, true, true, true, true, false, true, true, false, false, false, false, false, false, false, false, false, false, false, false, false, false, false, false, false, false, false, false, false, false, false, false] rfl rfl (take_ofW HT_.out HW_.out (by kernel_rfl)) (fun _ _ _ h => h) (Or.inl ⟨by rfl, ?_⟩) hHeld ?_ ?_
                                                 rotate_left
                                                 ·
                                                  rintro w' ⟨s0, s1, s2⟩
                                                  go_simp
                                                  with_reducible rfl
                                                 rotate_left
                                                 ·
                                                  simp only [Act.put, List.setIfInBounds_toArray, List.set_cons_zero, List.set_cons_succ, i64_w, i32_w]
                                                  rfl
                                                 refine take_ (i := 16) (N := some 217) (v := ?_) (a' := ?_) #[true, true, true, true, true, true, true, true, true, true, true, true, true, true, true, true, true, true, true, false, false, false, false, false, false, false, false, false, false, false, false, false, false, false, false, false, false, false, false, false, false, false, false] rfl rfl (take_ofW HT_.out HW_.out (by kernel_rfl)) (fun _ _ _ h => h) (Or.inl ⟨by rfl, ?_⟩) hHeld ?_ ?_
                                                 rotate_left
                                                 ·
                                                  rintro w' ⟨s0, s1, s2⟩
                                                  go_simp
                                                  with_reducible rfl
                                                 rotate_left
                                                 ·
                                                  simp only [Act.put, List.setIfInBounds_toArray, List.set_cons_zero, List.set_cons_succ, i64_w, i32_w]
                                                  rfl
                                                 refine one_ (i := 19) (N := some 220) #[true, true, true, true, true, true, true, true, true, true, true, true, true, true, true, true, true, true, true, true, false, false, false, false, false, false, false, false, false, false, false, false, false, false, false, false, false, false, false, false, false, false, false] rfl rfl (one_of HT_.out (by kernel_rfl)) (by decide) (fun K hK => ?_)
                                                 refine goes_ Try.func18 (by kernel_rfl) rfl #[.int .i64 (rd (rd_L2 t326 x183_6) 0), .int .i64 (rd (rd_L2 t326 x183_6) 1), .int .i64 t323, .int .i64 t324] (by rfl) rfl rfl (by (try simp only [List.map_toArray, List.map_cons, List.map_nil]); first | done | rfl | (simp only [List.length_drop, List.length_take]; rfl)) ?_
                                                 with_reducible refine (laws_vPair.calls (rd (rd_L2 t326 x183_6) 0) (rd (rd_L2 t326 x183_6) 1) t323 t324 true _ A82.out).mono ?_
                                                 rintro e w' ⟨rfl, ⟨nd, rfl⟩⟩
                                                 refine ⟨_, rfl, ?_⟩
                                                 refine hK.out _ _ ⟨hHeld.1, hHeld.2.1, hHeld.2.2⟩ (fun hHeld => ?_)
                                                 clear hK K
                                                 refine norm_ (a' := ?_) ?_ ?_
                                                 rotate_left
                                                 ·
                                                  show Act.put _ (some 220) _ = _
                                                  simp only [Act.put, List.setIfInBounds_toArray, List.set_cons_zero, List.set_cons_succ, i64_w, i32_w]
                                                  rfl
                                                 refine pure_ (i := 20) (N := some 221) (v := ?_) (a' := ?_) #[true, true, true, true, true, true, true, true, true, true, true, true, true, true, true, true, true, true, true, true, true, false, false, false, false, false, false, false, false, false, false, false, false, false, false, false, false, false, false, false, false, false, false] rfl rfl (any_of HT_.out (by kernel_rfl)) (fun _ _ _ h => h) (Or.inl ⟨by rfl, ?_⟩) ?_ ?_
                                                 rotate_left
                                                 ·
                                                  intro w'
                                                  go_simp
                                                  with_reducible rfl
                                                 rotate_left
                                                 ·
                                                  simp only [Act.put, List.setIfInBounds_toArray, List.set_cons_zero, List.set_cons_succ, i64_w, i32_w]
                                                  rfl
                                                 refine pure_ (i := 21) (N := some 222) (v := ?_) (a' := ?_) #[true, true, true, true, true, true, true, true, true, true, true, true, true, true, true, true, true, true, true, true, true, true, false, false, false, false, false, false, false, false, false, false, false, false, false, false, false, false, false, false, false, false, false] rfl rfl (any_of HT_.out (by kernel_rfl)) (fun _ _ _ h => h) (Or.inl ⟨by rfl, ?_⟩) ?_ ?_
                                                 rotate_left
                                                 ·
                                                  intro w'
                                                  go_simp
                                                  with_reducible rfl
                                                 rotate_left
                                                 ·
                                                  simp only [Act.put, List.setIfInBounds_toArray, List.set_cons_zero, List.set_cons_succ, i64_w, i32_w]
                                                  rfl
                                                 refine pure_ (i := 22) (N := some 223) (v := ?_) (a' := ?_) #[true, true, true, true, true, true, true, true, true, true, true, true, true, true, true, true, true, true, true, true, true, true, true, false, false, false, false, false, false, false, false, false, false, false, false, false, false, false, false, false, false, false, false] rfl rfl (any_of HT_.out (by kernel_rfl)) (fun _ _ _ h => h) (Or.inl ⟨by rfl, ?_⟩) ?_ ?_
                                                 rotate_left
                                                 ·
                                                  intro w'
                                                  go_simp
                                                  with_reducible rfl
                                                 rotate_left
                                                 ·
                                                  simp only [Act.put, List.setIfInBounds_toArray, List.set_cons_zero, List.set_cons_succ, i64_w, i32_w]
                                                  rfl
                                                 refine pure_ (i := 23) (N := some 224) (v := ?_) (a' := ?_) #[true, true, true, true, true, true, true, true, true, true, true, true, true, true, true, true, true, true, true, true, true, true, true, true, false, false, false, false, false, false, false, false, false, false, false, false, false, false, false, false, false, false, false] rfl rfl (any_of HT_.out (by kernel_rfl)) (fun _ _ _ h => h) (Or.inl ⟨by rfl, ?_⟩) ?_ ?_
                                                 rotate_left
                                                 ·
                                                  intro w'
                                                  go_simp
                                                  with_reducible rfl
                                                 rotate_left
                                                 ·
                                                  simp only [Act.put, List.setIfInBounds_toArray, List.set_cons_zero, List.set_cons_succ, i64_w, i32_w]
                                                  rfl
                                                 refine pure_ (i := 24) (N := some 225) (v := ?_) (a' := ?_) #[true, true, true, true, true, true, true, true, true, true, true, true, true, true, true, true, true, true, true, true, true, true, true, true, true, false, false, false, false, false, false, false, false, false, false, false, false, false, false, false, false, false, false] rfl rfl (any_of HT_.out (by kernel_rfl)) (fun _ _ _ h => h) (Or.inl ⟨by rfl, ?_⟩) ?_ ?_
                                                 rotate_left
                                                 ·
                                                  intro w'
                                                  go_simp
                                                  with_reducible rfl
                                                 rotate_left
                                                 ·
                                                  simp only [Act.put, List.setIfInBounds_toArray, List.set_cons_zero, List.set_cons_succ, i64_w, i32_w]
                                                  rfl
                                                 refine pure_ (i := 26) (N := some 227) (v := ?_) (a' := ?_) #[true, true, true, true, true, true, true, true, true, true, true, true, true, true, true, true, true, true, true, true, true, true, true, true, true, false, true, false, false, false, false, false, false, false, false, false, false, false, false, false, false, false, false] rfl rfl (any_of HT_.out (by kernel_rfl)) (fun _ _ _ h => h) (Or.inl ⟨by rfl, ?_⟩) ?_ ?_
                                                 rotate_left
                                                 ·
                                                  intro w'
                                                  go_simp
                                                  with_reducible rfl
                                                 rotate_left
                                                 ·
                                                  simp only [Act.put, List.setIfInBounds_toArray, List.set_cons_zero, List.set_cons_succ, i64_w, i32_w]
                                                  rfl
                                                 refine take_ (i := 25) (N := some 226) (v := ?_) (a' := ?_) #[true, true, true, true, true, true, true, true, true, true, true, true, true, true, true, true, true, true, true, true, true, true, true, true, true, true, true, false, false, false, false, false, false, false, false, false, false, false, false, false, false, false, false] rfl rfl (take_ofW HT_.out HW_.out (by kernel_rfl)) (fun _ _ _ h => h) (Or.inl ⟨by rfl, ?_⟩) hHeld ?_ ?_
                                                 rotate_left
                                                 ·
                                                  rintro w' ⟨s0, s1, s2⟩
                                                  go_simp
                                                  with_reducible rfl
                                                 rotate_left
                                                 ·
                                                  simp only [Act.put, List.setIfInBounds_toArray, List.set_cons_zero, List.set_cons_succ, i64_w, i32_w]
                                                  rfl
                                                 refine pure_ (i := 27) (N := some 228) (v := ?_) (a' := ?_) #[true, true, true, true, true, true, true, true, true, true, true, true, true, true, true, true, true, true, true, true, true, true, true, true, true, true, true, true, false, false, false, false, false, false, false, false, false, false, false, false, false, false, false] rfl rfl (any_of HT_.out (by kernel_rfl)) (fun _ _ _ h => h) (Or.inl ⟨by rfl, ?_⟩) ?_ ?_
                                                 rotate_left
                                                 ·
                                                  intro w'
                                                  go_simp
                                                  with_reducible rfl
                                                 rotate_left
                                                 ·
                                                  simp only [Act.put, List.setIfInBounds_toArray, List.set_cons_zero, List.set_cons_succ, i64_w, i32_w]
                                                  rfl
                                                 refine pure_ (i := 28) (N := some 229) (v := ?_) (a' := ?_) #[true, true, true, true, true, true, true, true, true, true, true, true, true, true, true, true, true, true, true, true, true, true, true, true, true, true, true, true, true, false, false, false, false, false, false, false, false, false, false, false, false, false, false] rfl rfl (any_of HT_.out (by kernel_rfl)) (fun _ _ _ h => h) (Or.inl ⟨by rfl, ?_⟩) ?_ ?_
                                                 rotate_left
                                                 ·
                                                  intro w'
                                                  go_simp
                                                  with_reducible rfl
                                                 rotate_left
                                                 ·
                                                  simp only [Act.put, List.setIfInBounds_toArray, List.set_cons_zero, List.set_cons_succ, i64_w, i32_w]
                                                  rfl
                                                 refine pure_ (i := 29) (N := some 230) (v := ?_) (a' := ?_) #[true, true, true, true, true, true, true, true, true, true, true, true, true, true, true, true, true, true, true, true, true, true, true, true, true, true, true, true, true, true, false, false, false, false, false, false, false, false, false, false, false, false, false] rfl rfl (any_of HT_.out (by kernel_rfl)) (fun _ _ _ h => h) (Or.inl ⟨by rfl, ?_⟩) ?_ ?_
                                                 rotate_left
                                                 ·
                                                  intro w'
                                                  go_simp
                                                  with_reducible rfl
                                                 rotate_left
                                                 ·
                                                  simp only [Act.put, List.setIfInBounds_toArray, List.set_cons_zero, List.set_cons_succ, i64_w, i32_w]
                                                  rfl
                                                 refine pure_ (i := 30) (N := some 231) (v := ?_) (a' := ?_) #[true, true, true, true, true, true, true, true, true, true, true, true, true, true, true, true, true, true, true, true, true, true, true, true, true, true, true, true, true, true, true, false, false, false, false, false, false, false, false, false, false, false, false] rfl rfl (any_of HT_.out (by kernel_rfl)) (fun _ _ _ h => h) (Or.inl ⟨by rfl, ?_⟩) ?_ ?_
                                                 rotate_left
                                                 ·
                                                  intro w'
                                                  go_simp
                                                  with_reducible rfl
                                                 rotate_left
                                                 ·
                                                  simp only [Act.put, List.setIfInBounds_toArray, List.set_cons_zero, List.set_cons_succ, i64_w, i32_w]
                                                  rfl
                                                 refine pure_ (i := 31) (N := some 232) (v := ?_) (a' := ?_) #[true, true, true, true, true, true, true, true, true, true, true, true, true, true, true, true, true, true, true, true, true, true, true, true, true, true, true, true, true, true, true, true, false, false, false, false, false, false, false, false, false, false, false] rfl rfl (any_of HT_.out (by kernel_rfl)) (fun _ _ _ h => h) (Or.inl ⟨by rfl, ?_⟩) ?_ ?_
                                                 rotate_left
                                                 ·
                                                  intro w'
                                                  go_simp
                                                  with_reducible rfl
                                                 rotate_left
                                                 ·
                                                  simp only [Act.put, List.setIfInBounds_toArray, List.set_cons_zero, List.set_cons_succ, i64_w, i32_w]
                                                  rfl
                                                 refine pure_ (i := 32) (N := some 233) (v := ?_) (a' := ?_) #[true, true, true, true, true, true, true, true, true, true, true, true, true, true, true, true, true, true, true, true, true, true, true, true, true, true, true, true, true, true, true, true, true, false, false, false, false, false, false, false, false, false, false] rfl rfl (any_of HT_.out (by kernel_rfl)) (fun _ _ _ h => h) (Or.inl ⟨by rfl, ?_⟩) ?_ ?_
                                                 rotate_left
                                                 ·
                                                  intro w'
                                                  go_simp
                                                  with_reducible rfl
                                                 rotate_left
                                                 ·
                                                  simp only [Act.put, List.setIfInBounds_toArray, List.set_cons_zero, List.set_cons_succ, i64_w, i32_w]
                                                  rfl
                                                 refine pure_ (i := 33) (N := some 234) (v := undef) (a' := ?_) #[true, true, true, true, true, true, true, true, true, true, true, true, true, true, true, true, true, true, true, true, true, true, true, true, true, true, true, true, true, true, true, true, true, true, false, false, false, false, false, false, false, false, false] rfl rfl (any_of HT_.out (by kernel_rfl)) (fun _ _ _ h => h) (Or.inr ⟨by rfl, rfl⟩) ?_ ?_
                                                 rotate_left
                                                 ·
                                                  simp only [Act.put, List.setIfInBounds_toArray, List.set_cons_zero, List.set_cons_succ, i64_w, i32_w]
                                                  rfl
                                                 refine pure_ (i := 34) (N := some 235) (v := undef) (a' := ?_) #[true, true, true, true, true, true, true, true, true, true, true, true, true, true, true, true, true, true, true, true, true, true, true, true, true, true, true, true, true, true, true, true, true, true, true, false, false, false, false, false, false, false, false] rfl rfl (any_of HT_.out (by kernel_rfl)) (fun _ _ _ h => h) (Or.inr ⟨by rfl, rfl⟩) ?_ ?_
                                                 rotate_left
                                                 ·
                                                  simp only [Act.put, List.setIfInBounds_toArray, List.set_cons_zero, List.set_cons_succ, i64_w, i32_w]
                                                  rfl
                                                 refine pure_ (i := 35) (N := some 236) (v := undef) (a' := ?_) #[true, true, true, true, true, true, true, true, true, true, true, true, true, true, true, true, true, true, true, true, true, true, true, true, true, true, true, true, true, true, true, true, true, true, true, true, false, false, false, false, false, false, false] rfl rfl (any_of HT_.out (by kernel_rfl)) (fun _ _ _ h => h) (Or.inr ⟨by rfl, rfl⟩) ?_ ?_
                                                 rotate_left
                                                 ·
                                                  simp only [Act.put, List.setIfInBounds_toArray, List.set_cons_zero, List.set_cons_succ, i64_w, i32_w]
                                                  rfl
                                                 refine pure_ (i := 36) (N := some 237) (v := undef) (a' := ?_) #[true, true, true, true, true, true, true, true, true, true, true, true, true, true, true, true, true, true, true, true, true, true, true, true, true, true, true, true, true, true, true, true, true, true, true, true, true, false, false, false, false, false, false] rfl rfl (any_of HT_.out (by kernel_rfl)) (fun _ _ _ h => h) (Or.inr ⟨by rfl, rfl⟩) ?_ ?_
                                                 rotate_left
                                                 ·
                                                  simp only [Act.put, List.setIfInBounds_toArray, List.set_cons_zero, List.set_cons_succ, i64_w, i32_w]
                                                  rfl
                                                 refine pure_ (i := 37) (N := some 238) (v := undef) (a' := ?_) #[true, true, true, true, true, true, true, true, true, true, true, true, true, true, true, true, true, true, true, true, true, true, true, true, true, true, true, true, true, true, true, true, true, true, true, true, true, true, false, false, false, false, false] rfl rfl (any_of HT_.out (by kernel_rfl)) (fun _ _ _ h => h) (Or.inr ⟨by rfl, rfl⟩) ?_ ?_
                                                 rotate_left
                                                 ·
                                                  simp only [Act.put, List.setIfInBounds_toArray, List.set_cons_zero, List.set_cons_succ, i64_w, i32_w]
                                                  rfl
                                                 refine pure_ (i := 38) (N := some 239) (v := undef) (a' := ?_) #[true, true, true, true, true, true, true, true, true, true, true, true, true, true, true, true, true, true, true, true, true, true, true, true, true, true, true, true, true, true, true, true, true, true, true, true, true, true, true, false, false, false, false] rfl rfl (any_of HT_.out (by kernel_rfl)) (fun _ _ _ h => h) (Or.inr ⟨by rfl, rfl⟩) ?_ ?_
                                                 rotate_left
                                                 ·
                                                  simp only [Act.put, List.setIfInBounds_toArray, List.set_cons_zero, List.set_cons_succ, i64_w, i32_w]
                                                  rfl
                                                 refine pure_ (i := 39) (N := some 240) (v := undef) (a' := ?_) #[true, true, true, true, true, true, true, true, true, true, true, true, true, true, true, true, true, true, true, true, true, true, true, true, true, true, true, true, true, true, true, true, true, true, true, true, true, true, true, true, false, false, false] rfl rfl (any_of HT_.out (by kernel_rfl)) (fun _ _ _ h => h) (Or.inr ⟨by rfl, rfl⟩) ?_ ?_
                                                 rotate_left
                                                 ·
                                                  simp only [Act.put, List.setIfInBounds_toArray, List.set_cons_zero, List.set_cons_succ, i64_w, i32_w]
                                                  rfl
                                                 refine pure_ (i := 40) (N := some 241) (v := undef) (a' := ?_) #[true, true, true, true, true, true, true, true, true, true, true, true, true, true, true, true, true, true, true, true, true, true, true, true, true, true, true, true, true, true, true, true, true, true, true, true, true, true, true, true, true, false, false] rfl rfl (any_of HT_.out (by kernel_rfl)) (fun _ _ _ h => h) (Or.inr ⟨by rfl, rfl⟩) ?_ ?_
                                                 rotate_left
                                                 ·
                                                  simp only [Act.put, List.setIfInBounds_toArray, List.set_cons_zero, List.set_cons_succ, i64_w, i32_w]
                                                  rfl
                                                 refine pure_ (i := 41) (N := some 242) (v := ?_) (a' := ?_) #[true, true, true, true, true, true, true, true, true, true, true, true, true, true, true, true, true, true, true, true, true, true, true, true, true, true, true, true, true, true, true, true, true, true, true, true, true, true, true, true, true, true, false] rfl rfl (any_of HT_.out (by kernel_rfl)) (fun _ _ _ h => h) (Or.inl ⟨by rfl, ?_⟩) ?_ ?_
                                                 rotate_left
                                                 ·
                                                  intro w'
                                                  go_simp
                                                  with_reducible rfl
                                                 rotate_left
                                                 ·
                                                  simp only [Act.put, List.setIfInBounds_toArray, List.set_cons_zero, List.set_cons_succ, i64_w, i32_w]
                                                  rfl
                                                 refine pure_ (i := 42) (N := some 243) (v := ?_) (a' := ?_) #[true, true, true, true, true, true, true, true, true, true, true, true, true, true, true, true, true, true, true, true, true, true, true, true, true, true, true, true, true, true, true, true, true, true, true, true, true, true, true, true, true, true, true] rfl rfl (any_of HT_.out (by kernel_rfl)) (fun _ _ _ h => h) (Or.inl ⟨by rfl, ?_⟩) ?_ ?_
                                                 rotate_left
                                                 ·
                                                  intro w'
                                                  go_simp
                                                  with_reducible rfl
                                                 rotate_left
                                                 ·
                                                  simp only [Act.put, List.setIfInBounds_toArray, List.set_cons_zero, List.set_cons_succ, i64_w, i32_w]
                                                  rfl
                                                 refine done_ (done_of HT_.out (by kernel_rfl)) ?_
                                                 try go_wp2
                                                 go_roundg k6
                                                 case measure => have := HJ9.out; have := HJ42.out; have := HJ51.out; have := HJ53.out; have := HJ63.out; have := HK6.out; omega
                                                 case rel => exact ⟨(wrap64 (x183_6 + 1)), (by first | rfl | (simp; done) | (simp [*]; done)), H', ⟨by have := HJ9.out; have := HJ42.out; have := HJ51.out; have := HJ53.out; have := HJ63.out; have := HK6.out; omega⟩, ⟨by (with_reducible repeat (first | apply Kd.S_alloc | apply Kd.S_drewN | apply Kd.S_drew)); exact Kd.S_mono HO_8.out (fun _ hk => hk.1)⟩, ⟨by (with_reducible repeat (first | apply Kd.S_alloc | apply Kd.S_drewN | apply Kd.S_drew)); exact Kd.S_mono HO_12.out (fun _ hk => ⟨hk.1.1, hk.1.2⟩)⟩, ⟨by (with_reducible repeat (first | apply Kd.S_alloc | apply Kd.S_drewN | apply Kd.S_drew)); exact Kd.S_mono HO_181.out (fun _ hk => hk.1)⟩, ⟨by repeat (first | (with_reducible first | exact HB.out | apply below_alloc | apply pw_below_drewN | apply below_drew1) | exact HB.out | exact Below.refl _ _)⟩⟩
                                           ·
                                            replace c83 := Bool.eq_false_iff.mpr c83
                                            subst c83
                                            have H1 : (some false) = some r := by rw [if_neg (show ¬ (false = true) by decide)] at H; exact H
                                            exact absurd (H1.trans (congrArg some hrT)) (by simp)
                                         ·
                                          replace c81 := Bool.eq_false_iff.mpr c81
                                          subst c81
                                          have H1 : (some false) = some r := by rw [if_neg (show ¬ (false = true) by decide)] at H; exact H
                                          exact absurd (H1.trans (congrArg some hrT)) (by simp)
                                       ·
                                        replace c79 := Bool.eq_false_iff.mpr c79
                                        subst c79
                                        have H1 : (some false) = some r := by rw [if_neg (show ¬ (false = true) by decide)] at H; exact H
                                        exact absurd (H1.trans (congrArg some hrT)) (by simp)
                                     ·
                                      rw [if_neg c77] at H
                                      exact absurd H (by simp)
                                   ·
                                    rw [if_neg c76] at H
                                    exact absurd H (by simp)
                                 ·
                                  rw [if_neg c75] at H
                                  exact absurd H (by simp)
                               ·
                                rw [if_neg c74] at H
                                exact absurd H (by simp)
                             ·
                              rw [if_neg c73] at H
                              have c73b0 : decide (x183_6 < (t326.length : Int)) = false := decide_eq_false c73
                              clear c73
                              obtain rfl := Option.some.inj H
                              go_wp2
                              go_ret
                              exact ⟨by first | rfl | (simp [errW_none, errW_some] <;> rfl) | (simp [*, errW_none, errW_some] <;> rfl), by repeat (first | (with_reducible first | exact HB.out | apply below_alloc | apply pw_below_drewN | apply below_drew1) | exact HB.out | exact Below.refl _ _)⟩
                        ·
                         replace c71 := Bool.eq_false_iff.mpr c71
                         subst c71
                         have H1 : (some true) = some r := by rw [if_neg (show ¬ (false = true) by decide)] at H; exact H
                         clear H
                         have H := H1
                         clear H1
                         obtain rfl := Option.some.inj H
                         go_wp2
                         go_ret
                         exact ⟨by first | rfl | (simp [errW_none, errW_some] <;> rfl) | (simp [*, errW_none, errW_some] <;> rfl), by repeat (first | (with_reducible first | exact HB.out | apply below_alloc | apply pw_below_drewN | apply below_drew1) | exact HB.out | exact Below.refl _ _)⟩

/-- THE ONE PURE STATEMENT of laws_FnClassesOfPairs: yours. -/
def laws_FnClassesOfPairs.Pure : Prop := ∀ (l0 : List Int) (l1 : List Int), l0.length ≤ maxLen → l0.length * 1 ≤ 140737488351232 → (∀ x ∈ l0, (Lit.int .u8 x).wf = true) → l1.length ≤ maxLen → l1.length * 1 ≤ 140737488351232 → (∀ x ∈ l1, (Lit.int .u8 x).wf = true) → ∃ k, laws_FnClassesOfPairs.f k l0 l1 = some true
theorem laws_FnClassesOfPairs.walk (P : laws_FnClassesOfPairs.Pure) (a0 : Option Addr) (len0 cap0 : Nat) (z0 : List Int) (a1 : Option Addr) (len1 cap1 : Nat) (z1 : List Int) (w : World) (w0 : (a0 = none ∧ len0 = 0 ∧ cap0 = 0 ∧ z0 = []) ∨ ∃ x, a0 = some x ∧ len0 ≤ cap0 ∧ cap0 ≤ maxLen ∧ z0.length = cap0 ∧ (∀ i, i < z0.length → w.cell? (x.add i) = some (.int .u8 (z0.getD i 0))) ∧ ∀ n ∈ z0, (Lit.int .u8 n).wf = true) (y0 : len0 * 1 ≤ 140737488351232) (w1 : (a1 = none ∧ len1 = 0 ∧ cap1 = 0 ∧ z1 = []) ∨ ∃ x, a1 = some x ∧ len1 ≤ cap1 ∧ cap1 ≤ maxLen ∧ z1.length = cap1 ∧ (∀ i, i < z1.length → w.cell? (x.add i) = some (.int .u8 (z1.getD i 0))) ∧ ∀ n ∈ z1, (Lit.int .u8 n).wf = true) (y1 : len1 * 1 ≤ 140737488351232) :
 Calls Try.prog 3 #[.slice a0 len0 cap0, .slice a1 len1 cap1] w fun e w' => e = .returned (.bool true) ∧ Below w.heap.size w w' := by
 obtain ⟨l0, rfl, hr0, hm0, hw0, hc0⟩ := ReadsInt.ofRowC w0
 obtain ⟨l1, rfl, hr1, hm1, hw1, hc1⟩ := ReadsInt.ofRowC w1
 obtain ⟨k, h⟩ := P l0 l1 hm0 y0 hw0 hm1 y1 hw1
 refine (laws_FnClassesOfPairs.calls k _ _ l0 _ _ l1 true w (Kd.C_of_reads (d := (0 : Int)) (h1 := fun _ => rfl) hr0) hc0 (Kd.C_of_reads (d := (0 : Int)) (h1 := fun _ => rfl) hr1) hc1 h rfl).mono ?_
 rintro e w' ⟨rfl, hd⟩
 exact ⟨rfl, hd⟩

end Go.Proofs.Ytfdbjiddhgfcnaa.P
