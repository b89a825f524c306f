-- Written by a program of this session (wip/mkprint.py over the kit's print), out of the translation. Not trusted: Lean checks it.
import Derived.Test.YtaphbbnoadjplaaPx0
import Derived.Test.YtaphbbnoadjplaaPx1
import Derived.Test.YtaphbbnoadjplaaPx2
import Derived.Test.YtaphbbnoadjplaaPx3
import Derived.Test.YtaphbbnoadjplaaPx4
namespace Go.Proofs.Ytaphbbnoadjplaa.P
open Go.RowKit Go.Proofs.YtaphbbnoadjplaaW.PrintWords Go.Proofs.YtaphbbnoadjplaaW.PrintLast Go.Proofs.YtaphbbnoadjplaaW.PrintMore
attribute [local go_sem] max2_int min2_int max_two min_two max_three min_three max_four min_four   -- for this text's walks alone
set_option linter.unusedVariables false
set_option linter.unusedSimpArgs false

/-! ### laws_FnJumpsOfPairs: function 6 -/
mutual
def laws_FnJumpsOfPairs.j0 : Nat → List Int → Int → Int → Int → Int → Int → Int → Bool → Bool → Option (Bool)
  | 0, _, _, _, _, _, _, _, _, _ => none
  | k + 1, x1, x5, x6, x7, x8, x9, x10, x11, x82 => if x82 = true then (some false) else (if x11 = true then ((laws_vPair.f x9 x10 x7 x8).bind fun t286 => (if t286 = true then (laws_FnJumpsOfPairs.j1 k x1 x5 x6 x7 x8 x9 x10 (decide ((wrap64 (x9 + x10)) ≥ (wrap64 (x5 + x6))))) else (laws_FnJumpsOfPairs.j1 k x1 x5 x6 x7 x8 x9 x10 true))) else (laws_FnJumpsOfPairs.j3 k x1))
def laws_FnJumpsOfPairs.j3 : Nat → List Int → Option (Bool)
  | 0, _ => none
  | k + 1, x1 => (spec_DrawJumpUp.f k x1).bind fun bt290 => ((impl_JumpUp.f bt290.1 bt290.2.1 bt290.2.2.1 bt290.2.2.2).bind fun bt294 => ((spec_JumpUp.f bt290.1 bt290.2.1 bt290.2.2.1 bt290.2.2.2).bind fun bt297 => (if (bt294.2.2 != bt297.2.2) = true then (laws_FnJumpsOfPairs.j4 k x1 bt290.1 bt290.2.1 bt290.2.2.1 bt290.2.2.2 bt294.1 bt294.2.1 bt294.2.2 true) else (if bt294.1 = bt297.1 then (laws_FnJumpsOfPairs.j4 k x1 bt290.1 bt290.2.1 bt290.2.2.1 bt290.2.2.2 bt294.1 bt294.2.1 bt294.2.2 (bt294.2.1 != bt297.2.1)) else (laws_FnJumpsOfPairs.j4 k x1 bt290.1 bt290.2.1 bt290.2.2.1 bt290.2.2.2 bt294.1 bt294.2.1 bt294.2.2 true)))))
def laws_FnJumpsOfPairs.j4 : Nat → List Int → Int → Int → Int → Int → Int → Int → Bool → Bool → Option (Bool)
  | 0, _, _, _, _, _, _, _, _, _ => none
  | k + 1, x1, x18, x19, x20, x21, x22, x23, x24, x174 => if x174 = true then (some false) else (if x24 = true then ((laws_vPair.f x22 x23 x20 x21).bind fun t300 => (if t300 = true then (if x23 = x18 then (laws_FnJumpsOfPairs.j5 k x1 x18 x19 x20 x21 x22 x23 (decide (x22 < x18))) else (laws_FnJumpsOfPairs.j5 k x1 x18 x19 x20 x21 x22 x23 true)) else (laws_FnJumpsOfPairs.j5 k x1 x18 x19 x20 x21 x22 x23 true))) else (laws_FnJumpsOfPairs.j7 k x1))
def laws_FnJumpsOfPairs.j7 : Nat → List Int → Option (Bool)
  | 0, _ => none
  | k + 1, x1 => (spec_DrawJumpMatrix.f x1).bind fun t320 => ((impl_JumpMatrix.f t320).bind fun bt321 => ((spec_JumpMatrix.f t320).bind fun bt326 => (if (bt321.2 != bt326.2) = true then (laws_FnJumpsOfPairs.j8 k bt321.2 true bt321.1) else ((laws_vSameLists.f k bt321.1 bt326.1).bind fun t331 => (laws_FnJumpsOfPairs.j8 k bt321.2 (!t331) bt321.1)))))
def laws_FnJumpsOfPairs.j8 : Nat → Bool → Bool → List (List Int) → Option (Bool)
  | 0, _, _, _ => none
  | k + 1, x37, x262, x326000 => if x262 = true then (some false) else (if x37 = true then ((impl_DeterminantOf.f k x326000).bind fun bt332 => (if bt332.2 = true then (some (bt332.1 == 1)) else (some false))) else (some true))
def laws_FnJumpsOfPairs.j5 : Nat → List Int → Int → Int → Int → Int → Int → Int → Bool → Option (Bool)
  | 0, _, _, _, _, _, _, _, _ => none
  | k + 1, x1, x18, x19, x20, x21, x22, x23, x191 => if x191 = true then (some false) else ((impl_JumpMatrix.f x20).bind fun bt301 => (if bt301.2 = true then ((impl_ApplyMatrix.f k bt301.1 (([x18, x19] : List Int))).bind fun bt309 => (if bt309.2 = true then ((laws_vSame.f k bt309.1 (([x22, x23] : List Int))).bind fun t316 => (laws_FnJumpsOfPairs.j6 k x1 x18 x19 x20 x21 x22 x23 (!t316))) else (laws_FnJumpsOfPairs.j6 k x1 x18 x19 x20 x21 x22 x23 false))) else (some false)))
def laws_FnJumpsOfPairs.j6 : Nat → List Int → Int → Int → Int → Int → Int → Int → Bool → Option (Bool)
  | 0, _, _, _, _, _, _, _, _ => none
  | k + 1, x1, x18, x19, x20, x21, x22, x23, x215 => if x215 = true then (some false) else (if x19 < x22 then ((impl_JumpDown.f x22 x23 x20 x21).bind fun bt317 => (if bt317.2.2 = true then (if bt317.1 = x18 then (if bt317.2.1 = x19 then (laws_FnJumpsOfPairs.j7 k x1) else (some false)) else (some false)) else (some false))) else (laws_FnJumpsOfPairs.j7 k x1))
def laws_FnJumpsOfPairs.j1 : Nat → List Int → Int → Int → Int → Int → Int → Int → Bool → Option (Bool)
  | 0, _, _, _, _, _, _, _, _ => none
  | k + 1, x1, x5, x6, x7, x8, x9, x10, x98 => if x98 = true then (some false) else (if x10 < (wrap64 ((wrap64 (x7 * x6)) - x5)) then (laws_FnJumpsOfPairs.j2 k x1 x5 x6 x7 x8 x9 x10 true) else (laws_FnJumpsOfPairs.j2 k x1 x5 x6 x7 x8 x9 x10 (x9 == x6)))
def laws_FnJumpsOfPairs.j2 : Nat → List Int → Int → Int → Int → Int → Int → Int → Bool → Option (Bool)
  | 0, _, _, _, _, _, _, _, _ => none
  | k + 1, x1, x5, x6, x7, x8, x9, x10, x110 => if x110 = true then ((impl_JumpUp.f x9 x10 x7 x8).bind fun bt287 => (if x9 = x6 then (if bt287.2.2 = true then (if bt287.1 = x5 then (if bt287.2.1 = x6 then (laws_FnJumpsOfPairs.j3 k x1) else (some false)) else (some false)) else (some false)) else (laws_FnJumpsOfPairs.j3 k x1))) else (laws_FnJumpsOfPairs.j3 k x1)
end
def laws_FnJumpsOfPairs.f (k : Nat) (l0 : List Int) (l1 : List Int) : Option (Bool) := (laws_big.f l0 l1).bind fun t275 => (if t275 = true then (some true) else ((spec_DrawJumpDown.f k l0).bind fun bt276 => ((impl_JumpDown.f bt276.1 bt276.2.1 bt276.2.2.1 bt276.2.2.2).bind fun bt280 => ((spec_JumpDown.f bt276.1 bt276.2.1 bt276.2.2.1 bt276.2.2.2).bind fun bt283 => (if (bt280.2.2 != bt283.2.2) = true then (laws_FnJumpsOfPairs.j0 k l1 bt276.1 bt276.2.1 bt276.2.2.1 bt276.2.2.2 bt280.1 bt280.2.1 bt280.2.2 true) else (if bt280.1 = bt283.1 then (laws_FnJumpsOfPairs.j0 k l1 bt276.1 bt276.2.1 bt276.2.2.1 bt276.2.2.2 bt280.1 bt280.2.1 bt280.2.2 (bt280.2.1 != bt283.2.1)) else (laws_FnJumpsOfPairs.j0 k l1 bt276.1 bt276.2.1 bt276.2.2.1 bt276.2.2.2 bt280.1 bt280.2.1 bt280.2.2 true)))))))
theorem laws_FnJumpsOfPairs.mono_l : ∀ k, (∀ y0 y1 y2 y3 y4 y5 y6 y7 y8, LeO (laws_FnJumpsOfPairs.j0 k y0 y1 y2 y3 y4 y5 y6 y7 y8) (laws_FnJumpsOfPairs.j0 (k + 1) y0 y1 y2 y3 y4 y5 y6 y7 y8)) ∧ (∀ y0, LeO (laws_FnJumpsOfPairs.j3 k y0) (laws_FnJumpsOfPairs.j3 (k + 1) y0)) ∧ (∀ y0 y1 y2 y3 y4 y5 y6 y7 y8, LeO (laws_FnJumpsOfPairs.j4 k y0 y1 y2 y3 y4 y5 y6 y7 y8) (laws_FnJumpsOfPairs.j4 (k + 1) y0 y1 y2 y3 y4 y5 y6 y7 y8)) ∧ (∀ y0, LeO (laws_FnJumpsOfPairs.j7 k y0) (laws_FnJumpsOfPairs.j7 (k + 1) y0)) ∧ (∀ y0 y1 y2, LeO (laws_FnJumpsOfPairs.j8 k y0 y1 y2) (laws_FnJumpsOfPairs.j8 (k + 1) y0 y1 y2)) ∧ (∀ y0 y1 y2 y3 y4 y5 y6 y7, LeO (laws_FnJumpsOfPairs.j5 k y0 y1 y2 y3 y4 y5 y6 y7) (laws_FnJumpsOfPairs.j5 (k + 1) y0 y1 y2 y3 y4 y5 y6 y7)) ∧ (∀ y0 y1 y2 y3 y4 y5 y6 y7, LeO (laws_FnJumpsOfPairs.j6 k y0 y1 y2 y3 y4 y5 y6 y7) (laws_FnJumpsOfPairs.j6 (k + 1) y0 y1 y2 y3 y4 y5 y6 y7)) ∧ (∀ y0 y1 y2 y3 y4 y5 y6 y7, LeO (laws_FnJumpsOfPairs.j1 k y0 y1 y2 y3 y4 y5 y6 y7) (laws_FnJumpsOfPairs.j1 (k + 1) y0 y1 y2 y3 y4 y5 y6 y7)) ∧ (∀ y0 y1 y2 y3 y4 y5 y6 y7, LeO (laws_FnJumpsOfPairs.j2 k y0 y1 y2 y3 y4 y5 y6 y7) (laws_FnJumpsOfPairs.j2 (k + 1) y0 y1 y2 y3 y4 y5 y6 y7))
  | 0 => ⟨fun _ _ _ _ _ _ _ _ _ r h => by simp [laws_FnJumpsOfPairs.j0] at h, fun _ r h => by simp [laws_FnJumpsOfPairs.j3] at h, fun _ _ _ _ _ _ _ _ _ r h => by simp [laws_FnJumpsOfPairs.j4] at h, fun _ r h => by simp [laws_FnJumpsOfPairs.j7] at h, fun _ _ _ r h => by simp [laws_FnJumpsOfPairs.j8] at h, fun _ _ _ _ _ _ _ _ r h => by simp [laws_FnJumpsOfPairs.j5] at h, fun _ _ _ _ _ _ _ _ r h => by simp [laws_FnJumpsOfPairs.j6] at h, fun _ _ _ _ _ _ _ _ r h => by simp [laws_FnJumpsOfPairs.j1] at h, fun _ _ _ _ _ _ _ _ r h => by simp [laws_FnJumpsOfPairs.j2] at h⟩
  | k + 1 => by
    obtain ⟨ih0, ih1, ih2, ih3, ih4, ih5, ih6, ih7, ih8⟩ := laws_FnJumpsOfPairs.mono_l k
    refine ⟨?_, ?_, ?_, ?_, ?_, ?_, ?_, ?_, ?_⟩
    · intro y0 y1 y2 y3 y4 y5 y6 y7 y8
      unfold laws_FnJumpsOfPairs.j0
      repeat' first
      | (with_reducible exact ih0 _ _ _ _ _ _ _ _ _)
      | (with_reducible exact ih1 _)
      | (with_reducible exact ih2 _ _ _ _ _ _ _ _ _)
      | (with_reducible exact ih3 _)
      | (with_reducible exact ih4 _ _ _)
      | (with_reducible exact ih5 _ _ _ _ _ _ _ _)
      | (with_reducible exact ih6 _ _ _ _ _ _ _ _)
      | (with_reducible exact ih7 _ _ _ _ _ _ _ _)
      | (with_reducible exact ih8 _ _ _ _ _ _ _ _)
      | (with_reducible exact impl_ApplyMatrix.mono _ _ _)
      | (with_reducible exact impl_DeterminantOf.mono _ _)
      | (with_reducible exact laws_vSame.mono _ _ _)
      | (with_reducible exact laws_vSameLists.mono _ _ _)
      | (with_reducible exact spec_DrawJumpDown.mono _ _)
      | (with_reducible exact spec_DrawJumpUp.mono _ _)
      | (with_reducible exact LeO.refl _)
      | (with_reducible exact LeO.none _)
      | (with_reducible refine LeO.ite ?_ ?_)
      | (with_reducible refine LeO.bind ?_ (fun _ => ?_))
      | exact ih0 _ _ _ _ _ _ _ _ _
      | exact ih1 _
      | exact ih2 _ _ _ _ _ _ _ _ _
      | exact ih3 _
      | exact ih4 _ _ _
      | exact ih5 _ _ _ _ _ _ _ _
      | exact ih6 _ _ _ _ _ _ _ _
      | exact ih7 _ _ _ _ _ _ _ _
      | exact ih8 _ _ _ _ _ _ _ _
      | exact impl_ApplyMatrix.mono _ _ _
      | exact impl_DeterminantOf.mono _ _
      | exact laws_vSame.mono _ _ _
      | exact laws_vSameLists.mono _ _ _
      | exact spec_DrawJumpDown.mono _ _
      | exact spec_DrawJumpUp.mono _ _
      | exact LeO.none _
      | refine LeO.ite ?_ ?_
      | refine LeO.bind ?_ (fun _ => ?_)
    · intro y0
      unfold laws_FnJumpsOfPairs.j3
      repeat' first
      | (with_reducible exact ih0 _ _ _ _ _ _ _ _ _)
      | (with_reducible exact ih1 _)
      | (with_reducible exact ih2 _ _ _ _ _ _ _ _ _)
      | (with_reducible exact ih3 _)
      | (with_reducible exact ih4 _ _ _)
      | (with_reducible exact ih5 _ _ _ _ _ _ _ _)
      | (with_reducible exact ih6 _ _ _ _ _ _ _ _)
      | (with_reducible exact ih7 _ _ _ _ _ _ _ _)
      | (with_reducible exact ih8 _ _ _ _ _ _ _ _)
      | (with_reducible exact impl_ApplyMatrix.mono _ _ _)
      | (with_reducible exact impl_DeterminantOf.mono _ _)
      | (with_reducible exact laws_vSame.mono _ _ _)
      | (with_reducible exact laws_vSameLists.mono _ _ _)
      | (with_reducible exact spec_DrawJumpDown.mono _ _)
      | (with_reducible exact spec_DrawJumpUp.mono _ _)
      | (with_reducible exact LeO.refl _)
      | (with_reducible exact LeO.none _)
      | (with_reducible refine LeO.ite ?_ ?_)
      | (with_reducible refine LeO.bind ?_ (fun _ => ?_))
      | exact ih0 _ _ _ _ _ _ _ _ _
      | exact ih1 _
      | exact ih2 _ _ _ _ _ _ _ _ _
      | exact ih3 _
      | exact ih4 _ _ _
      | exact ih5 _ _ _ _ _ _ _ _
      | exact ih6 _ _ _ _ _ _ _ _
      | exact ih7 _ _ _ _ _ _ _ _
      | exact ih8 _ _ _ _ _ _ _ _
      | exact impl_ApplyMatrix.mono _ _ _
      | exact impl_DeterminantOf.mono _ _
      | exact laws_vSame.mono _ _ _
      | exact laws_vSameLists.mono _ _ _
      | exact spec_DrawJumpDown.mono _ _
      | exact spec_DrawJumpUp.mono _ _
      | exact LeO.none _
      | refine LeO.ite ?_ ?_
      | refine LeO.bind ?_ (fun _ => ?_)
    · intro y0 y1 y2 y3 y4 y5 y6 y7 y8
      unfold laws_FnJumpsOfPairs.j4
      repeat' first
      | (with_reducible exact ih0 _ _ _ _ _ _ _ _ _)
      | (with_reducible exact ih1 _)
      | (with_reducible exact ih2 _ _ _ _ _ _ _ _ _)
      | (with_reducible exact ih3 _)
      | (with_reducible exact ih4 _ _ _)
      | (with_reducible exact ih5 _ _ _ _ _ _ _ _)
      | (with_reducible exact ih6 _ _ _ _ _ _ _ _)
      | (with_reducible exact ih7 _ _ _ _ _ _ _ _)
      | (with_reducible exact ih8 _ _ _ _ _ _ _ _)
      | (with_reducible exact impl_ApplyMatrix.mono _ _ _)
      | (with_reducible exact impl_DeterminantOf.mono _ _)
      | (with_reducible exact laws_vSame.mono _ _ _)
      | (with_reducible exact laws_vSameLists.mono _ _ _)
      | (with_reducible exact spec_DrawJumpDown.mono _ _)
      | (with_reducible exact spec_DrawJumpUp.mono _ _)
      | (with_reducible exact LeO.refl _)
      | (with_reducible exact LeO.none _)
      | (with_reducible refine LeO.ite ?_ ?_)
      | (with_reducible refine LeO.bind ?_ (fun _ => ?_))
      | exact ih0 _ _ _ _ _ _ _ _ _
      | exact ih1 _
      | exact ih2 _ _ _ _ _ _ _ _ _
      | exact ih3 _
      | exact ih4 _ _ _
      | exact ih5 _ _ _ _ _ _ _ _
      | exact ih6 _ _ _ _ _ _ _ _
      | exact ih7 _ _ _ _ _ _ _ _
      | exact ih8 _ _ _ _ _ _ _ _
      | exact impl_ApplyMatrix.mono _ _ _
      | exact impl_DeterminantOf.mono _ _
      | exact laws_vSame.mono _ _ _
      | exact laws_vSameLists.mono _ _ _
      | exact spec_DrawJumpDown.mono _ _
      | exact spec_DrawJumpUp.mono _ _
      | exact LeO.none _
      | refine LeO.ite ?_ ?_
      | refine LeO.bind ?_ (fun _ => ?_)
    · intro y0
      unfold laws_FnJumpsOfPairs.j7
      repeat' first
      | (with_reducible exact ih0 _ _ _ _ _ _ _ _ _)
      | (with_reducible exact ih1 _)
      | (with_reducible exact ih2 _ _ _ _ _ _ _ _ _)
      | (with_reducible exact ih3 _)
      | (with_reducible exact ih4 _ _ _)
      | (with_reducible exact ih5 _ _ _ _ _ _ _ _)
      | (with_reducible exact ih6 _ _ _ _ _ _ _ _)
      | (with_reducible exact ih7 _ _ _ _ _ _ _ _)
      | (with_reducible exact ih8 _ _ _ _ _ _ _ _)
      | (with_reducible exact impl_ApplyMatrix.mono _ _ _)
      | (with_reducible exact impl_DeterminantOf.mono _ _)
      | (with_reducible exact laws_vSame.mono _ _ _)
      | (with_reducible exact laws_vSameLists.mono _ _ _)
      | (with_reducible exact spec_DrawJumpDown.mono _ _)
      | (with_reducible exact spec_DrawJumpUp.mono _ _)
      | (with_reducible exact LeO.refl _)
      | (with_reducible exact LeO.none _)
      | (with_reducible refine LeO.ite ?_ ?_)
      | (with_reducible refine LeO.bind ?_ (fun _ => ?_))
      | exact ih0 _ _ _ _ _ _ _ _ _
      | exact ih1 _
      | exact ih2 _ _ _ _ _ _ _ _ _
      | exact ih3 _
      | exact ih4 _ _ _
      | exact ih5 _ _ _ _ _ _ _ _
      | exact ih6 _ _ _ _ _ _ _ _
      | exact ih7 _ _ _ _ _ _ _ _
      | exact ih8 _ _ _ _ _ _ _ _
      | exact impl_ApplyMatrix.mono _ _ _
      | exact impl_DeterminantOf.mono _ _
      | exact laws_vSame.mono _ _ _
      | exact laws_vSameLists.mono _ _ _
      | exact spec_DrawJumpDown.mono _ _
      | exact spec_DrawJumpUp.mono _ _
      | exact LeO.none _
      | refine LeO.ite ?_ ?_
      | refine LeO.bind ?_ (fun _ => ?_)
    · intro y0 y1 y2
      unfold laws_FnJumpsOfPairs.j8
      repeat' first
      | (with_reducible exact ih0 _ _ _ _ _ _ _ _ _)
      | (with_reducible exact ih1 _)
      | (with_reducible exact ih2 _ _ _ _ _ _ _ _ _)
      | (with_reducible exact ih3 _)
      | (with_reducible exact ih4 _ _ _)
      | (with_reducible exact ih5 _ _ _ _ _ _ _ _)
      | (with_reducible exact ih6 _ _ _ _ _ _ _ _)
      | (with_reducible exact ih7 _ _ _ _ _ _ _ _)
      | (with_reducible exact ih8 _ _ _ _ _ _ _ _)
      | (with_reducible exact impl_ApplyMatrix.mono _ _ _)
      | (with_reducible exact impl_DeterminantOf.mono _ _)
      | (with_reducible exact laws_vSame.mono _ _ _)
      | (with_reducible exact laws_vSameLists.mono _ _ _)
      | (with_reducible exact spec_DrawJumpDown.mono _ _)
      | (with_reducible exact spec_DrawJumpUp.mono _ _)
      | (with_reducible exact LeO.refl _)
      | (with_reducible exact LeO.none _)
      | (with_reducible refine LeO.ite ?_ ?_)
      | (with_reducible refine LeO.bind ?_ (fun _ => ?_))
      | exact ih0 _ _ _ _ _ _ _ _ _
      | exact ih1 _
      | exact ih2 _ _ _ _ _ _ _ _ _
      | exact ih3 _
      | exact ih4 _ _ _
      | exact ih5 _ _ _ _ _ _ _ _
      | exact ih6 _ _ _ _ _ _ _ _
      | exact ih7 _ _ _ _ _ _ _ _
      | exact ih8 _ _ _ _ _ _ _ _
      | exact impl_ApplyMatrix.mono _ _ _
      | exact impl_DeterminantOf.mono _ _
      | exact laws_vSame.mono _ _ _
      | exact laws_vSameLists.mono _ _ _
      | exact spec_DrawJumpDown.mono _ _
      | exact spec_DrawJumpUp.mono _ _
      | exact LeO.none _
      | refine LeO.ite ?_ ?_
      | refine LeO.bind ?_ (fun _ => ?_)
    · intro y0 y1 y2 y3 y4 y5 y6 y7
      unfold laws_FnJumpsOfPairs.j5
      repeat' first
      | (with_reducible exact ih0 _ _ _ _ _ _ _ _ _)
      | (with_reducible exact ih1 _)
      | (with_reducible exact ih2 _ _ _ _ _ _ _ _ _)
      | (with_reducible exact ih3 _)
      | (with_reducible exact ih4 _ _ _)
      | (with_reducible exact ih5 _ _ _ _ _ _ _ _)
      | (with_reducible exact ih6 _ _ _ _ _ _ _ _)
      | (with_reducible exact ih7 _ _ _ _ _ _ _ _)
      | (with_reducible exact ih8 _ _ _ _ _ _ _ _)
      | (with_reducible exact impl_ApplyMatrix.mono _ _ _)
      | (with_reducible exact impl_DeterminantOf.mono _ _)
      | (with_reducible exact laws_vSame.mono _ _ _)
      | (with_reducible exact laws_vSameLists.mono _ _ _)
      | (with_reducible exact spec_DrawJumpDown.mono _ _)
      | (with_reducible exact spec_DrawJumpUp.mono _ _)
      | (with_reducible exact LeO.refl _)
      | (with_reducible exact LeO.none _)
      | (with_reducible refine LeO.ite ?_ ?_)
      | (with_reducible refine LeO.bind ?_ (fun _ => ?_))
      | exact ih0 _ _ _ _ _ _ _ _ _
      | exact ih1 _
      | exact ih2 _ _ _ _ _ _ _ _ _
      | exact ih3 _
      | exact ih4 _ _ _
      | exact ih5 _ _ _ _ _ _ _ _
      | exact ih6 _ _ _ _ _ _ _ _
      | exact ih7 _ _ _ _ _ _ _ _
      | exact ih8 _ _ _ _ _ _ _ _
      | exact impl_ApplyMatrix.mono _ _ _
      | exact impl_DeterminantOf.mono _ _
      | exact laws_vSame.mono _ _ _
      | exact laws_vSameLists.mono _ _ _
      | exact spec_DrawJumpDown.mono _ _
      | exact spec_DrawJumpUp.mono _ _
      | exact LeO.none _
      | refine LeO.ite ?_ ?_
      | refine LeO.bind ?_ (fun _ => ?_)
    · intro y0 y1 y2 y3 y4 y5 y6 y7
      unfold laws_FnJumpsOfPairs.j6
      repeat' first
      | (with_reducible exact ih0 _ _ _ _ _ _ _ _ _)
      | (with_reducible exact ih1 _)
      | (with_reducible exact ih2 _ _ _ _ _ _ _ _ _)
      | (with_reducible exact ih3 _)
      | (with_reducible exact ih4 _ _ _)
      | (with_reducible exact ih5 _ _ _ _ _ _ _ _)
      | (with_reducible exact ih6 _ _ _ _ _ _ _ _)
      | (with_reducible exact ih7 _ _ _ _ _ _ _ _)
      | (with_reducible exact ih8 _ _ _ _ _ _ _ _)
      | (with_reducible exact impl_ApplyMatrix.mono _ _ _)
      | (with_reducible exact impl_DeterminantOf.mono _ _)
      | (with_reducible exact laws_vSame.mono _ _ _)
      | (with_reducible exact laws_vSameLists.mono _ _ _)
      | (with_reducible exact spec_DrawJumpDown.mono _ _)
      | (with_reducible exact spec_DrawJumpUp.mono _ _)
      | (with_reducible exact LeO.refl _)
      | (with_reducible exact LeO.none _)
      | (with_reducible refine LeO.ite ?_ ?_)
      | (with_reducible refine LeO.bind ?_ (fun _ => ?_))
      | exact ih0 _ _ _ _ _ _ _ _ _
      | exact ih1 _
      | exact ih2 _ _ _ _ _ _ _ _ _
      | exact ih3 _
      | exact ih4 _ _ _
      | exact ih5 _ _ _ _ _ _ _ _
      | exact ih6 _ _ _ _ _ _ _ _
      | exact ih7 _ _ _ _ _ _ _ _
      | exact ih8 _ _ _ _ _ _ _ _
      | exact impl_ApplyMatrix.mono _ _ _
      | exact impl_DeterminantOf.mono _ _
      | exact laws_vSame.mono _ _ _
      | exact laws_vSameLists.mono _ _ _
      | exact spec_DrawJumpDown.mono _ _
      | exact spec_DrawJumpUp.mono _ _
      | exact LeO.none _
      | refine LeO.ite ?_ ?_
      | refine LeO.bind ?_ (fun _ => ?_)
    · intro y0 y1 y2 y3 y4 y5 y6 y7
      unfold laws_FnJumpsOfPairs.j1
      repeat' first
      | (with_reducible exact ih0 _ _ _ _ _ _ _ _ _)
      | (with_reducible exact ih1 _)
      | (with_reducible exact ih2 _ _ _ _ _ _ _ _ _)
      | (with_reducible exact ih3 _)
      | (with_reducible exact ih4 _ _ _)
      | (with_reducible exact ih5 _ _ _ _ _ _ _ _)
      | (with_reducible exact ih6 _ _ _ _ _ _ _ _)
      | (with_reducible exact ih7 _ _ _ _ _ _ _ _)
      | (with_reducible exact ih8 _ _ _ _ _ _ _ _)
      | (with_reducible exact impl_ApplyMatrix.mono _ _ _)
      | (with_reducible exact impl_DeterminantOf.mono _ _)
      | (with_reducible exact laws_vSame.mono _ _ _)
      | (with_reducible exact laws_vSameLists.mono _ _ _)
      | (with_reducible exact spec_DrawJumpDown.mono _ _)
      | (with_reducible exact spec_DrawJumpUp.mono _ _)
      | (with_reducible exact LeO.refl _)
      | (with_reducible exact LeO.none _)
      | (with_reducible refine LeO.ite ?_ ?_)
      | (with_reducible refine LeO.bind ?_ (fun _ => ?_))
      | exact ih0 _ _ _ _ _ _ _ _ _
      | exact ih1 _
      | exact ih2 _ _ _ _ _ _ _ _ _
      | exact ih3 _
      | exact ih4 _ _ _
      | exact ih5 _ _ _ _ _ _ _ _
      | exact ih6 _ _ _ _ _ _ _ _
      | exact ih7 _ _ _ _ _ _ _ _
      | exact ih8 _ _ _ _ _ _ _ _
      | exact impl_ApplyMatrix.mono _ _ _
      | exact impl_DeterminantOf.mono _ _
      | exact laws_vSame.mono _ _ _
      | exact laws_vSameLists.mono _ _ _
      | exact spec_DrawJumpDown.mono _ _
      | exact spec_DrawJumpUp.mono _ _
      | exact LeO.none _
      | refine LeO.ite ?_ ?_
      | refine LeO.bind ?_ (fun _ => ?_)
    · intro y0 y1 y2 y3 y4 y5 y6 y7
      unfold laws_FnJumpsOfPairs.j2
      repeat' first
      | (with_reducible exact ih0 _ _ _ _ _ _ _ _ _)
      | (with_reducible exact ih1 _)
      | (with_reducible exact ih2 _ _ _ _ _ _ _ _ _)
      | (with_reducible exact ih3 _)
      | (with_reducible exact ih4 _ _ _)
      | (with_reducible exact ih5 _ _ _ _ _ _ _ _)
      | (with_reducible exact ih6 _ _ _ _ _ _ _ _)
      | (with_reducible exact ih7 _ _ _ _ _ _ _ _)
      | (with_reducible exact ih8 _ _ _ _ _ _ _ _)
      | (with_reducible exact impl_ApplyMatrix.mono _ _ _)
      | (with_reducible exact impl_DeterminantOf.mono _ _)
      | (with_reducible exact laws_vSame.mono _ _ _)
      | (with_reducible exact laws_vSameLists.mono _ _ _)
      | (with_reducible exact spec_DrawJumpDown.mono _ _)
      | (with_reducible exact spec_DrawJumpUp.mono _ _)
      | (with_reducible exact LeO.refl _)
      | (with_reducible exact LeO.none _)
      | (with_reducible refine LeO.ite ?_ ?_)
      | (with_reducible refine LeO.bind ?_ (fun _ => ?_))
      | exact ih0 _ _ _ _ _ _ _ _ _
      | exact ih1 _
      | exact ih2 _ _ _ _ _ _ _ _ _
      | exact ih3 _
      | exact ih4 _ _ _
      | exact ih5 _ _ _ _ _ _ _ _
      | exact ih6 _ _ _ _ _ _ _ _
      | exact ih7 _ _ _ _ _ _ _ _
      | exact ih8 _ _ _ _ _ _ _ _
      | exact impl_ApplyMatrix.mono _ _ _
      | exact impl_DeterminantOf.mono _ _
      | exact laws_vSame.mono _ _ _
      | exact laws_vSameLists.mono _ _ _
      | exact spec_DrawJumpDown.mono _ _
      | exact spec_DrawJumpUp.mono _ _
      | exact LeO.none _
      | refine LeO.ite ?_ ?_
      | refine LeO.bind ?_ (fun _ => ?_)
theorem laws_FnJumpsOfPairs.mono : ∀ a0 a1 k, LeO (laws_FnJumpsOfPairs.f k a0 a1) (laws_FnJumpsOfPairs.f (k + 1) a0 a1) := by
  intro a0 a1 k
  obtain ⟨ih0, ih1, ih2, ih3, ih4, ih5, ih6, ih7, ih8⟩ := laws_FnJumpsOfPairs.mono_l k
  unfold laws_FnJumpsOfPairs.f
  repeat' first
      | (with_reducible exact ih0 _ _ _ _ _ _ _ _ _)
      | (with_reducible exact ih1 _)
      | (with_reducible exact ih2 _ _ _ _ _ _ _ _ _)
      | (with_reducible exact ih3 _)
      | (with_reducible exact ih4 _ _ _)
      | (with_reducible exact ih5 _ _ _ _ _ _ _ _)
      | (with_reducible exact ih6 _ _ _ _ _ _ _ _)
      | (with_reducible exact ih7 _ _ _ _ _ _ _ _)
      | (with_reducible exact ih8 _ _ _ _ _ _ _ _)
      | (with_reducible exact impl_ApplyMatrix.mono _ _ _)
      | (with_reducible exact impl_DeterminantOf.mono _ _)
      | (with_reducible exact laws_vSame.mono _ _ _)
      | (with_reducible exact laws_vSameLists.mono _ _ _)
      | (with_reducible exact spec_DrawJumpDown.mono _ _)
      | (with_reducible exact spec_DrawJumpUp.mono _ _)
      | (with_reducible exact LeO.refl _)
      | (with_reducible exact LeO.none _)
      | (with_reducible refine LeO.ite ?_ ?_)
      | (with_reducible refine LeO.bind ?_ (fun _ => ?_))
      | exact ih0 _ _ _ _ _ _ _ _ _
      | exact ih1 _
      | exact ih2 _ _ _ _ _ _ _ _ _
      | exact ih3 _
      | exact ih4 _ _ _
      | exact ih5 _ _ _ _ _ _ _ _
      | exact ih6 _ _ _ _ _ _ _ _
      | exact ih7 _ _ _ _ _ _ _ _
      | exact ih8 _ _ _ _ _ _ _ _
      | exact impl_ApplyMatrix.mono _ _ _
      | exact impl_DeterminantOf.mono _ _
      | exact laws_vSame.mono _ _ _
      | exact laws_vSameLists.mono _ _ _
      | exact spec_DrawJumpDown.mono _ _
      | exact spec_DrawJumpUp.mono _ _
      | exact LeO.none _
      | refine LeO.ite ?_ ?_
      | refine LeO.bind ?_ (fun _ => ?_)
set_option maxHeartbeats 8000000 in
set_option maxRecDepth 100000 in
theorem laws_FnJumpsOfPairs.calls (k : Nat) (A0 : Option Addr) (c0 : Nat) (l0 : List Int) (A1 : Option Addr) (c1 : Nat) (l1 : List Int) (r : Bool) (w : World) (hr0 : Kd.C (Kd.int .u8) w A0 l0.length l0) (hc0 : l0.length ≤ c0) (hr1 : Kd.C (Kd.int .u8) w A1 l1.length l1) (hc1 : l1.length ≤ c1) (h : laws_FnJumpsOfPairs.f k l0 l1 = some r) :
    Calls Try.prog 6 #[.slice A0 l0.length c0, .slice A1 l1.length c1] w fun e w' => e = .returned (.bool r) ∧ Below w.heap.size w w' := by
  have hu46 := Try.underlying46
  have HR0 := Aside0.mk hr0
  have HC0 := Aside0.mk hc0
  clear hr0 hc0
  have HR1 := Aside0.mk hr1
  have HC1 := Aside0.mk hc1
  clear hr1 hc1
  have HB := Aside0.mk (Below.refl w.heap.size w)
  have H : ((laws_big.f l0 l1).bind fun t275 => (if t275 = true then (some true) else ((spec_DrawJumpDown.f k l0).bind fun bt276 => ((impl_JumpDown.f bt276.1 bt276.2.1 bt276.2.2.1 bt276.2.2.2).bind fun bt280 => ((spec_JumpDown.f bt276.1 bt276.2.1 bt276.2.2.1 bt276.2.2.2).bind fun bt283 => (if (bt280.2.2 != bt283.2.2) = true then (laws_FnJumpsOfPairs.j0 k l1 bt276.1 bt276.2.1 bt276.2.2.1 bt276.2.2.2 bt280.1 bt280.2.1 bt280.2.2 true) else (if bt280.1 = bt283.1 then (laws_FnJumpsOfPairs.j0 k l1 bt276.1 bt276.2.1 bt276.2.2.1 bt276.2.2.2 bt280.1 bt280.2.1 bt280.2.2 (bt280.2.1 != bt283.2.1)) else (laws_FnJumpsOfPairs.j0 k l1 bt276.1 bt276.2.1 bt276.2.2.1 bt276.2.2.2 bt280.1 bt280.2.1 bt280.2.2 true)))))))) = some r := h
  clear h
  replace H := Option.bind_eq_some_iff.mp H
  obtain ⟨t275, A30, H⟩ := H
  replace H : (if t275 = true then (some true) else ((spec_DrawJumpDown.f k l0).bind fun bt276 => ((impl_JumpDown.f bt276.1 bt276.2.1 bt276.2.2.1 bt276.2.2.2).bind fun bt280 => ((spec_JumpDown.f bt276.1 bt276.2.1 bt276.2.2.1 bt276.2.2.2).bind fun bt283 => (if (bt280.2.2 != bt283.2.2) = true then (laws_FnJumpsOfPairs.j0 k l1 bt276.1 bt276.2.1 bt276.2.2.1 bt276.2.2.2 bt280.1 bt280.2.1 bt280.2.2 true) else (if bt280.1 = bt283.1 then (laws_FnJumpsOfPairs.j0 k l1 bt276.1 bt276.2.1 bt276.2.2.1 bt276.2.2.2 bt280.1 bt280.2.1 bt280.2.2 (bt280.2.1 != bt283.2.1)) else (laws_FnJumpsOfPairs.j0 k l1 bt276.1 bt276.2.1 bt276.2.2.1 bt276.2.2.2 bt280.1 bt280.2.1 bt280.2.2 true))))))) = some r := H
  have A3 := Aside0.mk A30
  clear A30
  by_cases c4 : t275 = true
  · subst c4
    have H1 : (some true) = some r := by rw [if_pos rfl] at H; exact H
    clear H
    have H := H1
    clear H1
    obtain rfl := Option.some.inj H
    go_enter Try.func6, Try.ntmps6
    go_wp2_with (first | ((with_reducible refine gate_callee (f := 13) rfl ?_); refine goesL_ (some 44) rfl rfl Try.func13 (by kernel_rfl) rfl #[.slice A0 l0.length c0, .slice A1 l1.length c1] rfl (by (try simp only [List.map_toArray, List.map_cons, List.map_nil]); first | done | rfl | (simp only [List.length_drop, List.length_take]; rfl)) ?_; (with_reducible refine (laws_big.calls _ _ l0 _ _ l1 true _ ?side1 ?side2 ?side3 ?side4 A3.out).mono ?_); (case side1 => repeat (first | exact HR0.out | (with_reducible refine Kd.C_alloc ?_ _) | (with_reducible refine Kd.C_drewN ?_ _) | (with_reducible refine Kd.C_drew ?_))); (case side2 => exact HC0.out); (case side3 => repeat (first | exact HR1.out | (with_reducible refine Kd.C_alloc ?_ _) | (with_reducible refine Kd.C_drewN ?_ _) | (with_reducible refine Kd.C_drew ?_))); (case side4 => exact HC1.out); rintro e w' ⟨rfl, ⟨nd, rfl⟩⟩; refine ⟨_, rfl, ?_⟩))
    go_ret
    exact ⟨by first | rfl | (simp [errW_none, errW_some] <;> rfl) | (simp [*, errW_none, errW_some] <;> rfl), by repeat (first | (with_reducible first | exact HB.out | apply below_alloc | apply pw_below_drewN | apply below_drew1) | exact HB.out | exact Below.refl _ _)⟩
  · replace c4 := Bool.eq_false_iff.mpr c4
    subst c4
    have H1 : ((spec_DrawJumpDown.f k l0).bind fun bt276 => ((impl_JumpDown.f bt276.1 bt276.2.1 bt276.2.2.1 bt276.2.2.2).bind fun bt280 => ((spec_JumpDown.f bt276.1 bt276.2.1 bt276.2.2.1 bt276.2.2.2).bind fun bt283 => (if (bt280.2.2 != bt283.2.2) = true then (laws_FnJumpsOfPairs.j0 k l1 bt276.1 bt276.2.1 bt276.2.2.1 bt276.2.2.2 bt280.1 bt280.2.1 bt280.2.2 true) else (if bt280.1 = bt283.1 then (laws_FnJumpsOfPairs.j0 k l1 bt276.1 bt276.2.1 bt276.2.2.1 bt276.2.2.2 bt280.1 bt280.2.1 bt280.2.2 (bt280.2.1 != bt283.2.1)) else (laws_FnJumpsOfPairs.j0 k l1 bt276.1 bt276.2.1 bt276.2.2.1 bt276.2.2.2 bt280.1 bt280.2.1 bt280.2.2 true)))))) = some r := by rw [if_neg (show ¬ (false = true) by decide)] at H; exact H
    clear H
    have H := H1
    clear H1
    replace H := Option.bind_eq_some_iff.mp H
    obtain ⟨⟨t276, t277, t278, t279⟩, A50, H⟩ := H
    replace H : ((impl_JumpDown.f t276 t277 t278 t279).bind fun bt280 => ((spec_JumpDown.f t276 t277 t278 t279).bind fun bt283 => (if (bt280.2.2 != bt283.2.2) = true then (laws_FnJumpsOfPairs.j0 k l1 t276 t277 t278 t279 bt280.1 bt280.2.1 bt280.2.2 true) else (if bt280.1 = bt283.1 then (laws_FnJumpsOfPairs.j0 k l1 t276 t277 t278 t279 bt280.1 bt280.2.1 bt280.2.2 (bt280.2.1 != bt283.2.1)) else (laws_FnJumpsOfPairs.j0 k l1 t276 t277 t278 t279 bt280.1 bt280.2.1 bt280.2.2 true))))) = some r := H
    have A5 := Aside0.mk A50
    clear A50
    replace H := Option.bind_eq_some_iff.mp H
    obtain ⟨⟨t280, t281, t282⟩, A60, H⟩ := H
    replace H : ((spec_JumpDown.f t276 t277 t278 t279).bind fun bt283 => (if (t282 != bt283.2.2) = true then (laws_FnJumpsOfPairs.j0 k l1 t276 t277 t278 t279 t280 t281 t282 true) else (if t280 = bt283.1 then (laws_FnJumpsOfPairs.j0 k l1 t276 t277 t278 t279 t280 t281 t282 (t281 != bt283.2.1)) else (laws_FnJumpsOfPairs.j0 k l1 t276 t277 t278 t279 t280 t281 t282 true)))) = some r := H
    have A6 := Aside0.mk A60
    clear A60
    replace H := Option.bind_eq_some_iff.mp H
    obtain ⟨⟨t283, t284, t285⟩, A70, H⟩ := H
    replace H : (if (t282 != t285) = true then (laws_FnJumpsOfPairs.j0 k l1 t276 t277 t278 t279 t280 t281 t282 true) else (if t280 = t283 then (laws_FnJumpsOfPairs.j0 k l1 t276 t277 t278 t279 t280 t281 t282 (t281 != t284)) else (laws_FnJumpsOfPairs.j0 k l1 t276 t277 t278 t279 t280 t281 t282 true))) = some r := H
    have A7 := Aside0.mk A70
    clear A70
    have HC8 := Aside0.mk H
    clear H
    go_enter Try.func6, Try.ntmps6
    go_upto_region 6 with (first | ((with_reducible refine gate_callee (f := 13) rfl ?_); refine goesL_ (some 44) rfl rfl Try.func13 (by kernel_rfl) rfl #[.slice A0 l0.length c0, .slice A1 l1.length c1] rfl (by (try simp only [List.map_toArray, List.map_cons, List.map_nil]); first | done | rfl | (simp only [List.length_drop, List.length_take]; rfl)) ?_; (with_reducible refine (laws_big.calls _ _ l0 _ _ l1 false _ ?side1 ?side2 ?side3 ?side4 A3.out).mono ?_); (case side1 => repeat (first | exact HR0.out | (with_reducible refine Kd.C_alloc ?_ _) | (with_reducible refine Kd.C_drewN ?_ _) | (with_reducible refine Kd.C_drew ?_))); (case side2 => exact HC0.out); (case side3 => repeat (first | exact HR1.out | (with_reducible refine Kd.C_alloc ?_ _) | (with_reducible refine Kd.C_drewN ?_ _) | (with_reducible refine Kd.C_drew ?_))); (case side4 => exact HC1.out); rintro e w' ⟨rfl, ⟨nd, rfl⟩⟩; refine ⟨_, rfl, ?_⟩) | ((with_reducible refine gate_callee (f := 33) rfl ?_); refine goesL_ (some 47) rfl rfl Try.func33 (by kernel_rfl) rfl #[.slice A0 l0.length c0] rfl (by (try simp only [List.map_toArray, List.map_cons, List.map_nil]); first | done | rfl | (simp only [List.length_drop, List.length_take]; rfl)) ?_; (with_reducible refine (spec_DrawJumpDown.calls k _ _ l0 t276 t277 t278 t279 _ ?side1 ?side2 A5.out).mono ?_); (case side1 => repeat (first | exact HR0.out | (with_reducible refine Kd.C_alloc ?_ _) | (with_reducible refine Kd.C_drewN ?_ _) | (with_reducible refine Kd.C_drew ?_))); (case side2 => exact HC0.out); rintro e w9 ⟨rfl, hb⟩; refine ⟨_, rfl, ?_⟩; have n0_ := Aside0.mk (below_step (by repeat (first | (with_reducible first | exact HB.out | apply below_alloc | apply pw_below_drewN | apply below_drew1) | exact HB.out | exact Below.refl _ _)) hb); clear HB; have HB := n0_; clear n0_; (try clear hb); (try clear hb2); (try clear hk); (try clear hi)) | ((with_reducible refine gate_callee (f := 28) rfl ?_); refine goesL_ (some 57) rfl rfl Try.func28 (by kernel_rfl) rfl #[.int .i64 t276, .int .i64 t277, .int .i64 t278, .int .i64 t279] rfl (by (try simp only [List.map_toArray, List.map_cons, List.map_nil]); first | done | rfl | (simp only [List.length_drop, List.length_take]; rfl)) ?_; (with_reducible refine (impl_JumpDown.calls t276 t277 t278 t279 t280 t281 t282 _ A6.out).mono ?_); rintro e w10 ⟨rfl, hb⟩; refine ⟨_, rfl, ?_⟩; have n0_ := Aside0.mk (below_step (by repeat (first | (with_reducible first | exact HB.out | apply below_alloc | apply pw_below_drewN | apply below_drew1) | exact HB.out | exact Below.refl _ _)) hb); clear HB; have HB := n0_; clear n0_; (try clear hb); (try clear hb2); (try clear hk); (try clear hi)) | ((with_reducible refine gate_callee (f := 34) rfl ?_); refine goesL_ (some 66) rfl rfl Try.func34 (by kernel_rfl) rfl #[.int .i64 t276, .int .i64 t277, .int .i64 t278, .int .i64 t279] rfl (by (try simp only [List.map_toArray, List.map_cons, List.map_nil]); first | done | rfl | (simp only [List.length_drop, List.length_take]; rfl)) ?_; (with_reducible refine (spec_JumpDown.calls t276 t277 t278 t279 t283 t284 t285 _ A7.out).mono ?_); rintro e w' ⟨rfl, ⟨nd, rfl⟩⟩; refine ⟨_, rfl, ?_⟩))
    (try simp only [Act.put, List.setIfInBounds_toArray, List.set_cons_zero, List.set_cons_succ])
    go_cut [82] (fun v82 wc => ∃ (kq : Nat) (x82_7 : Bool), v82 = .bool x82_7 ∧ Aside0 (laws_FnJumpsOfPairs.j0 kq l1 t276 t277 t278 t279 t280 t281 t282 x82_7 = some r) ∧ Aside0 (kq ≤ k) ∧ Aside0 (Below w.heap.size w wc))
    case first =>
      have H := HC8.out
      clear HC8
      by_cases c11 : (t282 != t285) = true
      · rw [if_pos c11] at H
        have c11b0 : (t282 != t285) = true := c11
        (try (have c11b1 : decide (t282 = t285) = false := by simpa using c11))
        (try (have c11b2 : (t282 == t285) = false := by simpa using c11))
        (try (have c11b3 : ¬ (t282 = t285) := by simpa using c11))
        clear c11
        (first | rw [c11b0] | (simp only [i64_w, i32_w]; rw [c11b0]) | skip)
        have H' := Aside0.mk H
        clear H
        go_wp2
        go_meet
        case rel => exact ⟨_, (true), (by first | rfl | (simp; done) | (simp [*]; done)), H', ⟨by first | omega | exact Nat.le_refl _⟩, ⟨by repeat (first | (with_reducible first | exact HB.out | apply below_alloc | apply pw_below_drewN | apply below_drew1) | exact HB.out | exact Below.refl _ _)⟩⟩
      · rw [if_neg c11] at H
        have c11b0 : (t282 != t285) = false := by simpa using c11
        (try (have c11b1 : decide (t282 = t285) = true := by simpa using c11))
        (try (have c11b2 : (t282 == t285) = true := by simpa using c11))
        clear c11
        (first | rw [c11b0] | (simp only [i64_w, i32_w]; rw [c11b0]) | skip)
        by_cases c12 : t280 = t283
        · rw [if_pos c12] at H
          have c12b0 : (t280 == t283) = true := beq_iff_eq.mpr c12
          have c12b1 : (t280 != t283) = false := bne_eq_false_iff_eq.mpr c12
          clear c12
          have H' := Aside0.mk H
          clear H
          go_wp2
          go_meet
          case rel => exact ⟨_, ((t281 != t284)), (by first | rfl | (simp; done) | (simp [*]; done)), H', ⟨by first | omega | exact Nat.le_refl _⟩, ⟨by repeat (first | (with_reducible first | exact HB.out | apply below_alloc | apply pw_below_drewN | apply below_drew1) | exact HB.out | exact Below.refl _ _)⟩⟩
        · rw [if_neg c12] at H
          have c12b0 : (t280 == t283) = false := beq_eq_false_iff_ne.mpr c12
          have c12b1 : (t280 != t283) = true := bne_iff_ne.mpr c12
          have H' := Aside0.mk H
          clear H
          go_wp2
          go_meet
          case rel => exact ⟨_, (true), (by first | rfl | (simp; done) | (simp [*]; done)), H', ⟨by first | omega | exact Nat.le_refl _⟩, ⟨by repeat (first | (with_reducible first | exact HB.out | apply below_alloc | apply pw_below_drewN | apply below_drew1) | exact HB.out | exact Below.refl _ _)⟩⟩
    case rest =>
      as_aux_lemma =>
        clear HC8
        try clear c1
        try clear c2
        try clear p2
        try clear c3
        try clear c4
        try clear c6
        try clear c11
        try clear c11b0
        try clear c11b1
        try clear c11b2
        try clear c12
        try clear c12b0
        try clear c12b1
        obtain ⟨kq, x82_7, rfl, HA, HJ7, HB⟩ := hcut
        cases kq with
        | zero => exact absurd HA.out (by simp [laws_FnJumpsOfPairs.j0])
        | succ kj7 =>
          have H := HA.out
          clear HA
          simp only [laws_FnJumpsOfPairs.j0] at H
          by_cases c13 : x82_7 = true
          · subst c13
            have H1 : (some false) = some r := by rw [if_pos rfl] at H; exact H
            clear H
            have H := H1
            clear H1
            obtain rfl := Option.some.inj H
            go_wp2
            go_ret
            exact ⟨by first | rfl | (simp [errW_none, errW_some] <;> rfl) | (simp [*, errW_none, errW_some] <;> rfl), by repeat (first | (with_reducible first | exact HB.out | apply below_alloc | apply pw_below_drewN | apply below_drew1) | exact HB.out | exact Below.refl _ _)⟩
          · replace c13 := Bool.eq_false_iff.mpr c13
            subst c13
            have H1 : (if t282 = true then ((laws_vPair.f t280 t281 t278 t279).bind fun t286 => (if t286 = true then (laws_FnJumpsOfPairs.j1 kj7 l1 t276 t277 t278 t279 t280 t281 (decide ((wrap64 (t280 + t281)) ≥ (wrap64 (t276 + t277))))) else (laws_FnJumpsOfPairs.j1 kj7 l1 t276 t277 t278 t279 t280 t281 true))) else (laws_FnJumpsOfPairs.j3 kj7 l1)) = some r := by rw [if_neg (show ¬ (false = true) by decide)] at H; exact H
            clear H
            have H := H1
            clear H1
            have HC14 := Aside0.mk H
            clear H
            go_upto_if 83 with (fail)
            go_cut [] (fun wc => ∃ (kq : Nat), Aside0 (laws_FnJumpsOfPairs.j3 kq l1 = some r) ∧ Aside0 (kq ≤ kj7) ∧ Aside0 (Below w.heap.size w wc))
            case first =>
              have H := HC14.out
              clear HC14
              by_cases c15 : t282 = true
              · subst c15
                have H1 : ((laws_vPair.f t280 t281 t278 t279).bind fun t286 => (if t286 = true then (laws_FnJumpsOfPairs.j1 kj7 l1 t276 t277 t278 t279 t280 t281 (decide ((wrap64 (t280 + t281)) ≥ (wrap64 (t276 + t277))))) else (laws_FnJumpsOfPairs.j1 kj7 l1 t276 t277 t278 t279 t280 t281 true))) = some r := by rw [if_pos rfl] at H; exact H
                clear H
                have H := H1
                clear H1
                have HC16 := Aside0.mk H
                clear H
                go_upto_region 9 with (fail)
                go_cut [98] (fun v98 wc => ∃ (kq : Nat) (x98_15 : Bool), v98 = .bool x98_15 ∧ Aside0 (laws_FnJumpsOfPairs.j1 kq l1 t276 t277 t278 t279 t280 t281 x98_15 = some r) ∧ Aside0 (kq ≤ kj7) ∧ Aside0 (Below w.heap.size w wc))
                case first =>
                  have H := HC16.out
                  clear HC16
                  replace H := Option.bind_eq_some_iff.mp H
                  obtain ⟨t286, A170, H⟩ := H
                  replace H : (if t286 = true then (laws_FnJumpsOfPairs.j1 kj7 l1 t276 t277 t278 t279 t280 t281 (decide ((wrap64 (t280 + t281)) ≥ (wrap64 (t276 + t277))))) else (laws_FnJumpsOfPairs.j1 kj7 l1 t276 t277 t278 t279 t280 t281 true)) = some r := H
                  have A17 := Aside0.mk A170
                  clear A170
                  by_cases c18 : t286 = true
                  · subst c18
                    have H1 : (laws_FnJumpsOfPairs.j1 kj7 l1 t276 t277 t278 t279 t280 t281 (decide ((wrap64 (t280 + t281)) ≥ (wrap64 (t276 + t277))))) = some r := by rw [if_pos rfl] at H; exact H
                    clear H
                    have H := H1
                    clear H1
                    have H' := Aside0.mk H
                    clear H
                    go_wp2_with (first | ((with_reducible refine gate_callee (f := 26) rfl ?_); refine goesL_ (some 88) rfl rfl Try.func26 (by kernel_rfl) rfl #[.int .i64 t280, .int .i64 t281, .int .i64 t278, .int .i64 t279] rfl (by (try simp only [List.map_toArray, List.map_cons, List.map_nil]); first | done | rfl | (simp only [List.length_drop, List.length_take]; rfl)) ?_; (with_reducible refine (laws_vPair.calls t280 t281 t278 t279 true _ A17.out).mono ?_); rintro e w' ⟨rfl, ⟨nd, rfl⟩⟩; refine ⟨_, rfl, ?_⟩))
                    go_meet
                    case rel => exact ⟨_, (decide ((wrap64 (t280 + t281)) ≥ (wrap64 (t276 + t277)))), (by first | rfl | (simp; done) | (simp [*]; done)), H', ⟨by have := HJ7.out; first | omega | exact Nat.le_refl _⟩, ⟨by repeat (first | (with_reducible first | exact HB.out | apply below_alloc | apply pw_below_drewN | apply below_drew1) | exact HB.out | exact Below.refl _ _)⟩⟩
                  · replace c18 := Bool.eq_false_iff.mpr c18
                    subst c18
                    have H1 : (laws_FnJumpsOfPairs.j1 kj7 l1 t276 t277 t278 t279 t280 t281 true) = some r := by rw [if_neg (show ¬ (false = true) by decide)] at H; exact H
                    clear H
                    have H := H1
                    clear H1
                    have H' := Aside0.mk H
                    clear H
                    go_wp2_with (first | ((with_reducible refine gate_callee (f := 26) rfl ?_); refine goesL_ (some 88) rfl rfl Try.func26 (by kernel_rfl) rfl #[.int .i64 t280, .int .i64 t281, .int .i64 t278, .int .i64 t279] rfl (by (try simp only [List.map_toArray, List.map_cons, List.map_nil]); first | done | rfl | (simp only [List.length_drop, List.length_take]; rfl)) ?_; (with_reducible refine (laws_vPair.calls t280 t281 t278 t279 false _ A17.out).mono ?_); rintro e w' ⟨rfl, ⟨nd, rfl⟩⟩; refine ⟨_, rfl, ?_⟩))
                    go_meet
                    case rel => exact ⟨_, (true), (by first | rfl | (simp; done) | (simp [*]; done)), H', ⟨by have := HJ7.out; first | omega | exact Nat.le_refl _⟩, ⟨by repeat (first | (with_reducible first | exact HB.out | apply below_alloc | apply pw_below_drewN | apply below_drew1) | exact HB.out | exact Below.refl _ _)⟩⟩
                case rest =>
                  as_aux_lemma =>
                    clear HC16
                    try clear c1
                    try clear c2
                    try clear p2
                    try clear c3
                    try clear c4
                    try clear c6
                    try clear p6
                    try clear c11
                    try clear c11b0
                    try clear c11b1
                    try clear c11b2
                    try clear c12
                    try clear c12b0
                    try clear c12b1
                    try clear c13
                    try clear c15
                    try clear c18
                    try clear p2
                    obtain ⟨kq, x98_15, rfl, HA, HJ15, HB⟩ := hcut
                    cases kq with
                    | zero => exact absurd HA.out (by simp [laws_FnJumpsOfPairs.j1])
                    | succ kj15 =>
                      have H := HA.out
                      clear HA
                      simp only [laws_FnJumpsOfPairs.j1] at H
                      by_cases c19 : x98_15 = true
                      · subst c19
                        have H1 : (some false) = some r := by rw [if_pos rfl] at H; exact H
                        clear H
                        have H := H1
                        clear H1
                        obtain rfl := Option.some.inj H
                        go_wp2
                        go_ret
                        exact ⟨by first | rfl | (simp [errW_none, errW_some] <;> rfl) | (simp [*, errW_none, errW_some] <;> rfl), by repeat (first | (with_reducible first | exact HB.out | apply below_alloc | apply pw_below_drewN | apply below_drew1) | exact HB.out | exact Below.refl _ _)⟩
                      · replace c19 := Bool.eq_false_iff.mpr c19
                        subst c19
                        have H1 : (if t281 < (wrap64 ((wrap64 (t278 * t277)) - t276)) then (laws_FnJumpsOfPairs.j2 kj15 l1 t276 t277 t278 t279 t280 t281 true) else (laws_FnJumpsOfPairs.j2 kj15 l1 t276 t277 t278 t279 t280 t281 (t280 == t277))) = some r := by rw [if_neg (show ¬ (false = true) by decide)] at H; exact H
                        clear H
                        have H := H1
                        clear H1
                        have HC20 := Aside0.mk H
                        clear H
                        go_upto_region 11 with (fail)
                        go_cut [110] (fun v110 wc => ∃ (kq : Nat) (x110_19 : Bool), v110 = .bool x110_19 ∧ Aside0 (laws_FnJumpsOfPairs.j2 kq l1 t276 t277 t278 t279 t280 t281 x110_19 = some r) ∧ Aside0 (kq ≤ kj15) ∧ Aside0 (Below w.heap.size w wc))
                        case first =>
                          have H := HC20.out
                          clear HC20
                          by_cases c21 : t281 < (wrap64 ((wrap64 (t278 * t277)) - t276))
                          · rw [if_pos c21] at H
                            have c21b0 : decide (t281 < (wrap64 ((wrap64 (t278 * t277)) - t276))) = true := decide_eq_true c21
                            clear c21
                            (first | rw [c21b0] | (simp only [i64_w, i32_w]; rw [c21b0]) | skip)
                            have H' := Aside0.mk H
                            clear H
                            go_wp2
                            go_meet
                            case rel => exact ⟨_, (true), (by first | rfl | (simp; done) | (simp [*]; done)), H', ⟨by have := HJ7.out; have := HJ15.out; first | omega | exact Nat.le_refl _⟩, ⟨by repeat (first | (with_reducible first | exact HB.out | apply below_alloc | apply pw_below_drewN | apply below_drew1) | exact HB.out | exact Below.refl _ _)⟩⟩
                          · rw [if_neg c21] at H
                            have c21b0 : decide (t281 < (wrap64 ((wrap64 (t278 * t277)) - t276))) = false := decide_eq_false c21
                            clear c21
                            (first | rw [c21b0] | (simp only [i64_w, i32_w]; rw [c21b0]) | skip)
                            have H' := Aside0.mk H
                            clear H
                            go_wp2
                            go_meet
                            case rel => exact ⟨_, ((t280 == t277)), (by first | rfl | (simp; done) | (simp [*]; done)), H', ⟨by have := HJ7.out; have := HJ15.out; first | omega | exact Nat.le_refl _⟩, ⟨by repeat (first | (with_reducible first | exact HB.out | apply below_alloc | apply pw_below_drewN | apply below_drew1) | exact HB.out | exact Below.refl _ _)⟩⟩
                        case rest =>
                          as_aux_lemma =>
                            clear HC20
                            try clear c1
                            try clear c2
                            try clear p2
                            try clear c3
                            try clear c4
                            try clear c6
                            try clear p6
                            try clear c11
                            try clear c11b0
                            try clear c11b1
                            try clear c11b2
                            try clear c12
                            try clear c12b0
                            try clear c12b1
                            try clear c13
                            try clear c15
                            try clear c18
                            try clear c19
                            try clear c21
                            try clear c21b0
                            try clear p2
                            try clear p6
                            obtain ⟨kq, x110_19, rfl, HA, HJ19, HB⟩ := hcut
                            cases kq with
                            | zero => exact absurd HA.out (by simp [laws_FnJumpsOfPairs.j2])
                            | succ kj19 =>
                              have H := HA.out
                              clear HA
                              simp only [laws_FnJumpsOfPairs.j2] at H
                              by_cases c22 : x110_19 = true
                              · subst c22
                                have H1 : ((impl_JumpUp.f t280 t281 t278 t279).bind fun bt287 => (if t280 = t277 then (if bt287.2.2 = true then (if bt287.1 = t276 then (if bt287.2.1 = t277 then (laws_FnJumpsOfPairs.j3 kj19 l1) else (some false)) else (some false)) else (some false)) else (laws_FnJumpsOfPairs.j3 kj19 l1))) = some r := by rw [if_pos rfl] at H; exact H
                                clear H
                                have H := H1
                                clear H1
                                replace H := Option.bind_eq_some_iff.mp H
                                obtain ⟨⟨t287, t288, t289⟩, A230, H⟩ := H
                                replace H : (if t280 = t277 then (if t289 = true then (if t287 = t276 then (if t288 = t277 then (laws_FnJumpsOfPairs.j3 kj19 l1) else (some false)) else (some false)) else (some false)) else (laws_FnJumpsOfPairs.j3 kj19 l1)) = some r := H
                                have A23 := Aside0.mk A230
                                clear A230
                                by_cases c24 : t280 = t277
                                · rw [if_pos c24] at H
                                  have c24b0 : (t280 == t277) = true := beq_iff_eq.mpr c24
                                  have c24b1 : (t280 != t277) = false := bne_eq_false_iff_eq.mpr c24
                                  clear c24
                                  by_cases c25 : t289 = true
                                  · subst c25
                                    have H1 : (if t287 = t276 then (if t288 = t277 then (laws_FnJumpsOfPairs.j3 kj19 l1) else (some false)) else (some false)) = some r := by rw [if_pos rfl] at H; exact H
                                    clear H
                                    have H := H1
                                    clear H1
                                    by_cases c26 : t287 = t276
                                    · rw [if_pos c26] at H
                                      have c26b0 : (t287 == t276) = true := beq_iff_eq.mpr c26
                                      have c26b1 : (t287 != t276) = false := bne_eq_false_iff_eq.mpr c26
                                      clear c26
                                      by_cases c27 : t288 = t277
                                      · rw [if_pos c27] at H
                                        have c27b0 : (t288 == t277) = true := beq_iff_eq.mpr c27
                                        have c27b1 : (t288 != t277) = false := bne_eq_false_iff_eq.mpr c27
                                        clear c27
                                        have H' := Aside0.mk H
                                        clear H
                                        go_wp2_with (first | ((with_reducible refine gate_callee (f := 32) rfl ?_); refine goesL_ (some 116) rfl rfl Try.func32 (by kernel_rfl) rfl #[.int .i64 t280, .int .i64 t281, .int .i64 t278, .int .i64 t279] rfl (by (try simp only [List.map_toArray, List.map_cons, List.map_nil]); first | done | rfl | (simp only [List.length_drop, List.length_take]; rfl)) ?_; (with_reducible refine (impl_JumpUp.calls t280 t281 t278 t279 t287 t288 true _ A23.out).mono ?_); rintro e w' ⟨rfl, ⟨nd, rfl⟩⟩; refine ⟨_, rfl, ?_⟩))
                                        go_meet
                                        case rel => exact ⟨_, H', ⟨by have := HJ7.out; have := HJ15.out; have := HJ19.out; first | omega | exact Nat.le_refl _⟩, ⟨by repeat (first | (with_reducible first | exact HB.out | apply below_alloc | apply pw_below_drewN | apply below_drew1) | exact HB.out | exact Below.refl _ _)⟩⟩
                                      · rw [if_neg c27] at H
                                        have c27b0 : (t288 == t277) = false := beq_eq_false_iff_ne.mpr c27
                                        have c27b1 : (t288 != t277) = true := bne_iff_ne.mpr c27
                                        obtain rfl := Option.some.inj H
                                        go_wp2_with (first | ((with_reducible refine gate_callee (f := 32) rfl ?_); refine goesL_ (some 116) rfl rfl Try.func32 (by kernel_rfl) rfl #[.int .i64 t280, .int .i64 t281, .int .i64 t278, .int .i64 t279] rfl (by (try simp only [List.map_toArray, List.map_cons, List.map_nil]); first | done | rfl | (simp only [List.length_drop, List.length_take]; rfl)) ?_; (with_reducible refine (impl_JumpUp.calls t280 t281 t278 t279 t287 t288 true _ A23.out).mono ?_); rintro e w' ⟨rfl, ⟨nd, rfl⟩⟩; refine ⟨_, rfl, ?_⟩))
                                        go_ret
                                        exact ⟨by first | rfl | (simp [errW_none, errW_some] <;> rfl) | (simp [*, errW_none, errW_some] <;> rfl), by repeat (first | (with_reducible first | exact HB.out | apply below_alloc | apply pw_below_drewN | apply below_drew1) | exact HB.out | exact Below.refl _ _)⟩
                                    · rw [if_neg c26] at H
                                      have c26b0 : (t287 == t276) = false := beq_eq_false_iff_ne.mpr c26
                                      have c26b1 : (t287 != t276) = true := bne_iff_ne.mpr c26
                                      obtain rfl := Option.some.inj H
                                      go_wp2_with (first | ((with_reducible refine gate_callee (f := 32) rfl ?_); refine goesL_ (some 116) rfl rfl Try.func32 (by kernel_rfl) rfl #[.int .i64 t280, .int .i64 t281, .int .i64 t278, .int .i64 t279] rfl (by (try simp only [List.map_toArray, List.map_cons, List.map_nil]); first | done | rfl | (simp only [List.length_drop, List.length_take]; rfl)) ?_; (with_reducible refine (impl_JumpUp.calls t280 t281 t278 t279 t287 t288 true _ A23.out).mono ?_); rintro e w' ⟨rfl, ⟨nd, rfl⟩⟩; refine ⟨_, rfl, ?_⟩))
                                      go_ret
                                      exact ⟨by first | rfl | (simp [errW_none, errW_some] <;> rfl) | (simp [*, errW_none, errW_some] <;> rfl), by repeat (first | (with_reducible first | exact HB.out | apply below_alloc | apply pw_below_drewN | apply below_drew1) | exact HB.out | exact Below.refl _ _)⟩
                                  · replace c25 := Bool.eq_false_iff.mpr c25
                                    subst c25
                                    have H1 : (some false) = some r := by rw [if_neg (show ¬ (false = true) by decide)] at H; exact H
                                    clear H
                                    have H := H1
                                    clear H1
                                    obtain rfl := Option.some.inj H
                                    go_wp2_with (first | ((with_reducible refine gate_callee (f := 32) rfl ?_); refine goesL_ (some 116) rfl rfl Try.func32 (by kernel_rfl) rfl #[.int .i64 t280, .int .i64 t281, .int .i64 t278, .int .i64 t279] rfl (by (try simp only [List.map_toArray, List.map_cons, List.map_nil]); first | done | rfl | (simp only [List.length_drop, List.length_take]; rfl)) ?_; (with_reducible refine (impl_JumpUp.calls t280 t281 t278 t279 t287 t288 false _ A23.out).mono ?_); rintro e w' ⟨rfl, ⟨nd, rfl⟩⟩; refine ⟨_, rfl, ?_⟩))
                                    go_ret
                                    exact ⟨by first | rfl | (simp [errW_none, errW_some] <;> rfl) | (simp [*, errW_none, errW_some] <;> rfl), by repeat (first | (with_reducible first | exact HB.out | apply below_alloc | apply pw_below_drewN | apply below_drew1) | exact HB.out | exact Below.refl _ _)⟩
                                · rw [if_neg c24] at H
                                  have c24b0 : (t280 == t277) = false := beq_eq_false_iff_ne.mpr c24
                                  have c24b1 : (t280 != t277) = true := bne_iff_ne.mpr c24
                                  have H' := Aside0.mk H
                                  clear H
                                  go_wp2_with (first | ((with_reducible refine gate_callee (f := 32) rfl ?_); refine goesL_ (some 116) rfl rfl Try.func32 (by kernel_rfl) rfl #[.int .i64 t280, .int .i64 t281, .int .i64 t278, .int .i64 t279] rfl (by (try simp only [List.map_toArray, List.map_cons, List.map_nil]); first | done | rfl | (simp only [List.length_drop, List.length_take]; rfl)) ?_; (with_reducible refine (impl_JumpUp.calls t280 t281 t278 t279 t287 t288 t289 _ A23.out).mono ?_); rintro e w' ⟨rfl, ⟨nd, rfl⟩⟩; refine ⟨_, rfl, ?_⟩))
                                  go_meet
                                  case rel => exact ⟨_, H', ⟨by have := HJ7.out; have := HJ15.out; have := HJ19.out; first | omega | exact Nat.le_refl _⟩, ⟨by repeat (first | (with_reducible first | exact HB.out | apply below_alloc | apply pw_below_drewN | apply below_drew1) | exact HB.out | exact Below.refl _ _)⟩⟩
                              · replace c22 := Bool.eq_false_iff.mpr c22
                                subst c22
                                have H1 : (laws_FnJumpsOfPairs.j3 kj19 l1) = some r := by rw [if_neg (show ¬ (false = true) by decide)] at H; exact H
                                clear H
                                have H := H1
                                clear H1
                                have H' := Aside0.mk H
                                clear H
                                go_wp2
                                go_meet
                                case rel => exact ⟨_, H', ⟨by have := HJ7.out; have := HJ15.out; have := HJ19.out; first | omega | exact Nat.le_refl _⟩, ⟨by repeat (first | (with_reducible first | exact HB.out | apply below_alloc | apply pw_below_drewN | apply below_drew1) | exact HB.out | exact Below.refl _ _)⟩⟩
              · replace c15 := Bool.eq_false_iff.mpr c15
                subst c15
                have H1 : (laws_FnJumpsOfPairs.j3 kj7 l1) = some r := by rw [if_neg (show ¬ (false = true) by decide)] at H; exact H
                clear H
                have H := H1
                clear H1
                have H' := Aside0.mk H
                clear H
                go_wp2
                go_meet
                case rel => exact ⟨_, H', ⟨by have := HJ7.out; first | omega | exact Nat.le_refl _⟩, ⟨by repeat (first | (with_reducible first | exact HB.out | apply below_alloc | apply pw_below_drewN | apply below_drew1) | exact HB.out | exact Below.refl _ _)⟩⟩
            case rest =>
              as_aux_lemma =>
                clear HC14
                try clear c1
                try clear c2
                try clear p2
                try clear c3
                try clear c4
                try clear c6
                try clear p6
                try clear c11
                try clear c11b0
                try clear c11b1
                try clear c11b2
                try clear c12
                try clear c12b0
                try clear c12b1
                try clear c13
                try clear c15
                try clear c18
                try clear c19
                try clear c21
                try clear c21b0
                try clear c22
                try clear c24
                try clear c24b0
                try clear c24b1
                try clear c25
                try clear c26
                try clear c26b0
                try clear c26b1
                try clear c27
                try clear c27b0
                try clear c27b1
                try clear p2
                try clear p6
                obtain ⟨kq, HA, HJ13, HB⟩ := hcut
                cases kq with
                | zero => exact absurd HA.out (by simp [laws_FnJumpsOfPairs.j3])
                | succ kj13 =>
                  have H := HA.out
                  clear HA
                  simp only [laws_FnJumpsOfPairs.j3] at H
                  replace H := Option.bind_eq_some_iff.mp H
                  obtain ⟨⟨t290, t291, t292, t293⟩, A280, H⟩ := H
                  replace H : ((impl_JumpUp.f t290 t291 t292 t293).bind fun bt294 => ((spec_JumpUp.f t290 t291 t292 t293).bind fun bt297 => (if (bt294.2.2 != bt297.2.2) = true then (laws_FnJumpsOfPairs.j4 kj13 l1 t290 t291 t292 t293 bt294.1 bt294.2.1 bt294.2.2 true) else (if bt294.1 = bt297.1 then (laws_FnJumpsOfPairs.j4 kj13 l1 t290 t291 t292 t293 bt294.1 bt294.2.1 bt294.2.2 (bt294.2.1 != bt297.2.1)) else (laws_FnJumpsOfPairs.j4 kj13 l1 t290 t291 t292 t293 bt294.1 bt294.2.1 bt294.2.2 true))))) = some r := H
                  have A28 := Aside0.mk A280
                  clear A280
                  replace H := Option.bind_eq_some_iff.mp H
                  obtain ⟨⟨t294, t295, t296⟩, A290, H⟩ := H
                  replace H : ((spec_JumpUp.f t290 t291 t292 t293).bind fun bt297 => (if (t296 != bt297.2.2) = true then (laws_FnJumpsOfPairs.j4 kj13 l1 t290 t291 t292 t293 t294 t295 t296 true) else (if t294 = bt297.1 then (laws_FnJumpsOfPairs.j4 kj13 l1 t290 t291 t292 t293 t294 t295 t296 (t295 != bt297.2.1)) else (laws_FnJumpsOfPairs.j4 kj13 l1 t290 t291 t292 t293 t294 t295 t296 true)))) = some r := H
                  have A29 := Aside0.mk A290
                  clear A290
                  replace H := Option.bind_eq_some_iff.mp H
                  obtain ⟨⟨t297, t298, t299⟩, A300, H⟩ := H
                  replace H : (if (t296 != t299) = true then (laws_FnJumpsOfPairs.j4 kj13 l1 t290 t291 t292 t293 t294 t295 t296 true) else (if t294 = t297 then (laws_FnJumpsOfPairs.j4 kj13 l1 t290 t291 t292 t293 t294 t295 t296 (t295 != t298)) else (laws_FnJumpsOfPairs.j4 kj13 l1 t290 t291 t292 t293 t294 t295 t296 true))) = some r := H
                  have A30 := Aside0.mk A300
                  clear A300
                  have HC31 := Aside0.mk H
                  clear H
                  go_upto_region 18 with (first | ((with_reducible refine gate_callee (f := 35) rfl ?_); refine goesL_ (some 139) rfl rfl Try.func35 (by kernel_rfl) rfl #[.slice A1 l1.length c1] rfl (by (try simp only [List.map_toArray, List.map_cons, List.map_nil]); first | done | rfl | (simp only [List.length_drop, List.length_take]; rfl)) ?_; (with_reducible refine (spec_DrawJumpUp.calls kj13 _ _ l1 t290 t291 t292 t293 _ ?side1 ?side2 A28.out).mono ?_); (case side1 => repeat (first | exact (Kd.C_below HR1.out HB.out) | (with_reducible refine Kd.C_alloc ?_ _) | (with_reducible refine Kd.C_drewN ?_ _) | (with_reducible refine Kd.C_drew ?_))); (case side2 => exact HC1.out); rintro e w32 ⟨rfl, hb⟩; refine ⟨_, rfl, ?_⟩; have n0_ := Aside0.mk (below_step (by repeat (first | (with_reducible first | exact HB.out | apply below_alloc | apply pw_below_drewN | apply below_drew1) | exact HB.out | exact Below.refl _ _)) hb); clear HB; have HB := n0_; clear n0_; (try clear hb); (try clear hb2); (try clear hk); (try clear hi)) | ((with_reducible refine gate_callee (f := 32) rfl ?_); refine goesL_ (some 149) rfl rfl Try.func32 (by kernel_rfl) rfl #[.int .i64 t290, .int .i64 t291, .int .i64 t292, .int .i64 t293] rfl (by (try simp only [List.map_toArray, List.map_cons, List.map_nil]); first | done | rfl | (simp only [List.length_drop, List.length_take]; rfl)) ?_; (with_reducible refine (impl_JumpUp.calls t290 t291 t292 t293 t294 t295 t296 _ A29.out).mono ?_); rintro e w' ⟨rfl, ⟨nd, rfl⟩⟩; refine ⟨_, rfl, ?_⟩) | ((with_reducible refine gate_callee (f := 36) rfl ?_); refine goesL_ (some 158) rfl rfl Try.func36 (by kernel_rfl) rfl #[.int .i64 t290, .int .i64 t291, .int .i64 t292, .int .i64 t293] rfl (by (try simp only [List.map_toArray, List.map_cons, List.map_nil]); first | done | rfl | (simp only [List.length_drop, List.length_take]; rfl)) ?_; (with_reducible refine (spec_JumpUp.calls t290 t291 t292 t293 t297 t298 t299 _ A30.out).mono ?_); rintro e w' ⟨rfl, ⟨nd, rfl⟩⟩; refine ⟨_, rfl, ?_⟩))
                  (try simp only [Act.put, List.setIfInBounds_toArray, List.set_cons_zero, List.set_cons_succ])
                  go_cut [174] (fun v174 wc => ∃ (kq : Nat) (x174_30 : Bool), v174 = .bool x174_30 ∧ Aside0 (laws_FnJumpsOfPairs.j4 kq l1 t290 t291 t292 t293 t294 t295 t296 x174_30 = some r) ∧ Aside0 (kq ≤ kj13) ∧ Aside0 (Below w.heap.size w wc))
                  case first =>
                    have H := HC31.out
                    clear HC31
                    by_cases c33 : (t296 != t299) = true
                    · rw [if_pos c33] at H
                      have c33b0 : (t296 != t299) = true := c33
                      (try (have c33b1 : decide (t296 = t299) = false := by simpa using c33))
                      (try (have c33b2 : (t296 == t299) = false := by simpa using c33))
                      (try (have c33b3 : ¬ (t296 = t299) := by simpa using c33))
                      clear c33
                      (first | rw [c33b0] | (simp only [i64_w, i32_w]; rw [c33b0]) | skip)
                      have H' := Aside0.mk H
                      clear H
                      go_wp2
                      go_meet
                      case rel => exact ⟨_, (true), (by first | rfl | (simp; done) | (simp [*]; done)), H', ⟨by have := HJ7.out; have := HJ13.out; first | omega | exact Nat.le_refl _⟩, ⟨by repeat (first | (with_reducible first | exact HB.out | apply below_alloc | apply pw_below_drewN | apply below_drew1) | exact HB.out | exact Below.refl _ _)⟩⟩
                    · rw [if_neg c33] at H
                      have c33b0 : (t296 != t299) = false := by simpa using c33
                      (try (have c33b1 : decide (t296 = t299) = true := by simpa using c33))
                      (try (have c33b2 : (t296 == t299) = true := by simpa using c33))
                      clear c33
                      (first | rw [c33b0] | (simp only [i64_w, i32_w]; rw [c33b0]) | skip)
                      by_cases c34 : t294 = t297
                      · rw [if_pos c34] at H
                        have c34b0 : (t294 == t297) = true := beq_iff_eq.mpr c34
                        have c34b1 : (t294 != t297) = false := bne_eq_false_iff_eq.mpr c34
                        clear c34
                        have H' := Aside0.mk H
                        clear H
                        go_wp2
                        go_meet
                        case rel => exact ⟨_, ((t295 != t298)), (by first | rfl | (simp; done) | (simp [*]; done)), H', ⟨by have := HJ7.out; have := HJ13.out; first | omega | exact Nat.le_refl _⟩, ⟨by repeat (first | (with_reducible first | exact HB.out | apply below_alloc | apply pw_below_drewN | apply below_drew1) | exact HB.out | exact Below.refl _ _)⟩⟩
                      · rw [if_neg c34] at H
                        have c34b0 : (t294 == t297) = false := beq_eq_false_iff_ne.mpr c34
                        have c34b1 : (t294 != t297) = true := bne_iff_ne.mpr c34
                        have H' := Aside0.mk H
                        clear H
                        go_wp2
                        go_meet
                        case rel => exact ⟨_, (true), (by first | rfl | (simp; done) | (simp [*]; done)), H', ⟨by have := HJ7.out; have := HJ13.out; first | omega | exact Nat.le_refl _⟩, ⟨by repeat (first | (with_reducible first | exact HB.out | apply below_alloc | apply pw_below_drewN | apply below_drew1) | exact HB.out | exact Below.refl _ _)⟩⟩
                  case rest =>
                    as_aux_lemma =>
                      clear HC31
                      try clear c1
                      try clear c2
                      try clear p2
                      try clear c3
                      try clear c4
                      try clear c6
                      try clear p6
                      try clear c11
                      try clear c11b0
                      try clear c11b1
                      try clear c11b2
                      try clear c12
                      try clear c12b0
                      try clear c12b1
                      try clear c13
                      try clear c15
                      try clear c18
                      try clear c19
                      try clear c21
                      try clear c21b0
                      try clear c22
                      try clear c24
                      try clear c24b0
                      try clear c24b1
                      try clear c25
                      try clear c26
                      try clear c26b0
                      try clear c26b1
                      try clear c27
                      try clear c27b0
                      try clear c27b1
                      try clear c28
                      try clear c32
                      try clear c33
                      try clear c33b0
                      try clear c33b1
                      try clear c33b2
                      try clear c34
                      try clear c34b0
                      try clear c34b1
                      try clear p2
                      try clear p6
                      obtain ⟨kq, x174_30, rfl, HA, HJ30, HB⟩ := hcut
                      cases kq with
                      | zero => exact absurd HA.out (by simp [laws_FnJumpsOfPairs.j4])
                      | succ kj30 =>
                        have H := HA.out
                        clear HA
                        simp only [laws_FnJumpsOfPairs.j4] at H
                        by_cases c35 : x174_30 = true
                        · subst c35
                          have H1 : (some false) = some r := by rw [if_pos rfl] at H; exact H
                          clear H
                          have H := H1
                          clear H1
                          obtain rfl := Option.some.inj H
                          go_wp2
                          go_ret
                          exact ⟨by first | rfl | (simp [errW_none, errW_some] <;> rfl) | (simp [*, errW_none, errW_some] <;> rfl), by repeat (first | (with_reducible first | exact HB.out | apply below_alloc | apply pw_below_drewN | apply below_drew1) | exact HB.out | exact Below.refl _ _)⟩
                        · replace c35 := Bool.eq_false_iff.mpr c35
                          subst c35
                          have H1 : (if t296 = true then ((laws_vPair.f t294 t295 t292 t293).bind fun t300 => (if t300 = true then (if t295 = t290 then (laws_FnJumpsOfPairs.j5 kj30 l1 t290 t291 t292 t293 t294 t295 (decide (t294 < t290))) else (laws_FnJumpsOfPairs.j5 kj30 l1 t290 t291 t292 t293 t294 t295 true)) else (laws_FnJumpsOfPairs.j5 kj30 l1 t290 t291 t292 t293 t294 t295 true))) else (laws_FnJumpsOfPairs.j7 kj30 l1)) = some r := by rw [if_neg (show ¬ (false = true) by decide)] at H; exact H
                          clear H
                          have H := H1
                          clear H1
                          have HC36 := Aside0.mk H
                          clear H
                          go_upto_if 175 with (fail)
                          go_cut [] (fun wc => ∃ (kq : Nat), Aside0 (laws_FnJumpsOfPairs.j7 kq l1 = some r) ∧ Aside0 (kq ≤ kj30) ∧ Aside0 (Below w.heap.size w wc))
                          case first =>
                            have H := HC36.out
                            clear HC36
                            by_cases c37 : t296 = true
                            · subst c37
                              have H1 : ((laws_vPair.f t294 t295 t292 t293).bind fun t300 => (if t300 = true then (if t295 = t290 then (laws_FnJumpsOfPairs.j5 kj30 l1 t290 t291 t292 t293 t294 t295 (decide (t294 < t290))) else (laws_FnJumpsOfPairs.j5 kj30 l1 t290 t291 t292 t293 t294 t295 true)) else (laws_FnJumpsOfPairs.j5 kj30 l1 t290 t291 t292 t293 t294 t295 true))) = some r := by rw [if_pos rfl] at H; exact H
                              clear H
                              have H := H1
                              clear H1
                              have HC38 := Aside0.mk H
                              clear H
                              go_upto_region 21 with (fail)
                              go_cut [191] (fun v191 wc => ∃ (kq : Nat) (x191_37 : Bool), v191 = .bool x191_37 ∧ Aside0 (laws_FnJumpsOfPairs.j5 kq l1 t290 t291 t292 t293 t294 t295 x191_37 = some r) ∧ Aside0 (kq ≤ kj30) ∧ Aside0 (Below w.heap.size w wc))
                              case first =>
                                have H := HC38.out
                                clear HC38
                                replace H := Option.bind_eq_some_iff.mp H
                                obtain ⟨t300, A390, H⟩ := H
                                replace H : (if t300 = true then (if t295 = t290 then (laws_FnJumpsOfPairs.j5 kj30 l1 t290 t291 t292 t293 t294 t295 (decide (t294 < t290))) else (laws_FnJumpsOfPairs.j5 kj30 l1 t290 t291 t292 t293 t294 t295 true)) else (laws_FnJumpsOfPairs.j5 kj30 l1 t290 t291 t292 t293 t294 t295 true)) = some r := H
                                have A39 := Aside0.mk A390
                                clear A390
                                by_cases c40 : t300 = true
                                · subst c40
                                  have H1 : (if t295 = t290 then (laws_FnJumpsOfPairs.j5 kj30 l1 t290 t291 t292 t293 t294 t295 (decide (t294 < t290))) else (laws_FnJumpsOfPairs.j5 kj30 l1 t290 t291 t292 t293 t294 t295 true)) = some r := by rw [if_pos rfl] at H; exact H
                                  clear H
                                  have H := H1
                                  clear H1
                                  by_cases c41 : t295 = t290
                                  · rw [if_pos c41] at H
                                    have c41b0 : (t295 == t290) = true := beq_iff_eq.mpr c41
                                    have c41b1 : (t295 != t290) = false := bne_eq_false_iff_eq.mpr c41
                                    clear c41
                                    (first | rw [c41b0] | (simp only [i64_w, i32_w]; rw [c41b0]) | skip)
                                    have H' := Aside0.mk H
                                    clear H
                                    go_wp2_with (first | ((with_reducible refine gate_callee (f := 26) rfl ?_); refine goesL_ (some 180) rfl rfl Try.func26 (by kernel_rfl) rfl #[.int .i64 t294, .int .i64 t295, .int .i64 t292, .int .i64 t293] rfl (by (try simp only [List.map_toArray, List.map_cons, List.map_nil]); first | done | rfl | (simp only [List.length_drop, List.length_take]; rfl)) ?_; (with_reducible refine (laws_vPair.calls t294 t295 t292 t293 true _ A39.out).mono ?_); rintro e w' ⟨rfl, ⟨nd, rfl⟩⟩; refine ⟨_, rfl, ?_⟩))
                                    go_meet
                                    case rel => exact ⟨_, (decide (t294 < t290)), (by first | rfl | (simp; done) | (simp [*]; done)), H', ⟨by have := HJ7.out; have := HJ13.out; have := HJ30.out; first | omega | exact Nat.le_refl _⟩, ⟨by repeat (first | (with_reducible first | exact HB.out | apply below_alloc | apply pw_below_drewN | apply below_drew1) | exact HB.out | exact Below.refl _ _)⟩⟩
                                  · rw [if_neg c41] at H
                                    have c41b0 : (t295 == t290) = false := beq_eq_false_iff_ne.mpr c41
                                    have c41b1 : (t295 != t290) = true := bne_iff_ne.mpr c41
                                    (first | rw [c41b0] | (simp only [i64_w, i32_w]; rw [c41b0]) | skip)
                                    have H' := Aside0.mk H
                                    clear H
                                    go_wp2_with (first | ((with_reducible refine gate_callee (f := 26) rfl ?_); refine goesL_ (some 180) rfl rfl Try.func26 (by kernel_rfl) rfl #[.int .i64 t294, .int .i64 t295, .int .i64 t292, .int .i64 t293] rfl (by (try simp only [List.map_toArray, List.map_cons, List.map_nil]); first | done | rfl | (simp only [List.length_drop, List.length_take]; rfl)) ?_; (with_reducible refine (laws_vPair.calls t294 t295 t292 t293 true _ A39.out).mono ?_); rintro e w' ⟨rfl, ⟨nd, rfl⟩⟩; refine ⟨_, rfl, ?_⟩))
                                    go_meet
                                    case rel => exact ⟨_, (true), (by first | rfl | (simp; done) | (simp [*]; done)), H', ⟨by have := HJ7.out; have := HJ13.out; have := HJ30.out; first | omega | exact Nat.le_refl _⟩, ⟨by repeat (first | (with_reducible first | exact HB.out | apply below_alloc | apply pw_below_drewN | apply below_drew1) | exact HB.out | exact Below.refl _ _)⟩⟩
                                · replace c40 := Bool.eq_false_iff.mpr c40
                                  subst c40
                                  have H1 : (laws_FnJumpsOfPairs.j5 kj30 l1 t290 t291 t292 t293 t294 t295 true) = some r := by rw [if_neg (show ¬ (false = true) by decide)] at H; exact H
                                  clear H
                                  have H := H1
                                  clear H1
                                  have H' := Aside0.mk H
                                  clear H
                                  go_wp2_with (first | ((with_reducible refine gate_callee (f := 26) rfl ?_); refine goesL_ (some 180) rfl rfl Try.func26 (by kernel_rfl) rfl #[.int .i64 t294, .int .i64 t295, .int .i64 t292, .int .i64 t293] rfl (by (try simp only [List.map_toArray, List.map_cons, List.map_nil]); first | done | rfl | (simp only [List.length_drop, List.length_take]; rfl)) ?_; (with_reducible refine (laws_vPair.calls t294 t295 t292 t293 false _ A39.out).mono ?_); rintro e w' ⟨rfl, ⟨nd, rfl⟩⟩; refine ⟨_, rfl, ?_⟩))
                                  go_meet
                                  case rel => exact ⟨_, (true), (by first | rfl | (simp; done) | (simp [*]; done)), H', ⟨by have := HJ7.out; have := HJ13.out; have := HJ30.out; first | omega | exact Nat.le_refl _⟩, ⟨by repeat (first | (with_reducible first | exact HB.out | apply below_alloc | apply pw_below_drewN | apply below_drew1) | exact HB.out | exact Below.refl _ _)⟩⟩
                              case rest =>
                                as_aux_lemma =>
                                  clear HC38
                                  try clear c1
                                  try clear c2
                                  try clear p2
                                  try clear c3
                                  try clear c4
                                  try clear c6
                                  try clear p6
                                  try clear c11
                                  try clear c11b0
                                  try clear c11b1
                                  try clear c11b2
                                  try clear c12
                                  try clear c12b0
                                  try clear c12b1
                                  try clear c13
                                  try clear c15
                                  try clear c18
                                  try clear c19
                                  try clear c21
                                  try clear c21b0
                                  try clear c22
                                  try clear c24
                                  try clear c24b0
                                  try clear c24b1
                                  try clear c25
                                  try clear c26
                                  try clear c26b0
                                  try clear c26b1
                                  try clear c27
                                  try clear c27b0
                                  try clear c27b1
                                  try clear c28
                                  try clear c32
                                  try clear c33
                                  try clear c33b0
                                  try clear c33b1
                                  try clear c33b2
                                  try clear c34
                                  try clear c34b0
                                  try clear c34b1
                                  try clear c35
                                  try clear c36
                                  try clear c37
                                  try clear c40
                                  try clear c41
                                  try clear c41b0
                                  try clear c41b1
                                  try clear p2
                                  try clear p6
                                  obtain ⟨kq, x191_37, rfl, HA, HJ37, HB⟩ := hcut
                                  cases kq with
                                  | zero => exact absurd HA.out (by simp [laws_FnJumpsOfPairs.j5])
                                  | succ kj37 =>
                                    have H := HA.out
                                    clear HA
                                    simp only [laws_FnJumpsOfPairs.j5] at H
                                    by_cases c42 : x191_37 = true
                                    · subst c42
                                      have H1 : (some false) = some r := by rw [if_pos rfl] at H; exact H
                                      clear H
                                      have H := H1
                                      clear H1
                                      obtain rfl := Option.some.inj H
                                      go_wp2
                                      go_ret
                                      exact ⟨by first | rfl | (simp [errW_none, errW_some] <;> rfl) | (simp [*, errW_none, errW_some] <;> rfl), by repeat (first | (with_reducible first | exact HB.out | apply below_alloc | apply pw_below_drewN | apply below_drew1) | exact HB.out | exact Below.refl _ _)⟩
                                    · replace c42 := Bool.eq_false_iff.mpr c42
                                      subst c42
                                      have H1 : ((impl_JumpMatrix.f t292).bind fun bt301 => (if bt301.2 = true then ((impl_ApplyMatrix.f kj37 bt301.1 (([t290, t291] : List Int))).bind fun bt309 => (if bt309.2 = true then ((laws_vSame.f kj37 bt309.1 (([t294, t295] : List Int))).bind fun t316 => (laws_FnJumpsOfPairs.j6 kj37 l1 t290 t291 t292 t293 t294 t295 (!t316))) else (laws_FnJumpsOfPairs.j6 kj37 l1 t290 t291 t292 t293 t294 t295 false))) else (some false))) = some r := by rw [if_neg (show ¬ (false = true) by decide)] at H; exact H
                                      clear H
                                      have H := H1
                                      clear H1
                                      replace H := Option.bind_eq_some_iff.mp H
                                      obtain ⟨⟨t301, t304⟩, A430, H⟩ := H
                                      replace H : (if t304 = true then ((impl_ApplyMatrix.f kj37 t301 (([t290, t291] : List Int))).bind fun bt309 => (if bt309.2 = true then ((laws_vSame.f kj37 bt309.1 (([t294, t295] : List Int))).bind fun t316 => (laws_FnJumpsOfPairs.j6 kj37 l1 t290 t291 t292 t293 t294 t295 (!t316))) else (laws_FnJumpsOfPairs.j6 kj37 l1 t290 t291 t292 t293 t294 t295 false))) else (some false)) = some r := H
                                      have A43 := Aside0.mk A430
                                      clear A430
                                      by_cases c44 : t304 = true
                                      · subst c44
                                        have H1 : ((impl_ApplyMatrix.f kj37 t301 (([t290, t291] : List Int))).bind fun bt309 => (if bt309.2 = true then ((laws_vSame.f kj37 bt309.1 (([t294, t295] : List Int))).bind fun t316 => (laws_FnJumpsOfPairs.j6 kj37 l1 t290 t291 t292 t293 t294 t295 (!t316))) else (laws_FnJumpsOfPairs.j6 kj37 l1 t290 t291 t292 t293 t294 t295 false))) = some r := by rw [if_pos rfl] at H; exact H
                                        clear H
                                        have H := H1
                                        clear H1
                                        obtain ⟨y306, hy306⟩ : ∃ y_ : List Int, y_ = (([t290, t291] : List Int)) := ⟨_, rfl⟩
                                        replace H : ((impl_ApplyMatrix.f kj37 t301 y306).bind fun bt309 => (if bt309.2 = true then ((laws_vSame.f kj37 bt309.1 (([t294, t295] : List Int))).bind fun t316 => (laws_FnJumpsOfPairs.j6 kj37 l1 t290 t291 t292 t293 t294 t295 (!t316))) else (laws_FnJumpsOfPairs.j6 kj37 l1 t290 t291 t292 t293 t294 t295 false))) = some r := by first | (rw [hy306]; with_reducible exact H) | (have H2_ := (Option.bind_some _ _).symm.trans H; rw [hy306]; with_reducible exact H2_) | (have H2_ := (Option.bind_some _ _).symm.trans H; with_reducible exact H2_) | with_reducible exact H | (rw [hy306]; exact H) | exact H
                                        have Ny306 := Aside0.mk hy306
                                        clear hy306
                                        replace H := Option.bind_eq_some_iff.mp H
                                        obtain ⟨⟨t309, t312⟩, A450, H⟩ := H
                                        replace H : (if t312 = true then ((laws_vSame.f kj37 t309 (([t294, t295] : List Int))).bind fun t316 => (laws_FnJumpsOfPairs.j6 kj37 l1 t290 t291 t292 t293 t294 t295 (!t316))) else (laws_FnJumpsOfPairs.j6 kj37 l1 t290 t291 t292 t293 t294 t295 false)) = some r := H
                                        have A45 := Aside0.mk A450
                                        clear A450
                                        have HC46 := Aside0.mk H
                                        clear H
                                        go_upto_region 27 with (first | ((with_reducible refine gate_callee (f := 37) rfl ?_); refine goesL_ (some 194) rfl rfl Try.func37 (by kernel_rfl) rfl #[.int .i64 t292] rfl (by (try simp only [List.map_toArray, List.map_cons, List.map_nil]); first | done | rfl | (simp only [List.length_drop, List.length_take]; rfl)) ?_; (with_reducible refine (impl_JumpMatrix.calls t292 t301 true _ A43.out).mono ?_); rintro e w47 ⟨v302, rfl, ho0, hb⟩; refine ⟨_, rfl, ?_⟩; have n0_ := Aside0.mk (Kd.N_lower (Kd.N_mono (ok' := fun k_ => True) ho0 (fun k_ hk_ => trivial)) (below_size (by repeat (first | (with_reducible first | exact HB.out | apply below_alloc | apply pw_below_drewN | apply below_drew1) | exact HB.out | exact Below.refl _ _)))); have n1_ := Aside0.mk (below_step (by repeat (first | (with_reducible first | exact HB.out | apply below_alloc | apply pw_below_drewN | apply below_drew1) | exact HB.out | exact Below.refl _ _)) hb); clear HB; have HO303 := n0_; have HB := n1_; clear n0_ n1_; (try clear hb); (try clear hb2); (try clear hk); (try clear hi); (try clear ho0)) | ((with_reducible refine gate_dst (N := 28) rfl ?_); (try (refine gate_guard (by rfl) ?_; dsimp only)); refine box_event ?hg (N := 28) ?hd (cs := #[.slice none 0 0]) (t := 46) ?hr ?_; (case hd => rfl); (case hg => rfl); (case hr => first | (go_simp; done) | (go_simp; rfl)); intro gb305 hg w48 hbox hb; have n0_ := Aside0.mk (Kd.N_below (Kd.N_elderB (by (with_reducible repeat (first | apply Kd.N_alloc | apply Kd.N_drewN | apply Kd.N_drew)); exact HO303.out) gb305 (Nat.le_of_eq hg.symm)) hb); have n1_ := Aside0.mk (below_step (by repeat (first | (with_reducible first | exact HB.out | apply below_alloc | apply pw_below_drewN | apply below_drew1) | exact HB.out | exact Below.refl _ _)) hb); have n2_ := Aside0.mk (hbox); have n3_ := Aside0.mk ((by rw [hg]; exact (below_size (by repeat (first | (with_reducible first | exact HB.out | apply below_alloc | apply pw_below_drewN | apply below_drew1) | exact HB.out | exact Below.refl _ _))) : w.heap.size ≤ gb305)); have n4_ := Aside0.mk ((by rw [hg]; exact (below_size (by repeat (first | (with_reducible first | exact HB.out | apply below_alloc | apply pw_below_drewN | apply below_drew1) | exact HB.out | exact Below.refl _ _))) : w.heap.size ≤ gb305)); clear HO303; clear HB; have HO303 := n0_; have HB := n1_; have BK305 := n2_; have GW305 := n3_; have GE305 := n4_; clear n0_ n1_ n2_ n3_ n4_; clear hb hbox hg; obtain ⟨Ao49, co49, eo49⟩ := Kd.N_slice HO303.out; subst eo49; have hcz50_0 : w48.cell? ⟨gb305, 0, none⟩ = some (.slice none 0 0) := (blk_cell BK305.out 0).trans rfl; have hfz50_0 := blk_frozen BK305.out 0) | ((with_reducible refine gate_dst (N := 203) rfl ?_); (try (refine gate_guard (by rfl) ?_; dsimp only)); refine Kd.R_lit (Kd.int .i64) _ 3 ?hg (N := 203) ?hd (xs := ([t290, t291] : List Int)) (inner := [.int .i64 t290, .int .i64 t291]) (ok := fun _ => True) (okp := fun _ => True) ?hr ?hp (fun _ hk => hk) trivial (Below.refl _ _) (Nat.le_refl _) (by simp) ?_; (case hd => rfl); (case hg => rfl); (case hr => first | (go_simp; done) | (go_simp; rfl)); (case hp => exact (Reps.one (show Kd.M (Kd.int .i64) _ _ _ t290 [.int .i64 t290] from rfl) (Reps.one (show Kd.M (Kd.int .i64) _ _ _ t291 [.int .i64 t291] from rfl) (Reps.none _ _)))); intro v307 w51 ho52 hb hg_ hnew_; clear hg_ hnew_; (first | rw [← Ny306.out] at ho52 | (simp only [Int.reduceToNat] at ho52; rw [← Ny306.out] at ho52)); have n0_ := Aside0.mk (Kd.N_elder' (by (with_reducible repeat (first | apply Kd.N_alloc | apply Kd.N_drewN | apply Kd.N_drew)); exact (Kd.N_mono (Kd.N_far (p := ⟨gb305, 0, none⟩) (Kd.N_mono HO303.out (fun k_ hk => (⟨hk, hk.2⟩ : _ ∧ k_ ≠ gb305))) (fun _ hk => hk.2) (.slice Ao49 t301.length co49)) (fun _ h_ => h_.1))) (Kd.R_base ho52) hb); have n1_ := Aside0.mk (Kd.R_lower ho52 (below_size (by repeat (first | (with_reducible first | exact HB.out | apply below_alloc | apply pw_below_drewN | apply below_drew1 | refine below_set ?_ GE305.out) | exact HB.out | exact Below.refl _ _)))); have n2_ := Aside0.mk (blk_below (g := gb305) (o := .cells #[.slice Ao49 t301.length co49] 46 (0, 0)) (by (with_reducible repeat (first | refine blk_drewN ?_ _ | refine blk_drew ?_ | refine blk_alloc ?_ _)); refine blk_put (cs := #[.slice none 0 0]) ?_ 0 _ rfl; (with_reducible repeat (first | refine blk_drewN ?_ _ | refine blk_drew ?_ | refine blk_alloc ?_ _)); exact BK305.out) hb); have n3_ := Aside0.mk (below_step (by repeat (first | (with_reducible first | exact HB.out | apply below_alloc | apply pw_below_drewN | apply below_drew1 | refine below_set ?_ GE305.out) | exact HB.out | exact Below.refl _ _)) hb); clear HO303; clear BK305; clear HB; have HO303 := n0_; have HO308 := n1_; have BK305 := n2_; have HB := n3_; clear n0_ n1_ n2_ n3_; clear hb ho52; obtain ⟨Ao53, co53, eo53⟩ := Kd.R_slice HO308.out; subst eo53) | ((with_reducible refine gate_callee (f := 38) rfl ?_); refine goesL_ (some 204) rfl rfl Try.func38 (by kernel_rfl) rfl #[.agg #[.slice Ao49 t301.length co49], .slice Ao53 y306.length co53] rfl (by (try simp only [List.map_toArray, List.map_cons, List.map_nil]); first | done | rfl | (simp only [List.length_drop, List.length_take]; rfl)) ?_; (with_reducible refine (impl_ApplyMatrix.calls kj37 _ _ t301 _ _ y306 t309 t312 _ ?side1 ?side2 ?side3 ?side4 A45.out).mono ?_); (case side1 => repeat (first | exact (Kd.N_reads' HO303.out).2.2 | (with_reducible refine Kd.C_alloc ?_ _) | (with_reducible refine Kd.C_drewN ?_ _) | (with_reducible refine Kd.C_drew ?_))); (case side2 => exact (Kd.N_reads' HO303.out).2.1); (case side3 => repeat (first | exact (Kd.R_reads' HO308.out).2.2 | (with_reducible refine Kd.C_alloc ?_ _) | (with_reducible refine Kd.C_drewN ?_ _) | (with_reducible refine Kd.C_drew ?_))); (case side4 => exact (Kd.R_reads' HO308.out).2.1); rintro e w54 ⟨v310, rfl, ho0, hb⟩; refine ⟨_, rfl, ?_⟩; have n0_ := Aside0.mk (Kd.N_elder' (by (with_reducible repeat (first | apply Kd.N_alloc | apply Kd.N_drewN | apply Kd.N_drew)); exact HO303.out) (Kd.R_base ho0) hb); have n1_ := Aside0.mk (Kd.R_elder' (by (with_reducible repeat (first | apply Kd.R_alloc | apply Kd.R_drewN | apply Kd.R_drew)); exact HO308.out) (Kd.R_base ho0) hb); have n2_ := Aside0.mk (Kd.R_lower (Kd.R_new' ho0 (Kd.R_lt (by (with_reducible repeat (first | apply Kd.R_alloc | apply Kd.R_drewN | apply Kd.R_drew)); exact HO308.out))) (below_size (by repeat (first | (with_reducible first | exact HB.out | apply below_alloc | apply pw_below_drewN | apply below_drew1 | refine below_set ?_ GE305.out) | exact HB.out | exact Below.refl _ _)))); have n3_ := Aside0.mk (blk_below (g := gb305) (o := .cells #[.slice Ao49 t301.length co49] 46 (0, 0)) (by (with_reducible repeat (first | refine blk_drewN ?_ _ | refine blk_drew ?_ | refine blk_alloc ?_ _)); exact BK305.out) hb); have n4_ := Aside0.mk (below_step (by repeat (first | (with_reducible first | exact HB.out | apply below_alloc | apply pw_below_drewN | apply below_drew1 | refine below_set ?_ GE305.out) | exact HB.out | exact Below.refl _ _)) hb); clear HO303; clear HO308; clear BK305; clear HB; have HO303 := n0_; have HO308 := n1_; have HO311 := n2_; have BK305 := n3_; have HB := n4_; clear n0_ n1_ n2_ n3_ n4_; (try clear hb); (try clear hb2); (try clear hk); (try clear hi); (try clear ho0)))
                                        (try simp only [Act.put, List.setIfInBounds_toArray, List.set_cons_zero, List.set_cons_succ])
                                        go_cut [215] (fun v215 wc => ∃ (kq : Nat) (x215_45 : Bool), v215 = .bool x215_45 ∧ Aside0 (laws_FnJumpsOfPairs.j6 kq l1 t290 t291 t292 t293 t294 t295 x215_45 = some r) ∧ Aside0 (kq ≤ kj37) ∧ Aside0 (Kd.N (Kd.slice 3 (Kd.int .i64)) 34 wc w.heap.size (fun k_ => k_ ≠ gb305) (.slice Ao49 t301.length co49) t301) ∧ Aside0 (wc.heap[gb305]? = some (.cells #[(.slice Ao49 t301.length co49)] 46 (0, 0))) ∧ Aside0 (Below w.heap.size w wc))
                                        case first =>
                                          have H := HC46.out
                                          clear HC46
                                          by_cases c55 : t312 = true
                                          · subst c55
                                            have H1 : ((laws_vSame.f kj37 t309 (([t294, t295] : List Int))).bind fun t316 => (laws_FnJumpsOfPairs.j6 kj37 l1 t290 t291 t292 t293 t294 t295 (!t316))) = some r := by rw [if_pos rfl] at H; exact H
                                            clear H
                                            have H := H1
                                            clear H1
                                            obtain ⟨y313, hy313⟩ : ∃ y_ : List Int, y_ = (([t294, t295] : List Int)) := ⟨_, rfl⟩
                                            replace H : ((laws_vSame.f kj37 t309 y313).bind fun t316 => (laws_FnJumpsOfPairs.j6 kj37 l1 t290 t291 t292 t293 t294 t295 (!t316))) = some r := by first | (rw [hy313]; with_reducible exact H) | (have H2_ := (Option.bind_some _ _).symm.trans H; rw [hy313]; with_reducible exact H2_) | (have H2_ := (Option.bind_some _ _).symm.trans H; with_reducible exact H2_) | with_reducible exact H | (rw [hy313]; exact H) | exact H
                                            have Ny313 := Aside0.mk hy313
                                            clear hy313
                                            replace H := Option.bind_eq_some_iff.mp H
                                            obtain ⟨t316, A560, H⟩ := H
                                            replace H : (laws_FnJumpsOfPairs.j6 kj37 l1 t290 t291 t292 t293 t294 t295 (!t316)) = some r := H
                                            have A56 := Aside0.mk A560
                                            clear A560
                                            have H' := Aside0.mk H
                                            clear H
                                            go_wp2_with (first | ((with_reducible refine gate_dst (N := 212) rfl ?_); (try (refine gate_guard (by rfl) ?_; dsimp only)); refine Kd.R_lit (Kd.int .i64) _ 3 ?hg (N := 212) ?hd (xs := ([t294, t295] : List Int)) (inner := [.int .i64 t294, .int .i64 t295]) (ok := fun _ => True) (okp := fun _ => True) ?hr ?hp (fun _ hk => hk) trivial (Below.refl _ _) (Nat.le_refl _) (by simp) ?_; (case hd => rfl); (case hg => rfl); (case hr => first | (go_simp; done) | (go_simp; rfl)); (case hp => exact (Reps.one (show Kd.M (Kd.int .i64) _ _ _ t294 [.int .i64 t294] from rfl) (Reps.one (show Kd.M (Kd.int .i64) _ _ _ t295 [.int .i64 t295] from rfl) (Reps.none _ _)))); intro v314 w57 ho58 hb hg_ hnew_; clear hg_ hnew_; (first | rw [← Ny313.out] at ho58 | (simp only [Int.reduceToNat] at ho58; rw [← Ny313.out] at ho58)); have n0_ := Aside0.mk (Kd.N_elder' (by (with_reducible repeat (first | apply Kd.N_alloc | apply Kd.N_drewN | apply Kd.N_drew)); exact HO303.out) (Kd.R_base ho58) hb); have n1_ := Aside0.mk (Kd.R_elder' (by (with_reducible repeat (first | apply Kd.R_alloc | apply Kd.R_drewN | apply Kd.R_drew)); exact HO308.out) (Kd.R_base ho58) hb); have n2_ := Aside0.mk (Kd.R_elder' (by (with_reducible repeat (first | apply Kd.R_alloc | apply Kd.R_drewN | apply Kd.R_drew)); exact HO311.out) (Kd.R_base ho58) hb); have n3_ := Aside0.mk (Kd.R_lower (Kd.R_new' (Kd.R_new' ho58 (Kd.R_lt (by (with_reducible repeat (first | apply Kd.R_alloc | apply Kd.R_drewN | apply Kd.R_drew)); exact HO308.out))) (Kd.R_lt (by (with_reducible repeat (first | apply Kd.R_alloc | apply Kd.R_drewN | apply Kd.R_drew)); exact HO311.out))) (below_size (by repeat (first | (with_reducible first | exact HB.out | apply below_alloc | apply pw_below_drewN | apply below_drew1 | refine below_set ?_ GE305.out) | exact HB.out | exact Below.refl _ _)))); have n4_ := Aside0.mk (blk_below (g := gb305) (o := .cells #[.slice Ao49 t301.length co49] 46 (0, 0)) (by (with_reducible repeat (first | refine blk_drewN ?_ _ | refine blk_drew ?_ | refine blk_alloc ?_ _)); exact BK305.out) hb); have n5_ := Aside0.mk (below_step (by repeat (first | (with_reducible first | exact HB.out | apply below_alloc | apply pw_below_drewN | apply below_drew1 | refine below_set ?_ GE305.out) | exact HB.out | exact Below.refl _ _)) hb); clear HO303; clear HO308; clear HO311; clear BK305; clear HB; have HO303 := n0_; have HO308 := n1_; have HO311 := n2_; have HO315 := n3_; have BK305 := n4_; have HB := n5_; clear n0_ n1_ n2_ n3_ n4_ n5_; clear hb ho58; obtain ⟨Ao59, co59, eo59⟩ := Kd.R_slice HO311.out; subst eo59; obtain ⟨Ao60, co60, eo60⟩ := Kd.R_slice HO315.out; subst eo60) | (go_at_call 27; (with_reducible refine (laws_vSame.calls kj37 _ _ t309 _ _ y313 t316 _ ?side1 ?side2 ?side3 ?side4 A56.out).mono ?_); (case side1 => repeat (first | exact (Kd.R_reads' HO311.out).2.2 | (with_reducible refine Kd.C_alloc ?_ _) | (with_reducible refine Kd.C_drewN ?_ _) | (with_reducible refine Kd.C_drew ?_))); (case side2 => exact (Kd.R_reads' HO311.out).2.1); (case side3 => repeat (first | exact (Kd.R_reads' HO315.out).2.2 | (with_reducible refine Kd.C_alloc ?_ _) | (with_reducible refine Kd.C_drewN ?_ _) | (with_reducible refine Kd.C_drew ?_))); (case side4 => exact (Kd.R_reads' HO315.out).2.1); rintro e w' ⟨rfl, ⟨nd, rfl⟩⟩))
                                            go_meet
                                            case rel => exact ⟨_, (!t316), (by first | rfl | (simp; done) | (simp [*]; done)), H', ⟨by have := HJ7.out; have := HJ13.out; have := HJ30.out; have := HJ37.out; first | omega | exact Nat.le_refl _⟩, ⟨by (with_reducible repeat (first | apply Kd.N_alloc | apply Kd.N_drewN | apply Kd.N_drew)); exact Kd.N_mono HO303.out (fun _ hk => hk.1.1.1.2)⟩, ⟨by (with_reducible repeat (first | refine blk_drewN ?_ _ | refine blk_drew ?_ | refine blk_alloc ?_ _)); exact BK305.out⟩, ⟨by repeat (first | (with_reducible first | exact HB.out | apply below_alloc | apply pw_below_drewN | apply below_drew1 | refine below_set ?_ GE305.out) | exact HB.out | exact Below.refl _ _)⟩⟩
                                          · replace c55 := Bool.eq_false_iff.mpr c55
                                            subst c55
                                            have H1 : (laws_FnJumpsOfPairs.j6 kj37 l1 t290 t291 t292 t293 t294 t295 false) = some r := by rw [if_neg (show ¬ (false = true) by decide)] at H; exact H
                                            clear H
                                            have H := H1
                                            clear H1
                                            have H' := Aside0.mk H
                                            clear H
                                            go_wp2
                                            go_meet
                                            case rel => exact ⟨_, (false), (by first | rfl | (simp; done) | (simp [*]; done)), H', ⟨by have := HJ7.out; have := HJ13.out; have := HJ30.out; have := HJ37.out; first | omega | exact Nat.le_refl _⟩, ⟨by (with_reducible repeat (first | apply Kd.N_alloc | apply Kd.N_drewN | apply Kd.N_drew)); exact Kd.N_mono HO303.out (fun _ hk => hk.1.1.2)⟩, ⟨by (with_reducible repeat (first | refine blk_drewN ?_ _ | refine blk_drew ?_ | refine blk_alloc ?_ _)); exact BK305.out⟩, ⟨by repeat (first | (with_reducible first | exact HB.out | apply below_alloc | apply pw_below_drewN | apply below_drew1 | refine below_set ?_ GE305.out) | exact HB.out | exact Below.refl _ _)⟩⟩
                                        case rest =>
                                          as_aux_lemma =>
                                            clear HC46
                                            try clear c1
                                            try clear c2
                                            try clear p2
                                            try clear c3
                                            try clear c4
                                            try clear c5
                                            try clear c6
                                            try clear p6
                                            try clear c11
                                            try clear c11b0
                                            try clear c11b1
                                            try clear c11b2
                                            try clear c12
                                            try clear c12b0
                                            try clear c12b1
                                            try clear c13
                                            try clear c15
                                            try clear c18
                                            try clear c19
                                            try clear c21
                                            try clear c21b0
                                            try clear c22
                                            try clear c24
                                            try clear c24b0
                                            try clear c24b1
                                            try clear c25
                                            try clear c26
                                            try clear c26b0
                                            try clear c26b1
                                            try clear c27
                                            try clear c27b0
                                            try clear c27b1
                                            try clear c28
                                            try clear c32
                                            try clear c33
                                            try clear c33b0
                                            try clear c33b1
                                            try clear c33b2
                                            try clear c34
                                            try clear c34b0
                                            try clear c34b1
                                            try clear c35
                                            try clear c36
                                            try clear c37
                                            try clear c38
                                            try clear c40
                                            try clear c41
                                            try clear c41b0
                                            try clear c41b1
                                            try clear c42
                                            try clear c44
                                            try clear c55
                                            try clear hcz50_0
                                            try clear hfz50_0
                                            try clear p2
                                            try clear p6
                                            obtain ⟨kq, x215_45, rfl, HA, HJ45, HO_306000, BK305, HB⟩ := hcut
                                            cases kq with
                                            | zero => exact absurd HA.out (by simp [laws_FnJumpsOfPairs.j6])
                                            | succ kj45 =>
                                              have H := HA.out
                                              clear HA
                                              simp only [laws_FnJumpsOfPairs.j6] at H
                                              by_cases c61 : x215_45 = true
                                              · subst c61
                                                have H1 : (some false) = some r := by rw [if_pos rfl] at H; exact H
                                                clear H
                                                have H := H1
                                                clear H1
                                                obtain rfl := Option.some.inj H
                                                go_wp2
                                                go_ret
                                                exact ⟨by first | rfl | (simp [errW_none, errW_some] <;> rfl) | (simp [*, errW_none, errW_some] <;> rfl), by repeat (first | (with_reducible first | exact HB.out | apply below_alloc | apply pw_below_drewN | apply below_drew1 | refine below_set ?_ GE305.out) | exact HB.out | exact Below.refl _ _)⟩
                                              · replace c61 := Bool.eq_false_iff.mpr c61
                                                subst c61
                                                have H1 : (if t291 < t294 then ((impl_JumpDown.f t294 t295 t292 t293).bind fun bt317 => (if bt317.2.2 = true then (if bt317.1 = t290 then (if bt317.2.1 = t291 then (laws_FnJumpsOfPairs.j7 kj45 l1) else (some false)) else (some false)) else (some false))) else (laws_FnJumpsOfPairs.j7 kj45 l1)) = some r := by rw [if_neg (show ¬ (false = true) by decide)] at H; exact H
                                                clear H
                                                have H := H1
                                                clear H1
                                                by_cases c62 : t291 < t294
                                                · rw [if_pos c62] at H
                                                  have c62b0 : decide (t291 < t294) = true := decide_eq_true c62
                                                  clear c62
                                                  replace H := Option.bind_eq_some_iff.mp H
                                                  obtain ⟨⟨t317, t318, t319⟩, A630, H⟩ := H
                                                  replace H : (if t319 = true then (if t317 = t290 then (if t318 = t291 then (laws_FnJumpsOfPairs.j7 kj45 l1) else (some false)) else (some false)) else (some false)) = some r := H
                                                  have A63 := Aside0.mk A630
                                                  clear A630
                                                  by_cases c64 : t319 = true
                                                  · subst c64
                                                    have H1 : (if t317 = t290 then (if t318 = t291 then (laws_FnJumpsOfPairs.j7 kj45 l1) else (some false)) else (some false)) = some r := by rw [if_pos rfl] at H; exact H
                                                    clear H
                                                    have H := H1
                                                    clear H1
                                                    by_cases c65 : t317 = t290
                                                    · rw [if_pos c65] at H
                                                      have c65b0 : (t317 == t290) = true := beq_iff_eq.mpr c65
                                                      have c65b1 : (t317 != t290) = false := bne_eq_false_iff_eq.mpr c65
                                                      clear c65
                                                      by_cases c66 : t318 = t291
                                                      · rw [if_pos c66] at H
                                                        have c66b0 : (t318 == t291) = true := beq_iff_eq.mpr c66
                                                        have c66b1 : (t318 != t291) = false := bne_eq_false_iff_eq.mpr c66
                                                        clear c66
                                                        have H' := Aside0.mk H
                                                        clear H
                                                        go_wp2_with (first | ((with_reducible refine gate_callee (f := 28) rfl ?_); refine goesL_ (some 224) rfl rfl Try.func28 (by kernel_rfl) rfl #[.int .i64 t294, .int .i64 t295, .int .i64 t292, .int .i64 t293] rfl (by (try simp only [List.map_toArray, List.map_cons, List.map_nil]); first | done | rfl | (simp only [List.length_drop, List.length_take]; rfl)) ?_; (with_reducible refine (impl_JumpDown.calls t294 t295 t292 t293 t317 t318 true _ A63.out).mono ?_); rintro e w67 ⟨rfl, hb⟩; refine ⟨_, rfl, ?_⟩; have n0_ := Aside0.mk (Kd.N_below (by (with_reducible repeat (first | apply Kd.N_alloc | apply Kd.N_drewN | apply Kd.N_drew)); exact HO_306000.out) hb); have n1_ := Aside0.mk (blk_below (g := gb305) (o := .cells #[.slice Ao49 t301.length co49] 46 (0, 0)) (by (with_reducible repeat (first | refine blk_drewN ?_ _ | refine blk_drew ?_ | refine blk_alloc ?_ _)); exact BK305.out) hb); have n2_ := Aside0.mk (below_step (by repeat (first | (with_reducible first | exact HB.out | apply below_alloc | apply pw_below_drewN | apply below_drew1 | refine below_set ?_ GE305.out) | exact HB.out | exact Below.refl _ _)) hb); clear HO_306000; clear BK305; clear HB; have HO_306000 := n0_; have BK305 := n1_; have HB := n2_; clear n0_ n1_ n2_; (try clear hb); (try clear hb2); (try clear hk); (try clear hi)))
                                                        go_meet
                                                        case rel => exact ⟨_, H', ⟨by have := HJ7.out; have := HJ13.out; have := HJ30.out; have := HJ37.out; have := HJ45.out; first | omega | exact Nat.le_refl _⟩, ⟨by repeat (first | (with_reducible first | exact HB.out | apply below_alloc | apply pw_below_drewN | apply below_drew1 | refine below_set ?_ GE305.out) | exact HB.out | exact Below.refl _ _)⟩⟩
                                                      · rw [if_neg c66] at H
                                                        have c66b0 : (t318 == t291) = false := beq_eq_false_iff_ne.mpr c66
                                                        have c66b1 : (t318 != t291) = true := bne_iff_ne.mpr c66
                                                        obtain rfl := Option.some.inj H
                                                        go_wp2_with (first | ((with_reducible refine gate_callee (f := 28) rfl ?_); refine goesL_ (some 224) rfl rfl Try.func28 (by kernel_rfl) rfl #[.int .i64 t294, .int .i64 t295, .int .i64 t292, .int .i64 t293] rfl (by (try simp only [List.map_toArray, List.map_cons, List.map_nil]); first | done | rfl | (simp only [List.length_drop, List.length_take]; rfl)) ?_; (with_reducible refine (impl_JumpDown.calls t294 t295 t292 t293 t317 t318 true _ A63.out).mono ?_); rintro e w68 ⟨rfl, hb⟩; refine ⟨_, rfl, ?_⟩; have n0_ := Aside0.mk (Kd.N_below (by (with_reducible repeat (first | apply Kd.N_alloc | apply Kd.N_drewN | apply Kd.N_drew)); exact HO_306000.out) hb); have n1_ := Aside0.mk (blk_below (g := gb305) (o := .cells #[.slice Ao49 t301.length co49] 46 (0, 0)) (by (with_reducible repeat (first | refine blk_drewN ?_ _ | refine blk_drew ?_ | refine blk_alloc ?_ _)); exact BK305.out) hb); have n2_ := Aside0.mk (below_step (by repeat (first | (with_reducible first | exact HB.out | apply below_alloc | apply pw_below_drewN | apply below_drew1 | refine below_set ?_ GE305.out) | exact HB.out | exact Below.refl _ _)) hb); clear HO_306000; clear BK305; clear HB; have HO_306000 := n0_; have BK305 := n1_; have HB := n2_; clear n0_ n1_ n2_; (try clear hb); (try clear hb2); (try clear hk); (try clear hi)))
                                                        go_ret
                                                        exact ⟨by first | rfl | (simp [errW_none, errW_some] <;> rfl) | (simp [*, errW_none, errW_some] <;> rfl), by repeat (first | (with_reducible first | exact HB.out | apply below_alloc | apply pw_below_drewN | apply below_drew1 | refine below_set ?_ GE305.out) | exact HB.out | exact Below.refl _ _)⟩
                                                    · rw [if_neg c65] at H
                                                      have c65b0 : (t317 == t290) = false := beq_eq_false_iff_ne.mpr c65
                                                      have c65b1 : (t317 != t290) = true := bne_iff_ne.mpr c65
                                                      obtain rfl := Option.some.inj H
                                                      go_wp2_with (first | ((with_reducible refine gate_callee (f := 28) rfl ?_); refine goesL_ (some 224) rfl rfl Try.func28 (by kernel_rfl) rfl #[.int .i64 t294, .int .i64 t295, .int .i64 t292, .int .i64 t293] rfl (by (try simp only [List.map_toArray, List.map_cons, List.map_nil]); first | done | rfl | (simp only [List.length_drop, List.length_take]; rfl)) ?_; (with_reducible refine (impl_JumpDown.calls t294 t295 t292 t293 t317 t318 true _ A63.out).mono ?_); rintro e w69 ⟨rfl, hb⟩; refine ⟨_, rfl, ?_⟩; have n0_ := Aside0.mk (Kd.N_below (by (with_reducible repeat (first | apply Kd.N_alloc | apply Kd.N_drewN | apply Kd.N_drew)); exact HO_306000.out) hb); have n1_ := Aside0.mk (blk_below (g := gb305) (o := .cells #[.slice Ao49 t301.length co49] 46 (0, 0)) (by (with_reducible repeat (first | refine blk_drewN ?_ _ | refine blk_drew ?_ | refine blk_alloc ?_ _)); exact BK305.out) hb); have n2_ := Aside0.mk (below_step (by repeat (first | (with_reducible first | exact HB.out | apply below_alloc | apply pw_below_drewN | apply below_drew1 | refine below_set ?_ GE305.out) | exact HB.out | exact Below.refl _ _)) hb); clear HO_306000; clear BK305; clear HB; have HO_306000 := n0_; have BK305 := n1_; have HB := n2_; clear n0_ n1_ n2_; (try clear hb); (try clear hb2); (try clear hk); (try clear hi)))
                                                      go_ret
                                                      exact ⟨by first | rfl | (simp [errW_none, errW_some] <;> rfl) | (simp [*, errW_none, errW_some] <;> rfl), by repeat (first | (with_reducible first | exact HB.out | apply below_alloc | apply pw_below_drewN | apply below_drew1 | refine below_set ?_ GE305.out) | exact HB.out | exact Below.refl _ _)⟩
                                                  · replace c64 := Bool.eq_false_iff.mpr c64
                                                    subst c64
                                                    have H1 : (some false) = some r := by rw [if_neg (show ¬ (false = true) by decide)] at H; exact H
                                                    clear H
                                                    have H := H1
                                                    clear H1
                                                    obtain rfl := Option.some.inj H
                                                    go_wp2_with (first | ((with_reducible refine gate_callee (f := 28) rfl ?_); refine goesL_ (some 224) rfl rfl Try.func28 (by kernel_rfl) rfl #[.int .i64 t294, .int .i64 t295, .int .i64 t292, .int .i64 t293] rfl (by (try simp only [List.map_toArray, List.map_cons, List.map_nil]); first | done | rfl | (simp only [List.length_drop, List.length_take]; rfl)) ?_; (with_reducible refine (impl_JumpDown.calls t294 t295 t292 t293 t317 t318 false _ A63.out).mono ?_); rintro e w70 ⟨rfl, hb⟩; refine ⟨_, rfl, ?_⟩; have n0_ := Aside0.mk (Kd.N_below (by (with_reducible repeat (first | apply Kd.N_alloc | apply Kd.N_drewN | apply Kd.N_drew)); exact HO_306000.out) hb); have n1_ := Aside0.mk (blk_below (g := gb305) (o := .cells #[.slice Ao49 t301.length co49] 46 (0, 0)) (by (with_reducible repeat (first | refine blk_drewN ?_ _ | refine blk_drew ?_ | refine blk_alloc ?_ _)); exact BK305.out) hb); have n2_ := Aside0.mk (below_step (by repeat (first | (with_reducible first | exact HB.out | apply below_alloc | apply pw_below_drewN | apply below_drew1 | refine below_set ?_ GE305.out) | exact HB.out | exact Below.refl _ _)) hb); clear HO_306000; clear BK305; clear HB; have HO_306000 := n0_; have BK305 := n1_; have HB := n2_; clear n0_ n1_ n2_; (try clear hb); (try clear hb2); (try clear hk); (try clear hi)))
                                                    go_ret
                                                    exact ⟨by first | rfl | (simp [errW_none, errW_some] <;> rfl) | (simp [*, errW_none, errW_some] <;> rfl), by repeat (first | (with_reducible first | exact HB.out | apply below_alloc | apply pw_below_drewN | apply below_drew1 | refine below_set ?_ GE305.out) | exact HB.out | exact Below.refl _ _)⟩
                                                · rw [if_neg c62] at H
                                                  have c62b0 : decide (t291 < t294) = false := decide_eq_false c62
                                                  clear c62
                                                  have H' := Aside0.mk H
                                                  clear H
                                                  go_wp2
                                                  go_meet
                                                  case rel => exact ⟨_, H', ⟨by have := HJ7.out; have := HJ13.out; have := HJ30.out; have := HJ37.out; have := HJ45.out; first | omega | exact Nat.le_refl _⟩, ⟨by repeat (first | (with_reducible first | exact HB.out | apply below_alloc | apply pw_below_drewN | apply below_drew1 | refine below_set ?_ GE305.out) | exact HB.out | exact Below.refl _ _)⟩⟩
                                      · replace c44 := Bool.eq_false_iff.mpr c44
                                        subst c44
                                        have H1 : (some false) = some r := by rw [if_neg (show ¬ (false = true) by decide)] at H; exact H
                                        clear H
                                        have H := H1
                                        clear H1
                                        obtain rfl := Option.some.inj H
                                        go_wp2_with (first | ((with_reducible refine gate_callee (f := 37) rfl ?_); refine goesL_ (some 194) rfl rfl Try.func37 (by kernel_rfl) rfl #[.int .i64 t292] rfl (by (try simp only [List.map_toArray, List.map_cons, List.map_nil]); first | done | rfl | (simp only [List.length_drop, List.length_take]; rfl)) ?_; (with_reducible refine (impl_JumpMatrix.calls t292 t301 false _ A43.out).mono ?_); rintro e w71 ⟨v302, rfl, ho0, hb⟩; refine ⟨_, rfl, ?_⟩; have n0_ := Aside0.mk (Kd.N_lower (Kd.N_mono (ok' := fun k_ => True) ho0 (fun k_ hk_ => trivial)) (below_size (by repeat (first | (with_reducible first | exact HB.out | apply below_alloc | apply pw_below_drewN | apply below_drew1) | exact HB.out | exact Below.refl _ _)))); have n1_ := Aside0.mk (below_step (by repeat (first | (with_reducible first | exact HB.out | apply below_alloc | apply pw_below_drewN | apply below_drew1) | exact HB.out | exact Below.refl _ _)) hb); clear HB; have HO303 := n0_; have HB := n1_; clear n0_ n1_; (try clear hb); (try clear hb2); (try clear hk); (try clear hi); (try clear ho0)) | ((with_reducible refine gate_dst (N := 28) rfl ?_); (try (refine gate_guard (by rfl) ?_; dsimp only)); refine box_event ?hg (N := 28) ?hd (cs := #[.slice none 0 0]) (t := 46) ?hr ?_; (case hd => rfl); (case hg => rfl); (case hr => first | (go_simp; done) | (go_simp; rfl)); intro gb305 hg w72 hbox hb; have n0_ := Aside0.mk (Kd.N_below (Kd.N_elderB (by (with_reducible repeat (first | apply Kd.N_alloc | apply Kd.N_drewN | apply Kd.N_drew)); exact HO303.out) gb305 (Nat.le_of_eq hg.symm)) hb); have n1_ := Aside0.mk (below_step (by repeat (first | (with_reducible first | exact HB.out | apply below_alloc | apply pw_below_drewN | apply below_drew1) | exact HB.out | exact Below.refl _ _)) hb); have n2_ := Aside0.mk (hbox); have n3_ := Aside0.mk ((by rw [hg]; exact (below_size (by repeat (first | (with_reducible first | exact HB.out | apply below_alloc | apply pw_below_drewN | apply below_drew1) | exact HB.out | exact Below.refl _ _))) : w.heap.size ≤ gb305)); have n4_ := Aside0.mk ((by rw [hg]; exact (below_size (by repeat (first | (with_reducible first | exact HB.out | apply below_alloc | apply pw_below_drewN | apply below_drew1) | exact HB.out | exact Below.refl _ _))) : w.heap.size ≤ gb305)); clear HO303; clear HB; have HO303 := n0_; have HB := n1_; have BK305 := n2_; have GW305 := n3_; have GE305 := n4_; clear n0_ n1_ n2_ n3_ n4_; clear hb hbox hg; obtain ⟨Ao73, co73, eo73⟩ := Kd.N_slice HO303.out; subst eo73; have hcz74_0 : w72.cell? ⟨gb305, 0, none⟩ = some (.slice none 0 0) := (blk_cell BK305.out 0).trans rfl; have hfz74_0 := blk_frozen BK305.out 0))
                                        go_ret
                                        exact ⟨by first | rfl | (simp [errW_none, errW_some] <;> rfl) | (simp [*, errW_none, errW_some] <;> rfl), by repeat (first | (with_reducible first | exact HB.out | apply below_alloc | apply pw_below_drewN | apply below_drew1 | refine below_set ?_ GE305.out) | exact HB.out | exact Below.refl _ _)⟩
                            · replace c37 := Bool.eq_false_iff.mpr c37
                              subst c37
                              have H1 : (laws_FnJumpsOfPairs.j7 kj30 l1) = some r := by rw [if_neg (show ¬ (false = true) by decide)] at H; exact H
                              clear H
                              have H := H1
                              clear H1
                              have H' := Aside0.mk H
                              clear H
                              go_wp2
                              go_meet
                              case rel => exact ⟨_, H', ⟨by have := HJ7.out; have := HJ13.out; have := HJ30.out; first | omega | exact Nat.le_refl _⟩, ⟨by repeat (first | (with_reducible first | exact HB.out | apply below_alloc | apply pw_below_drewN | apply below_drew1) | exact HB.out | exact Below.refl _ _)⟩⟩
                          case rest =>
                            as_aux_lemma =>
                              clear HC36
                              try clear c1
                              try clear c2
                              try clear p2
                              try clear c3
                              try clear c4
                              try clear c5
                              try clear c6
                              try clear p6
                              try clear c11
                              try clear c11b0
                              try clear c11b1
                              try clear c11b2
                              try clear c12
                              try clear c12b0
                              try clear c12b1
                              try clear c13
                              try clear c15
                              try clear c18
                              try clear c19
                              try clear c21
                              try clear c21b0
                              try clear c22
                              try clear c24
                              try clear c24b0
                              try clear c24b1
                              try clear c25
                              try clear c26
                              try clear c26b0
                              try clear c26b1
                              try clear c27
                              try clear c27b0
                              try clear c27b1
                              try clear c28
                              try clear c32
                              try clear c33
                              try clear c33b0
                              try clear c33b1
                              try clear c33b2
                              try clear c34
                              try clear c34b0
                              try clear c34b1
                              try clear c35
                              try clear c36
                              try clear c37
                              try clear c38
                              try clear c40
                              try clear c41
                              try clear c41b0
                              try clear c41b1
                              try clear c42
                              try clear c44
                              try clear c55
                              try clear c61
                              try clear c62
                              try clear c62b0
                              try clear c64
                              try clear c65
                              try clear c65b0
                              try clear c65b1
                              try clear c66
                              try clear c66b0
                              try clear c66b1
                              try clear hcz50_0
                              try clear hcz74_0
                              try clear hfz50_0
                              try clear hfz74_0
                              try clear p2
                              try clear p6
                              obtain ⟨kq, HA, HJ35, HB⟩ := hcut
                              cases kq with
                              | zero => exact absurd HA.out (by simp [laws_FnJumpsOfPairs.j7])
                              | succ kj35 =>
                                have H := HA.out
                                clear HA
                                simp only [laws_FnJumpsOfPairs.j7] at H
                                replace H := Option.bind_eq_some_iff.mp H
                                obtain ⟨t320, A750, H⟩ := H
                                replace H : ((impl_JumpMatrix.f t320).bind fun bt321 => ((spec_JumpMatrix.f t320).bind fun bt326 => (if (bt321.2 != bt326.2) = true then (laws_FnJumpsOfPairs.j8 kj35 bt321.2 true bt321.1) else ((laws_vSameLists.f kj35 bt321.1 bt326.1).bind fun t331 => (laws_FnJumpsOfPairs.j8 kj35 bt321.2 (!t331) bt321.1))))) = some r := H
                                have A75 := Aside0.mk A750
                                clear A750
                                replace H := Option.bind_eq_some_iff.mp H
                                obtain ⟨⟨t321, t324⟩, A760, H⟩ := H
                                replace H : ((spec_JumpMatrix.f t320).bind fun bt326 => (if (t324 != bt326.2) = true then (laws_FnJumpsOfPairs.j8 kj35 t324 true t321) else ((laws_vSameLists.f kj35 t321 bt326.1).bind fun t331 => (laws_FnJumpsOfPairs.j8 kj35 t324 (!t331) t321)))) = some r := H
                                have A76 := Aside0.mk A760
                                clear A760
                                replace H := Option.bind_eq_some_iff.mp H
                                obtain ⟨⟨t326, t329⟩, A770, H⟩ := H
                                replace H : (if (t324 != t329) = true then (laws_FnJumpsOfPairs.j8 kj35 t324 true t321) else ((laws_vSameLists.f kj35 t321 t326).bind fun t331 => (laws_FnJumpsOfPairs.j8 kj35 t324 (!t331) t321))) = some r := H
                                have A77 := Aside0.mk A770
                                clear A770
                                have HC78 := Aside0.mk H
                                clear H
                                go_upto_region 36 with (first | ((with_reducible refine gate_callee (f := 39) rfl ?_); refine goesL_ (some 241) rfl rfl Try.func39 (by kernel_rfl) rfl #[.slice A1 l1.length c1] rfl (by (try simp only [List.map_toArray, List.map_cons, List.map_nil]); first | done | rfl | (simp only [List.length_drop, List.length_take]; rfl)) ?_; (with_reducible refine (spec_DrawJumpMatrix.calls _ _ l1 t320 _ ?side1 ?side2 A75.out).mono ?_); (case side1 => repeat (first | exact (Kd.C_below HR1.out HB.out) | (with_reducible refine Kd.C_alloc ?_ _) | (with_reducible refine Kd.C_drewN ?_ _) | (with_reducible refine Kd.C_drew ?_))); (case side2 => exact HC1.out); rintro e w79 ⟨rfl, hb⟩; refine ⟨_, rfl, ?_⟩; have n0_ := Aside0.mk (below_step (by repeat (first | (with_reducible first | exact HB.out | apply below_alloc | apply pw_below_drewN | apply below_drew1) | exact HB.out | exact Below.refl _ _)) hb); clear HB; have HB := n0_; clear n0_; (try clear hb); (try clear hb2); (try clear hk); (try clear hi)) | ((with_reducible refine gate_callee (f := 37) rfl ?_); refine goesL_ (some 244) rfl rfl Try.func37 (by kernel_rfl) rfl #[.int .i64 t320] rfl (by (try simp only [List.map_toArray, List.map_cons, List.map_nil]); first | done | rfl | (simp only [List.length_drop, List.length_take]; rfl)) ?_; (with_reducible refine (impl_JumpMatrix.calls t320 t321 t324 _ A76.out).mono ?_); rintro e w80 ⟨v322, rfl, ho0, hb⟩; refine ⟨_, rfl, ?_⟩; have n0_ := Aside0.mk (Kd.N_lower (Kd.N_mono (ok' := fun k_ => True) ho0 (fun k_ hk_ => trivial)) (below_size (by repeat (first | (with_reducible first | exact HB.out | apply below_alloc | apply pw_below_drewN | apply below_drew1) | exact HB.out | exact Below.refl _ _)))); have n1_ := Aside0.mk (below_step (by repeat (first | (with_reducible first | exact HB.out | apply below_alloc | apply pw_below_drewN | apply below_drew1) | exact HB.out | exact Below.refl _ _)) hb); clear HB; have HO323 := n0_; have HB := n1_; clear n0_ n1_; (try clear hb); (try clear hb2); (try clear hk); (try clear hi); (try clear ho0)) | ((with_reducible refine gate_dst (N := 36) rfl ?_); (try (refine gate_guard (by rfl) ?_; dsimp only)); refine box_event ?hg (N := 36) ?hd (cs := #[.slice none 0 0]) (t := 46) ?hr ?_; (case hd => rfl); (case hg => rfl); (case hr => first | (go_simp; done) | (go_simp; rfl)); intro gb325 hg w81 hbox hb; have n0_ := Aside0.mk (Kd.N_below (Kd.N_elderB (by (with_reducible repeat (first | apply Kd.N_alloc | apply Kd.N_drewN | apply Kd.N_drew)); exact HO323.out) gb325 (Nat.le_of_eq hg.symm)) hb); have n1_ := Aside0.mk (below_step (by repeat (first | (with_reducible first | exact HB.out | apply below_alloc | apply pw_below_drewN | apply below_drew1) | exact HB.out | exact Below.refl _ _)) hb); have n2_ := Aside0.mk (hbox); have n3_ := Aside0.mk ((by rw [hg]; exact (below_size (by repeat (first | (with_reducible first | exact HB.out | apply below_alloc | apply pw_below_drewN | apply below_drew1) | exact HB.out | exact Below.refl _ _))) : w.heap.size ≤ gb325)); have n4_ := Aside0.mk ((by rw [hg]; exact (below_size (by repeat (first | (with_reducible first | exact HB.out | apply below_alloc | apply pw_below_drewN | apply below_drew1) | exact HB.out | exact Below.refl _ _))) : w.heap.size ≤ gb325)); clear HO323; clear HB; have HO323 := n0_; have HB := n1_; have BK325 := n2_; have GW325 := n3_; have GE325 := n4_; clear n0_ n1_ n2_ n3_ n4_; clear hb hbox hg; obtain ⟨Ao82, co82, eo82⟩ := Kd.N_slice HO323.out; subst eo82; have hcz83_0 : w81.cell? ⟨gb325, 0, none⟩ = some (.slice none 0 0) := (blk_cell BK325.out 0).trans rfl; have hfz83_0 := blk_frozen BK325.out 0) | ((with_reducible refine gate_callee (f := 40) rfl ?_); refine goesL_ (some 249) rfl rfl Try.func40 (by kernel_rfl) rfl #[.int .i64 t320] rfl (by (try simp only [List.map_toArray, List.map_cons, List.map_nil]); first | done | rfl | (simp only [List.length_drop, List.length_take]; rfl)) ?_; (with_reducible refine (spec_JumpMatrix.calls t320 t326 t329 _ A77.out).mono ?_); rintro e w84 ⟨v327, rfl, ho0, hb⟩; refine ⟨_, rfl, ?_⟩; have n0_ := Aside0.mk (Kd.N_elder' (by (with_reducible repeat (first | apply Kd.N_alloc | apply Kd.N_drewN | apply Kd.N_drew)); exact (Kd.N_mono (Kd.N_far (p := ⟨gb325, 0, none⟩) (Kd.N_mono HO323.out (fun k_ hk => (⟨hk, hk.2⟩ : _ ∧ k_ ≠ gb325))) (fun _ hk => hk.2) (.slice Ao82 t321.length co82)) (fun _ h_ => h_.1))) (Kd.N_base ho0) hb); have n1_ := Aside0.mk (Kd.N_lower (Kd.N_mono (ok' := fun k_ => some k_ ≠ (.slice Ao82 t321.length co82 : Value).ownBlock ∧ k_ ≠ gb325) ho0 (fun k_ hk_ => ⟨(Kd.fresh' (Kd.N_lt (by (with_reducible repeat (first | apply Kd.N_alloc | apply Kd.N_drewN | apply Kd.N_drew)); exact (Kd.N_mono (Kd.N_far (p := ⟨gb325, 0, none⟩) (Kd.N_mono HO323.out (fun k_ hk => (⟨hk, hk.2⟩ : _ ∧ k_ ≠ gb325))) (fun _ hk => hk.2) (.slice Ao82 t321.length co82)) (fun _ h_ => h_.1)))) k_ hk_), (Kd.freshB (g := gb325) (o := .cells #[.slice Ao82 t321.length co82] 46 (0, 0)) (by (with_reducible repeat (first | refine blk_drewN ?_ _ | refine blk_drew ?_ | refine blk_alloc ?_ _)); refine blk_put (cs := #[.slice none 0 0]) ?_ 0 _ rfl; (with_reducible repeat (first | refine blk_drewN ?_ _ | refine blk_drew ?_ | refine blk_alloc ?_ _)); exact BK325.out) k_ hk_)⟩)) (below_size (by repeat (first | (with_reducible first | exact HB.out | apply below_alloc | apply pw_below_drewN | apply below_drew1 | refine below_set ?_ GE325.out) | exact HB.out | exact Below.refl _ _)))); have n2_ := Aside0.mk (blk_below (g := gb325) (o := .cells #[.slice Ao82 t321.length co82] 46 (0, 0)) (by (with_reducible repeat (first | refine blk_drewN ?_ _ | refine blk_drew ?_ | refine blk_alloc ?_ _)); refine blk_put (cs := #[.slice none 0 0]) ?_ 0 _ rfl; (with_reducible repeat (first | refine blk_drewN ?_ _ | refine blk_drew ?_ | refine blk_alloc ?_ _)); exact BK325.out) hb); have n3_ := Aside0.mk (below_step (by repeat (first | (with_reducible first | exact HB.out | apply below_alloc | apply pw_below_drewN | apply below_drew1 | refine below_set ?_ GE325.out) | exact HB.out | exact Below.refl _ _)) hb); clear HO323; clear BK325; clear HB; have HO323 := n0_; have HO328 := n1_; have BK325 := n2_; have HB := n3_; clear n0_ n1_ n2_ n3_; (try clear hb); (try clear hb2); (try clear hk); (try clear hi); (try clear ho0)) | ((with_reducible refine gate_dst (N := 38) rfl ?_); (try (refine gate_guard (by rfl) ?_; dsimp only)); refine box_event ?hg (N := 38) ?hd (cs := #[.slice none 0 0]) (t := 46) ?hr ?_; (case hd => rfl); (case hg => rfl); (case hr => first | (go_simp; done) | (go_simp; rfl)); intro gb330 hg w85 hbox hb; have n0_ := Aside0.mk (Kd.N_below (Kd.N_elderB (by (with_reducible repeat (first | apply Kd.N_alloc | apply Kd.N_drewN | apply Kd.N_drew)); exact HO323.out) gb330 (Nat.le_of_eq hg.symm)) hb); have n1_ := Aside0.mk (Kd.N_below (Kd.N_elderB (by (with_reducible repeat (first | apply Kd.N_alloc | apply Kd.N_drewN | apply Kd.N_drew)); exact HO328.out) gb330 (Nat.le_of_eq hg.symm)) hb); have n2_ := Aside0.mk (blk_below (g := gb325) (o := .cells #[.slice Ao82 t321.length co82] 46 (0, 0)) (by (with_reducible repeat (first | refine blk_drewN ?_ _ | refine blk_drew ?_ | refine blk_alloc ?_ _)); exact BK325.out) hb); have n3_ := Aside0.mk (below_step (by repeat (first | (with_reducible first | exact HB.out | apply below_alloc | apply pw_below_drewN | apply below_drew1 | refine below_set ?_ GE325.out) | exact HB.out | exact Below.refl _ _)) hb); have n4_ := Aside0.mk (hbox); have n5_ := Aside0.mk ((by rw [hg]; exact (below_size (by repeat (first | (with_reducible first | exact HB.out | apply below_alloc | apply pw_below_drewN | apply below_drew1 | refine below_set ?_ GE325.out) | exact HB.out | exact Below.refl _ _))) : w.heap.size ≤ gb330)); have n6_ := Aside0.mk ((by rw [hg]; exact (below_size (by repeat (first | (with_reducible first | exact HB.out | apply below_alloc | apply pw_below_drewN | apply below_drew1 | refine below_set ?_ GE325.out) | exact HB.out | exact Below.refl _ _))) : w.heap.size ≤ gb330)); have n7_ := Aside0.mk ((by rw [hg]; exact Nat.ne_of_lt (blk_lt (g := gb325) (o := .cells #[.slice Ao82 t321.length co82] 46 (0, 0)) (by (with_reducible repeat (first | refine blk_drewN ?_ _ | refine blk_drew ?_ | refine blk_alloc ?_ _)); exact BK325.out)) : gb325 ≠ gb330)); have n8_ := Aside0.mk ((by rw [hg]; exact Nat.ne_of_gt (blk_lt (g := gb325) (o := .cells #[.slice Ao82 t321.length co82] 46 (0, 0)) (by (with_reducible repeat (first | refine blk_drewN ?_ _ | refine blk_drew ?_ | refine blk_alloc ?_ _)); exact BK325.out)) : gb330 ≠ gb325)); clear HO323; clear HO328; clear BK325; clear HB; have HO323 := n0_; have HO328 := n1_; have BK325 := n2_; have HB := n3_; have BK330 := n4_; have GW330 := n5_; have GE330 := n6_; have NB325_330 := n7_; have NB330_325 := n8_; clear n0_ n1_ n2_ n3_ n4_ n5_ n6_ n7_ n8_; clear hb hbox hg; obtain ⟨Ao86, co86, eo86⟩ := Kd.N_slice HO328.out; subst eo86; have hnb87 := NB330_325.out; have hnc87 := NB325_330.out; have hcz88_0 : w85.cell? ⟨gb330, 0, none⟩ = some (.slice none 0 0) := (blk_cell BK330.out 0).trans rfl; have hfz88_0 := blk_frozen BK330.out 0))
                                (try simp only [Act.put, List.setIfInBounds_toArray, List.set_cons_zero, List.set_cons_succ])
                                go_cut [262] (fun v262 wc => ∃ (kq : Nat) (x262_77 : Bool), v262 = .bool x262_77 ∧ Aside0 (laws_FnJumpsOfPairs.j8 kq t324 x262_77 t321 = some r) ∧ Aside0 (kq ≤ kj35) ∧ Aside0 (Kd.N (Kd.slice 3 (Kd.int .i64)) 34 wc w.heap.size (fun k_ => some k_ ≠ ((.slice Ao86 t326.length co86) : Value).ownBlock ∧ k_ ≠ gb325 ∧ k_ ≠ gb330) (.slice Ao82 t321.length co82) t321) ∧ Aside0 (Kd.N (Kd.slice 3 (Kd.int .i64)) 34 wc w.heap.size (fun k_ => some k_ ≠ ((.slice Ao82 t321.length co82) : Value).ownBlock ∧ k_ ≠ gb325 ∧ k_ ≠ gb330) (.slice Ao86 t326.length co86) t326) ∧ Aside0 (wc.heap[gb325]? = some (.cells #[(.slice Ao82 t321.length co82)] 46 (0, 0))) ∧ Aside0 (wc.heap[gb330]? = some (.cells #[(.slice Ao86 t326.length co86)] 46 (0, 0))) ∧ Aside0 (Below w.heap.size w wc))
                                case first =>
                                  have H := HC78.out
                                  clear HC78
                                  by_cases c89 : (t324 != t329) = true
                                  · rw [if_pos c89] at H
                                    have c89b0 : (t324 != t329) = true := c89
                                    (try (have c89b1 : decide (t324 = t329) = false := by simpa using c89))
                                    (try (have c89b2 : (t324 == t329) = false := by simpa using c89))
                                    (try (have c89b3 : ¬ (t324 = t329) := by simpa using c89))
                                    clear c89
                                    (first | rw [c89b0] | (simp only [i64_w, i32_w]; rw [c89b0]) | skip)
                                    have H' := Aside0.mk H
                                    clear H
                                    go_wp2
                                    go_meet
                                    case rel => exact ⟨_, (true), (by first | rfl | (simp; done) | (simp [*]; done)), H', ⟨by have := HJ7.out; have := HJ13.out; have := HJ30.out; have := HJ35.out; first | omega | exact Nat.le_refl _⟩, ⟨by (with_reducible repeat (first | apply Kd.N_alloc | apply Kd.N_drewN | apply Kd.N_drew)); exact Kd.N_mono (Kd.N_far (p := ⟨gb330, 0, none⟩) (Kd.N_mono HO323.out (fun k_ hk => (⟨hk, hk.2⟩ : _ ∧ k_ ≠ gb330))) (fun _ hk => hk.2) (.slice Ao86 t326.length co86)) (fun _ hk => ⟨hk.1.1.2, ⟨hk.1.1.1.2, hk.1.2⟩⟩)⟩, ⟨by (with_reducible repeat (first | apply Kd.N_alloc | apply Kd.N_drewN | apply Kd.N_drew)); exact Kd.N_mono (Kd.N_far (p := ⟨gb330, 0, none⟩) (Kd.N_mono HO328.out (fun k_ hk => (⟨hk, hk.2⟩ : _ ∧ k_ ≠ gb330))) (fun _ hk => hk.2) (.slice Ao86 t326.length co86)) (fun _ hk => ⟨hk.1.1.1, ⟨hk.1.1.2, hk.1.2⟩⟩)⟩, ⟨by (with_reducible repeat (first | refine blk_drewN ?_ _ | refine blk_drew ?_ | refine blk_alloc ?_ _)); refine blk_far ?_ NB325_330.out _; (with_reducible repeat (first | refine blk_drewN ?_ _ | refine blk_drew ?_ | refine blk_alloc ?_ _)); exact BK325.out⟩, ⟨by (with_reducible repeat (first | refine blk_drewN ?_ _ | refine blk_drew ?_ | refine blk_alloc ?_ _)); refine blk_put (cs := #[.slice none 0 0]) ?_ 0 _ rfl; (with_reducible repeat (first | refine blk_drewN ?_ _ | refine blk_drew ?_ | refine blk_alloc ?_ _)); exact BK330.out⟩, ⟨by repeat (first | (with_reducible first | exact HB.out | apply below_alloc | apply pw_below_drewN | apply below_drew1 | refine below_set ?_ GE325.out | refine below_set ?_ GE330.out) | exact HB.out | exact Below.refl _ _)⟩⟩
                                  · rw [if_neg c89] at H
                                    have c89b0 : (t324 != t329) = false := by simpa using c89
                                    (try (have c89b1 : decide (t324 = t329) = true := by simpa using c89))
                                    (try (have c89b2 : (t324 == t329) = true := by simpa using c89))
                                    clear c89
                                    (first | rw [c89b0] | (simp only [i64_w, i32_w]; rw [c89b0]) | skip)
                                    replace H := Option.bind_eq_some_iff.mp H
                                    obtain ⟨t331, A900, H⟩ := H
                                    replace H : (laws_FnJumpsOfPairs.j8 kj35 t324 (!t331) t321) = some r := H
                                    have A90 := Aside0.mk A900
                                    clear A900
                                    have H' := Aside0.mk H
                                    clear H
                                    have hnb91 := NB325_330.out
                                    have hnc91 := NB330_325.out
                                    have hcz92_0 : w85.cell? ⟨gb325, 0, none⟩ = some (.slice Ao82 t321.length co82) := (blk_cell BK325.out 0).trans rfl
                                    have hfz92_0 := blk_frozen BK325.out 0
                                    have hcz93_0 : w85.cell? ⟨gb330, 0, none⟩ = some (.slice none 0 0) := (blk_cell BK330.out 0).trans rfl
                                    have hfz93_0 := blk_frozen BK330.out 0
                                    go_wp2_with (first | (go_at_call 17; (with_reducible refine (laws_vSameLists.calls kj35 _ _ t321 _ _ t326 t331 _ ?side1 ?side2 ?side3 ?side4 A90.out).mono ?_); (case side1 => refine (Kd.N_reads' (e := 34) (base := w.heap.size) (ok := fun k_ => (((True ∧ k_ ≠ gb325) ∧ some k_ ≠ (.slice Ao86 t326.length co86 : Value).ownBlock) ∧ k_ ≠ gb330)) (n := t321.length) (c := co82) ?_).2.2; exact (by (with_reducible repeat (first | apply Kd.N_alloc | apply Kd.N_drewN | apply Kd.N_drew)); exact (Kd.N_mono (Kd.N_far (p := ⟨gb330, 0, none⟩) (Kd.N_mono HO323.out (fun k_ hk => (⟨hk, hk.2⟩ : _ ∧ k_ ≠ gb330))) (fun _ hk => hk.2) (.slice Ao86 t326.length co86)) (fun _ h_ => h_.1)))); (case side2 => exact (Kd.N_reads' HO323.out).2.1); (case side3 => refine (Kd.N_reads' (e := 34) (base := w.heap.size) (ok := fun k_ => ((some k_ ≠ (.slice Ao82 t321.length co82 : Value).ownBlock ∧ k_ ≠ gb325) ∧ k_ ≠ gb330)) (n := t326.length) (c := co86) ?_).2.2; exact (by (with_reducible repeat (first | apply Kd.N_alloc | apply Kd.N_drewN | apply Kd.N_drew)); exact (Kd.N_mono (Kd.N_far (p := ⟨gb330, 0, none⟩) (Kd.N_mono HO328.out (fun k_ hk => (⟨hk, hk.2⟩ : _ ∧ k_ ≠ gb330))) (fun _ hk => hk.2) (.slice Ao86 t326.length co86)) (fun _ h_ => h_.1)))); (case side4 => exact (Kd.N_reads' HO328.out).2.1); rintro e w' ⟨rfl, ⟨nd, rfl⟩⟩))
                                    go_meet
                                    case rel => exact ⟨_, (!t331), (by first | rfl | (simp; done) | (simp [*]; done)), H', ⟨by have := HJ7.out; have := HJ13.out; have := HJ30.out; have := HJ35.out; first | omega | exact Nat.le_refl _⟩, ⟨by (with_reducible repeat (first | apply Kd.N_alloc | apply Kd.N_drewN | apply Kd.N_drew)); exact Kd.N_mono (Kd.N_far (p := ⟨gb330, 0, none⟩) (Kd.N_mono HO323.out (fun k_ hk => (⟨hk, hk.2⟩ : _ ∧ k_ ≠ gb330))) (fun _ hk => hk.2) (.slice Ao86 t326.length co86)) (fun _ hk => ⟨hk.1.1.2, ⟨hk.1.1.1.2, hk.1.2⟩⟩)⟩, ⟨by (with_reducible repeat (first | apply Kd.N_alloc | apply Kd.N_drewN | apply Kd.N_drew)); exact Kd.N_mono (Kd.N_far (p := ⟨gb330, 0, none⟩) (Kd.N_mono HO328.out (fun k_ hk => (⟨hk, hk.2⟩ : _ ∧ k_ ≠ gb330))) (fun _ hk => hk.2) (.slice Ao86 t326.length co86)) (fun _ hk => ⟨hk.1.1.1, ⟨hk.1.1.2, hk.1.2⟩⟩)⟩, ⟨by (with_reducible repeat (first | refine blk_drewN ?_ _ | refine blk_drew ?_ | refine blk_alloc ?_ _)); refine blk_far ?_ NB325_330.out _; (with_reducible repeat (first | refine blk_drewN ?_ _ | refine blk_drew ?_ | refine blk_alloc ?_ _)); exact BK325.out⟩, ⟨by (with_reducible repeat (first | refine blk_drewN ?_ _ | refine blk_drew ?_ | refine blk_alloc ?_ _)); refine blk_put (cs := #[.slice none 0 0]) ?_ 0 _ rfl; (with_reducible repeat (first | refine blk_drewN ?_ _ | refine blk_drew ?_ | refine blk_alloc ?_ _)); exact BK330.out⟩, ⟨by repeat (first | (with_reducible first | exact HB.out | apply below_alloc | apply pw_below_drewN | apply below_drew1 | refine below_set ?_ GE325.out | refine below_set ?_ GE330.out) | exact HB.out | exact Below.refl _ _)⟩⟩
                                case rest =>
                                  as_aux_lemma =>
                                    clear HC78
                                    try clear c1
                                    try clear c2
                                    try clear p2
                                    try clear c3
                                    try clear c4
                                    try clear c5
                                    try clear c6
                                    try clear p6
                                    try clear c8
                                    try clear c9
                                    try clear c11
                                    try clear c11b0
                                    try clear c11b1
                                    try clear c11b2
                                    try clear c12
                                    try clear c12b0
                                    try clear c12b1
                                    try clear c13
                                    try clear c15
                                    try clear c18
                                    try clear c19
                                    try clear c21
                                    try clear c21b0
                                    try clear c22
                                    try clear c24
                                    try clear c24b0
                                    try clear c24b1
                                    try clear c25
                                    try clear c26
                                    try clear c26b0
                                    try clear c26b1
                                    try clear c27
                                    try clear c27b0
                                    try clear c27b1
                                    try clear c28
                                    try clear c32
                                    try clear c33
                                    try clear c33b0
                                    try clear c33b1
                                    try clear c33b2
                                    try clear c34
                                    try clear c34b0
                                    try clear c34b1
                                    try clear c35
                                    try clear c36
                                    try clear c37
                                    try clear c38
                                    try clear c39
                                    try clear c40
                                    try clear c41
                                    try clear c41b0
                                    try clear c41b1
                                    try clear c42
                                    try clear c44
                                    try clear c55
                                    try clear c61
                                    try clear c62
                                    try clear c62b0
                                    try clear c64
                                    try clear c65
                                    try clear c65b0
                                    try clear c65b1
                                    try clear c66
                                    try clear c66b0
                                    try clear c66b1
                                    try clear c87
                                    try clear c89
                                    try clear c89b0
                                    try clear c89b1
                                    try clear c89b2
                                    try clear c91
                                    try clear hcz50_0
                                    try clear hcz74_0
                                    try clear hcz83_0
                                    try clear hcz88_0
                                    try clear hcz92_0
                                    try clear hcz93_0
                                    try clear hfz50_0
                                    try clear hfz74_0
                                    try clear hfz83_0
                                    try clear hfz88_0
                                    try clear hfz92_0
                                    try clear hfz93_0
                                    try clear p2
                                    try clear p6
                                    obtain ⟨kq, x262_77, rfl, HA, HJ77, HO_326000, HO_331000, BK325, BK330, HB⟩ := hcut
                                    cases kq with
                                    | zero => exact absurd HA.out (by simp [laws_FnJumpsOfPairs.j8])
                                    | succ kj77 =>
                                      have H := HA.out
                                      clear HA
                                      simp only [laws_FnJumpsOfPairs.j8] at H
                                      by_cases c94 : x262_77 = true
                                      · subst c94
                                        have H1 : (some false) = some r := by rw [if_pos rfl] at H; exact H
                                        clear H
                                        have H := H1
                                        clear H1
                                        obtain rfl := Option.some.inj H
                                        go_wp2
                                        go_ret
                                        exact ⟨by first | rfl | (simp [errW_none, errW_some] <;> rfl) | (simp [*, errW_none, errW_some] <;> rfl), by repeat (first | (with_reducible first | exact HB.out | apply below_alloc | apply pw_below_drewN | apply below_drew1 | refine below_set ?_ GE325.out | refine below_set ?_ GE330.out) | exact HB.out | exact Below.refl _ _)⟩
                                      · replace c94 := Bool.eq_false_iff.mpr c94
                                        subst c94
                                        have H1 : (if t324 = true then ((impl_DeterminantOf.f kj77 t321).bind fun bt332 => (if bt332.2 = true then (some (bt332.1 == 1)) else (some false))) else (some true)) = some r := by rw [if_neg (show ¬ (false = true) by decide)] at H; exact H
                                        clear H
                                        have H := H1
                                        clear H1
                                        by_cases c95 : t324 = true
                                        · subst c95
                                          have H1 : ((impl_DeterminantOf.f kj77 t321).bind fun bt332 => (if bt332.2 = true then (some (bt332.1 == 1)) else (some false))) = some r := by rw [if_pos rfl] at H; exact H
                                          clear H
                                          have H := H1
                                          clear H1
                                          replace H := Option.bind_eq_some_iff.mp H
                                          obtain ⟨⟨t332, t333⟩, A960, H⟩ := H
                                          replace H : (if t333 = true then (some (t332 == 1)) else (some false)) = some r := H
                                          have A96 := Aside0.mk A960
                                          clear A960
                                          by_cases c97 : t333 = true
                                          · subst c97
                                            have H1 : (some (t332 == 1)) = some r := by rw [if_pos rfl] at H; exact H
                                            clear H
                                            have H := H1
                                            clear H1
                                            obtain rfl := Option.some.inj H
                                            have hnb98 := NB325_330.out
                                            have hnc98 := NB330_325.out
                                            have hcz99_0 : wc.cell? ⟨gb325, 0, none⟩ = some (.slice Ao82 t321.length co82) := (blk_cell BK325.out 0).trans rfl
                                            have hfz99_0 := blk_frozen BK325.out 0
                                            go_wp2_with (first | ((with_reducible refine gate_callee (f := 41) rfl ?_); refine goesL_ (some 267) rfl rfl Try.func41 (by kernel_rfl) rfl #[.agg #[.slice Ao82 t321.length co82]] rfl (by (try simp only [List.map_toArray, List.map_cons, List.map_nil]); first | done | rfl | (simp only [List.length_drop, List.length_take]; rfl)) ?_; (with_reducible refine (impl_DeterminantOf.calls kj77 _ _ t321 t332 true _ ?side1 ?side2 A96.out).mono ?_); (case side1 => repeat (first | exact (Kd.N_reads' HO_326000.out).2.2 | (with_reducible refine Kd.C_alloc ?_ _) | (with_reducible refine Kd.C_drewN ?_ _) | (with_reducible refine Kd.C_drew ?_))); (case side2 => exact (Kd.N_reads' HO_326000.out).2.1); rintro e w100 ⟨rfl, hb⟩; refine ⟨_, rfl, ?_⟩; have n0_ := Aside0.mk (Kd.N_below (by (with_reducible repeat (first | apply Kd.N_alloc | apply Kd.N_drewN | apply Kd.N_drew)); exact HO_326000.out) hb); have n1_ := Aside0.mk (Kd.N_below (by (with_reducible repeat (first | apply Kd.N_alloc | apply Kd.N_drewN | apply Kd.N_drew)); exact HO_331000.out) hb); have n2_ := Aside0.mk (blk_below (g := gb325) (o := .cells #[.slice Ao82 t321.length co82] 46 (0, 0)) (by (with_reducible repeat (first | refine blk_drewN ?_ _ | refine blk_drew ?_ | refine blk_alloc ?_ _)); exact BK325.out) hb); have n3_ := Aside0.mk (blk_below (g := gb330) (o := .cells #[.slice Ao86 t326.length co86] 46 (0, 0)) (by (with_reducible repeat (first | refine blk_drewN ?_ _ | refine blk_drew ?_ | refine blk_alloc ?_ _)); exact BK330.out) hb); have n4_ := Aside0.mk (below_step (by repeat (first | (with_reducible first | exact HB.out | apply below_alloc | apply pw_below_drewN | apply below_drew1 | refine below_set ?_ GE325.out | refine below_set ?_ GE330.out) | exact HB.out | exact Below.refl _ _)) hb); clear HO_326000; clear HO_331000; clear BK325; clear BK330; clear HB; have HO_326000 := n0_; have HO_331000 := n1_; have BK325 := n2_; have BK330 := n3_; have HB := n4_; clear n0_ n1_ n2_ n3_ n4_; (try clear hb); (try clear hb2); (try clear hk); (try clear hi)))
                                            go_ret
                                            exact ⟨by first | rfl | (simp [errW_none, errW_some] <;> rfl) | (simp [*, errW_none, errW_some] <;> rfl), by repeat (first | (with_reducible first | exact HB.out | apply below_alloc | apply pw_below_drewN | apply below_drew1 | refine below_set ?_ GE325.out | refine below_set ?_ GE330.out) | exact HB.out | exact Below.refl _ _)⟩
                                          · replace c97 := Bool.eq_false_iff.mpr c97
                                            subst c97
                                            have H1 : (some false) = some r := by rw [if_neg (show ¬ (false = true) by decide)] at H; exact H
                                            clear H
                                            have H := H1
                                            clear H1
                                            obtain rfl := Option.some.inj H
                                            have hnb101 := NB325_330.out
                                            have hnc101 := NB330_325.out
                                            have hcz102_0 : wc.cell? ⟨gb325, 0, none⟩ = some (.slice Ao82 t321.length co82) := (blk_cell BK325.out 0).trans rfl
                                            have hfz102_0 := blk_frozen BK325.out 0
                                            go_wp2_with (first | ((with_reducible refine gate_callee (f := 41) rfl ?_); refine goesL_ (some 267) rfl rfl Try.func41 (by kernel_rfl) rfl #[.agg #[.slice Ao82 t321.length co82]] rfl (by (try simp only [List.map_toArray, List.map_cons, List.map_nil]); first | done | rfl | (simp only [List.length_drop, List.length_take]; rfl)) ?_; (with_reducible refine (impl_DeterminantOf.calls kj77 _ _ t321 t332 false _ ?side1 ?side2 A96.out).mono ?_); (case side1 => repeat (first | exact (Kd.N_reads' HO_326000.out).2.2 | (with_reducible refine Kd.C_alloc ?_ _) | (with_reducible refine Kd.C_drewN ?_ _) | (with_reducible refine Kd.C_drew ?_))); (case side2 => exact (Kd.N_reads' HO_326000.out).2.1); rintro e w103 ⟨rfl, hb⟩; refine ⟨_, rfl, ?_⟩; have n0_ := Aside0.mk (Kd.N_below (by (with_reducible repeat (first | apply Kd.N_alloc | apply Kd.N_drewN | apply Kd.N_drew)); exact HO_326000.out) hb); have n1_ := Aside0.mk (Kd.N_below (by (with_reducible repeat (first | apply Kd.N_alloc | apply Kd.N_drewN | apply Kd.N_drew)); exact HO_331000.out) hb); have n2_ := Aside0.mk (blk_below (g := gb325) (o := .cells #[.slice Ao82 t321.length co82] 46 (0, 0)) (by (with_reducible repeat (first | refine blk_drewN ?_ _ | refine blk_drew ?_ | refine blk_alloc ?_ _)); exact BK325.out) hb); have n3_ := Aside0.mk (blk_below (g := gb330) (o := .cells #[.slice Ao86 t326.length co86] 46 (0, 0)) (by (with_reducible repeat (first | refine blk_drewN ?_ _ | refine blk_drew ?_ | refine blk_alloc ?_ _)); exact BK330.out) hb); have n4_ := Aside0.mk (below_step (by repeat (first | (with_reducible first | exact HB.out | apply below_alloc | apply pw_below_drewN | apply below_drew1 | refine below_set ?_ GE325.out | refine below_set ?_ GE330.out) | exact HB.out | exact Below.refl _ _)) hb); clear HO_326000; clear HO_331000; clear BK325; clear BK330; clear HB; have HO_326000 := n0_; have HO_331000 := n1_; have BK325 := n2_; have BK330 := n3_; have HB := n4_; clear n0_ n1_ n2_ n3_ n4_; (try clear hb); (try clear hb2); (try clear hk); (try clear hi)))
                                            go_ret
                                            exact ⟨by first | rfl | (simp [errW_none, errW_some] <;> rfl) | (simp [*, errW_none, errW_some] <;> rfl), by repeat (first | (with_reducible first | exact HB.out | apply below_alloc | apply pw_below_drewN | apply below_drew1 | refine below_set ?_ GE325.out | refine below_set ?_ GE330.out) | exact HB.out | exact Below.refl _ _)⟩
                                        · replace c95 := Bool.eq_false_iff.mpr c95
                                          subst c95
                                          have H1 : (some true) = some r := by rw [if_neg (show ¬ (false = true) by decide)] at H; exact H
                                          clear H
                                          have H := H1
                                          clear H1
                                          obtain rfl := Option.some.inj H
                                          go_wp2
                                          go_ret
                                          exact ⟨by first | rfl | (simp [errW_none, errW_some] <;> rfl) | (simp [*, errW_none, errW_some] <;> rfl), by repeat (first | (with_reducible first | exact HB.out | apply below_alloc | apply pw_below_drewN | apply below_drew1 | refine below_set ?_ GE325.out | refine below_set ?_ GE330.out) | exact HB.out | exact Below.refl _ _)⟩

/-- THE ONE PURE STATEMENT of laws_FnJumpsOfPairs: yours. -/
def laws_FnJumpsOfPairs.Pure : Prop := ∀ (l0 : List Int) (l1 : List Int), l0.length ≤ maxLen → l0.length * 1 ≤ 140737488351232 → (∀ x ∈ l0, (Lit.int .u8 x).wf = true) → l1.length ≤ maxLen → l1.length * 1 ≤ 140737488351232 → (∀ x ∈ l1, (Lit.int .u8 x).wf = true) → ∃ k, laws_FnJumpsOfPairs.f k l0 l1 = some true
theorem laws_FnJumpsOfPairs.walk (P : laws_FnJumpsOfPairs.Pure) (a0 : Option Addr) (len0 cap0 : Nat) (z0 : List Int) (a1 : Option Addr) (len1 cap1 : Nat) (z1 : List Int) (w : World) (w0 : (a0 = none ∧ len0 = 0 ∧ cap0 = 0 ∧ z0 = []) ∨ ∃ x, a0 = some x ∧ len0 ≤ cap0 ∧ cap0 ≤ maxLen ∧ z0.length = cap0 ∧ (∀ i, i < z0.length → w.cell? (x.add i) = some (.int .u8 (z0.getD i 0))) ∧ ∀ n ∈ z0, (Lit.int .u8 n).wf = true) (y0 : len0 * 1 ≤ 140737488351232) (w1 : (a1 = none ∧ len1 = 0 ∧ cap1 = 0 ∧ z1 = []) ∨ ∃ x, a1 = some x ∧ len1 ≤ cap1 ∧ cap1 ≤ maxLen ∧ z1.length = cap1 ∧ (∀ i, i < z1.length → w.cell? (x.add i) = some (.int .u8 (z1.getD i 0))) ∧ ∀ n ∈ z1, (Lit.int .u8 n).wf = true) (y1 : len1 * 1 ≤ 140737488351232) :
    Calls Try.prog 6 #[.slice a0 len0 cap0, .slice a1 len1 cap1] w fun e w' => e = .returned (.bool true) ∧ Below w.heap.size w w' := by
  obtain ⟨l0, rfl, hr0, hm0, hw0, hc0⟩ := ReadsInt.ofRowC w0
  obtain ⟨l1, rfl, hr1, hm1, hw1, hc1⟩ := ReadsInt.ofRowC w1
  obtain ⟨k, h⟩ := P l0 l1 hm0 y0 hw0 hm1 y1 hw1
  refine (laws_FnJumpsOfPairs.calls k _ _ l0 _ _ l1 true w (Kd.C_of_reads (d := (0 : Int)) (h1 := fun _ => rfl) hr0) hc0 (Kd.C_of_reads (d := (0 : Int)) (h1 := fun _ => rfl) hr1) hc1 h).mono ?_
  rintro e w' ⟨rfl, hd⟩
  exact ⟨rfl, hd⟩

end Go.Proofs.Ytaphbbnoadjplaa.P
