-- Written by a program of this session (wip/mkprint.py over the kit's print), out of the translation. Not trusted: Lean checks it.
import Derived.Test.YtaphbbnoadjplaaPx0
import Derived.Test.YtaphbbnoadjplaaPx1
import Derived.Test.YtaphbbnoadjplaaPx2
import Derived.Test.YtaphbbnoadjplaaPx3
import Derived.Test.YtaphbbnoadjplaaPx4
namespace Go.Proofs.Ytaphbbnoadjplaa.P
open Go.RowKit Go.Proofs.YtaphbbnoadjplaaW.PrintWords Go.Proofs.YtaphbbnoadjplaaW.PrintLast Go.Proofs.YtaphbbnoadjplaaW.PrintMore
attribute [local go_sem] max2_int min2_int max_two min_two max_three min_three max_four min_four   -- for this text's walks alone
set_option linter.unusedVariables false
set_option linter.unusedSimpArgs false

/-! ### laws_FnQuotientsAreSquares: function 4 -/
mutual
def laws_FnQuotientsAreSquares.j0 : Nat → List Int → Int → Int → Int → Bool → List (List Int) → Bool → Option (Bool)
  | 0, _, _, _, _, _, _, _ => none
  | k + 1, x1, x5, x6, x7, x8, x11, x85 => if x85 = true then (some false) else (if x8 = true then (if 0 ≤ (wrap64 ((x11.length : Int) - 1)) then (if (wrap64 ((x11.length : Int) - 1)) < (x11.length : Int) then (if 1 < ((rd_L1 x11 (wrap64 ((x11.length : Int) - 1))).length : Int) then (if (rd (rd_L1 x11 (wrap64 ((x11.length : Int) - 1))) 1) = 0 then (if 0 < ((rd_L1 x11 (wrap64 ((x11.length : Int) - 1))).length : Int) then (if (wrap64 ((rd (rd_L1 x11 (wrap64 ((x11.length : Int) - 1))) 0) * (rd (rd_L1 x11 (wrap64 ((x11.length : Int) - 1))) 0))) = x7 then (laws_FnQuotientsAreSquares.j1 k x1 x7 x11 ((wrap64 (x7 * (wrap64 ((wrap64 (x5 * x6)) + 1)))) != (wrap64 ((wrap64 (x5 * x5)) + (wrap64 (x6 * x6)))))) else (laws_FnQuotientsAreSquares.j1 k x1 x7 x11 true)) else (none)) else (laws_FnQuotientsAreSquares.j1 k x1 x7 x11 true)) else (none)) else (none)) else (none)) else (laws_FnQuotientsAreSquares.j3 k x1))
def laws_FnQuotientsAreSquares.j3 : Nat → List Int → Option (Bool)
  | 0, _ => none
  | k + 1, x1 => (spec_DrawQuotientPairs.f x1).bind fun bt285 => ((impl_QuotientPairs.f k bt285.1 bt285.2).bind fun bt287 => ((spec_QuotientPairs.f k bt285.1 bt285.2).bind fun bt291 => (if (bt287.2 != bt291.2) = true then (laws_FnQuotientsAreSquares.j4 k bt285.1 bt287.1 true) else ((laws_vSameLists.f k bt287.1 bt291.1).bind fun t295 => (laws_FnQuotientsAreSquares.j4 k bt285.1 bt287.1 (!t295))))))
def laws_FnQuotientsAreSquares.j4 : Nat → Int → List (List Int) → Bool → Option (Bool)
  | 0, _, _, _ => none
  | k + 1, x20, x22, x203 => if x203 = true then (some false) else (laws_FnQuotientsAreSquares.l1 k x20 x22 x22 (x22.length : Int) 0)
def laws_FnQuotientsAreSquares.l1 : Nat → Int → List (List Int) → List (List Int) → Int → Int → Option (Bool)
  | 0, _, _, _, _, _ => none
  | k + 1, x20, x22, x204, x205, x206 => if x206 < x205 then (if 0 ≤ x206 then (if x206 < (x204.length : Int) then (if 0 < ((rd_L1 x204 x206).length : Int) then (if 1 < ((rd_L1 x204 x206).length : Int) then ((impl_SquareQuotient.f (rd (rd_L1 x204 x206) 0) (rd (rd_L1 x204 x206) 1)).bind fun bt299 => (if bt299.2 = true then (if bt299.1 = (wrap64 (x20 * x20)) then (if x206 > 0 then (if 0 ≤ (wrap64 (x206 - 1)) then (if (wrap64 (x206 - 1)) < (x22.length : Int) then (if 0 < ((rd_L1 x22 (wrap64 (x206 - 1))).length : Int) then (if (rd (rd_L1 x204 x206) 1) = (rd (rd_L1 x22 (wrap64 (x206 - 1))) 0) then (if (rd (rd_L1 x204 x206) 0) < (rd (rd_L1 x204 x206) 1) then (some false) else (laws_FnQuotientsAreSquares.l1 k x20 x22 x204 x205 (wrap64 (x206 + 1)))) else (some false)) else (none)) else (none)) else (none)) else (laws_FnQuotientsAreSquares.l1 k x20 x22 x204 x205 (wrap64 (x206 + 1)))) else (some false)) else (some false))) else (none)) else (none)) else (none)) else (none)) else (some true)
def laws_FnQuotientsAreSquares.j1 : Nat → List Int → Int → List (List Int) → Bool → Option (Bool)
  | 0, _, _, _, _ => none
  | k + 1, x1, x7, x11, x123 => if x123 = true then (some false) else (laws_FnQuotientsAreSquares.l0 k x1 x7 x11 x11 (x11.length : Int) 0)
def laws_FnQuotientsAreSquares.l0 : Nat → List Int → Int → List (List Int) → List (List Int) → Int → Int → Option (Bool)
  | 0, _, _, _, _, _, _ => none
  | k + 1, x1, x7, x11, x124, x125, x126 => if x126 < x125 then (if 0 ≤ x126 then (if x126 < (x124.length : Int) then (if 0 < ((rd_L1 x124 x126).length : Int) then (if 1 < ((rd_L1 x124 x126).length : Int) then ((impl_SquareQuotient.f (rd (rd_L1 x124 x126) 0) (rd (rd_L1 x124 x126) 1)).bind fun bt277 => (if bt277.2 = true then (if bt277.1 = x7 then (if x126 > 0 then (if 0 ≤ (wrap64 (x126 - 1)) then (if (wrap64 (x126 - 1)) < (x11.length : Int) then (if 0 < ((rd_L1 x11 (wrap64 (x126 - 1))).length : Int) then (if 1 < ((rd_L1 x11 (wrap64 (x126 - 1))).length : Int) then (if (wrap64 ((rd (rd_L1 x124 x126) 0) + (rd (rd_L1 x124 x126) 1))) ≥ (wrap64 ((rd (rd_L1 x11 (wrap64 (x126 - 1))) 0) + (rd (rd_L1 x11 (wrap64 (x126 - 1))) 1))) then (some false) else (laws_FnQuotientsAreSquares.l0 k x1 x7 x11 x124 x125 (wrap64 (x126 + 1)))) else (none)) else (none)) else (none)) else (none)) else (laws_FnQuotientsAreSquares.l0 k x1 x7 x11 x124 x125 (wrap64 (x126 + 1)))) else (some false)) else (some false))) else (none)) else (none)) else (none)) else (none)) else (laws_FnQuotientsAreSquares.j3 k x1)
end
def laws_FnQuotientsAreSquares.f (k : Nat) (l0 : List Int) (l1 : List Int) : Option (Bool) := (laws_big.f l0 l1).bind fun t254 => (if t254 = true then (some true) else ((spec_DrawQuotientRun.f k l0).bind fun bt255 => ((impl_SquareQuotient.f bt255.1 bt255.2).bind fun bt257 => ((spec_SquareQuotient.f bt255.1 bt255.2).bind fun bt259 => ((impl_QuotientRun.f k bt255.1 bt255.2).bind fun bt261 => ((spec_QuotientRun.f k bt255.1 bt255.2).bind fun bt265 => (if (bt257.2 != bt259.2) = true then (laws_FnQuotientsAreSquares.j0 k l1 bt255.1 bt255.2 bt257.1 bt257.2 bt261.1 true) else (if bt257.1 = bt259.1 then (if (bt261.2 != bt265.2) = true then (laws_FnQuotientsAreSquares.j0 k l1 bt255.1 bt255.2 bt257.1 bt257.2 bt261.1 true) else ((laws_vSameLists.f k bt261.1 bt265.1).bind fun t269 => (if t269 = true then (laws_FnQuotientsAreSquares.j0 k l1 bt255.1 bt255.2 bt257.1 bt257.2 bt261.1 (bt261.2 != bt257.2)) else (laws_FnQuotientsAreSquares.j0 k l1 bt255.1 bt255.2 bt257.1 bt257.2 bt261.1 true)))) else (laws_FnQuotientsAreSquares.j0 k l1 bt255.1 bt255.2 bt257.1 bt257.2 bt261.1 true)))))))))
theorem laws_FnQuotientsAreSquares.mono_l : ∀ k, (∀ y0 y1 y2 y3 y4 y5 y6, LeO (laws_FnQuotientsAreSquares.j0 k y0 y1 y2 y3 y4 y5 y6) (laws_FnQuotientsAreSquares.j0 (k + 1) y0 y1 y2 y3 y4 y5 y6)) ∧ (∀ y0, LeO (laws_FnQuotientsAreSquares.j3 k y0) (laws_FnQuotientsAreSquares.j3 (k + 1) y0)) ∧ (∀ y0 y1 y2, LeO (laws_FnQuotientsAreSquares.j4 k y0 y1 y2) (laws_FnQuotientsAreSquares.j4 (k + 1) y0 y1 y2)) ∧ (∀ y0 y1 y2 y3 y4, LeO (laws_FnQuotientsAreSquares.l1 k y0 y1 y2 y3 y4) (laws_FnQuotientsAreSquares.l1 (k + 1) y0 y1 y2 y3 y4)) ∧ (∀ y0 y1 y2 y3, LeO (laws_FnQuotientsAreSquares.j1 k y0 y1 y2 y3) (laws_FnQuotientsAreSquares.j1 (k + 1) y0 y1 y2 y3)) ∧ (∀ y0 y1 y2 y3 y4 y5, LeO (laws_FnQuotientsAreSquares.l0 k y0 y1 y2 y3 y4 y5) (laws_FnQuotientsAreSquares.l0 (k + 1) y0 y1 y2 y3 y4 y5))
  | 0 => ⟨fun _ _ _ _ _ _ _ r h => by simp [laws_FnQuotientsAreSquares.j0] at h, fun _ r h => by simp [laws_FnQuotientsAreSquares.j3] at h, fun _ _ _ r h => by simp [laws_FnQuotientsAreSquares.j4] at h, fun _ _ _ _ _ r h => by simp [laws_FnQuotientsAreSquares.l1] at h, fun _ _ _ _ r h => by simp [laws_FnQuotientsAreSquares.j1] at h, fun _ _ _ _ _ _ r h => by simp [laws_FnQuotientsAreSquares.l0] at h⟩
  | k + 1 => by
    obtain ⟨ih0, ih1, ih2, ih3, ih4, ih5⟩ := laws_FnQuotientsAreSquares.mono_l k
    refine ⟨?_, ?_, ?_, ?_, ?_, ?_⟩
    · intro y0 y1 y2 y3 y4 y5 y6
      unfold laws_FnQuotientsAreSquares.j0
      repeat' first
      | (with_reducible exact ih0 _ _ _ _ _ _ _)
      | (with_reducible exact ih1 _)
      | (with_reducible exact ih2 _ _ _)
      | (with_reducible exact ih3 _ _ _ _ _)
      | (with_reducible exact ih4 _ _ _ _)
      | (with_reducible exact ih5 _ _ _ _ _ _)
      | (with_reducible exact impl_QuotientPairs.mono _ _ _)
      | (with_reducible exact impl_QuotientRun.mono _ _ _)
      | (with_reducible exact laws_vSameLists.mono _ _ _)
      | (with_reducible exact spec_DrawQuotientRun.mono _ _)
      | (with_reducible exact spec_QuotientPairs.mono _ _ _)
      | (with_reducible exact spec_QuotientRun.mono _ _ _)
      | (with_reducible exact LeO.refl _)
      | (with_reducible exact LeO.none _)
      | (with_reducible refine LeO.ite ?_ ?_)
      | (with_reducible refine LeO.bind ?_ (fun _ => ?_))
      | exact ih0 _ _ _ _ _ _ _
      | exact ih1 _
      | exact ih2 _ _ _
      | exact ih3 _ _ _ _ _
      | exact ih4 _ _ _ _
      | exact ih5 _ _ _ _ _ _
      | exact impl_QuotientPairs.mono _ _ _
      | exact impl_QuotientRun.mono _ _ _
      | exact laws_vSameLists.mono _ _ _
      | exact spec_DrawQuotientRun.mono _ _
      | exact spec_QuotientPairs.mono _ _ _
      | exact spec_QuotientRun.mono _ _ _
      | exact LeO.none _
      | refine LeO.ite ?_ ?_
      | refine LeO.bind ?_ (fun _ => ?_)
    · intro y0
      unfold laws_FnQuotientsAreSquares.j3
      repeat' first
      | (with_reducible exact ih0 _ _ _ _ _ _ _)
      | (with_reducible exact ih1 _)
      | (with_reducible exact ih2 _ _ _)
      | (with_reducible exact ih3 _ _ _ _ _)
      | (with_reducible exact ih4 _ _ _ _)
      | (with_reducible exact ih5 _ _ _ _ _ _)
      | (with_reducible exact impl_QuotientPairs.mono _ _ _)
      | (with_reducible exact impl_QuotientRun.mono _ _ _)
      | (with_reducible exact laws_vSameLists.mono _ _ _)
      | (with_reducible exact spec_DrawQuotientRun.mono _ _)
      | (with_reducible exact spec_QuotientPairs.mono _ _ _)
      | (with_reducible exact spec_QuotientRun.mono _ _ _)
      | (with_reducible exact LeO.refl _)
      | (with_reducible exact LeO.none _)
      | (with_reducible refine LeO.ite ?_ ?_)
      | (with_reducible refine LeO.bind ?_ (fun _ => ?_))
      | exact ih0 _ _ _ _ _ _ _
      | exact ih1 _
      | exact ih2 _ _ _
      | exact ih3 _ _ _ _ _
      | exact ih4 _ _ _ _
      | exact ih5 _ _ _ _ _ _
      | exact impl_QuotientPairs.mono _ _ _
      | exact impl_QuotientRun.mono _ _ _
      | exact laws_vSameLists.mono _ _ _
      | exact spec_DrawQuotientRun.mono _ _
      | exact spec_QuotientPairs.mono _ _ _
      | exact spec_QuotientRun.mono _ _ _
      | exact LeO.none _
      | refine LeO.ite ?_ ?_
      | refine LeO.bind ?_ (fun _ => ?_)
    · intro y0 y1 y2
      unfold laws_FnQuotientsAreSquares.j4
      repeat' first
      | (with_reducible exact ih0 _ _ _ _ _ _ _)
      | (with_reducible exact ih1 _)
      | (with_reducible exact ih2 _ _ _)
      | (with_reducible exact ih3 _ _ _ _ _)
      | (with_reducible exact ih4 _ _ _ _)
      | (with_reducible exact ih5 _ _ _ _ _ _)
      | (with_reducible exact impl_QuotientPairs.mono _ _ _)
      | (with_reducible exact impl_QuotientRun.mono _ _ _)
      | (with_reducible exact laws_vSameLists.mono _ _ _)
      | (with_reducible exact spec_DrawQuotientRun.mono _ _)
      | (with_reducible exact spec_QuotientPairs.mono _ _ _)
      | (with_reducible exact spec_QuotientRun.mono _ _ _)
      | (with_reducible exact LeO.refl _)
      | (with_reducible exact LeO.none _)
      | (with_reducible refine LeO.ite ?_ ?_)
      | (with_reducible refine LeO.bind ?_ (fun _ => ?_))
      | exact ih0 _ _ _ _ _ _ _
      | exact ih1 _
      | exact ih2 _ _ _
      | exact ih3 _ _ _ _ _
      | exact ih4 _ _ _ _
      | exact ih5 _ _ _ _ _ _
      | exact impl_QuotientPairs.mono _ _ _
      | exact impl_QuotientRun.mono _ _ _
      | exact laws_vSameLists.mono _ _ _
      | exact spec_DrawQuotientRun.mono _ _
      | exact spec_QuotientPairs.mono _ _ _
      | exact spec_QuotientRun.mono _ _ _
      | exact LeO.none _
      | refine LeO.ite ?_ ?_
      | refine LeO.bind ?_ (fun _ => ?_)
    · intro y0 y1 y2 y3 y4
      unfold laws_FnQuotientsAreSquares.l1
      repeat' first
      | (with_reducible exact ih0 _ _ _ _ _ _ _)
      | (with_reducible exact ih1 _)
      | (with_reducible exact ih2 _ _ _)
      | (with_reducible exact ih3 _ _ _ _ _)
      | (with_reducible exact ih4 _ _ _ _)
      | (with_reducible exact ih5 _ _ _ _ _ _)
      | (with_reducible exact impl_QuotientPairs.mono _ _ _)
      | (with_reducible exact impl_QuotientRun.mono _ _ _)
      | (with_reducible exact laws_vSameLists.mono _ _ _)
      | (with_reducible exact spec_DrawQuotientRun.mono _ _)
      | (with_reducible exact spec_QuotientPairs.mono _ _ _)
      | (with_reducible exact spec_QuotientRun.mono _ _ _)
      | (with_reducible exact LeO.refl _)
      | (with_reducible exact LeO.none _)
      | (with_reducible refine LeO.ite ?_ ?_)
      | (with_reducible refine LeO.bind ?_ (fun _ => ?_))
      | exact ih0 _ _ _ _ _ _ _
      | exact ih1 _
      | exact ih2 _ _ _
      | exact ih3 _ _ _ _ _
      | exact ih4 _ _ _ _
      | exact ih5 _ _ _ _ _ _
      | exact impl_QuotientPairs.mono _ _ _
      | exact impl_QuotientRun.mono _ _ _
      | exact laws_vSameLists.mono _ _ _
      | exact spec_DrawQuotientRun.mono _ _
      | exact spec_QuotientPairs.mono _ _ _
      | exact spec_QuotientRun.mono _ _ _
      | exact LeO.none _
      | refine LeO.ite ?_ ?_
      | refine LeO.bind ?_ (fun _ => ?_)
    · intro y0 y1 y2 y3
      unfold laws_FnQuotientsAreSquares.j1
      repeat' first
      | (with_reducible exact ih0 _ _ _ _ _ _ _)
      | (with_reducible exact ih1 _)
      | (with_reducible exact ih2 _ _ _)
      | (with_reducible exact ih3 _ _ _ _ _)
      | (with_reducible exact ih4 _ _ _ _)
      | (with_reducible exact ih5 _ _ _ _ _ _)
      | (with_reducible exact impl_QuotientPairs.mono _ _ _)
      | (with_reducible exact impl_QuotientRun.mono _ _ _)
      | (with_reducible exact laws_vSameLists.mono _ _ _)
      | (with_reducible exact spec_DrawQuotientRun.mono _ _)
      | (with_reducible exact spec_QuotientPairs.mono _ _ _)
      | (with_reducible exact spec_QuotientRun.mono _ _ _)
      | (with_reducible exact LeO.refl _)
      | (with_reducible exact LeO.none _)
      | (with_reducible refine LeO.ite ?_ ?_)
      | (with_reducible refine LeO.bind ?_ (fun _ => ?_))
      | exact ih0 _ _ _ _ _ _ _
      | exact ih1 _
      | exact ih2 _ _ _
      | exact ih3 _ _ _ _ _
      | exact ih4 _ _ _ _
      | exact ih5 _ _ _ _ _ _
      | exact impl_QuotientPairs.mono _ _ _
      | exact impl_QuotientRun.mono _ _ _
      | exact laws_vSameLists.mono _ _ _
      | exact spec_DrawQuotientRun.mono _ _
      | exact spec_QuotientPairs.mono _ _ _
      | exact spec_QuotientRun.mono _ _ _
      | exact LeO.none _
      | refine LeO.ite ?_ ?_
      | refine LeO.bind ?_ (fun _ => ?_)
    · intro y0 y1 y2 y3 y4 y5
      unfold laws_FnQuotientsAreSquares.l0
      repeat' first
      | (with_reducible exact ih0 _ _ _ _ _ _ _)
      | (with_reducible exact ih1 _)
      | (with_reducible exact ih2 _ _ _)
      | (with_reducible exact ih3 _ _ _ _ _)
      | (with_reducible exact ih4 _ _ _ _)
      | (with_reducible exact ih5 _ _ _ _ _ _)
      | (with_reducible exact impl_QuotientPairs.mono _ _ _)
      | (with_reducible exact impl_QuotientRun.mono _ _ _)
      | (with_reducible exact laws_vSameLists.mono _ _ _)
      | (with_reducible exact spec_DrawQuotientRun.mono _ _)
      | (with_reducible exact spec_QuotientPairs.mono _ _ _)
      | (with_reducible exact spec_QuotientRun.mono _ _ _)
      | (with_reducible exact LeO.refl _)
      | (with_reducible exact LeO.none _)
      | (with_reducible refine LeO.ite ?_ ?_)
      | (with_reducible refine LeO.bind ?_ (fun _ => ?_))
      | exact ih0 _ _ _ _ _ _ _
      | exact ih1 _
      | exact ih2 _ _ _
      | exact ih3 _ _ _ _ _
      | exact ih4 _ _ _ _
      | exact ih5 _ _ _ _ _ _
      | exact impl_QuotientPairs.mono _ _ _
      | exact impl_QuotientRun.mono _ _ _
      | exact laws_vSameLists.mono _ _ _
      | exact spec_DrawQuotientRun.mono _ _
      | exact spec_QuotientPairs.mono _ _ _
      | exact spec_QuotientRun.mono _ _ _
      | exact LeO.none _
      | refine LeO.ite ?_ ?_
      | refine LeO.bind ?_ (fun _ => ?_)
theorem laws_FnQuotientsAreSquares.mono : ∀ a0 a1 k, LeO (laws_FnQuotientsAreSquares.f k a0 a1) (laws_FnQuotientsAreSquares.f (k + 1) a0 a1) := by
  intro a0 a1 k
  obtain ⟨ih0, ih1, ih2, ih3, ih4, ih5⟩ := laws_FnQuotientsAreSquares.mono_l k
  unfold laws_FnQuotientsAreSquares.f
  repeat' first
      | (with_reducible exact ih0 _ _ _ _ _ _ _)
      | (with_reducible exact ih1 _)
      | (with_reducible exact ih2 _ _ _)
      | (with_reducible exact ih3 _ _ _ _ _)
      | (with_reducible exact ih4 _ _ _ _)
      | (with_reducible exact ih5 _ _ _ _ _ _)
      | (with_reducible exact impl_QuotientPairs.mono _ _ _)
      | (with_reducible exact impl_QuotientRun.mono _ _ _)
      | (with_reducible exact laws_vSameLists.mono _ _ _)
      | (with_reducible exact spec_DrawQuotientRun.mono _ _)
      | (with_reducible exact spec_QuotientPairs.mono _ _ _)
      | (with_reducible exact spec_QuotientRun.mono _ _ _)
      | (with_reducible exact LeO.refl _)
      | (with_reducible exact LeO.none _)
      | (with_reducible refine LeO.ite ?_ ?_)
      | (with_reducible refine LeO.bind ?_ (fun _ => ?_))
      | exact ih0 _ _ _ _ _ _ _
      | exact ih1 _
      | exact ih2 _ _ _
      | exact ih3 _ _ _ _ _
      | exact ih4 _ _ _ _
      | exact ih5 _ _ _ _ _ _
      | exact impl_QuotientPairs.mono _ _ _
      | exact impl_QuotientRun.mono _ _ _
      | exact laws_vSameLists.mono _ _ _
      | exact spec_DrawQuotientRun.mono _ _
      | exact spec_QuotientPairs.mono _ _ _
      | exact spec_QuotientRun.mono _ _ _
      | exact LeO.none _
      | refine LeO.ite ?_ ?_
      | refine LeO.bind ?_ (fun _ => ?_)
set_option maxHeartbeats 8000000 in
set_option maxRecDepth 100000 in
theorem laws_FnQuotientsAreSquares.calls (k : Nat) (A0 : Option Addr) (c0 : Nat) (l0 : List Int) (A1 : Option Addr) (c1 : Nat) (l1 : List Int) (r : Bool) (w : World) (hr0 : Kd.C (Kd.int .u8) w A0 l0.length l0) (hc0 : l0.length ≤ c0) (hr1 : Kd.C (Kd.int .u8) w A1 l1.length l1) (hc1 : l1.length ≤ c1) (h : laws_FnQuotientsAreSquares.f k l0 l1 = some r) :
    Calls Try.prog 4 #[.slice A0 l0.length c0, .slice A1 l1.length c1] w fun e w' => e = .returned (.bool r) ∧ Below w.heap.size w w' := by
  have HR0 := Aside0.mk hr0
  have HC0 := Aside0.mk hc0
  clear hr0 hc0
  have HR1 := Aside0.mk hr1
  have HC1 := Aside0.mk hc1
  clear hr1 hc1
  have HB := Aside0.mk (Below.refl w.heap.size w)
  have H : ((laws_big.f l0 l1).bind fun t254 => (if t254 = true then (some true) else ((spec_DrawQuotientRun.f k l0).bind fun bt255 => ((impl_SquareQuotient.f bt255.1 bt255.2).bind fun bt257 => ((spec_SquareQuotient.f bt255.1 bt255.2).bind fun bt259 => ((impl_QuotientRun.f k bt255.1 bt255.2).bind fun bt261 => ((spec_QuotientRun.f k bt255.1 bt255.2).bind fun bt265 => (if (bt257.2 != bt259.2) = true then (laws_FnQuotientsAreSquares.j0 k l1 bt255.1 bt255.2 bt257.1 bt257.2 bt261.1 true) else (if bt257.1 = bt259.1 then (if (bt261.2 != bt265.2) = true then (laws_FnQuotientsAreSquares.j0 k l1 bt255.1 bt255.2 bt257.1 bt257.2 bt261.1 true) else ((laws_vSameLists.f k bt261.1 bt265.1).bind fun t269 => (if t269 = true then (laws_FnQuotientsAreSquares.j0 k l1 bt255.1 bt255.2 bt257.1 bt257.2 bt261.1 (bt261.2 != bt257.2)) else (laws_FnQuotientsAreSquares.j0 k l1 bt255.1 bt255.2 bt257.1 bt257.2 bt261.1 true)))) else (laws_FnQuotientsAreSquares.j0 k l1 bt255.1 bt255.2 bt257.1 bt257.2 bt261.1 true)))))))))) = some r := h
  clear h
  replace H := Option.bind_eq_some_iff.mp H
  obtain ⟨t254, A30, H⟩ := H
  replace H : (if t254 = true then (some true) else ((spec_DrawQuotientRun.f k l0).bind fun bt255 => ((impl_SquareQuotient.f bt255.1 bt255.2).bind fun bt257 => ((spec_SquareQuotient.f bt255.1 bt255.2).bind fun bt259 => ((impl_QuotientRun.f k bt255.1 bt255.2).bind fun bt261 => ((spec_QuotientRun.f k bt255.1 bt255.2).bind fun bt265 => (if (bt257.2 != bt259.2) = true then (laws_FnQuotientsAreSquares.j0 k l1 bt255.1 bt255.2 bt257.1 bt257.2 bt261.1 true) else (if bt257.1 = bt259.1 then (if (bt261.2 != bt265.2) = true then (laws_FnQuotientsAreSquares.j0 k l1 bt255.1 bt255.2 bt257.1 bt257.2 bt261.1 true) else ((laws_vSameLists.f k bt261.1 bt265.1).bind fun t269 => (if t269 = true then (laws_FnQuotientsAreSquares.j0 k l1 bt255.1 bt255.2 bt257.1 bt257.2 bt261.1 (bt261.2 != bt257.2)) else (laws_FnQuotientsAreSquares.j0 k l1 bt255.1 bt255.2 bt257.1 bt257.2 bt261.1 true)))) else (laws_FnQuotientsAreSquares.j0 k l1 bt255.1 bt255.2 bt257.1 bt257.2 bt261.1 true))))))))) = some r := H
  have A3 := Aside0.mk A30
  clear A30
  by_cases c4 : t254 = true
  · subst c4
    have H1 : (some true) = some r := by rw [if_pos rfl] at H; exact H
    clear H
    have H := H1
    clear H1
    obtain rfl := Option.some.inj H
    go_enter Try.func4, Try.ntmps4
    go_wp2_with (first | (go_at_call 13; (with_reducible refine (laws_big.calls _ _ l0 _ _ l1 true _ ?side1 ?side2 ?side3 ?side4 A3.out).mono ?_); (case side1 => repeat (first | exact HR0.out | (with_reducible refine Kd.C_alloc ?_ _) | (with_reducible refine Kd.C_drewN ?_ _) | (with_reducible refine Kd.C_drew ?_))); (case side2 => exact HC0.out); (case side3 => repeat (first | exact HR1.out | (with_reducible refine Kd.C_alloc ?_ _) | (with_reducible refine Kd.C_drewN ?_ _) | (with_reducible refine Kd.C_drew ?_))); (case side4 => exact HC1.out); rintro e w' ⟨rfl, ⟨nd, rfl⟩⟩; (try first | exact ⟨rfl, _, World.drewN_drewN _ _ _⟩ | exact ⟨rfl, _, Eq.trans (World.drewN_drewN _ _ _) (congrArg (World.drewN _) (Nat.add_assoc _ _ _))⟩)))
    repeat (go_quiet (first | (go_at_call 13; (with_reducible refine (laws_big.calls _ _ l0 _ _ l1 true _ ?side1 ?side2 ?side3 ?side4 A3.out).mono ?_); (case side1 => repeat (first | exact HR0.out | (with_reducible refine Kd.C_alloc ?_ _) | (with_reducible refine Kd.C_drewN ?_ _) | (with_reducible refine Kd.C_drew ?_))); (case side2 => exact HC0.out); (case side3 => repeat (first | exact HR1.out | (with_reducible refine Kd.C_alloc ?_ _) | (with_reducible refine Kd.C_drewN ?_ _) | (with_reducible refine Kd.C_drew ?_))); (case side4 => exact HC1.out); rintro e w' ⟨rfl, ⟨nd, rfl⟩⟩; (try first | exact ⟨rfl, _, World.drewN_drewN _ _ _⟩ | exact ⟨rfl, _, Eq.trans (World.drewN_drewN _ _ _) (congrArg (World.drewN _) (Nat.add_assoc _ _ _))⟩))); try go_wp2_with (first | (go_at_call 13; (with_reducible refine (laws_big.calls _ _ l0 _ _ l1 true _ ?side1 ?side2 ?side3 ?side4 A3.out).mono ?_); (case side1 => repeat (first | exact HR0.out | (with_reducible refine Kd.C_alloc ?_ _) | (with_reducible refine Kd.C_drewN ?_ _) | (with_reducible refine Kd.C_drew ?_))); (case side2 => exact HC0.out); (case side3 => repeat (first | exact HR1.out | (with_reducible refine Kd.C_alloc ?_ _) | (with_reducible refine Kd.C_drewN ?_ _) | (with_reducible refine Kd.C_drew ?_))); (case side4 => exact HC1.out); rintro e w' ⟨rfl, ⟨nd, rfl⟩⟩; (try first | exact ⟨rfl, _, World.drewN_drewN _ _ _⟩ | exact ⟨rfl, _, Eq.trans (World.drewN_drewN _ _ _) (congrArg (World.drewN _) (Nat.add_assoc _ _ _))⟩))))
    go_ret
    exact ⟨by first | rfl | (simp [errW_none, errW_some] <;> rfl) | (simp [*, errW_none, errW_some] <;> rfl), by repeat (first | (with_reducible first | exact HB.out | apply below_alloc | apply pw_below_drewN | apply below_drew1) | exact HB.out | exact Below.refl _ _)⟩
  · replace c4 := Bool.eq_false_iff.mpr c4
    subst c4
    have H1 : ((spec_DrawQuotientRun.f k l0).bind fun bt255 => ((impl_SquareQuotient.f bt255.1 bt255.2).bind fun bt257 => ((spec_SquareQuotient.f bt255.1 bt255.2).bind fun bt259 => ((impl_QuotientRun.f k bt255.1 bt255.2).bind fun bt261 => ((spec_QuotientRun.f k bt255.1 bt255.2).bind fun bt265 => (if (bt257.2 != bt259.2) = true then (laws_FnQuotientsAreSquares.j0 k l1 bt255.1 bt255.2 bt257.1 bt257.2 bt261.1 true) else (if bt257.1 = bt259.1 then (if (bt261.2 != bt265.2) = true then (laws_FnQuotientsAreSquares.j0 k l1 bt255.1 bt255.2 bt257.1 bt257.2 bt261.1 true) else ((laws_vSameLists.f k bt261.1 bt265.1).bind fun t269 => (if t269 = true then (laws_FnQuotientsAreSquares.j0 k l1 bt255.1 bt255.2 bt257.1 bt257.2 bt261.1 (bt261.2 != bt257.2)) else (laws_FnQuotientsAreSquares.j0 k l1 bt255.1 bt255.2 bt257.1 bt257.2 bt261.1 true)))) else (laws_FnQuotientsAreSquares.j0 k l1 bt255.1 bt255.2 bt257.1 bt257.2 bt261.1 true)))))))) = some r := by rw [if_neg (show ¬ (false = true) by decide)] at H; exact H
    clear H
    have H := H1
    clear H1
    replace H := Option.bind_eq_some_iff.mp H
    obtain ⟨⟨t255, t256⟩, A50, H⟩ := H
    replace H : ((impl_SquareQuotient.f t255 t256).bind fun bt257 => ((spec_SquareQuotient.f t255 t256).bind fun bt259 => ((impl_QuotientRun.f k t255 t256).bind fun bt261 => ((spec_QuotientRun.f k t255 t256).bind fun bt265 => (if (bt257.2 != bt259.2) = true then (laws_FnQuotientsAreSquares.j0 k l1 t255 t256 bt257.1 bt257.2 bt261.1 true) else (if bt257.1 = bt259.1 then (if (bt261.2 != bt265.2) = true then (laws_FnQuotientsAreSquares.j0 k l1 t255 t256 bt257.1 bt257.2 bt261.1 true) else ((laws_vSameLists.f k bt261.1 bt265.1).bind fun t269 => (if t269 = true then (laws_FnQuotientsAreSquares.j0 k l1 t255 t256 bt257.1 bt257.2 bt261.1 (bt261.2 != bt257.2)) else (laws_FnQuotientsAreSquares.j0 k l1 t255 t256 bt257.1 bt257.2 bt261.1 true)))) else (laws_FnQuotientsAreSquares.j0 k l1 t255 t256 bt257.1 bt257.2 bt261.1 true))))))) = some r := H
    have A5 := Aside0.mk A50
    clear A50
    replace H := Option.bind_eq_some_iff.mp H
    obtain ⟨⟨t257, t258⟩, A60, H⟩ := H
    replace H : ((spec_SquareQuotient.f t255 t256).bind fun bt259 => ((impl_QuotientRun.f k t255 t256).bind fun bt261 => ((spec_QuotientRun.f k t255 t256).bind fun bt265 => (if (t258 != bt259.2) = true then (laws_FnQuotientsAreSquares.j0 k l1 t255 t256 t257 t258 bt261.1 true) else (if t257 = bt259.1 then (if (bt261.2 != bt265.2) = true then (laws_FnQuotientsAreSquares.j0 k l1 t255 t256 t257 t258 bt261.1 true) else ((laws_vSameLists.f k bt261.1 bt265.1).bind fun t269 => (if t269 = true then (laws_FnQuotientsAreSquares.j0 k l1 t255 t256 t257 t258 bt261.1 (bt261.2 != t258)) else (laws_FnQuotientsAreSquares.j0 k l1 t255 t256 t257 t258 bt261.1 true)))) else (laws_FnQuotientsAreSquares.j0 k l1 t255 t256 t257 t258 bt261.1 true)))))) = some r := H
    have A6 := Aside0.mk A60
    clear A60
    replace H := Option.bind_eq_some_iff.mp H
    obtain ⟨⟨t259, t260⟩, A70, H⟩ := H
    replace H : ((impl_QuotientRun.f k t255 t256).bind fun bt261 => ((spec_QuotientRun.f k t255 t256).bind fun bt265 => (if (t258 != t260) = true then (laws_FnQuotientsAreSquares.j0 k l1 t255 t256 t257 t258 bt261.1 true) else (if t257 = t259 then (if (bt261.2 != bt265.2) = true then (laws_FnQuotientsAreSquares.j0 k l1 t255 t256 t257 t258 bt261.1 true) else ((laws_vSameLists.f k bt261.1 bt265.1).bind fun t269 => (if t269 = true then (laws_FnQuotientsAreSquares.j0 k l1 t255 t256 t257 t258 bt261.1 (bt261.2 != t258)) else (laws_FnQuotientsAreSquares.j0 k l1 t255 t256 t257 t258 bt261.1 true)))) else (laws_FnQuotientsAreSquares.j0 k l1 t255 t256 t257 t258 bt261.1 true))))) = some r := H
    have A7 := Aside0.mk A70
    clear A70
    replace H := Option.bind_eq_some_iff.mp H
    obtain ⟨⟨t261, t262⟩, A80, H⟩ := H
    replace H : ((spec_QuotientRun.f k t255 t256).bind fun bt265 => (if (t258 != t260) = true then (laws_FnQuotientsAreSquares.j0 k l1 t255 t256 t257 t258 t261 true) else (if t257 = t259 then (if (t262 != bt265.2) = true then (laws_FnQuotientsAreSquares.j0 k l1 t255 t256 t257 t258 t261 true) else ((laws_vSameLists.f k t261 bt265.1).bind fun t269 => (if t269 = true then (laws_FnQuotientsAreSquares.j0 k l1 t255 t256 t257 t258 t261 (t262 != t258)) else (laws_FnQuotientsAreSquares.j0 k l1 t255 t256 t257 t258 t261 true)))) else (laws_FnQuotientsAreSquares.j0 k l1 t255 t256 t257 t258 t261 true)))) = some r := H
    have A8 := Aside0.mk A80
    clear A80
    replace H := Option.bind_eq_some_iff.mp H
    obtain ⟨⟨t265, t268⟩, A90, H⟩ := H
    replace H : (if (t258 != t260) = true then (laws_FnQuotientsAreSquares.j0 k l1 t255 t256 t257 t258 t261 true) else (if t257 = t259 then (if (t262 != t268) = true then (laws_FnQuotientsAreSquares.j0 k l1 t255 t256 t257 t258 t261 true) else ((laws_vSameLists.f k t261 t265).bind fun t269 => (if t269 = true then (laws_FnQuotientsAreSquares.j0 k l1 t255 t256 t257 t258 t261 (t262 != t258)) else (laws_FnQuotientsAreSquares.j0 k l1 t255 t256 t257 t258 t261 true)))) else (laws_FnQuotientsAreSquares.j0 k l1 t255 t256 t257 t258 t261 true))) = some r := H
    have A9 := Aside0.mk A90
    clear A90
    have HC10 := Aside0.mk H
    clear H
    go_enter Try.func4, Try.ntmps4
    go_upto_region 8 with (first | (go_at_call 13; (with_reducible refine (laws_big.calls _ _ l0 _ _ l1 false _ ?side1 ?side2 ?side3 ?side4 A3.out).mono ?_); (case side1 => repeat (first | exact HR0.out | (with_reducible refine Kd.C_alloc ?_ _) | (with_reducible refine Kd.C_drewN ?_ _) | (with_reducible refine Kd.C_drew ?_))); (case side2 => exact HC0.out); (case side3 => repeat (first | exact HR1.out | (with_reducible refine Kd.C_alloc ?_ _) | (with_reducible refine Kd.C_drewN ?_ _) | (with_reducible refine Kd.C_drew ?_))); (case side4 => exact HC1.out); rintro e w' ⟨rfl, ⟨nd, rfl⟩⟩; (try first | exact ⟨rfl, _, World.drewN_drewN _ _ _⟩ | exact ⟨rfl, _, Eq.trans (World.drewN_drewN _ _ _) (congrArg (World.drewN _) (Nat.add_assoc _ _ _))⟩)) | (go_at_call 14; (with_reducible refine (spec_DrawQuotientRun.calls k _ _ l0 t255 t256 _ ?side1 ?side2 A5.out).mono ?_); (case side1 => repeat (first | exact HR0.out | (with_reducible refine Kd.C_alloc ?_ _) | (with_reducible refine Kd.C_drewN ?_ _) | (with_reducible refine Kd.C_drew ?_))); (case side2 => exact HC0.out); rintro e w11 ⟨rfl, hb⟩; have n0_ := Aside0.mk (below_step (by repeat (first | (with_reducible first | exact HB.out | apply below_alloc | apply pw_below_drewN | apply below_drew1) | exact HB.out | exact Below.refl _ _)) hb); clear HB; have HB := n0_; clear n0_; (try clear hb); (try clear hb2); (try clear hk); (try clear hi)) | (go_at_call 15; (with_reducible refine (impl_SquareQuotient.calls t255 t256 t257 t258 _ A6.out).mono ?_); rintro e w' ⟨rfl, ⟨nd, rfl⟩⟩; (try first | exact ⟨rfl, _, World.drewN_drewN _ _ _⟩ | exact ⟨rfl, _, Eq.trans (World.drewN_drewN _ _ _) (congrArg (World.drewN _) (Nat.add_assoc _ _ _))⟩)) | (go_at_call 16; (with_reducible refine (spec_SquareQuotient.calls t255 t256 t259 t260 _ A7.out).mono ?_); rintro e w' ⟨rfl, ⟨nd, rfl⟩⟩; (try first | exact ⟨rfl, _, World.drewN_drewN _ _ _⟩ | exact ⟨rfl, _, Eq.trans (World.drewN_drewN _ _ _) (congrArg (World.drewN _) (Nat.add_assoc _ _ _))⟩)) | (go_at_call 9; (with_reducible refine (impl_QuotientRun.calls k t255 t256 t261 t262 _ A8.out).mono ?_); rintro e w12 ⟨v263, rfl, ho0, hb⟩; have n0_ := Aside0.mk (Kd.N_lower (Kd.N_mono (ok' := fun k_ => True) (Kd.S_N (Kd.S_bound ho0)) (fun k_ hk_ => trivial)) (below_size (by repeat (first | (with_reducible first | exact HB.out | apply below_alloc | apply pw_below_drewN | apply below_drew1) | exact HB.out | exact Below.refl _ _)))); have n1_ := Aside0.mk (below_step (by repeat (first | (with_reducible first | exact HB.out | apply below_alloc | apply pw_below_drewN | apply below_drew1) | exact HB.out | exact Below.refl _ _)) hb); clear HB; have HO264 := n0_; have HB := n1_; clear n0_ n1_; (try clear hb); (try clear hb2); (try clear hk); (try clear hi); (try clear ho0)) | (go_at_call 8; (with_reducible refine (spec_QuotientRun.calls k t255 t256 t265 t268 _ A9.out).mono ?_); rintro e w13 ⟨v266, rfl, ho0, hb⟩; have n0_ := Aside0.mk (Kd.N_elder' (by (with_reducible repeat (first | apply Kd.N_alloc | apply Kd.N_drewN | apply Kd.N_drew)); exact HO264.out) (Kd.N_base ho0) hb); have n1_ := Aside0.mk (Kd.N_lower (Kd.N_mono (ok' := fun k_ => some k_ ≠ (v263 : Value).ownBlock) ho0 (fun k_ hk_ => (Kd.fresh' (Kd.N_lt (by (with_reducible repeat (first | apply Kd.N_alloc | apply Kd.N_drewN | apply Kd.N_drew)); exact HO264.out)) k_ hk_))) (below_size (by repeat (first | (with_reducible first | exact HB.out | apply below_alloc | apply pw_below_drewN | apply below_drew1) | exact HB.out | exact Below.refl _ _)))); have n2_ := Aside0.mk (below_step (by repeat (first | (with_reducible first | exact HB.out | apply below_alloc | apply pw_below_drewN | apply below_drew1) | exact HB.out | exact Below.refl _ _)) hb); clear HO264; clear HB; have HO264 := n0_; have HO267 := n1_; have HB := n2_; clear n0_ n1_ n2_; (try clear hb); (try clear hb2); (try clear hk); (try clear hi); (try clear ho0)))
    repeat (go_quiet (first | (go_at_call 13; (with_reducible refine (laws_big.calls _ _ l0 _ _ l1 false _ ?side1 ?side2 ?side3 ?side4 A3.out).mono ?_); (case side1 => repeat (first | exact HR0.out | (with_reducible refine Kd.C_alloc ?_ _) | (with_reducible refine Kd.C_drewN ?_ _) | (with_reducible refine Kd.C_drew ?_))); (case side2 => exact HC0.out); (case side3 => repeat (first | exact HR1.out | (with_reducible refine Kd.C_alloc ?_ _) | (with_reducible refine Kd.C_drewN ?_ _) | (with_reducible refine Kd.C_drew ?_))); (case side4 => exact HC1.out); rintro e w' ⟨rfl, ⟨nd, rfl⟩⟩; (try first | exact ⟨rfl, _, World.drewN_drewN _ _ _⟩ | exact ⟨rfl, _, Eq.trans (World.drewN_drewN _ _ _) (congrArg (World.drewN _) (Nat.add_assoc _ _ _))⟩)) | (go_at_call 14; (with_reducible refine (spec_DrawQuotientRun.calls k _ _ l0 t255 t256 _ ?side1 ?side2 A5.out).mono ?_); (case side1 => repeat (first | exact HR0.out | (with_reducible refine Kd.C_alloc ?_ _) | (with_reducible refine Kd.C_drewN ?_ _) | (with_reducible refine Kd.C_drew ?_))); (case side2 => exact HC0.out); rintro e w11 ⟨rfl, hb⟩; have n0_ := Aside0.mk (below_step (by repeat (first | (with_reducible first | exact HB.out | apply below_alloc | apply pw_below_drewN | apply below_drew1) | exact HB.out | exact Below.refl _ _)) hb); clear HB; have HB := n0_; clear n0_; (try clear hb); (try clear hb2); (try clear hk); (try clear hi)) | (go_at_call 15; (with_reducible refine (impl_SquareQuotient.calls t255 t256 t257 t258 _ A6.out).mono ?_); rintro e w' ⟨rfl, ⟨nd, rfl⟩⟩; (try first | exact ⟨rfl, _, World.drewN_drewN _ _ _⟩ | exact ⟨rfl, _, Eq.trans (World.drewN_drewN _ _ _) (congrArg (World.drewN _) (Nat.add_assoc _ _ _))⟩)) | (go_at_call 16; (with_reducible refine (spec_SquareQuotient.calls t255 t256 t259 t260 _ A7.out).mono ?_); rintro e w' ⟨rfl, ⟨nd, rfl⟩⟩; (try first | exact ⟨rfl, _, World.drewN_drewN _ _ _⟩ | exact ⟨rfl, _, Eq.trans (World.drewN_drewN _ _ _) (congrArg (World.drewN _) (Nat.add_assoc _ _ _))⟩)) | (go_at_call 9; (with_reducible refine (impl_QuotientRun.calls k t255 t256 t261 t262 _ A8.out).mono ?_); rintro e w12 ⟨v263, rfl, ho0, hb⟩; have n0_ := Aside0.mk (Kd.N_lower (Kd.N_mono (ok' := fun k_ => True) (Kd.S_N (Kd.S_bound ho0)) (fun k_ hk_ => trivial)) (below_size (by repeat (first | (with_reducible first | exact HB.out | apply below_alloc | apply pw_below_drewN | apply below_drew1) | exact HB.out | exact Below.refl _ _)))); have n1_ := Aside0.mk (below_step (by repeat (first | (with_reducible first | exact HB.out | apply below_alloc | apply pw_below_drewN | apply below_drew1) | exact HB.out | exact Below.refl _ _)) hb); clear HB; have HO264 := n0_; have HB := n1_; clear n0_ n1_; (try clear hb); (try clear hb2); (try clear hk); (try clear hi); (try clear ho0)) | (go_at_call 8; (with_reducible refine (spec_QuotientRun.calls k t255 t256 t265 t268 _ A9.out).mono ?_); rintro e w13 ⟨v266, rfl, ho0, hb⟩; have n0_ := Aside0.mk (Kd.N_elder' (by (with_reducible repeat (first | apply Kd.N_alloc | apply Kd.N_drewN | apply Kd.N_drew)); exact HO264.out) (Kd.N_base ho0) hb); have n1_ := Aside0.mk (Kd.N_lower (Kd.N_mono (ok' := fun k_ => some k_ ≠ (v263 : Value).ownBlock) ho0 (fun k_ hk_ => (Kd.fresh' (Kd.N_lt (by (with_reducible repeat (first | apply Kd.N_alloc | apply Kd.N_drewN | apply Kd.N_drew)); exact HO264.out)) k_ hk_))) (below_size (by repeat (first | (with_reducible first | exact HB.out | apply below_alloc | apply pw_below_drewN | apply below_drew1) | exact HB.out | exact Below.refl _ _)))); have n2_ := Aside0.mk (below_step (by repeat (first | (with_reducible first | exact HB.out | apply below_alloc | apply pw_below_drewN | apply below_drew1) | exact HB.out | exact Below.refl _ _)) hb); clear HO264; clear HB; have HO264 := n0_; have HO267 := n1_; have HB := n2_; clear n0_ n1_ n2_; (try clear hb); (try clear hb2); (try clear hk); (try clear hi); (try clear ho0))); go_upto_region 8 with (first | (go_at_call 13; (with_reducible refine (laws_big.calls _ _ l0 _ _ l1 false _ ?side1 ?side2 ?side3 ?side4 A3.out).mono ?_); (case side1 => repeat (first | exact HR0.out | (with_reducible refine Kd.C_alloc ?_ _) | (with_reducible refine Kd.C_drewN ?_ _) | (with_reducible refine Kd.C_drew ?_))); (case side2 => exact HC0.out); (case side3 => repeat (first | exact HR1.out | (with_reducible refine Kd.C_alloc ?_ _) | (with_reducible refine Kd.C_drewN ?_ _) | (with_reducible refine Kd.C_drew ?_))); (case side4 => exact HC1.out); rintro e w' ⟨rfl, ⟨nd, rfl⟩⟩; (try first | exact ⟨rfl, _, World.drewN_drewN _ _ _⟩ | exact ⟨rfl, _, Eq.trans (World.drewN_drewN _ _ _) (congrArg (World.drewN _) (Nat.add_assoc _ _ _))⟩)) | (go_at_call 14; (with_reducible refine (spec_DrawQuotientRun.calls k _ _ l0 t255 t256 _ ?side1 ?side2 A5.out).mono ?_); (case side1 => repeat (first | exact HR0.out | (with_reducible refine Kd.C_alloc ?_ _) | (with_reducible refine Kd.C_drewN ?_ _) | (with_reducible refine Kd.C_drew ?_))); (case side2 => exact HC0.out); rintro e w11 ⟨rfl, hb⟩; have n0_ := Aside0.mk (below_step (by repeat (first | (with_reducible first | exact HB.out | apply below_alloc | apply pw_below_drewN | apply below_drew1) | exact HB.out | exact Below.refl _ _)) hb); clear HB; have HB := n0_; clear n0_; (try clear hb); (try clear hb2); (try clear hk); (try clear hi)) | (go_at_call 15; (with_reducible refine (impl_SquareQuotient.calls t255 t256 t257 t258 _ A6.out).mono ?_); rintro e w' ⟨rfl, ⟨nd, rfl⟩⟩; (try first | exact ⟨rfl, _, World.drewN_drewN _ _ _⟩ | exact ⟨rfl, _, Eq.trans (World.drewN_drewN _ _ _) (congrArg (World.drewN _) (Nat.add_assoc _ _ _))⟩)) | (go_at_call 16; (with_reducible refine (spec_SquareQuotient.calls t255 t256 t259 t260 _ A7.out).mono ?_); rintro e w' ⟨rfl, ⟨nd, rfl⟩⟩; (try first | exact ⟨rfl, _, World.drewN_drewN _ _ _⟩ | exact ⟨rfl, _, Eq.trans (World.drewN_drewN _ _ _) (congrArg (World.drewN _) (Nat.add_assoc _ _ _))⟩)) | (go_at_call 9; (with_reducible refine (impl_QuotientRun.calls k t255 t256 t261 t262 _ A8.out).mono ?_); rintro e w12 ⟨v263, rfl, ho0, hb⟩; have n0_ := Aside0.mk (Kd.N_lower (Kd.N_mono (ok' := fun k_ => True) (Kd.S_N (Kd.S_bound ho0)) (fun k_ hk_ => trivial)) (below_size (by repeat (first | (with_reducible first | exact HB.out | apply below_alloc | apply pw_below_drewN | apply below_drew1) | exact HB.out | exact Below.refl _ _)))); have n1_ := Aside0.mk (below_step (by repeat (first | (with_reducible first | exact HB.out | apply below_alloc | apply pw_below_drewN | apply below_drew1) | exact HB.out | exact Below.refl _ _)) hb); clear HB; have HO264 := n0_; have HB := n1_; clear n0_ n1_; (try clear hb); (try clear hb2); (try clear hk); (try clear hi); (try clear ho0)) | (go_at_call 8; (with_reducible refine (spec_QuotientRun.calls k t255 t256 t265 t268 _ A9.out).mono ?_); rintro e w13 ⟨v266, rfl, ho0, hb⟩; have n0_ := Aside0.mk (Kd.N_elder' (by (with_reducible repeat (first | apply Kd.N_alloc | apply Kd.N_drewN | apply Kd.N_drew)); exact HO264.out) (Kd.N_base ho0) hb); have n1_ := Aside0.mk (Kd.N_lower (Kd.N_mono (ok' := fun k_ => some k_ ≠ (v263 : Value).ownBlock) ho0 (fun k_ hk_ => (Kd.fresh' (Kd.N_lt (by (with_reducible repeat (first | apply Kd.N_alloc | apply Kd.N_drewN | apply Kd.N_drew)); exact HO264.out)) k_ hk_))) (below_size (by repeat (first | (with_reducible first | exact HB.out | apply below_alloc | apply pw_below_drewN | apply below_drew1) | exact HB.out | exact Below.refl _ _)))); have n2_ := Aside0.mk (below_step (by repeat (first | (with_reducible first | exact HB.out | apply below_alloc | apply pw_below_drewN | apply below_drew1) | exact HB.out | exact Below.refl _ _)) hb); clear HO264; clear HB; have HO264 := n0_; have HO267 := n1_; have HB := n2_; clear n0_ n1_ n2_; (try clear hb); (try clear hb2); (try clear hk); (try clear hi); (try clear ho0))))
    (try simp only [Act.put, List.setIfInBounds_toArray, List.set_cons_zero, List.set_cons_succ])
    go_cut [85] (fun v85 wc => ∃ (kq : Nat) (x85_9 : Bool), v85 = .bool x85_9 ∧ Aside0 (laws_FnQuotientsAreSquares.j0 kq l1 t255 t256 t257 t258 t261 x85_9 = some r) ∧ Aside0 (kq ≤ k) ∧ Aside0 (Kd.N (Kd.slice 3 (Kd.int .i64)) 34 wc w.heap.size (fun _ => True) v263 t261) ∧ Aside0 (Below w.heap.size w wc))
    case first =>
      have H := HC10.out
      clear HC10
      by_cases c14 : (t258 != t260) = true
      · rw [if_pos c14] at H
        have c14b0 : (t258 != t260) = true := c14
        (try (have c14b1 : decide (t258 = t260) = false := by simpa using c14))
        (try (have c14b2 : (t258 == t260) = false := by simpa using c14))
        (try (have c14b3 : ¬ (t258 = t260) := by simpa using c14))
        clear c14
        (first | rw [c14b0] | (simp only [i64_w, i32_w]; rw [c14b0]) | skip)
        have H' := Aside0.mk H
        clear H
        go_wp2
        repeat (go_quiet (fail); try go_wp2)
        go_meet
        case rel => exact ⟨_, (true), (by first | rfl | (simp; done) | (simp [*]; done)), H', ⟨by first | omega | exact Nat.le_refl _⟩, ⟨by (with_reducible repeat (first | apply Kd.N_alloc | apply Kd.N_drewN | apply Kd.N_drew)); exact Kd.N_mono HO264.out (fun _ hk => trivial)⟩, ⟨by repeat (first | (with_reducible first | exact HB.out | apply below_alloc | apply pw_below_drewN | apply below_drew1) | exact HB.out | exact Below.refl _ _)⟩⟩
      · rw [if_neg c14] at H
        have c14b0 : (t258 != t260) = false := by simpa using c14
        (try (have c14b1 : decide (t258 = t260) = true := by simpa using c14))
        (try (have c14b2 : (t258 == t260) = true := by simpa using c14))
        clear c14
        (first | rw [c14b0] | (simp only [i64_w, i32_w]; rw [c14b0]) | skip)
        by_cases c15 : t257 = t259
        · rw [if_pos c15] at H
          have c15b0 : (t257 == t259) = true := beq_iff_eq.mpr c15
          have c15b1 : (t257 != t259) = false := bne_eq_false_iff_eq.mpr c15
          clear c15
          by_cases c16 : (t262 != t268) = true
          · rw [if_pos c16] at H
            have c16b0 : (t262 != t268) = true := c16
            (try (have c16b1 : decide (t262 = t268) = false := by simpa using c16))
            (try (have c16b2 : (t262 == t268) = false := by simpa using c16))
            (try (have c16b3 : ¬ (t262 = t268) := by simpa using c16))
            clear c16
            have H' := Aside0.mk H
            clear H
            go_wp2
            repeat (go_quiet (fail); try go_wp2)
            go_meet
            case rel => exact ⟨_, (true), (by first | rfl | (simp; done) | (simp [*]; done)), H', ⟨by first | omega | exact Nat.le_refl _⟩, ⟨by (with_reducible repeat (first | apply Kd.N_alloc | apply Kd.N_drewN | apply Kd.N_drew)); exact Kd.N_mono HO264.out (fun _ hk => trivial)⟩, ⟨by repeat (first | (with_reducible first | exact HB.out | apply below_alloc | apply pw_below_drewN | apply below_drew1) | exact HB.out | exact Below.refl _ _)⟩⟩
          · rw [if_neg c16] at H
            have c16b0 : (t262 != t268) = false := by simpa using c16
            (try (have c16b1 : decide (t262 = t268) = true := by simpa using c16))
            (try (have c16b2 : (t262 == t268) = true := by simpa using c16))
            clear c16
            replace H := Option.bind_eq_some_iff.mp H
            obtain ⟨t269, A170, H⟩ := H
            replace H : (if t269 = true then (laws_FnQuotientsAreSquares.j0 k l1 t255 t256 t257 t258 t261 (t262 != t258)) else (laws_FnQuotientsAreSquares.j0 k l1 t255 t256 t257 t258 t261 true)) = some r := H
            have A17 := Aside0.mk A170
            clear A170
            by_cases c18 : t269 = true
            · subst c18
              have H1 : (laws_FnQuotientsAreSquares.j0 k l1 t255 t256 t257 t258 t261 (t262 != t258)) = some r := by rw [if_pos rfl] at H; exact H
              clear H
              have H := H1
              clear H1
              have H' := Aside0.mk H
              clear H
              obtain ⟨Ao19, co19, eo19⟩ := Kd.N_slice HO264.out
              subst eo19
              obtain ⟨Ao20, co20, eo20⟩ := Kd.N_slice HO267.out
              subst eo20
              go_wp2_with (first | (go_at_call 17; (with_reducible refine (laws_vSameLists.calls k _ _ t261 _ _ t265 true _ ?side1 ?side2 ?side3 ?side4 A17.out).mono ?_); (case side1 => repeat (first | exact (Kd.N_reads' HO264.out).2.2 | (with_reducible refine Kd.C_alloc ?_ _) | (with_reducible refine Kd.C_drewN ?_ _) | (with_reducible refine Kd.C_drew ?_))); (case side2 => exact (Kd.N_reads' HO264.out).2.1); (case side3 => repeat (first | exact (Kd.N_reads' HO267.out).2.2 | (with_reducible refine Kd.C_alloc ?_ _) | (with_reducible refine Kd.C_drewN ?_ _) | (with_reducible refine Kd.C_drew ?_))); (case side4 => exact (Kd.N_reads' HO267.out).2.1); rintro e w' ⟨rfl, ⟨nd, rfl⟩⟩; (try first | exact ⟨rfl, _, World.drewN_drewN _ _ _⟩ | exact ⟨rfl, _, Eq.trans (World.drewN_drewN _ _ _) (congrArg (World.drewN _) (Nat.add_assoc _ _ _))⟩)))
              repeat (go_quiet (first | (go_at_call 17; (with_reducible refine (laws_vSameLists.calls k _ _ t261 _ _ t265 true _ ?side1 ?side2 ?side3 ?side4 A17.out).mono ?_); (case side1 => repeat (first | exact (Kd.N_reads' HO264.out).2.2 | (with_reducible refine Kd.C_alloc ?_ _) | (with_reducible refine Kd.C_drewN ?_ _) | (with_reducible refine Kd.C_drew ?_))); (case side2 => exact (Kd.N_reads' HO264.out).2.1); (case side3 => repeat (first | exact (Kd.N_reads' HO267.out).2.2 | (with_reducible refine Kd.C_alloc ?_ _) | (with_reducible refine Kd.C_drewN ?_ _) | (with_reducible refine Kd.C_drew ?_))); (case side4 => exact (Kd.N_reads' HO267.out).2.1); rintro e w' ⟨rfl, ⟨nd, rfl⟩⟩; (try first | exact ⟨rfl, _, World.drewN_drewN _ _ _⟩ | exact ⟨rfl, _, Eq.trans (World.drewN_drewN _ _ _) (congrArg (World.drewN _) (Nat.add_assoc _ _ _))⟩))); try go_wp2_with (first | (go_at_call 17; (with_reducible refine (laws_vSameLists.calls k _ _ t261 _ _ t265 true _ ?side1 ?side2 ?side3 ?side4 A17.out).mono ?_); (case side1 => repeat (first | exact (Kd.N_reads' HO264.out).2.2 | (with_reducible refine Kd.C_alloc ?_ _) | (with_reducible refine Kd.C_drewN ?_ _) | (with_reducible refine Kd.C_drew ?_))); (case side2 => exact (Kd.N_reads' HO264.out).2.1); (case side3 => repeat (first | exact (Kd.N_reads' HO267.out).2.2 | (with_reducible refine Kd.C_alloc ?_ _) | (with_reducible refine Kd.C_drewN ?_ _) | (with_reducible refine Kd.C_drew ?_))); (case side4 => exact (Kd.N_reads' HO267.out).2.1); rintro e w' ⟨rfl, ⟨nd, rfl⟩⟩; (try first | exact ⟨rfl, _, World.drewN_drewN _ _ _⟩ | exact ⟨rfl, _, Eq.trans (World.drewN_drewN _ _ _) (congrArg (World.drewN _) (Nat.add_assoc _ _ _))⟩))))
              go_meet
              case rel => exact ⟨_, ((t262 != t258)), (by first | rfl | (simp; done) | (simp [*]; done)), H', ⟨by first | omega | exact Nat.le_refl _⟩, ⟨by (with_reducible repeat (first | apply Kd.N_alloc | apply Kd.N_drewN | apply Kd.N_drew)); exact Kd.N_mono HO264.out (fun _ hk => trivial)⟩, ⟨by repeat (first | (with_reducible first | exact HB.out | apply below_alloc | apply pw_below_drewN | apply below_drew1) | exact HB.out | exact Below.refl _ _)⟩⟩
            · replace c18 := Bool.eq_false_iff.mpr c18
              subst c18
              have H1 : (laws_FnQuotientsAreSquares.j0 k l1 t255 t256 t257 t258 t261 true) = some r := by rw [if_neg (show ¬ (false = true) by decide)] at H; exact H
              clear H
              have H := H1
              clear H1
              have H' := Aside0.mk H
              clear H
              obtain ⟨Ao21, co21, eo21⟩ := Kd.N_slice HO264.out
              subst eo21
              obtain ⟨Ao22, co22, eo22⟩ := Kd.N_slice HO267.out
              subst eo22
              go_wp2_with (first | (go_at_call 17; (with_reducible refine (laws_vSameLists.calls k _ _ t261 _ _ t265 false _ ?side1 ?side2 ?side3 ?side4 A17.out).mono ?_); (case side1 => repeat (first | exact (Kd.N_reads' HO264.out).2.2 | (with_reducible refine Kd.C_alloc ?_ _) | (with_reducible refine Kd.C_drewN ?_ _) | (with_reducible refine Kd.C_drew ?_))); (case side2 => exact (Kd.N_reads' HO264.out).2.1); (case side3 => repeat (first | exact (Kd.N_reads' HO267.out).2.2 | (with_reducible refine Kd.C_alloc ?_ _) | (with_reducible refine Kd.C_drewN ?_ _) | (with_reducible refine Kd.C_drew ?_))); (case side4 => exact (Kd.N_reads' HO267.out).2.1); rintro e w' ⟨rfl, ⟨nd, rfl⟩⟩; (try first | exact ⟨rfl, _, World.drewN_drewN _ _ _⟩ | exact ⟨rfl, _, Eq.trans (World.drewN_drewN _ _ _) (congrArg (World.drewN _) (Nat.add_assoc _ _ _))⟩)))
              repeat (go_quiet (first | (go_at_call 17; (with_reducible refine (laws_vSameLists.calls k _ _ t261 _ _ t265 false _ ?side1 ?side2 ?side3 ?side4 A17.out).mono ?_); (case side1 => repeat (first | exact (Kd.N_reads' HO264.out).2.2 | (with_reducible refine Kd.C_alloc ?_ _) | (with_reducible refine Kd.C_drewN ?_ _) | (with_reducible refine Kd.C_drew ?_))); (case side2 => exact (Kd.N_reads' HO264.out).2.1); (case side3 => repeat (first | exact (Kd.N_reads' HO267.out).2.2 | (with_reducible refine Kd.C_alloc ?_ _) | (with_reducible refine Kd.C_drewN ?_ _) | (with_reducible refine Kd.C_drew ?_))); (case side4 => exact (Kd.N_reads' HO267.out).2.1); rintro e w' ⟨rfl, ⟨nd, rfl⟩⟩; (try first | exact ⟨rfl, _, World.drewN_drewN _ _ _⟩ | exact ⟨rfl, _, Eq.trans (World.drewN_drewN _ _ _) (congrArg (World.drewN _) (Nat.add_assoc _ _ _))⟩))); try go_wp2_with (first | (go_at_call 17; (with_reducible refine (laws_vSameLists.calls k _ _ t261 _ _ t265 false _ ?side1 ?side2 ?side3 ?side4 A17.out).mono ?_); (case side1 => repeat (first | exact (Kd.N_reads' HO264.out).2.2 | (with_reducible refine Kd.C_alloc ?_ _) | (with_reducible refine Kd.C_drewN ?_ _) | (with_reducible refine Kd.C_drew ?_))); (case side2 => exact (Kd.N_reads' HO264.out).2.1); (case side3 => repeat (first | exact (Kd.N_reads' HO267.out).2.2 | (with_reducible refine Kd.C_alloc ?_ _) | (with_reducible refine Kd.C_drewN ?_ _) | (with_reducible refine Kd.C_drew ?_))); (case side4 => exact (Kd.N_reads' HO267.out).2.1); rintro e w' ⟨rfl, ⟨nd, rfl⟩⟩; (try first | exact ⟨rfl, _, World.drewN_drewN _ _ _⟩ | exact ⟨rfl, _, Eq.trans (World.drewN_drewN _ _ _) (congrArg (World.drewN _) (Nat.add_assoc _ _ _))⟩))))
              go_meet
              case rel => exact ⟨_, (true), (by first | rfl | (simp; done) | (simp [*]; done)), H', ⟨by first | omega | exact Nat.le_refl _⟩, ⟨by (with_reducible repeat (first | apply Kd.N_alloc | apply Kd.N_drewN | apply Kd.N_drew)); exact Kd.N_mono HO264.out (fun _ hk => trivial)⟩, ⟨by repeat (first | (with_reducible first | exact HB.out | apply below_alloc | apply pw_below_drewN | apply below_drew1) | exact HB.out | exact Below.refl _ _)⟩⟩
        · rw [if_neg c15] at H
          have c15b0 : (t257 == t259) = false := beq_eq_false_iff_ne.mpr c15
          have c15b1 : (t257 != t259) = true := bne_iff_ne.mpr c15
          have H' := Aside0.mk H
          clear H
          go_wp2
          repeat (go_quiet (fail); try go_wp2)
          go_meet
          case rel => exact ⟨_, (true), (by first | rfl | (simp; done) | (simp [*]; done)), H', ⟨by first | omega | exact Nat.le_refl _⟩, ⟨by (with_reducible repeat (first | apply Kd.N_alloc | apply Kd.N_drewN | apply Kd.N_drew)); exact Kd.N_mono HO264.out (fun _ hk => trivial)⟩, ⟨by repeat (first | (with_reducible first | exact HB.out | apply below_alloc | apply pw_below_drewN | apply below_drew1) | exact HB.out | exact Below.refl _ _)⟩⟩
    case rest =>
      as_aux_lemma =>
        clear HC10
        try clear c1
        try clear p2
        try clear c4
        try clear c14
        try clear c14b0
        try clear c14b1
        try clear c14b2
        try clear c15
        try clear c15b0
        try clear c15b1
        try clear c16
        try clear c16b0
        try clear c16b1
        try clear c16b2
        try clear c18
        obtain ⟨kq, x85_9, rfl, HA, HJ9, HO_11, HB⟩ := hcut
        cases kq with
        | zero => exact absurd HA.out (by simp [laws_FnQuotientsAreSquares.j0])
        | succ kj9 =>
          have H := HA.out
          clear HA
          simp only [laws_FnQuotientsAreSquares.j0] at H
          by_cases c23 : x85_9 = true
          · subst c23
            have H1 : (some false) = some r := by rw [if_pos rfl] at H; exact H
            clear H
            have H := H1
            clear H1
            obtain rfl := Option.some.inj H
            go_wp2
            repeat (go_quiet (fail); try go_wp2)
            go_ret
            exact ⟨by first | rfl | (simp [errW_none, errW_some] <;> rfl) | (simp [*, errW_none, errW_some] <;> rfl), by repeat (first | (with_reducible first | exact HB.out | apply below_alloc | apply pw_below_drewN | apply below_drew1) | exact HB.out | exact Below.refl _ _)⟩
          · replace c23 := Bool.eq_false_iff.mpr c23
            subst c23
            have H1 : (if t258 = true then (if 0 ≤ (wrap64 ((t261.length : Int) - 1)) then (if (wrap64 ((t261.length : Int) - 1)) < (t261.length : Int) then (if 1 < ((rd_L1 t261 (wrap64 ((t261.length : Int) - 1))).length : Int) then (if (rd (rd_L1 t261 (wrap64 ((t261.length : Int) - 1))) 1) = 0 then (if 0 < ((rd_L1 t261 (wrap64 ((t261.length : Int) - 1))).length : Int) then (if (wrap64 ((rd (rd_L1 t261 (wrap64 ((t261.length : Int) - 1))) 0) * (rd (rd_L1 t261 (wrap64 ((t261.length : Int) - 1))) 0))) = t257 then (laws_FnQuotientsAreSquares.j1 kj9 l1 t257 t261 ((wrap64 (t257 * (wrap64 ((wrap64 (t255 * t256)) + 1)))) != (wrap64 ((wrap64 (t255 * t255)) + (wrap64 (t256 * t256)))))) else (laws_FnQuotientsAreSquares.j1 kj9 l1 t257 t261 true)) else (none)) else (laws_FnQuotientsAreSquares.j1 kj9 l1 t257 t261 true)) else (none)) else (none)) else (none)) else (laws_FnQuotientsAreSquares.j3 kj9 l1)) = some r := by rw [if_neg (show ¬ (false = true) by decide)] at H; exact H
            clear H
            have H := H1
            clear H1
            have HC24 := Aside0.mk H
            clear H
            go_upto_if 86 with (fail)
            repeat (go_quiet (fail); go_upto_if 86 with (fail))
            go_cut [] (fun wc => ∃ (kq : Nat), Aside0 (laws_FnQuotientsAreSquares.j3 kq l1 = some r) ∧ Aside0 (kq ≤ kj9) ∧ Aside0 (Below w.heap.size w wc))
            case first =>
              have H := HC24.out
              clear HC24
              by_cases c25 : t258 = true
              · subst c25
                have H1 : (if 0 ≤ (wrap64 ((t261.length : Int) - 1)) then (if (wrap64 ((t261.length : Int) - 1)) < (t261.length : Int) then (if 1 < ((rd_L1 t261 (wrap64 ((t261.length : Int) - 1))).length : Int) then (if (rd (rd_L1 t261 (wrap64 ((t261.length : Int) - 1))) 1) = 0 then (if 0 < ((rd_L1 t261 (wrap64 ((t261.length : Int) - 1))).length : Int) then (if (wrap64 ((rd (rd_L1 t261 (wrap64 ((t261.length : Int) - 1))) 0) * (rd (rd_L1 t261 (wrap64 ((t261.length : Int) - 1))) 0))) = t257 then (laws_FnQuotientsAreSquares.j1 kj9 l1 t257 t261 ((wrap64 (t257 * (wrap64 ((wrap64 (t255 * t256)) + 1)))) != (wrap64 ((wrap64 (t255 * t255)) + (wrap64 (t256 * t256)))))) else (laws_FnQuotientsAreSquares.j1 kj9 l1 t257 t261 true)) else (none)) else (laws_FnQuotientsAreSquares.j1 kj9 l1 t257 t261 true)) else (none)) else (none)) else (none)) = some r := by rw [if_pos rfl] at H; exact H
                clear H
                have H := H1
                clear H1
                obtain ⟨ji26, hji26⟩ : ∃ j_ : Int, (wrap64 ((t261.length : Int) - 1)) = j_ := ⟨_, rfl⟩
                replace H : (if 0 ≤ (ji26) then (if (ji26) < (t261.length : Int) then (if 1 < ((rd_L1 t261 (ji26)).length : Int) then (if (rd (rd_L1 t261 (ji26)) 1) = 0 then (if 0 < ((rd_L1 t261 (ji26)).length : Int) then (if (wrap64 ((rd (rd_L1 t261 (ji26)) 0) * (rd (rd_L1 t261 (ji26)) 0))) = t257 then (laws_FnQuotientsAreSquares.j1 kj9 l1 t257 t261 ((wrap64 (t257 * (wrap64 ((wrap64 (t255 * t256)) + 1)))) != (wrap64 ((wrap64 (t255 * t255)) + (wrap64 (t256 * t256)))))) else (laws_FnQuotientsAreSquares.j1 kj9 l1 t257 t261 true)) else (none)) else (laws_FnQuotientsAreSquares.j1 kj9 l1 t257 t261 true)) else (none)) else (none)) else (none)) = some r := by first | (rw [hji26] at H; exact H) | (simp only [hji26] at H ⊢; exact H)
                have hji26w : (IntKind.i64.wrap ((t261.length : Int) - 1)) = ji26 := (i64_w _).trans hji26
                by_cases c27 : 0 ≤ (ji26)
                · rw [if_pos c27] at H
                  have c27b0 : decide (0 ≤ (ji26)) = true := decide_eq_true c27
                  clear c27
                  (first | rw [c27b0] | (simp only [i64_w, i32_w]; rw [c27b0]) | skip)
                  by_cases c28 : (ji26) < (t261.length : Int)
                  · rw [if_pos c28] at H
                    have c28b0 : decide ((ji26) < (t261.length : Int)) = true := decide_eq_true c28
                    clear c28
                    have HC29 := Aside0.mk H
                    clear H
                    obtain ⟨Ao30, co30, eo30⟩ := Kd.N_slice HO_11.out
                    subst eo30
                    have p270 : 0 ≤ ((ji26) : Int) := of_decide_eq_true (by first | (with_reducible assumption) | assumption)
                    have q270 : (ji26) < (t261.length : Int) := of_decide_eq_true (by first | (with_reducible assumption) | assumption)
                    obtain ⟨ad270, A270_0, c270_0, e270, hx270_0, hl270_0, hi270_0⟩ := at_L1 (Kd.N_reads' HO_11.out).2.2 (ji26) p270 q270
                    cases e270
                    obtain ⟨ce270, hce270, hMe270, hcc270⟩ := Kd.N_get HO_11.out [] (ji26) p270 (by first | exact q270 | exact of_decide_eq_true (by first | (with_reducible assumption) | assumption) | (have e_ := (Kd.N_reads' HO_11.out).1; omega))
                    obtain ⟨ua270_0, uc270_0, rfl, ul270_0, ge270_0⟩ := Kd.FK_slice_open hMe270
                    have hv270_0 := hcc270 0 _ rfl
                    rw [Nat.add_zero, show ((Kd.slice 3 (Kd.int .i64))).sz = 1 from rfl, Nat.mul_one] at hv270_0
                    replace hv270_0 := Option.some.inj (hv270_0.symm.trans hx270_0)
                    injection hv270_0 with hva_ hvn_ hvc_
                    rw [hva_] at ge270_0
                    rw [hvc_] at ul270_0
                    have HL270_0 := Aside0.mk (show Kd.V (Kd.int .i64) 3 _ w.heap.size _ _ (rd_L1 t261 (ji26)) from Kd.V_mk ul270_0 ge270_0)
                    clear hva_ hvn_ hvc_ ge270_0 ul270_0
                    clear hcc270 hce270
                    have HR270_0 := Aside0.mk hi270_0
                    have HC270_0 := Aside0.mk hl270_0
                    clear hi270_0 hl270_0
                    replace p270 := eq_true p270
                    replace q270 := eq_true q270
                    go_upto_region 12 with (fail)
                    repeat (go_quiet (fail); go_upto_region 12 with (fail))
                    go_cut [123] (fun v123 wc => ∃ (kq : Nat) (x123_28 : Bool), v123 = .bool x123_28 ∧ Aside0 (laws_FnQuotientsAreSquares.j1 kq l1 t257 t261 x123_28 = some r) ∧ Aside0 (kq ≤ kj9) ∧ Aside0 (Kd.N (Kd.slice 3 (Kd.int .i64)) 34 wc w.heap.size (fun _ => True) (.slice (some ad270) t261.length co30) t261) ∧ Aside0 (Kd.C (Kd.int .i64) wc A270_0 (rd_L1 t261 (ji26)).length (rd_L1 t261 (ji26))) ∧ Aside0 (Below w.heap.size w wc))
                    case first =>
                      have H := HC29.out
                      clear HC29
                      by_cases c31 : 1 < ((rd_L1 t261 (ji26)).length : Int)
                      · rw [if_pos c31] at H
                        have c31b0 : decide (1 < ((rd_L1 t261 (ji26)).length : Int)) = true := decide_eq_true c31
                        have c31b1 : decide (1 < (rd_L1 t261 (ji26)).length) = true := decide_eq_true (by omega)
                        clear c31
                        (first | rw [c31b0] | (simp only [i64_w, i32_w]; rw [c31b0]) | skip)
                        by_cases c32 : (rd (rd_L1 t261 (ji26)) 1) = 0
                        · rw [if_pos c32] at H
                          have c32b0 : ((rd (rd_L1 t261 (ji26)) 1) == 0) = true := beq_iff_eq.mpr c32
                          have c32b1 : ((rd (rd_L1 t261 (ji26)) 1) != 0) = false := bne_eq_false_iff_eq.mpr c32
                          clear c32
                          by_cases c33 : 0 < ((rd_L1 t261 (ji26)).length : Int)
                          · rw [if_pos c33] at H
                            have c33b0 : decide (0 < ((rd_L1 t261 (ji26)).length : Int)) = true := decide_eq_true c33
                            have c33b1 : decide (0 < (rd_L1 t261 (ji26)).length) = true := decide_eq_true (by omega)
                            clear c33
                            by_cases c34 : (wrap64 ((rd (rd_L1 t261 (ji26)) 0) * (rd (rd_L1 t261 (ji26)) 0))) = t257
                            · rw [if_pos c34] at H
                              have c34b0 : ((wrap64 ((rd (rd_L1 t261 (ji26)) 0) * (rd (rd_L1 t261 (ji26)) 0))) == t257) = true := beq_iff_eq.mpr c34
                              have c34b1 : ((wrap64 ((rd (rd_L1 t261 (ji26)) 0) * (rd (rd_L1 t261 (ji26)) 0))) != t257) = false := bne_eq_false_iff_eq.mpr c34
                              clear c34
                              have H' := Aside0.mk H
                              clear H
                              have p271 : 0 ≤ (1 : Int) := (by omega)
                              have q271 : 1 < ((rd_L1 t261 (ji26)).length : Int) := of_decide_eq_true (by first | (with_reducible assumption) | assumption)
                              obtain ⟨ad271, e271, hx271_0⟩ := Kd.at_int (by repeat (first | (with_reducible exact HR270_0.out) | (with_reducible refine Kd.C_alloc ?_ _) | (with_reducible refine Kd.C_drewN ?_ _) | (with_reducible refine Kd.C_drew ?_) | exact HR270_0.out)) 1 p271 q271
                              cases e271
                              (try simp only [show (1 : Int).toNat = 1 from rfl, Nat.reduceMul, Nat.reduceEqDiff, Go.Addr.add, ↓reduceIte] at hx271_0)
                              have qi271 : (1 < (rd_L1 t261 (ji26)).length) = True := eq_true (by omega)
                              (try rw [show ((1 : Int)).toNat = 1 from rfl] at hx271_0)
                              replace p271 := eq_true p271
                              replace q271 := eq_true q271
                              have p272 : 0 ≤ (0 : Int) := (by omega)
                              have q272 : 0 < ((rd_L1 t261 (ji26)).length : Int) := of_decide_eq_true (by first | (with_reducible assumption) | assumption)
                              obtain ⟨ad272, e272, hx272_0⟩ := Kd.at_int (by repeat (first | (with_reducible exact HR270_0.out) | (with_reducible refine Kd.C_alloc ?_ _) | (with_reducible refine Kd.C_drewN ?_ _) | (with_reducible refine Kd.C_drew ?_) | exact HR270_0.out)) 0 p272 q272
                              obtain rfl : ad271 = ad272 := (by injection e272)
                              have qi272 : (0 < (rd_L1 t261 (ji26)).length) = True := eq_true (by omega)
                              (try rw [show ((0 : Int)).toNat = 0 from rfl] at hx272_0)
                              (try rw [Addr.add_zero'] at hx272_0)
                              replace p272 := eq_true p272
                              replace q272 := eq_true q272
                              have p273 : 0 ≤ (0 : Int) := (by omega)
                              have q273 : 0 < ((rd_L1 t261 (ji26)).length : Int) := of_decide_eq_true (by first | (with_reducible assumption) | assumption)
                              obtain ⟨ad273, e273, hx273_0⟩ := Kd.at_int (by repeat (first | (with_reducible exact HR270_0.out) | (with_reducible refine Kd.C_alloc ?_ _) | (with_reducible refine Kd.C_drewN ?_ _) | (with_reducible refine Kd.C_drew ?_) | exact HR270_0.out)) 0 p273 q273
                              obtain rfl : ad271 = ad273 := (by injection e273)
                              have qi273 : (0 < (rd_L1 t261 (ji26)).length) = True := eq_true (by omega)
                              (try rw [show ((0 : Int)).toNat = 0 from rfl] at hx273_0)
                              (try rw [Addr.add_zero'] at hx273_0)
                              replace p273 := eq_true p273
                              replace q273 := eq_true q273
                              go_wp2
                              repeat (go_quiet (fail); try go_wp2)
                              go_meet
                              case rel => exact ⟨_, (((wrap64 (t257 * (wrap64 ((wrap64 (t255 * t256)) + 1)))) != (wrap64 ((wrap64 (t255 * t255)) + (wrap64 (t256 * t256)))))), (by first | rfl | (simp; done) | (simp [*]; done)), H', ⟨by have := HJ9.out; first | omega | exact Nat.le_refl _⟩, ⟨by (with_reducible repeat (first | apply Kd.N_alloc | apply Kd.N_drewN | apply Kd.N_drew)); exact HO_11.out⟩, ⟨by repeat (first | (with_reducible exact HR270_0.out) | (with_reducible refine Kd.C_alloc ?_ _) | (with_reducible refine Kd.C_drewN ?_ _) | (with_reducible refine Kd.C_drew ?_) | exact HR270_0.out)⟩, ⟨by repeat (first | (with_reducible first | exact HB.out | apply below_alloc | apply pw_below_drewN | apply below_drew1) | exact HB.out | exact Below.refl _ _)⟩⟩
                            · rw [if_neg c34] at H
                              have c34b0 : ((wrap64 ((rd (rd_L1 t261 (ji26)) 0) * (rd (rd_L1 t261 (ji26)) 0))) == t257) = false := beq_eq_false_iff_ne.mpr c34
                              have c34b1 : ((wrap64 ((rd (rd_L1 t261 (ji26)) 0) * (rd (rd_L1 t261 (ji26)) 0))) != t257) = true := bne_iff_ne.mpr c34
                              have H' := Aside0.mk H
                              clear H
                              have p271 : 0 ≤ (1 : Int) := (by omega)
                              have q271 : 1 < ((rd_L1 t261 (ji26)).length : Int) := of_decide_eq_true (by first | (with_reducible assumption) | assumption)
                              obtain ⟨ad271, e271, hx271_0⟩ := Kd.at_int (by repeat (first | (with_reducible exact HR270_0.out) | (with_reducible refine Kd.C_alloc ?_ _) | (with_reducible refine Kd.C_drewN ?_ _) | (with_reducible refine Kd.C_drew ?_) | exact HR270_0.out)) 1 p271 q271
                              cases e271
                              (try simp only [show (1 : Int).toNat = 1 from rfl, Nat.reduceMul, Nat.reduceEqDiff, Go.Addr.add, ↓reduceIte] at hx271_0)
                              have qi271 : (1 < (rd_L1 t261 (ji26)).length) = True := eq_true (by omega)
                              (try rw [show ((1 : Int)).toNat = 1 from rfl] at hx271_0)
                              replace p271 := eq_true p271
                              replace q271 := eq_true q271
                              have p272 : 0 ≤ (0 : Int) := (by omega)
                              have q272 : 0 < ((rd_L1 t261 (ji26)).length : Int) := of_decide_eq_true (by first | (with_reducible assumption) | assumption)
                              obtain ⟨ad272, e272, hx272_0⟩ := Kd.at_int (by repeat (first | (with_reducible exact HR270_0.out) | (with_reducible refine Kd.C_alloc ?_ _) | (with_reducible refine Kd.C_drewN ?_ _) | (with_reducible refine Kd.C_drew ?_) | exact HR270_0.out)) 0 p272 q272
                              obtain rfl : ad271 = ad272 := (by injection e272)
                              have qi272 : (0 < (rd_L1 t261 (ji26)).length) = True := eq_true (by omega)
                              (try rw [show ((0 : Int)).toNat = 0 from rfl] at hx272_0)
                              (try rw [Addr.add_zero'] at hx272_0)
                              replace p272 := eq_true p272
                              replace q272 := eq_true q272
                              have p273 : 0 ≤ (0 : Int) := (by omega)
                              have q273 : 0 < ((rd_L1 t261 (ji26)).length : Int) := of_decide_eq_true (by first | (with_reducible assumption) | assumption)
                              obtain ⟨ad273, e273, hx273_0⟩ := Kd.at_int (by repeat (first | (with_reducible exact HR270_0.out) | (with_reducible refine Kd.C_alloc ?_ _) | (with_reducible refine Kd.C_drewN ?_ _) | (with_reducible refine Kd.C_drew ?_) | exact HR270_0.out)) 0 p273 q273
                              obtain rfl : ad271 = ad273 := (by injection e273)
                              have qi273 : (0 < (rd_L1 t261 (ji26)).length) = True := eq_true (by omega)
                              (try rw [show ((0 : Int)).toNat = 0 from rfl] at hx273_0)
                              (try rw [Addr.add_zero'] at hx273_0)
                              replace p273 := eq_true p273
                              replace q273 := eq_true q273
                              go_wp2
                              repeat (go_quiet (fail); try go_wp2)
                              go_meet
                              case rel => exact ⟨_, (true), (by first | rfl | (simp; done) | (simp [*]; done)), H', ⟨by have := HJ9.out; first | omega | exact Nat.le_refl _⟩, ⟨by (with_reducible repeat (first | apply Kd.N_alloc | apply Kd.N_drewN | apply Kd.N_drew)); exact HO_11.out⟩, ⟨by repeat (first | (with_reducible exact HR270_0.out) | (with_reducible refine Kd.C_alloc ?_ _) | (with_reducible refine Kd.C_drewN ?_ _) | (with_reducible refine Kd.C_drew ?_) | exact HR270_0.out)⟩, ⟨by repeat (first | (with_reducible first | exact HB.out | apply below_alloc | apply pw_below_drewN | apply below_drew1) | exact HB.out | exact Below.refl _ _)⟩⟩
                          · rw [if_neg c33] at H
                            exact absurd H (by simp)
                        · rw [if_neg c32] at H
                          have c32b0 : ((rd (rd_L1 t261 (ji26)) 1) == 0) = false := beq_eq_false_iff_ne.mpr c32
                          have c32b1 : ((rd (rd_L1 t261 (ji26)) 1) != 0) = true := bne_iff_ne.mpr c32
                          have H' := Aside0.mk H
                          clear H
                          have p271 : 0 ≤ (1 : Int) := (by omega)
                          have q271 : 1 < ((rd_L1 t261 (ji26)).length : Int) := of_decide_eq_true (by first | (with_reducible assumption) | assumption)
                          obtain ⟨ad271, e271, hx271_0⟩ := Kd.at_int (by repeat (first | (with_reducible exact HR270_0.out) | (with_reducible refine Kd.C_alloc ?_ _) | (with_reducible refine Kd.C_drewN ?_ _) | (with_reducible refine Kd.C_drew ?_) | exact HR270_0.out)) 1 p271 q271
                          cases e271
                          (try simp only [show (1 : Int).toNat = 1 from rfl, Nat.reduceMul, Nat.reduceEqDiff, Go.Addr.add, ↓reduceIte] at hx271_0)
                          have qi271 : (1 < (rd_L1 t261 (ji26)).length) = True := eq_true (by omega)
                          (try rw [show ((1 : Int)).toNat = 1 from rfl] at hx271_0)
                          replace p271 := eq_true p271
                          replace q271 := eq_true q271
                          go_wp2
                          repeat (go_quiet (fail); try go_wp2)
                          go_meet
                          case rel => exact ⟨_, (true), (by first | rfl | (simp; done) | (simp [*]; done)), H', ⟨by have := HJ9.out; first | omega | exact Nat.le_refl _⟩, ⟨by (with_reducible repeat (first | apply Kd.N_alloc | apply Kd.N_drewN | apply Kd.N_drew)); exact HO_11.out⟩, ⟨by repeat (first | (with_reducible exact HR270_0.out) | (with_reducible refine Kd.C_alloc ?_ _) | (with_reducible refine Kd.C_drewN ?_ _) | (with_reducible refine Kd.C_drew ?_) | exact HR270_0.out)⟩, ⟨by repeat (first | (with_reducible first | exact HB.out | apply below_alloc | apply pw_below_drewN | apply below_drew1) | exact HB.out | exact Below.refl _ _)⟩⟩
                      · rw [if_neg c31] at H
                        exact absurd H (by simp)
                    case rest =>
                      as_aux_lemma =>
                        clear HC29
                        try clear c1
                        try clear c2
                        try clear p2
                        try clear q2
                        try clear hx2
                        try clear qi2
                        try clear c3
                        try clear c4
                        try clear p6
                        try clear c14
                        try clear c14b0
                        try clear c14b1
                        try clear c14b2
                        try clear c15
                        try clear c15b0
                        try clear c15b1
                        try clear c16
                        try clear c16b0
                        try clear c16b1
                        try clear c16b2
                        try clear c18
                        try clear c23
                        try clear c25
                        try clear c27
                        try clear c27b0
                        try clear p27
                        try clear q27
                        try clear hx27
                        try clear qi27
                        try clear c28
                        try clear c28b0
                        try clear c31
                        try clear c31b0
                        try clear c31b1
                        try clear c32
                        try clear c32b0
                        try clear c32b1
                        try clear c33
                        try clear c33b0
                        try clear c33b1
                        try clear c34
                        try clear c34b0
                        try clear c34b1
                        try clear hx270_0
                        try clear hx271_0
                        try clear hx272_0
                        try clear hx273_0
                        try clear p2
                        try clear p270
                        try clear p271
                        try clear p272
                        try clear p273
                        try clear q270
                        try clear q271
                        try clear q272
                        try clear q273
                        obtain ⟨kq, x123_28, rfl, HA, HJ28, HO_11, HR270_0, HB⟩ := hcut
                        cases kq with
                        | zero => exact absurd HA.out (by simp [laws_FnQuotientsAreSquares.j1])
                        | succ kj28 =>
                          have H := HA.out
                          clear HA
                          simp only [laws_FnQuotientsAreSquares.j1] at H
                          by_cases c35 : x123_28 = true
                          · subst c35
                            have H1 : (some false) = some r := by rw [if_pos rfl] at H; exact H
                            clear H
                            have H := H1
                            clear H1
                            obtain rfl := Option.some.inj H
                            go_wp2
                            repeat (go_quiet (fail); try go_wp2)
                            go_ret
                            exact ⟨by first | rfl | (simp [errW_none, errW_some] <;> rfl) | (simp only [← hji26]; first | rfl | (simp [errW_none, errW_some] <;> rfl)) | (simp [*, errW_none, errW_some] <;> rfl), by repeat (first | (with_reducible first | exact HB.out | apply below_alloc | apply pw_below_drewN | apply below_drew1) | exact HB.out | exact Below.refl _ _)⟩
                          · replace c35 := Bool.eq_false_iff.mpr c35
                            subst c35
                            have H1 : (laws_FnQuotientsAreSquares.l0 kj28 l1 t257 t261 t261 (t261.length : Int) 0) = some r := by rw [if_neg (show ¬ (false = true) by decide)] at H; exact H
                            clear H
                            have H := H1
                            clear H1
                            have H' := Aside0.mk H
                            clear H
                            go_wp2
                            repeat (go_quiet (fail); try go_wp2)
                            go_loopg [126] kj28 (fun kq v126 w' => ∃ (x126_3 : Int), v126 = .int .i64 x126_3 ∧ Aside0 (laws_FnQuotientsAreSquares.l0 kq l1 t257 t261 t261 (t261.length : Int) x126_3 = some r) ∧ Aside0 (kq ≤ kj28) ∧ Aside0 (Kd.N (Kd.slice 3 (Kd.int .i64)) 34 w' w.heap.size (fun _ => True) (.slice (some ad270) t261.length co30) t261) ∧ Aside0 (Kd.N (Kd.slice 3 (Kd.int .i64)) 34 w' w.heap.size (fun _ => True) (.slice (some ad270) t261.length co30) t261) ∧ Aside0 (Kd.C (Kd.int .i64) w' A270_0 (rd_L1 t261 (ji26)).length (rd_L1 t261 (ji26))) ∧ Aside0 (Below w.heap.size w w'))
                            case atStart => exact ⟨(0), (by first | rfl | (simp; done) | (simp [*]; done)), H', ⟨Nat.le_refl _⟩, ⟨by (with_reducible repeat (first | apply Kd.N_alloc | apply Kd.N_drewN | apply Kd.N_drew)); exact HO_11.out⟩, ⟨by (with_reducible repeat (first | apply Kd.N_alloc | apply Kd.N_drewN | apply Kd.N_drew)); exact HO_11.out⟩, ⟨by repeat (first | (with_reducible exact HR270_0.out) | (with_reducible refine Kd.C_alloc ?_ _) | (with_reducible refine Kd.C_drewN ?_ _) | (with_reducible refine Kd.C_drew ?_) | exact HR270_0.out)⟩, ⟨by repeat (first | (with_reducible first | exact HB.out | apply below_alloc | apply pw_below_drewN | apply below_drew1) | exact HB.out | exact Below.refl _ _)⟩⟩
                            case round =>
                              as_aux_lemma =>
                                clear H'
                                try clear c1
                                try clear c2
                                try clear p2
                                try clear q2
                                try clear hx2
                                try clear qi2
                                try clear c3
                                try clear c4
                                try clear p6
                                try clear c14
                                try clear c14b0
                                try clear c14b1
                                try clear c14b2
                                try clear c15
                                try clear c15b0
                                try clear c15b1
                                try clear c16
                                try clear c16b0
                                try clear c16b1
                                try clear c16b2
                                try clear c18
                                try clear c23
                                try clear c25
                                try clear c27
                                try clear c27b0
                                try clear p27
                                try clear q27
                                try clear hx27
                                try clear qi27
                                try clear c28
                                try clear c28b0
                                try clear c31
                                try clear c31b0
                                try clear c31b1
                                try clear c32
                                try clear c32b0
                                try clear c32b1
                                try clear c33
                                try clear c33b0
                                try clear c33b1
                                try clear c34
                                try clear c34b0
                                try clear c34b1
                                try clear c35
                                try clear hx270_0
                                try clear hx271_0
                                try clear hx272_0
                                try clear hx273_0
                                try clear p2
                                try clear p27
                                try clear p270
                                try clear p271
                                try clear p272
                                try clear p273
                                try clear p6
                                try clear q2
                                try clear q27
                                try clear q270
                                try clear q271
                                try clear q272
                                try clear q273
                                obtain ⟨x126_3, rfl, HA, HK3, HO_11, HO_124, HR270_0, HB⟩ := hrel
                                cases gk with
                                | zero => exact absurd HA.out (by simp [laws_FnQuotientsAreSquares.l0])
                                | succ k3 =>
                                  have H := HA.out
                                  clear HA
                                  simp only [laws_FnQuotientsAreSquares.l0] at H
                                  by_cases c36 : x126_3 < (t261.length : Int)
                                  · rw [if_pos c36] at H
                                    have c36b0 : decide (x126_3 < (t261.length : Int)) = true := decide_eq_true c36
                                    clear c36
                                    by_cases c37 : 0 ≤ x126_3
                                    · rw [if_pos c37] at H
                                      have c37b0 : decide (0 ≤ x126_3) = true := decide_eq_true c37
                                      clear c37
                                      by_cases c38 : x126_3 < (t261.length : Int)
                                      · rw [if_pos c38] at H
                                        have c38b0 : decide (x126_3 < (t261.length : Int)) = true := decide_eq_true c38
                                        clear c38
                                        by_cases c39 : 0 < ((rd_L1 t261 x126_3).length : Int)
                                        · rw [if_pos c39] at H
                                          have c39b0 : decide (0 < ((rd_L1 t261 x126_3).length : Int)) = true := decide_eq_true c39
                                          have c39b1 : decide (0 < (rd_L1 t261 x126_3).length) = true := decide_eq_true (by omega)
                                          clear c39
                                          by_cases c40 : 1 < ((rd_L1 t261 x126_3).length : Int)
                                          · rw [if_pos c40] at H
                                            have c40b0 : decide (1 < ((rd_L1 t261 x126_3).length : Int)) = true := decide_eq_true c40
                                            have c40b1 : decide (1 < (rd_L1 t261 x126_3).length) = true := decide_eq_true (by omega)
                                            clear c40
                                            replace H := Option.bind_eq_some_iff.mp H
                                            obtain ⟨⟨t277, t278⟩, A410, H⟩ := H
                                            replace H : (if t278 = true then (if t277 = t257 then (if x126_3 > 0 then (if 0 ≤ (wrap64 (x126_3 - 1)) then (if (wrap64 (x126_3 - 1)) < (t261.length : Int) then (if 0 < ((rd_L1 t261 (wrap64 (x126_3 - 1))).length : Int) then (if 1 < ((rd_L1 t261 (wrap64 (x126_3 - 1))).length : Int) then (if (wrap64 ((rd (rd_L1 t261 x126_3) 0) + (rd (rd_L1 t261 x126_3) 1))) ≥ (wrap64 ((rd (rd_L1 t261 (wrap64 (x126_3 - 1))) 0) + (rd (rd_L1 t261 (wrap64 (x126_3 - 1))) 1))) then (some false) else (laws_FnQuotientsAreSquares.l0 k3 l1 t257 t261 t261 (t261.length : Int) (wrap64 (x126_3 + 1)))) else (none)) else (none)) else (none)) else (none)) else (laws_FnQuotientsAreSquares.l0 k3 l1 t257 t261 t261 (t261.length : Int) (wrap64 (x126_3 + 1)))) else (some false)) else (some false)) = some r := H
                                            have A41 := Aside0.mk A410
                                            clear A410
                                            by_cases c42 : t278 = true
                                            · subst c42
                                              have H1 : (if t277 = t257 then (if x126_3 > 0 then (if 0 ≤ (wrap64 (x126_3 - 1)) then (if (wrap64 (x126_3 - 1)) < (t261.length : Int) then (if 0 < ((rd_L1 t261 (wrap64 (x126_3 - 1))).length : Int) then (if 1 < ((rd_L1 t261 (wrap64 (x126_3 - 1))).length : Int) then (if (wrap64 ((rd (rd_L1 t261 x126_3) 0) + (rd (rd_L1 t261 x126_3) 1))) ≥ (wrap64 ((rd (rd_L1 t261 (wrap64 (x126_3 - 1))) 0) + (rd (rd_L1 t261 (wrap64 (x126_3 - 1))) 1))) then (some false) else (laws_FnQuotientsAreSquares.l0 k3 l1 t257 t261 t261 (t261.length : Int) (wrap64 (x126_3 + 1)))) else (none)) else (none)) else (none)) else (none)) else (laws_FnQuotientsAreSquares.l0 k3 l1 t257 t261 t261 (t261.length : Int) (wrap64 (x126_3 + 1)))) else (some false)) = some r := by rw [if_pos rfl] at H; exact H
                                              clear H
                                              have H := H1
                                              clear H1
                                              by_cases c43 : t277 = t257
                                              · rw [if_pos c43] at H
                                                have c43b0 : (t277 == t257) = true := beq_iff_eq.mpr c43
                                                have c43b1 : (t277 != t257) = false := bne_eq_false_iff_eq.mpr c43
                                                clear c43
                                                by_cases c44 : x126_3 > 0
                                                · rw [if_pos c44] at H
                                                  have c44b0 : decide (0 < x126_3) = true := decide_eq_true c44
                                                  clear c44
                                                  obtain ⟨ji45, hji45⟩ : ∃ j_ : Int, (wrap64 (x126_3 - 1)) = j_ := ⟨_, rfl⟩
                                                  replace H : (if 0 ≤ (ji45) then (if (ji45) < (t261.length : Int) then (if 0 < ((rd_L1 t261 (ji45)).length : Int) then (if 1 < ((rd_L1 t261 (ji45)).length : Int) then (if (wrap64 ((rd (rd_L1 t261 x126_3) 0) + (rd (rd_L1 t261 x126_3) 1))) ≥ (wrap64 ((rd (rd_L1 t261 (ji45)) 0) + (rd (rd_L1 t261 (ji45)) 1))) then (some false) else (laws_FnQuotientsAreSquares.l0 k3 l1 t257 t261 t261 (t261.length : Int) (wrap64 (x126_3 + 1)))) else (none)) else (none)) else (none)) else (none)) = some r := by first | (rw [hji45] at H; exact H) | (simp only [hji45] at H ⊢; exact H)
                                                  (try rw [hji45] at A41)
                                                  have hji45w : (IntKind.i64.wrap (x126_3 - 1)) = ji45 := (i64_w _).trans hji45
                                                  by_cases c46 : 0 ≤ (ji45)
                                                  · rw [if_pos c46] at H
                                                    have c46b0 : decide (0 ≤ (ji45)) = true := decide_eq_true c46
                                                    clear c46
                                                    by_cases c47 : (ji45) < (t261.length : Int)
                                                    · rw [if_pos c47] at H
                                                      have c47b0 : decide ((ji45) < (t261.length : Int)) = true := decide_eq_true c47
                                                      clear c47
                                                      by_cases c48 : 0 < ((rd_L1 t261 (ji45)).length : Int)
                                                      · rw [if_pos c48] at H
                                                        have c48b0 : decide (0 < ((rd_L1 t261 (ji45)).length : Int)) = true := decide_eq_true c48
                                                        have c48b1 : decide (0 < (rd_L1 t261 (ji45)).length) = true := decide_eq_true (by omega)
                                                        clear c48
                                                        by_cases c49 : 1 < ((rd_L1 t261 (ji45)).length : Int)
                                                        · rw [if_pos c49] at H
                                                          have c49b0 : decide (1 < ((rd_L1 t261 (ji45)).length : Int)) = true := decide_eq_true c49
                                                          have c49b1 : decide (1 < (rd_L1 t261 (ji45)).length) = true := decide_eq_true (by omega)
                                                          clear c49
                                                          by_cases c50 : (wrap64 ((rd (rd_L1 t261 x126_3) 0) + (rd (rd_L1 t261 x126_3) 1))) ≥ (wrap64 ((rd (rd_L1 t261 (ji45)) 0) + (rd (rd_L1 t261 (ji45)) 1)))
                                                          · rw [if_pos c50] at H
                                                            have c50b0 : decide ((wrap64 ((rd (rd_L1 t261 (ji45)) 0) + (rd (rd_L1 t261 (ji45)) 1))) ≤ (wrap64 ((rd (rd_L1 t261 x126_3) 0) + (rd (rd_L1 t261 x126_3) 1)))) = true := decide_eq_true c50
                                                            clear c50
                                                            obtain rfl := Option.some.inj H
                                                            have p274 : 0 ≤ (x126_3 : Int) := of_decide_eq_true (by first | (with_reducible assumption) | assumption)
                                                            have q274 : x126_3 < (t261.length : Int) := of_decide_eq_true (by first | (with_reducible assumption) | assumption)
                                                            obtain ⟨ad274, A274_0, c274_0, e274, hx274_0, hl274_0, hi274_0⟩ := at_L1 (Kd.N_reads' HO_124.out).2.2 x126_3 p274 q274
                                                            obtain rfl : ad270 = ad274 := (by injection e274)
                                                            obtain ⟨ce274, hce274, hMe274, hcc274⟩ := Kd.N_get HO_124.out [] x126_3 p274 (by first | exact q274 | exact of_decide_eq_true (by first | (with_reducible assumption) | assumption) | (have e_ := (Kd.N_reads' HO_124.out).1; omega))
                                                            obtain ⟨ua274_0, uc274_0, rfl, ul274_0, ge274_0⟩ := Kd.FK_slice_open hMe274
                                                            have hv274_0 := hcc274 0 _ rfl
                                                            rw [Nat.add_zero, show ((Kd.slice 3 (Kd.int .i64))).sz = 1 from rfl, Nat.mul_one] at hv274_0
                                                            replace hv274_0 := Option.some.inj (hv274_0.symm.trans hx274_0)
                                                            injection hv274_0 with hva_ hvn_ hvc_
                                                            rw [hva_] at ge274_0
                                                            rw [hvc_] at ul274_0
                                                            have HL274_0 := Aside0.mk (show Kd.V (Kd.int .i64) 3 _ w.heap.size _ _ (rd_L1 t261 x126_3) from Kd.V_mk ul274_0 ge274_0)
                                                            clear hva_ hvn_ hvc_ ge274_0 ul274_0
                                                            clear hcc274 hce274
                                                            have HR274_0 := Aside0.mk hi274_0
                                                            have HC274_0 := Aside0.mk hl274_0
                                                            clear hi274_0 hl274_0
                                                            replace p274 := eq_true p274
                                                            replace q274 := eq_true q274
                                                            have p275 : 0 ≤ (0 : Int) := (by omega)
                                                            have q275 : 0 < ((rd_L1 t261 x126_3).length : Int) := of_decide_eq_true (by first | (with_reducible assumption) | assumption)
                                                            obtain ⟨ad275, e275, hx275_0⟩ := Kd.at_int (by repeat (first | (with_reducible exact HR274_0.out) | (with_reducible refine Kd.C_alloc ?_ _) | (with_reducible refine Kd.C_drewN ?_ _) | (with_reducible refine Kd.C_drew ?_) | exact HR274_0.out)) 0 p275 q275
                                                            cases e275
                                                            have qi275 : (0 < (rd_L1 t261 x126_3).length) = True := eq_true (by omega)
                                                            (try rw [show ((0 : Int)).toNat = 0 from rfl] at hx275_0)
                                                            (try rw [Addr.add_zero'] at hx275_0)
                                                            replace p275 := eq_true p275
                                                            replace q275 := eq_true q275
                                                            have p276 : 0 ≤ (1 : Int) := (by omega)
                                                            have q276 : 1 < ((rd_L1 t261 x126_3).length : Int) := of_decide_eq_true (by first | (with_reducible assumption) | assumption)
                                                            obtain ⟨ad276, e276, hx276_0⟩ := Kd.at_int (by repeat (first | (with_reducible exact HR274_0.out) | (with_reducible refine Kd.C_alloc ?_ _) | (with_reducible refine Kd.C_drewN ?_ _) | (with_reducible refine Kd.C_drew ?_) | exact HR274_0.out)) 1 p276 q276
                                                            obtain rfl : ad275 = ad276 := (by injection e276)
                                                            (try simp only [show (1 : Int).toNat = 1 from rfl, Nat.reduceMul, Nat.reduceEqDiff, Go.Addr.add, ↓reduceIte] at hx276_0)
                                                            have qi276 : (1 < (rd_L1 t261 x126_3).length) = True := eq_true (by omega)
                                                            (try rw [show ((1 : Int)).toNat = 1 from rfl] at hx276_0)
                                                            replace p276 := eq_true p276
                                                            replace q276 := eq_true q276
                                                            go_wp2_with (first | (go_at_call 15; (with_reducible refine (impl_SquareQuotient.calls (rd (rd_L1 t261 x126_3) 0) (rd (rd_L1 t261 x126_3) 1) t277 true _ A41.out).mono ?_); rintro e w' ⟨rfl, ⟨nd, rfl⟩⟩; (try first | exact ⟨rfl, _, World.drewN_drewN _ _ _⟩ | exact ⟨rfl, _, Eq.trans (World.drewN_drewN _ _ _) (congrArg (World.drewN _) (Nat.add_assoc _ _ _))⟩); have p279 : 0 ≤ (0 : Int) := (by omega); have q279 : 0 < ((rd_L1 t261 x126_3).length : Int) := of_decide_eq_true (by first | (with_reducible assumption) | assumption); obtain ⟨ad279, e279, hx279_0⟩ := Kd.at_int (by repeat (first | (with_reducible exact HR274_0.out) | (with_reducible refine Kd.C_alloc ?_ _) | (with_reducible refine Kd.C_drewN ?_ _) | (with_reducible refine Kd.C_drew ?_) | exact HR274_0.out)) 0 p279 q279; obtain rfl : ad275 = ad279 := (by injection e279); have qi279 : (0 < (rd_L1 t261 x126_3).length) = True := eq_true (by omega); (try rw [show ((0 : Int)).toNat = 0 from rfl] at hx279_0); (try rw [Addr.add_zero'] at hx279_0); replace p279 := eq_true p279; replace q279 := eq_true q279; have p280 : 0 ≤ (1 : Int) := (by omega); have q280 : 1 < ((rd_L1 t261 x126_3).length : Int) := of_decide_eq_true (by first | (with_reducible assumption) | assumption); obtain ⟨ad280, e280, hx280_0⟩ := Kd.at_int (by repeat (first | (with_reducible exact HR274_0.out) | (with_reducible refine Kd.C_alloc ?_ _) | (with_reducible refine Kd.C_drewN ?_ _) | (with_reducible refine Kd.C_drew ?_) | exact HR274_0.out)) 1 p280 q280; obtain rfl : ad275 = ad280 := (by injection e280); (try simp only [show (1 : Int).toNat = 1 from rfl, Nat.reduceMul, Nat.reduceEqDiff, Go.Addr.add, ↓reduceIte] at hx280_0); have qi280 : (1 < (rd_L1 t261 x126_3).length) = True := eq_true (by omega); (try rw [show ((1 : Int)).toNat = 1 from rfl] at hx280_0); replace p280 := eq_true p280; replace q280 := eq_true q280; have p281 : 0 ≤ ((ji45) : Int) := of_decide_eq_true (by first | (with_reducible assumption) | assumption); have q281 : (ji45) < (t261.length : Int) := of_decide_eq_true (by first | (with_reducible assumption) | assumption); obtain ⟨ad281, A281_0, c281_0, e281, hx281_0, hl281_0, hi281_0⟩ := at_L1 (Kd.N_reads' HO_11.out).2.2 (ji45) p281 q281; obtain rfl : ad270 = ad281 := (by injection e281); obtain ⟨ce281, hce281, hMe281, hcc281⟩ := Kd.N_get HO_11.out [] (ji45) p281 (by first | exact q281 | exact of_decide_eq_true (by first | (with_reducible assumption) | assumption) | (have e_ := (Kd.N_reads' HO_11.out).1; omega)); obtain ⟨ua281_0, uc281_0, rfl, ul281_0, ge281_0⟩ := Kd.FK_slice_open hMe281; have hv281_0 := hcc281 0 _ rfl; rw [Nat.add_zero, show ((Kd.slice 3 (Kd.int .i64))).sz = 1 from rfl, Nat.mul_one] at hv281_0; replace hv281_0 := Option.some.inj (hv281_0.symm.trans hx281_0); injection hv281_0 with hva_ hvn_ hvc_; rw [hva_] at ge281_0; rw [hvc_] at ul281_0; have HL281_0 := Aside0.mk (show Kd.V (Kd.int .i64) 3 _ w.heap.size _ _ (rd_L1 t261 (ji45)) from Kd.V_mk ul281_0 ge281_0); clear hva_ hvn_ hvc_ ge281_0 ul281_0; clear hcc281 hce281; have HR281_0 := Aside0.mk hi281_0; have HC281_0 := Aside0.mk hl281_0; clear hi281_0 hl281_0; replace p281 := eq_true p281; replace q281 := eq_true q281; have p282 : 0 ≤ (0 : Int) := (by omega); have q282 : 0 < ((rd_L1 t261 (ji45)).length : Int) := of_decide_eq_true (by first | (with_reducible assumption) | assumption); obtain ⟨ad282, e282, hx282_0⟩ := Kd.at_int (by repeat (first | (with_reducible exact HR281_0.out) | (with_reducible refine Kd.C_alloc ?_ _) | (with_reducible refine Kd.C_drewN ?_ _) | (with_reducible refine Kd.C_drew ?_) | exact HR281_0.out)) 0 p282 q282; cases e282; have qi282 : (0 < (rd_L1 t261 (ji45)).length) = True := eq_true (by omega); (try rw [show ((0 : Int)).toNat = 0 from rfl] at hx282_0); (try rw [Addr.add_zero'] at hx282_0); replace p282 := eq_true p282; replace q282 := eq_true q282; have p283 : 0 ≤ ((ji45) : Int) := of_decide_eq_true (by first | (with_reducible assumption) | assumption); have q283 : (ji45) < (t261.length : Int) := of_decide_eq_true (by first | (with_reducible assumption) | assumption); obtain ⟨ad283, A283_0, c283_0, e283, hx283_0, hl283_0, hi283_0⟩ := at_L1 (Kd.N_reads' HO_11.out).2.2 (ji45) p283 q283; obtain rfl : ad270 = ad283 := (by injection e283); obtain ⟨ce283, hce283, hMe283, hcc283⟩ := Kd.N_get HO_11.out [] (ji45) p283 (by first | exact q283 | exact of_decide_eq_true (by first | (with_reducible assumption) | assumption) | (have e_ := (Kd.N_reads' HO_11.out).1; omega)); obtain ⟨ua283_0, uc283_0, rfl, ul283_0, ge283_0⟩ := Kd.FK_slice_open hMe283; have hv283_0 := hcc283 0 _ rfl; rw [Nat.add_zero, show ((Kd.slice 3 (Kd.int .i64))).sz = 1 from rfl, Nat.mul_one] at hv283_0; replace hv283_0 := Option.some.inj (hv283_0.symm.trans hx283_0); injection hv283_0 with hva_ hvn_ hvc_; rw [hva_] at ge283_0; rw [hvc_] at ul283_0; have HL283_0 := Aside0.mk (show Kd.V (Kd.int .i64) 3 _ w.heap.size _ _ (rd_L1 t261 (ji45)) from Kd.V_mk ul283_0 ge283_0); clear hva_ hvn_ hvc_ ge283_0 ul283_0; clear hcc283 hce283; have HR283_0 := Aside0.mk hi283_0; have HC283_0 := Aside0.mk hl283_0; clear hi283_0 hl283_0; replace p283 := eq_true p283; replace q283 := eq_true q283; have ea_ := Option.some.inj (hx281_0.symm.trans hx283_0); injection ea_ with ea_ en_ ec_; subst ea_; subst ec_; clear en_; have p284 : 0 ≤ (1 : Int) := (by omega); have q284 : 1 < ((rd_L1 t261 (ji45)).length : Int) := of_decide_eq_true (by first | (with_reducible assumption) | assumption); obtain ⟨ad284, e284, hx284_0⟩ := Kd.at_int (by repeat (first | (with_reducible exact HR283_0.out) | (with_reducible refine Kd.C_alloc ?_ _) | (with_reducible refine Kd.C_drewN ?_ _) | (with_reducible refine Kd.C_drew ?_) | exact HR283_0.out)) 1 p284 q284; cases e284; (try simp only [show (1 : Int).toNat = 1 from rfl, Nat.reduceMul, Nat.reduceEqDiff, Go.Addr.add, ↓reduceIte] at hx284_0); have qi284 : (1 < (rd_L1 t261 (ji45)).length) = True := eq_true (by omega); (try rw [show ((1 : Int)).toNat = 1 from rfl] at hx284_0); replace p284 := eq_true p284; replace q284 := eq_true q284))
                                                            repeat (go_quiet (first | (go_at_call 15; (with_reducible refine (impl_SquareQuotient.calls (rd (rd_L1 t261 x126_3) 0) (rd (rd_L1 t261 x126_3) 1) t277 true _ A41.out).mono ?_); rintro e w' ⟨rfl, ⟨nd, rfl⟩⟩; (try first | exact ⟨rfl, _, World.drewN_drewN _ _ _⟩ | exact ⟨rfl, _, Eq.trans (World.drewN_drewN _ _ _) (congrArg (World.drewN _) (Nat.add_assoc _ _ _))⟩); have p279 : 0 ≤ (0 : Int) := (by omega); have q279 : 0 < ((rd_L1 t261 x126_3).length : Int) := of_decide_eq_true (by first | (with_reducible assumption) | assumption); obtain ⟨ad279, e279, hx279_0⟩ := Kd.at_int (by repeat (first | (with_reducible exact HR274_0.out) | (with_reducible refine Kd.C_alloc ?_ _) | (with_reducible refine Kd.C_drewN ?_ _) | (with_reducible refine Kd.C_drew ?_) | exact HR274_0.out)) 0 p279 q279; obtain rfl : ad275 = ad279 := (by injection e279); have qi279 : (0 < (rd_L1 t261 x126_3).length) = True := eq_true (by omega); (try rw [show ((0 : Int)).toNat = 0 from rfl] at hx279_0); (try rw [Addr.add_zero'] at hx279_0); replace p279 := eq_true p279; replace q279 := eq_true q279; have p280 : 0 ≤ (1 : Int) := (by omega); have q280 : 1 < ((rd_L1 t261 x126_3).length : Int) := of_decide_eq_true (by first | (with_reducible assumption) | assumption); obtain ⟨ad280, e280, hx280_0⟩ := Kd.at_int (by repeat (first | (with_reducible exact HR274_0.out) | (with_reducible refine Kd.C_alloc ?_ _) | (with_reducible refine Kd.C_drewN ?_ _) | (with_reducible refine Kd.C_drew ?_) | exact HR274_0.out)) 1 p280 q280; obtain rfl : ad275 = ad280 := (by injection e280); (try simp only [show (1 : Int).toNat = 1 from rfl, Nat.reduceMul, Nat.reduceEqDiff, Go.Addr.add, ↓reduceIte] at hx280_0); have qi280 : (1 < (rd_L1 t261 x126_3).length) = True := eq_true (by omega); (try rw [show ((1 : Int)).toNat = 1 from rfl] at hx280_0); replace p280 := eq_true p280; replace q280 := eq_true q280; have p281 : 0 ≤ ((ji45) : Int) := of_decide_eq_true (by first | (with_reducible assumption) | assumption); have q281 : (ji45) < (t261.length : Int) := of_decide_eq_true (by first | (with_reducible assumption) | assumption); obtain ⟨ad281, A281_0, c281_0, e281, hx281_0, hl281_0, hi281_0⟩ := at_L1 (Kd.N_reads' HO_11.out).2.2 (ji45) p281 q281; obtain rfl : ad270 = ad281 := (by injection e281); obtain ⟨ce281, hce281, hMe281, hcc281⟩ := Kd.N_get HO_11.out [] (ji45) p281 (by first | exact q281 | exact of_decide_eq_true (by first | (with_reducible assumption) | assumption) | (have e_ := (Kd.N_reads' HO_11.out).1; omega)); obtain ⟨ua281_0, uc281_0, rfl, ul281_0, ge281_0⟩ := Kd.FK_slice_open hMe281; have hv281_0 := hcc281 0 _ rfl; rw [Nat.add_zero, show ((Kd.slice 3 (Kd.int .i64))).sz = 1 from rfl, Nat.mul_one] at hv281_0; replace hv281_0 := Option.some.inj (hv281_0.symm.trans hx281_0); injection hv281_0 with hva_ hvn_ hvc_; rw [hva_] at ge281_0; rw [hvc_] at ul281_0; have HL281_0 := Aside0.mk (show Kd.V (Kd.int .i64) 3 _ w.heap.size _ _ (rd_L1 t261 (ji45)) from Kd.V_mk ul281_0 ge281_0); clear hva_ hvn_ hvc_ ge281_0 ul281_0; clear hcc281 hce281; have HR281_0 := Aside0.mk hi281_0; have HC281_0 := Aside0.mk hl281_0; clear hi281_0 hl281_0; replace p281 := eq_true p281; replace q281 := eq_true q281; have p282 : 0 ≤ (0 : Int) := (by omega); have q282 : 0 < ((rd_L1 t261 (ji45)).length : Int) := of_decide_eq_true (by first | (with_reducible assumption) | assumption); obtain ⟨ad282, e282, hx282_0⟩ := Kd.at_int (by repeat (first | (with_reducible exact HR281_0.out) | (with_reducible refine Kd.C_alloc ?_ _) | (with_reducible refine Kd.C_drewN ?_ _) | (with_reducible refine Kd.C_drew ?_) | exact HR281_0.out)) 0 p282 q282; cases e282; have qi282 : (0 < (rd_L1 t261 (ji45)).length) = True := eq_true (by omega); (try rw [show ((0 : Int)).toNat = 0 from rfl] at hx282_0); (try rw [Addr.add_zero'] at hx282_0); replace p282 := eq_true p282; replace q282 := eq_true q282; have p283 : 0 ≤ ((ji45) : Int) := of_decide_eq_true (by first | (with_reducible assumption) | assumption); have q283 : (ji45) < (t261.length : Int) := of_decide_eq_true (by first | (with_reducible assumption) | assumption); obtain ⟨ad283, A283_0, c283_0, e283, hx283_0, hl283_0, hi283_0⟩ := at_L1 (Kd.N_reads' HO_11.out).2.2 (ji45) p283 q283; obtain rfl : ad270 = ad283 := (by injection e283); obtain ⟨ce283, hce283, hMe283, hcc283⟩ := Kd.N_get HO_11.out [] (ji45) p283 (by first | exact q283 | exact of_decide_eq_true (by first | (with_reducible assumption) | assumption) | (have e_ := (Kd.N_reads' HO_11.out).1; omega)); obtain ⟨ua283_0, uc283_0, rfl, ul283_0, ge283_0⟩ := Kd.FK_slice_open hMe283; have hv283_0 := hcc283 0 _ rfl; rw [Nat.add_zero, show ((Kd.slice 3 (Kd.int .i64))).sz = 1 from rfl, Nat.mul_one] at hv283_0; replace hv283_0 := Option.some.inj (hv283_0.symm.trans hx283_0); injection hv283_0 with hva_ hvn_ hvc_; rw [hva_] at ge283_0; rw [hvc_] at ul283_0; have HL283_0 := Aside0.mk (show Kd.V (Kd.int .i64) 3 _ w.heap.size _ _ (rd_L1 t261 (ji45)) from Kd.V_mk ul283_0 ge283_0); clear hva_ hvn_ hvc_ ge283_0 ul283_0; clear hcc283 hce283; have HR283_0 := Aside0.mk hi283_0; have HC283_0 := Aside0.mk hl283_0; clear hi283_0 hl283_0; replace p283 := eq_true p283; replace q283 := eq_true q283; have ea_ := Option.some.inj (hx281_0.symm.trans hx283_0); injection ea_ with ea_ en_ ec_; subst ea_; subst ec_; clear en_; have p284 : 0 ≤ (1 : Int) := (by omega); have q284 : 1 < ((rd_L1 t261 (ji45)).length : Int) := of_decide_eq_true (by first | (with_reducible assumption) | assumption); obtain ⟨ad284, e284, hx284_0⟩ := Kd.at_int (by repeat (first | (with_reducible exact HR283_0.out) | (with_reducible refine Kd.C_alloc ?_ _) | (with_reducible refine Kd.C_drewN ?_ _) | (with_reducible refine Kd.C_drew ?_) | exact HR283_0.out)) 1 p284 q284; cases e284; (try simp only [show (1 : Int).toNat = 1 from rfl, Nat.reduceMul, Nat.reduceEqDiff, Go.Addr.add, ↓reduceIte] at hx284_0); have qi284 : (1 < (rd_L1 t261 (ji45)).length) = True := eq_true (by omega); (try rw [show ((1 : Int)).toNat = 1 from rfl] at hx284_0); replace p284 := eq_true p284; replace q284 := eq_true q284)); try go_wp2_with (first | (go_at_call 15; (with_reducible refine (impl_SquareQuotient.calls (rd (rd_L1 t261 x126_3) 0) (rd (rd_L1 t261 x126_3) 1) t277 true _ A41.out).mono ?_); rintro e w' ⟨rfl, ⟨nd, rfl⟩⟩; (try first | exact ⟨rfl, _, World.drewN_drewN _ _ _⟩ | exact ⟨rfl, _, Eq.trans (World.drewN_drewN _ _ _) (congrArg (World.drewN _) (Nat.add_assoc _ _ _))⟩); have p279 : 0 ≤ (0 : Int) := (by omega); have q279 : 0 < ((rd_L1 t261 x126_3).length : Int) := of_decide_eq_true (by first | (with_reducible assumption) | assumption); obtain ⟨ad279, e279, hx279_0⟩ := Kd.at_int (by repeat (first | (with_reducible exact HR274_0.out) | (with_reducible refine Kd.C_alloc ?_ _) | (with_reducible refine Kd.C_drewN ?_ _) | (with_reducible refine Kd.C_drew ?_) | exact HR274_0.out)) 0 p279 q279; obtain rfl : ad275 = ad279 := (by injection e279); have qi279 : (0 < (rd_L1 t261 x126_3).length) = True := eq_true (by omega); (try rw [show ((0 : Int)).toNat = 0 from rfl] at hx279_0); (try rw [Addr.add_zero'] at hx279_0); replace p279 := eq_true p279; replace q279 := eq_true q279; have p280 : 0 ≤ (1 : Int) := (by omega); have q280 : 1 < ((rd_L1 t261 x126_3).length : Int) := of_decide_eq_true (by first | (with_reducible assumption) | assumption); obtain ⟨ad280, e280, hx280_0⟩ := Kd.at_int (by repeat (first | (with_reducible exact HR274_0.out) | (with_reducible refine Kd.C_alloc ?_ _) | (with_reducible refine Kd.C_drewN ?_ _) | (with_reducible refine Kd.C_drew ?_) | exact HR274_0.out)) 1 p280 q280; obtain rfl : ad275 = ad280 := (by injection e280); (try simp only [show (1 : Int).toNat = 1 from rfl, Nat.reduceMul, Nat.reduceEqDiff, Go.Addr.add, ↓reduceIte] at hx280_0); have qi280 : (1 < (rd_L1 t261 x126_3).length) = True := eq_true (by omega); (try rw [show ((1 : Int)).toNat = 1 from rfl] at hx280_0); replace p280 := eq_true p280; replace q280 := eq_true q280; have p281 : 0 ≤ ((ji45) : Int) := of_decide_eq_true (by first | (with_reducible assumption) | assumption); have q281 : (ji45) < (t261.length : Int) := of_decide_eq_true (by first | (with_reducible assumption) | assumption); obtain ⟨ad281, A281_0, c281_0, e281, hx281_0, hl281_0, hi281_0⟩ := at_L1 (Kd.N_reads' HO_11.out).2.2 (ji45) p281 q281; obtain rfl : ad270 = ad281 := (by injection e281); obtain ⟨ce281, hce281, hMe281, hcc281⟩ := Kd.N_get HO_11.out [] (ji45) p281 (by first | exact q281 | exact of_decide_eq_true (by first | (with_reducible assumption) | assumption) | (have e_ := (Kd.N_reads' HO_11.out).1; omega)); obtain ⟨ua281_0, uc281_0, rfl, ul281_0, ge281_0⟩ := Kd.FK_slice_open hMe281; have hv281_0 := hcc281 0 _ rfl; rw [Nat.add_zero, show ((Kd.slice 3 (Kd.int .i64))).sz = 1 from rfl, Nat.mul_one] at hv281_0; replace hv281_0 := Option.some.inj (hv281_0.symm.trans hx281_0); injection hv281_0 with hva_ hvn_ hvc_; rw [hva_] at ge281_0; rw [hvc_] at ul281_0; have HL281_0 := Aside0.mk (show Kd.V (Kd.int .i64) 3 _ w.heap.size _ _ (rd_L1 t261 (ji45)) from Kd.V_mk ul281_0 ge281_0); clear hva_ hvn_ hvc_ ge281_0 ul281_0; clear hcc281 hce281; have HR281_0 := Aside0.mk hi281_0; have HC281_0 := Aside0.mk hl281_0; clear hi281_0 hl281_0; replace p281 := eq_true p281; replace q281 := eq_true q281; have p282 : 0 ≤ (0 : Int) := (by omega); have q282 : 0 < ((rd_L1 t261 (ji45)).length : Int) := of_decide_eq_true (by first | (with_reducible assumption) | assumption); obtain ⟨ad282, e282, hx282_0⟩ := Kd.at_int (by repeat (first | (with_reducible exact HR281_0.out) | (with_reducible refine Kd.C_alloc ?_ _) | (with_reducible refine Kd.C_drewN ?_ _) | (with_reducible refine Kd.C_drew ?_) | exact HR281_0.out)) 0 p282 q282; cases e282; have qi282 : (0 < (rd_L1 t261 (ji45)).length) = True := eq_true (by omega); (try rw [show ((0 : Int)).toNat = 0 from rfl] at hx282_0); (try rw [Addr.add_zero'] at hx282_0); replace p282 := eq_true p282; replace q282 := eq_true q282; have p283 : 0 ≤ ((ji45) : Int) := of_decide_eq_true (by first | (with_reducible assumption) | assumption); have q283 : (ji45) < (t261.length : Int) := of_decide_eq_true (by first | (with_reducible assumption) | assumption); obtain ⟨ad283, A283_0, c283_0, e283, hx283_0, hl283_0, hi283_0⟩ := at_L1 (Kd.N_reads' HO_11.out).2.2 (ji45) p283 q283; obtain rfl : ad270 = ad283 := (by injection e283); obtain ⟨ce283, hce283, hMe283, hcc283⟩ := Kd.N_get HO_11.out [] (ji45) p283 (by first | exact q283 | exact of_decide_eq_true (by first | (with_reducible assumption) | assumption) | (have e_ := (Kd.N_reads' HO_11.out).1; omega)); obtain ⟨ua283_0, uc283_0, rfl, ul283_0, ge283_0⟩ := Kd.FK_slice_open hMe283; have hv283_0 := hcc283 0 _ rfl; rw [Nat.add_zero, show ((Kd.slice 3 (Kd.int .i64))).sz = 1 from rfl, Nat.mul_one] at hv283_0; replace hv283_0 := Option.some.inj (hv283_0.symm.trans hx283_0); injection hv283_0 with hva_ hvn_ hvc_; rw [hva_] at ge283_0; rw [hvc_] at ul283_0; have HL283_0 := Aside0.mk (show Kd.V (Kd.int .i64) 3 _ w.heap.size _ _ (rd_L1 t261 (ji45)) from Kd.V_mk ul283_0 ge283_0); clear hva_ hvn_ hvc_ ge283_0 ul283_0; clear hcc283 hce283; have HR283_0 := Aside0.mk hi283_0; have HC283_0 := Aside0.mk hl283_0; clear hi283_0 hl283_0; replace p283 := eq_true p283; replace q283 := eq_true q283; have ea_ := Option.some.inj (hx281_0.symm.trans hx283_0); injection ea_ with ea_ en_ ec_; subst ea_; subst ec_; clear en_; have p284 : 0 ≤ (1 : Int) := (by omega); have q284 : 1 < ((rd_L1 t261 (ji45)).length : Int) := of_decide_eq_true (by first | (with_reducible assumption) | assumption); obtain ⟨ad284, e284, hx284_0⟩ := Kd.at_int (by repeat (first | (with_reducible exact HR283_0.out) | (with_reducible refine Kd.C_alloc ?_ _) | (with_reducible refine Kd.C_drewN ?_ _) | (with_reducible refine Kd.C_drew ?_) | exact HR283_0.out)) 1 p284 q284; cases e284; (try simp only [show (1 : Int).toNat = 1 from rfl, Nat.reduceMul, Nat.reduceEqDiff, Go.Addr.add, ↓reduceIte] at hx284_0); have qi284 : (1 < (rd_L1 t261 (ji45)).length) = True := eq_true (by omega); (try rw [show ((1 : Int)).toNat = 1 from rfl] at hx284_0); replace p284 := eq_true p284; replace q284 := eq_true q284)))
                                                            go_ret
                                                            exact ⟨by first | rfl | (simp [errW_none, errW_some] <;> rfl) | (simp only [← hji26, ← hji45]; first | rfl | (simp [errW_none, errW_some] <;> rfl)) | (simp [*, errW_none, errW_some] <;> rfl), by repeat (first | (with_reducible first | exact HB.out | apply below_alloc | apply pw_below_drewN | apply below_drew1) | exact HB.out | exact Below.refl _ _)⟩
                                                          · rw [if_neg c50] at H
                                                            have c50b0 : decide ((wrap64 ((rd (rd_L1 t261 (ji45)) 0) + (rd (rd_L1 t261 (ji45)) 1))) ≤ (wrap64 ((rd (rd_L1 t261 x126_3) 0) + (rd (rd_L1 t261 x126_3) 1)))) = false := decide_eq_false c50
                                                            clear c50
                                                            have H' := Aside0.mk H
                                                            clear H
                                                            have p274 : 0 ≤ (x126_3 : Int) := of_decide_eq_true (by first | (with_reducible assumption) | assumption)
                                                            have q274 : x126_3 < (t261.length : Int) := of_decide_eq_true (by first | (with_reducible assumption) | assumption)
                                                            obtain ⟨ad274, A274_0, c274_0, e274, hx274_0, hl274_0, hi274_0⟩ := at_L1 (Kd.N_reads' HO_124.out).2.2 x126_3 p274 q274
                                                            obtain rfl : ad270 = ad274 := (by injection e274)
                                                            obtain ⟨ce274, hce274, hMe274, hcc274⟩ := Kd.N_get HO_124.out [] x126_3 p274 (by first | exact q274 | exact of_decide_eq_true (by first | (with_reducible assumption) | assumption) | (have e_ := (Kd.N_reads' HO_124.out).1; omega))
                                                            obtain ⟨ua274_0, uc274_0, rfl, ul274_0, ge274_0⟩ := Kd.FK_slice_open hMe274
                                                            have hv274_0 := hcc274 0 _ rfl
                                                            rw [Nat.add_zero, show ((Kd.slice 3 (Kd.int .i64))).sz = 1 from rfl, Nat.mul_one] at hv274_0
                                                            replace hv274_0 := Option.some.inj (hv274_0.symm.trans hx274_0)
                                                            injection hv274_0 with hva_ hvn_ hvc_
                                                            rw [hva_] at ge274_0
                                                            rw [hvc_] at ul274_0
                                                            have HL274_0 := Aside0.mk (show Kd.V (Kd.int .i64) 3 _ w.heap.size _ _ (rd_L1 t261 x126_3) from Kd.V_mk ul274_0 ge274_0)
                                                            clear hva_ hvn_ hvc_ ge274_0 ul274_0
                                                            clear hcc274 hce274
                                                            have HR274_0 := Aside0.mk hi274_0
                                                            have HC274_0 := Aside0.mk hl274_0
                                                            clear hi274_0 hl274_0
                                                            replace p274 := eq_true p274
                                                            replace q274 := eq_true q274
                                                            have p275 : 0 ≤ (0 : Int) := (by omega)
                                                            have q275 : 0 < ((rd_L1 t261 x126_3).length : Int) := of_decide_eq_true (by first | (with_reducible assumption) | assumption)
                                                            obtain ⟨ad275, e275, hx275_0⟩ := Kd.at_int (by repeat (first | (with_reducible exact HR274_0.out) | (with_reducible refine Kd.C_alloc ?_ _) | (with_reducible refine Kd.C_drewN ?_ _) | (with_reducible refine Kd.C_drew ?_) | exact HR274_0.out)) 0 p275 q275
                                                            cases e275
                                                            have qi275 : (0 < (rd_L1 t261 x126_3).length) = True := eq_true (by omega)
                                                            (try rw [show ((0 : Int)).toNat = 0 from rfl] at hx275_0)
                                                            (try rw [Addr.add_zero'] at hx275_0)
                                                            replace p275 := eq_true p275
                                                            replace q275 := eq_true q275
                                                            have p276 : 0 ≤ (1 : Int) := (by omega)
                                                            have q276 : 1 < ((rd_L1 t261 x126_3).length : Int) := of_decide_eq_true (by first | (with_reducible assumption) | assumption)
                                                            obtain ⟨ad276, e276, hx276_0⟩ := Kd.at_int (by repeat (first | (with_reducible exact HR274_0.out) | (with_reducible refine Kd.C_alloc ?_ _) | (with_reducible refine Kd.C_drewN ?_ _) | (with_reducible refine Kd.C_drew ?_) | exact HR274_0.out)) 1 p276 q276
                                                            obtain rfl : ad275 = ad276 := (by injection e276)
                                                            (try simp only [show (1 : Int).toNat = 1 from rfl, Nat.reduceMul, Nat.reduceEqDiff, Go.Addr.add, ↓reduceIte] at hx276_0)
                                                            have qi276 : (1 < (rd_L1 t261 x126_3).length) = True := eq_true (by omega)
                                                            (try rw [show ((1 : Int)).toNat = 1 from rfl] at hx276_0)
                                                            replace p276 := eq_true p276
                                                            replace q276 := eq_true q276
                                                            go_wp2_with (first | (go_at_call 15; (with_reducible refine (impl_SquareQuotient.calls (rd (rd_L1 t261 x126_3) 0) (rd (rd_L1 t261 x126_3) 1) t277 true _ A41.out).mono ?_); rintro e w' ⟨rfl, ⟨nd, rfl⟩⟩; (try first | exact ⟨rfl, _, World.drewN_drewN _ _ _⟩ | exact ⟨rfl, _, Eq.trans (World.drewN_drewN _ _ _) (congrArg (World.drewN _) (Nat.add_assoc _ _ _))⟩); have p279 : 0 ≤ (0 : Int) := (by omega); have q279 : 0 < ((rd_L1 t261 x126_3).length : Int) := of_decide_eq_true (by first | (with_reducible assumption) | assumption); obtain ⟨ad279, e279, hx279_0⟩ := Kd.at_int (by repeat (first | (with_reducible exact HR274_0.out) | (with_reducible refine Kd.C_alloc ?_ _) | (with_reducible refine Kd.C_drewN ?_ _) | (with_reducible refine Kd.C_drew ?_) | exact HR274_0.out)) 0 p279 q279; obtain rfl : ad275 = ad279 := (by injection e279); have qi279 : (0 < (rd_L1 t261 x126_3).length) = True := eq_true (by omega); (try rw [show ((0 : Int)).toNat = 0 from rfl] at hx279_0); (try rw [Addr.add_zero'] at hx279_0); replace p279 := eq_true p279; replace q279 := eq_true q279; have p280 : 0 ≤ (1 : Int) := (by omega); have q280 : 1 < ((rd_L1 t261 x126_3).length : Int) := of_decide_eq_true (by first | (with_reducible assumption) | assumption); obtain ⟨ad280, e280, hx280_0⟩ := Kd.at_int (by repeat (first | (with_reducible exact HR274_0.out) | (with_reducible refine Kd.C_alloc ?_ _) | (with_reducible refine Kd.C_drewN ?_ _) | (with_reducible refine Kd.C_drew ?_) | exact HR274_0.out)) 1 p280 q280; obtain rfl : ad275 = ad280 := (by injection e280); (try simp only [show (1 : Int).toNat = 1 from rfl, Nat.reduceMul, Nat.reduceEqDiff, Go.Addr.add, ↓reduceIte] at hx280_0); have qi280 : (1 < (rd_L1 t261 x126_3).length) = True := eq_true (by omega); (try rw [show ((1 : Int)).toNat = 1 from rfl] at hx280_0); replace p280 := eq_true p280; replace q280 := eq_true q280; have p281 : 0 ≤ ((ji45) : Int) := of_decide_eq_true (by first | (with_reducible assumption) | assumption); have q281 : (ji45) < (t261.length : Int) := of_decide_eq_true (by first | (with_reducible assumption) | assumption); obtain ⟨ad281, A281_0, c281_0, e281, hx281_0, hl281_0, hi281_0⟩ := at_L1 (Kd.N_reads' HO_11.out).2.2 (ji45) p281 q281; obtain rfl : ad270 = ad281 := (by injection e281); obtain ⟨ce281, hce281, hMe281, hcc281⟩ := Kd.N_get HO_11.out [] (ji45) p281 (by first | exact q281 | exact of_decide_eq_true (by first | (with_reducible assumption) | assumption) | (have e_ := (Kd.N_reads' HO_11.out).1; omega)); obtain ⟨ua281_0, uc281_0, rfl, ul281_0, ge281_0⟩ := Kd.FK_slice_open hMe281; have hv281_0 := hcc281 0 _ rfl; rw [Nat.add_zero, show ((Kd.slice 3 (Kd.int .i64))).sz = 1 from rfl, Nat.mul_one] at hv281_0; replace hv281_0 := Option.some.inj (hv281_0.symm.trans hx281_0); injection hv281_0 with hva_ hvn_ hvc_; rw [hva_] at ge281_0; rw [hvc_] at ul281_0; have HL281_0 := Aside0.mk (show Kd.V (Kd.int .i64) 3 _ w.heap.size _ _ (rd_L1 t261 (ji45)) from Kd.V_mk ul281_0 ge281_0); clear hva_ hvn_ hvc_ ge281_0 ul281_0; clear hcc281 hce281; have HR281_0 := Aside0.mk hi281_0; have HC281_0 := Aside0.mk hl281_0; clear hi281_0 hl281_0; replace p281 := eq_true p281; replace q281 := eq_true q281; have p282 : 0 ≤ (0 : Int) := (by omega); have q282 : 0 < ((rd_L1 t261 (ji45)).length : Int) := of_decide_eq_true (by first | (with_reducible assumption) | assumption); obtain ⟨ad282, e282, hx282_0⟩ := Kd.at_int (by repeat (first | (with_reducible exact HR281_0.out) | (with_reducible refine Kd.C_alloc ?_ _) | (with_reducible refine Kd.C_drewN ?_ _) | (with_reducible refine Kd.C_drew ?_) | exact HR281_0.out)) 0 p282 q282; cases e282; have qi282 : (0 < (rd_L1 t261 (ji45)).length) = True := eq_true (by omega); (try rw [show ((0 : Int)).toNat = 0 from rfl] at hx282_0); (try rw [Addr.add_zero'] at hx282_0); replace p282 := eq_true p282; replace q282 := eq_true q282; have p283 : 0 ≤ ((ji45) : Int) := of_decide_eq_true (by first | (with_reducible assumption) | assumption); have q283 : (ji45) < (t261.length : Int) := of_decide_eq_true (by first | (with_reducible assumption) | assumption); obtain ⟨ad283, A283_0, c283_0, e283, hx283_0, hl283_0, hi283_0⟩ := at_L1 (Kd.N_reads' HO_11.out).2.2 (ji45) p283 q283; obtain rfl : ad270 = ad283 := (by injection e283); obtain ⟨ce283, hce283, hMe283, hcc283⟩ := Kd.N_get HO_11.out [] (ji45) p283 (by first | exact q283 | exact of_decide_eq_true (by first | (with_reducible assumption) | assumption) | (have e_ := (Kd.N_reads' HO_11.out).1; omega)); obtain ⟨ua283_0, uc283_0, rfl, ul283_0, ge283_0⟩ := Kd.FK_slice_open hMe283; have hv283_0 := hcc283 0 _ rfl; rw [Nat.add_zero, show ((Kd.slice 3 (Kd.int .i64))).sz = 1 from rfl, Nat.mul_one] at hv283_0; replace hv283_0 := Option.some.inj (hv283_0.symm.trans hx283_0); injection hv283_0 with hva_ hvn_ hvc_; rw [hva_] at ge283_0; rw [hvc_] at ul283_0; have HL283_0 := Aside0.mk (show Kd.V (Kd.int .i64) 3 _ w.heap.size _ _ (rd_L1 t261 (ji45)) from Kd.V_mk ul283_0 ge283_0); clear hva_ hvn_ hvc_ ge283_0 ul283_0; clear hcc283 hce283; have HR283_0 := Aside0.mk hi283_0; have HC283_0 := Aside0.mk hl283_0; clear hi283_0 hl283_0; replace p283 := eq_true p283; replace q283 := eq_true q283; have ea_ := Option.some.inj (hx281_0.symm.trans hx283_0); injection ea_ with ea_ en_ ec_; subst ea_; subst ec_; clear en_; have p284 : 0 ≤ (1 : Int) := (by omega); have q284 : 1 < ((rd_L1 t261 (ji45)).length : Int) := of_decide_eq_true (by first | (with_reducible assumption) | assumption); obtain ⟨ad284, e284, hx284_0⟩ := Kd.at_int (by repeat (first | (with_reducible exact HR283_0.out) | (with_reducible refine Kd.C_alloc ?_ _) | (with_reducible refine Kd.C_drewN ?_ _) | (with_reducible refine Kd.C_drew ?_) | exact HR283_0.out)) 1 p284 q284; cases e284; (try simp only [show (1 : Int).toNat = 1 from rfl, Nat.reduceMul, Nat.reduceEqDiff, Go.Addr.add, ↓reduceIte] at hx284_0); have qi284 : (1 < (rd_L1 t261 (ji45)).length) = True := eq_true (by omega); (try rw [show ((1 : Int)).toNat = 1 from rfl] at hx284_0); replace p284 := eq_true p284; replace q284 := eq_true q284))
                                                            repeat (go_quiet (first | (go_at_call 15; (with_reducible refine (impl_SquareQuotient.calls (rd (rd_L1 t261 x126_3) 0) (rd (rd_L1 t261 x126_3) 1) t277 true _ A41.out).mono ?_); rintro e w' ⟨rfl, ⟨nd, rfl⟩⟩; (try first | exact ⟨rfl, _, World.drewN_drewN _ _ _⟩ | exact ⟨rfl, _, Eq.trans (World.drewN_drewN _ _ _) (congrArg (World.drewN _) (Nat.add_assoc _ _ _))⟩); have p279 : 0 ≤ (0 : Int) := (by omega); have q279 : 0 < ((rd_L1 t261 x126_3).length : Int) := of_decide_eq_true (by first | (with_reducible assumption) | assumption); obtain ⟨ad279, e279, hx279_0⟩ := Kd.at_int (by repeat (first | (with_reducible exact HR274_0.out) | (with_reducible refine Kd.C_alloc ?_ _) | (with_reducible refine Kd.C_drewN ?_ _) | (with_reducible refine Kd.C_drew ?_) | exact HR274_0.out)) 0 p279 q279; obtain rfl : ad275 = ad279 := (by injection e279); have qi279 : (0 < (rd_L1 t261 x126_3).length) = True := eq_true (by omega); (try rw [show ((0 : Int)).toNat = 0 from rfl] at hx279_0); (try rw [Addr.add_zero'] at hx279_0); replace p279 := eq_true p279; replace q279 := eq_true q279; have p280 : 0 ≤ (1 : Int) := (by omega); have q280 : 1 < ((rd_L1 t261 x126_3).length : Int) := of_decide_eq_true (by first | (with_reducible assumption) | assumption); obtain ⟨ad280, e280, hx280_0⟩ := Kd.at_int (by repeat (first | (with_reducible exact HR274_0.out) | (with_reducible refine Kd.C_alloc ?_ _) | (with_reducible refine Kd.C_drewN ?_ _) | (with_reducible refine Kd.C_drew ?_) | exact HR274_0.out)) 1 p280 q280; obtain rfl : ad275 = ad280 := (by injection e280); (try simp only [show (1 : Int).toNat = 1 from rfl, Nat.reduceMul, Nat.reduceEqDiff, Go.Addr.add, ↓reduceIte] at hx280_0); have qi280 : (1 < (rd_L1 t261 x126_3).length) = True := eq_true (by omega); (try rw [show ((1 : Int)).toNat = 1 from rfl] at hx280_0); replace p280 := eq_true p280; replace q280 := eq_true q280; have p281 : 0 ≤ ((ji45) : Int) := of_decide_eq_true (by first | (with_reducible assumption) | assumption); have q281 : (ji45) < (t261.length : Int) := of_decide_eq_true (by first | (with_reducible assumption) | assumption); obtain ⟨ad281, A281_0, c281_0, e281, hx281_0, hl281_0, hi281_0⟩ := at_L1 (Kd.N_reads' HO_11.out).2.2 (ji45) p281 q281; obtain rfl : ad270 = ad281 := (by injection e281); obtain ⟨ce281, hce281, hMe281, hcc281⟩ := Kd.N_get HO_11.out [] (ji45) p281 (by first | exact q281 | exact of_decide_eq_true (by first | (with_reducible assumption) | assumption) | (have e_ := (Kd.N_reads' HO_11.out).1; omega)); obtain ⟨ua281_0, uc281_0, rfl, ul281_0, ge281_0⟩ := Kd.FK_slice_open hMe281; have hv281_0 := hcc281 0 _ rfl; rw [Nat.add_zero, show ((Kd.slice 3 (Kd.int .i64))).sz = 1 from rfl, Nat.mul_one] at hv281_0; replace hv281_0 := Option.some.inj (hv281_0.symm.trans hx281_0); injection hv281_0 with hva_ hvn_ hvc_; rw [hva_] at ge281_0; rw [hvc_] at ul281_0; have HL281_0 := Aside0.mk (show Kd.V (Kd.int .i64) 3 _ w.heap.size _ _ (rd_L1 t261 (ji45)) from Kd.V_mk ul281_0 ge281_0); clear hva_ hvn_ hvc_ ge281_0 ul281_0; clear hcc281 hce281; have HR281_0 := Aside0.mk hi281_0; have HC281_0 := Aside0.mk hl281_0; clear hi281_0 hl281_0; replace p281 := eq_true p281; replace q281 := eq_true q281; have p282 : 0 ≤ (0 : Int) := (by omega); have q282 : 0 < ((rd_L1 t261 (ji45)).length : Int) := of_decide_eq_true (by first | (with_reducible assumption) | assumption); obtain ⟨ad282, e282, hx282_0⟩ := Kd.at_int (by repeat (first | (with_reducible exact HR281_0.out) | (with_reducible refine Kd.C_alloc ?_ _) | (with_reducible refine Kd.C_drewN ?_ _) | (with_reducible refine Kd.C_drew ?_) | exact HR281_0.out)) 0 p282 q282; cases e282; have qi282 : (0 < (rd_L1 t261 (ji45)).length) = True := eq_true (by omega); (try rw [show ((0 : Int)).toNat = 0 from rfl] at hx282_0); (try rw [Addr.add_zero'] at hx282_0); replace p282 := eq_true p282; replace q282 := eq_true q282; have p283 : 0 ≤ ((ji45) : Int) := of_decide_eq_true (by first | (with_reducible assumption) | assumption); have q283 : (ji45) < (t261.length : Int) := of_decide_eq_true (by first | (with_reducible assumption) | assumption); obtain ⟨ad283, A283_0, c283_0, e283, hx283_0, hl283_0, hi283_0⟩ := at_L1 (Kd.N_reads' HO_11.out).2.2 (ji45) p283 q283; obtain rfl : ad270 = ad283 := (by injection e283); obtain ⟨ce283, hce283, hMe283, hcc283⟩ := Kd.N_get HO_11.out [] (ji45) p283 (by first | exact q283 | exact of_decide_eq_true (by first | (with_reducible assumption) | assumption) | (have e_ := (Kd.N_reads' HO_11.out).1; omega)); obtain ⟨ua283_0, uc283_0, rfl, ul283_0, ge283_0⟩ := Kd.FK_slice_open hMe283; have hv283_0 := hcc283 0 _ rfl; rw [Nat.add_zero, show ((Kd.slice 3 (Kd.int .i64))).sz = 1 from rfl, Nat.mul_one] at hv283_0; replace hv283_0 := Option.some.inj (hv283_0.symm.trans hx283_0); injection hv283_0 with hva_ hvn_ hvc_; rw [hva_] at ge283_0; rw [hvc_] at ul283_0; have HL283_0 := Aside0.mk (show Kd.V (Kd.int .i64) 3 _ w.heap.size _ _ (rd_L1 t261 (ji45)) from Kd.V_mk ul283_0 ge283_0); clear hva_ hvn_ hvc_ ge283_0 ul283_0; clear hcc283 hce283; have HR283_0 := Aside0.mk hi283_0; have HC283_0 := Aside0.mk hl283_0; clear hi283_0 hl283_0; replace p283 := eq_true p283; replace q283 := eq_true q283; have ea_ := Option.some.inj (hx281_0.symm.trans hx283_0); injection ea_ with ea_ en_ ec_; subst ea_; subst ec_; clear en_; have p284 : 0 ≤ (1 : Int) := (by omega); have q284 : 1 < ((rd_L1 t261 (ji45)).length : Int) := of_decide_eq_true (by first | (with_reducible assumption) | assumption); obtain ⟨ad284, e284, hx284_0⟩ := Kd.at_int (by repeat (first | (with_reducible exact HR283_0.out) | (with_reducible refine Kd.C_alloc ?_ _) | (with_reducible refine Kd.C_drewN ?_ _) | (with_reducible refine Kd.C_drew ?_) | exact HR283_0.out)) 1 p284 q284; cases e284; (try simp only [show (1 : Int).toNat = 1 from rfl, Nat.reduceMul, Nat.reduceEqDiff, Go.Addr.add, ↓reduceIte] at hx284_0); have qi284 : (1 < (rd_L1 t261 (ji45)).length) = True := eq_true (by omega); (try rw [show ((1 : Int)).toNat = 1 from rfl] at hx284_0); replace p284 := eq_true p284; replace q284 := eq_true q284)); try go_wp2_with (first | (go_at_call 15; (with_reducible refine (impl_SquareQuotient.calls (rd (rd_L1 t261 x126_3) 0) (rd (rd_L1 t261 x126_3) 1) t277 true _ A41.out).mono ?_); rintro e w' ⟨rfl, ⟨nd, rfl⟩⟩; (try first | exact ⟨rfl, _, World.drewN_drewN _ _ _⟩ | exact ⟨rfl, _, Eq.trans (World.drewN_drewN _ _ _) (congrArg (World.drewN _) (Nat.add_assoc _ _ _))⟩); have p279 : 0 ≤ (0 : Int) := (by omega); have q279 : 0 < ((rd_L1 t261 x126_3).length : Int) := of_decide_eq_true (by first | (with_reducible assumption) | assumption); obtain ⟨ad279, e279, hx279_0⟩ := Kd.at_int (by repeat (first | (with_reducible exact HR274_0.out) | (with_reducible refine Kd.C_alloc ?_ _) | (with_reducible refine Kd.C_drewN ?_ _) | (with_reducible refine Kd.C_drew ?_) | exact HR274_0.out)) 0 p279 q279; obtain rfl : ad275 = ad279 := (by injection e279); have qi279 : (0 < (rd_L1 t261 x126_3).length) = True := eq_true (by omega); (try rw [show ((0 : Int)).toNat = 0 from rfl] at hx279_0); (try rw [Addr.add_zero'] at hx279_0); replace p279 := eq_true p279; replace q279 := eq_true q279; have p280 : 0 ≤ (1 : Int) := (by omega); have q280 : 1 < ((rd_L1 t261 x126_3).length : Int) := of_decide_eq_true (by first | (with_reducible assumption) | assumption); obtain ⟨ad280, e280, hx280_0⟩ := Kd.at_int (by repeat (first | (with_reducible exact HR274_0.out) | (with_reducible refine Kd.C_alloc ?_ _) | (with_reducible refine Kd.C_drewN ?_ _) | (with_reducible refine Kd.C_drew ?_) | exact HR274_0.out)) 1 p280 q280; obtain rfl : ad275 = ad280 := (by injection e280); (try simp only [show (1 : Int).toNat = 1 from rfl, Nat.reduceMul, Nat.reduceEqDiff, Go.Addr.add, ↓reduceIte] at hx280_0); have qi280 : (1 < (rd_L1 t261 x126_3).length) = True := eq_true (by omega); (try rw [show ((1 : Int)).toNat = 1 from rfl] at hx280_0); replace p280 := eq_true p280; replace q280 := eq_true q280; have p281 : 0 ≤ ((ji45) : Int) := of_decide_eq_true (by first | (with_reducible assumption) | assumption); have q281 : (ji45) < (t261.length : Int) := of_decide_eq_true (by first | (with_reducible assumption) | assumption); obtain ⟨ad281, A281_0, c281_0, e281, hx281_0, hl281_0, hi281_0⟩ := at_L1 (Kd.N_reads' HO_11.out).2.2 (ji45) p281 q281; obtain rfl : ad270 = ad281 := (by injection e281); obtain ⟨ce281, hce281, hMe281, hcc281⟩ := Kd.N_get HO_11.out [] (ji45) p281 (by first | exact q281 | exact of_decide_eq_true (by first | (with_reducible assumption) | assumption) | (have e_ := (Kd.N_reads' HO_11.out).1; omega)); obtain ⟨ua281_0, uc281_0, rfl, ul281_0, ge281_0⟩ := Kd.FK_slice_open hMe281; have hv281_0 := hcc281 0 _ rfl; rw [Nat.add_zero, show ((Kd.slice 3 (Kd.int .i64))).sz = 1 from rfl, Nat.mul_one] at hv281_0; replace hv281_0 := Option.some.inj (hv281_0.symm.trans hx281_0); injection hv281_0 with hva_ hvn_ hvc_; rw [hva_] at ge281_0; rw [hvc_] at ul281_0; have HL281_0 := Aside0.mk (show Kd.V (Kd.int .i64) 3 _ w.heap.size _ _ (rd_L1 t261 (ji45)) from Kd.V_mk ul281_0 ge281_0); clear hva_ hvn_ hvc_ ge281_0 ul281_0; clear hcc281 hce281; have HR281_0 := Aside0.mk hi281_0; have HC281_0 := Aside0.mk hl281_0; clear hi281_0 hl281_0; replace p281 := eq_true p281; replace q281 := eq_true q281; have p282 : 0 ≤ (0 : Int) := (by omega); have q282 : 0 < ((rd_L1 t261 (ji45)).length : Int) := of_decide_eq_true (by first | (with_reducible assumption) | assumption); obtain ⟨ad282, e282, hx282_0⟩ := Kd.at_int (by repeat (first | (with_reducible exact HR281_0.out) | (with_reducible refine Kd.C_alloc ?_ _) | (with_reducible refine Kd.C_drewN ?_ _) | (with_reducible refine Kd.C_drew ?_) | exact HR281_0.out)) 0 p282 q282; cases e282; have qi282 : (0 < (rd_L1 t261 (ji45)).length) = True := eq_true (by omega); (try rw [show ((0 : Int)).toNat = 0 from rfl] at hx282_0); (try rw [Addr.add_zero'] at hx282_0); replace p282 := eq_true p282; replace q282 := eq_true q282; have p283 : 0 ≤ ((ji45) : Int) := of_decide_eq_true (by first | (with_reducible assumption) | assumption); have q283 : (ji45) < (t261.length : Int) := of_decide_eq_true (by first | (with_reducible assumption) | assumption); obtain ⟨ad283, A283_0, c283_0, e283, hx283_0, hl283_0, hi283_0⟩ := at_L1 (Kd.N_reads' HO_11.out).2.2 (ji45) p283 q283; obtain rfl : ad270 = ad283 := (by injection e283); obtain ⟨ce283, hce283, hMe283, hcc283⟩ := Kd.N_get HO_11.out [] (ji45) p283 (by first | exact q283 | exact of_decide_eq_true (by first | (with_reducible assumption) | assumption) | (have e_ := (Kd.N_reads' HO_11.out).1; omega)); obtain ⟨ua283_0, uc283_0, rfl, ul283_0, ge283_0⟩ := Kd.FK_slice_open hMe283; have hv283_0 := hcc283 0 _ rfl; rw [Nat.add_zero, show ((Kd.slice 3 (Kd.int .i64))).sz = 1 from rfl, Nat.mul_one] at hv283_0; replace hv283_0 := Option.some.inj (hv283_0.symm.trans hx283_0); injection hv283_0 with hva_ hvn_ hvc_; rw [hva_] at ge283_0; rw [hvc_] at ul283_0; have HL283_0 := Aside0.mk (show Kd.V (Kd.int .i64) 3 _ w.heap.size _ _ (rd_L1 t261 (ji45)) from Kd.V_mk ul283_0 ge283_0); clear hva_ hvn_ hvc_ ge283_0 ul283_0; clear hcc283 hce283; have HR283_0 := Aside0.mk hi283_0; have HC283_0 := Aside0.mk hl283_0; clear hi283_0 hl283_0; replace p283 := eq_true p283; replace q283 := eq_true q283; have ea_ := Option.some.inj (hx281_0.symm.trans hx283_0); injection ea_ with ea_ en_ ec_; subst ea_; subst ec_; clear en_; have p284 : 0 ≤ (1 : Int) := (by omega); have q284 : 1 < ((rd_L1 t261 (ji45)).length : Int) := of_decide_eq_true (by first | (with_reducible assumption) | assumption); obtain ⟨ad284, e284, hx284_0⟩ := Kd.at_int (by repeat (first | (with_reducible exact HR283_0.out) | (with_reducible refine Kd.C_alloc ?_ _) | (with_reducible refine Kd.C_drewN ?_ _) | (with_reducible refine Kd.C_drew ?_) | exact HR283_0.out)) 1 p284 q284; cases e284; (try simp only [show (1 : Int).toNat = 1 from rfl, Nat.reduceMul, Nat.reduceEqDiff, Go.Addr.add, ↓reduceIte] at hx284_0); have qi284 : (1 < (rd_L1 t261 (ji45)).length) = True := eq_true (by omega); (try rw [show ((1 : Int)).toNat = 1 from rfl] at hx284_0); replace p284 := eq_true p284; replace q284 := eq_true q284)))
                                                            go_roundg k3
                                                            case measure => have := HJ9.out; have := HJ28.out; have := HK3.out; omega
                                                            case rel => exact ⟨(wrap64 (x126_3 + 1)), (by first | rfl | (simp; done) | (simp [*]; done)), H', ⟨by have := HJ9.out; have := HJ28.out; have := HK3.out; omega⟩, ⟨by (with_reducible repeat (first | apply Kd.N_alloc | apply Kd.N_drewN | apply Kd.N_drew)); exact HO_11.out⟩, ⟨by (with_reducible repeat (first | apply Kd.N_alloc | apply Kd.N_drewN | apply Kd.N_drew)); exact HO_124.out⟩, ⟨by repeat (first | (with_reducible exact HR270_0.out) | (with_reducible refine Kd.C_alloc ?_ _) | (with_reducible refine Kd.C_drewN ?_ _) | (with_reducible refine Kd.C_drew ?_) | exact HR270_0.out)⟩, ⟨by repeat (first | (with_reducible first | exact HB.out | apply below_alloc | apply pw_below_drewN | apply below_drew1) | exact HB.out | exact Below.refl _ _)⟩⟩
                                                        · rw [if_neg c49] at H
                                                          exact absurd H (by simp)
                                                      · rw [if_neg c48] at H
                                                        exact absurd H (by simp)
                                                    · rw [if_neg c47] at H
                                                      exact absurd H (by simp)
                                                  · rw [if_neg c46] at H
                                                    exact absurd H (by simp)
                                                · rw [if_neg c44] at H
                                                  have c44b0 : decide (0 < x126_3) = false := decide_eq_false c44
                                                  clear c44
                                                  have H' := Aside0.mk H
                                                  clear H
                                                  have p274 : 0 ≤ (x126_3 : Int) := of_decide_eq_true (by first | (with_reducible assumption) | assumption)
                                                  have q274 : x126_3 < (t261.length : Int) := of_decide_eq_true (by first | (with_reducible assumption) | assumption)
                                                  obtain ⟨ad274, A274_0, c274_0, e274, hx274_0, hl274_0, hi274_0⟩ := at_L1 (Kd.N_reads' HO_124.out).2.2 x126_3 p274 q274
                                                  obtain rfl : ad270 = ad274 := (by injection e274)
                                                  obtain ⟨ce274, hce274, hMe274, hcc274⟩ := Kd.N_get HO_124.out [] x126_3 p274 (by first | exact q274 | exact of_decide_eq_true (by first | (with_reducible assumption) | assumption) | (have e_ := (Kd.N_reads' HO_124.out).1; omega))
                                                  obtain ⟨ua274_0, uc274_0, rfl, ul274_0, ge274_0⟩ := Kd.FK_slice_open hMe274
                                                  have hv274_0 := hcc274 0 _ rfl
                                                  rw [Nat.add_zero, show ((Kd.slice 3 (Kd.int .i64))).sz = 1 from rfl, Nat.mul_one] at hv274_0
                                                  replace hv274_0 := Option.some.inj (hv274_0.symm.trans hx274_0)
                                                  injection hv274_0 with hva_ hvn_ hvc_
                                                  rw [hva_] at ge274_0
                                                  rw [hvc_] at ul274_0
                                                  have HL274_0 := Aside0.mk (show Kd.V (Kd.int .i64) 3 _ w.heap.size _ _ (rd_L1 t261 x126_3) from Kd.V_mk ul274_0 ge274_0)
                                                  clear hva_ hvn_ hvc_ ge274_0 ul274_0
                                                  clear hcc274 hce274
                                                  have HR274_0 := Aside0.mk hi274_0
                                                  have HC274_0 := Aside0.mk hl274_0
                                                  clear hi274_0 hl274_0
                                                  replace p274 := eq_true p274
                                                  replace q274 := eq_true q274
                                                  have p275 : 0 ≤ (0 : Int) := (by omega)
                                                  have q275 : 0 < ((rd_L1 t261 x126_3).length : Int) := of_decide_eq_true (by first | (with_reducible assumption) | assumption)
                                                  obtain ⟨ad275, e275, hx275_0⟩ := Kd.at_int (by repeat (first | (with_reducible exact HR274_0.out) | (with_reducible refine Kd.C_alloc ?_ _) | (with_reducible refine Kd.C_drewN ?_ _) | (with_reducible refine Kd.C_drew ?_) | exact HR274_0.out)) 0 p275 q275
                                                  cases e275
                                                  have qi275 : (0 < (rd_L1 t261 x126_3).length) = True := eq_true (by omega)
                                                  (try rw [show ((0 : Int)).toNat = 0 from rfl] at hx275_0)
                                                  (try rw [Addr.add_zero'] at hx275_0)
                                                  replace p275 := eq_true p275
                                                  replace q275 := eq_true q275
                                                  have p276 : 0 ≤ (1 : Int) := (by omega)
                                                  have q276 : 1 < ((rd_L1 t261 x126_3).length : Int) := of_decide_eq_true (by first | (with_reducible assumption) | assumption)
                                                  obtain ⟨ad276, e276, hx276_0⟩ := Kd.at_int (by repeat (first | (with_reducible exact HR274_0.out) | (with_reducible refine Kd.C_alloc ?_ _) | (with_reducible refine Kd.C_drewN ?_ _) | (with_reducible refine Kd.C_drew ?_) | exact HR274_0.out)) 1 p276 q276
                                                  obtain rfl : ad275 = ad276 := (by injection e276)
                                                  (try simp only [show (1 : Int).toNat = 1 from rfl, Nat.reduceMul, Nat.reduceEqDiff, Go.Addr.add, ↓reduceIte] at hx276_0)
                                                  have qi276 : (1 < (rd_L1 t261 x126_3).length) = True := eq_true (by omega)
                                                  (try rw [show ((1 : Int)).toNat = 1 from rfl] at hx276_0)
                                                  replace p276 := eq_true p276
                                                  replace q276 := eq_true q276
                                                  go_wp2_with (first | (go_at_call 15; (with_reducible refine (impl_SquareQuotient.calls (rd (rd_L1 t261 x126_3) 0) (rd (rd_L1 t261 x126_3) 1) t277 true _ A41.out).mono ?_); rintro e w' ⟨rfl, ⟨nd, rfl⟩⟩; (try first | exact ⟨rfl, _, World.drewN_drewN _ _ _⟩ | exact ⟨rfl, _, Eq.trans (World.drewN_drewN _ _ _) (congrArg (World.drewN _) (Nat.add_assoc _ _ _))⟩)))
                                                  repeat (go_quiet (first | (go_at_call 15; (with_reducible refine (impl_SquareQuotient.calls (rd (rd_L1 t261 x126_3) 0) (rd (rd_L1 t261 x126_3) 1) t277 true _ A41.out).mono ?_); rintro e w' ⟨rfl, ⟨nd, rfl⟩⟩; (try first | exact ⟨rfl, _, World.drewN_drewN _ _ _⟩ | exact ⟨rfl, _, Eq.trans (World.drewN_drewN _ _ _) (congrArg (World.drewN _) (Nat.add_assoc _ _ _))⟩))); try go_wp2_with (first | (go_at_call 15; (with_reducible refine (impl_SquareQuotient.calls (rd (rd_L1 t261 x126_3) 0) (rd (rd_L1 t261 x126_3) 1) t277 true _ A41.out).mono ?_); rintro e w' ⟨rfl, ⟨nd, rfl⟩⟩; (try first | exact ⟨rfl, _, World.drewN_drewN _ _ _⟩ | exact ⟨rfl, _, Eq.trans (World.drewN_drewN _ _ _) (congrArg (World.drewN _) (Nat.add_assoc _ _ _))⟩))))
                                                  go_roundg k3
                                                  case measure => have := HJ9.out; have := HJ28.out; have := HK3.out; omega
                                                  case rel => exact ⟨(wrap64 (x126_3 + 1)), (by first | rfl | (simp; done) | (simp [*]; done)), H', ⟨by have := HJ9.out; have := HJ28.out; have := HK3.out; omega⟩, ⟨by (with_reducible repeat (first | apply Kd.N_alloc | apply Kd.N_drewN | apply Kd.N_drew)); exact HO_11.out⟩, ⟨by (with_reducible repeat (first | apply Kd.N_alloc | apply Kd.N_drewN | apply Kd.N_drew)); exact HO_124.out⟩, ⟨by repeat (first | (with_reducible exact HR270_0.out) | (with_reducible refine Kd.C_alloc ?_ _) | (with_reducible refine Kd.C_drewN ?_ _) | (with_reducible refine Kd.C_drew ?_) | exact HR270_0.out)⟩, ⟨by repeat (first | (with_reducible first | exact HB.out | apply below_alloc | apply pw_below_drewN | apply below_drew1) | exact HB.out | exact Below.refl _ _)⟩⟩
                                              · rw [if_neg c43] at H
                                                have c43b0 : (t277 == t257) = false := beq_eq_false_iff_ne.mpr c43
                                                have c43b1 : (t277 != t257) = true := bne_iff_ne.mpr c43
                                                obtain rfl := Option.some.inj H
                                                have p274 : 0 ≤ (x126_3 : Int) := of_decide_eq_true (by first | (with_reducible assumption) | assumption)
                                                have q274 : x126_3 < (t261.length : Int) := of_decide_eq_true (by first | (with_reducible assumption) | assumption)
                                                obtain ⟨ad274, A274_0, c274_0, e274, hx274_0, hl274_0, hi274_0⟩ := at_L1 (Kd.N_reads' HO_124.out).2.2 x126_3 p274 q274
                                                obtain rfl : ad270 = ad274 := (by injection e274)
                                                obtain ⟨ce274, hce274, hMe274, hcc274⟩ := Kd.N_get HO_124.out [] x126_3 p274 (by first | exact q274 | exact of_decide_eq_true (by first | (with_reducible assumption) | assumption) | (have e_ := (Kd.N_reads' HO_124.out).1; omega))
                                                obtain ⟨ua274_0, uc274_0, rfl, ul274_0, ge274_0⟩ := Kd.FK_slice_open hMe274
                                                have hv274_0 := hcc274 0 _ rfl
                                                rw [Nat.add_zero, show ((Kd.slice 3 (Kd.int .i64))).sz = 1 from rfl, Nat.mul_one] at hv274_0
                                                replace hv274_0 := Option.some.inj (hv274_0.symm.trans hx274_0)
                                                injection hv274_0 with hva_ hvn_ hvc_
                                                rw [hva_] at ge274_0
                                                rw [hvc_] at ul274_0
                                                have HL274_0 := Aside0.mk (show Kd.V (Kd.int .i64) 3 _ w.heap.size _ _ (rd_L1 t261 x126_3) from Kd.V_mk ul274_0 ge274_0)
                                                clear hva_ hvn_ hvc_ ge274_0 ul274_0
                                                clear hcc274 hce274
                                                have HR274_0 := Aside0.mk hi274_0
                                                have HC274_0 := Aside0.mk hl274_0
                                                clear hi274_0 hl274_0
                                                replace p274 := eq_true p274
                                                replace q274 := eq_true q274
                                                have p275 : 0 ≤ (0 : Int) := (by omega)
                                                have q275 : 0 < ((rd_L1 t261 x126_3).length : Int) := of_decide_eq_true (by first | (with_reducible assumption) | assumption)
                                                obtain ⟨ad275, e275, hx275_0⟩ := Kd.at_int (by repeat (first | (with_reducible exact HR274_0.out) | (with_reducible refine Kd.C_alloc ?_ _) | (with_reducible refine Kd.C_drewN ?_ _) | (with_reducible refine Kd.C_drew ?_) | exact HR274_0.out)) 0 p275 q275
                                                cases e275
                                                have qi275 : (0 < (rd_L1 t261 x126_3).length) = True := eq_true (by omega)
                                                (try rw [show ((0 : Int)).toNat = 0 from rfl] at hx275_0)
                                                (try rw [Addr.add_zero'] at hx275_0)
                                                replace p275 := eq_true p275
                                                replace q275 := eq_true q275
                                                have p276 : 0 ≤ (1 : Int) := (by omega)
                                                have q276 : 1 < ((rd_L1 t261 x126_3).length : Int) := of_decide_eq_true (by first | (with_reducible assumption) | assumption)
                                                obtain ⟨ad276, e276, hx276_0⟩ := Kd.at_int (by repeat (first | (with_reducible exact HR274_0.out) | (with_reducible refine Kd.C_alloc ?_ _) | (with_reducible refine Kd.C_drewN ?_ _) | (with_reducible refine Kd.C_drew ?_) | exact HR274_0.out)) 1 p276 q276
                                                obtain rfl : ad275 = ad276 := (by injection e276)
                                                (try simp only [show (1 : Int).toNat = 1 from rfl, Nat.reduceMul, Nat.reduceEqDiff, Go.Addr.add, ↓reduceIte] at hx276_0)
                                                have qi276 : (1 < (rd_L1 t261 x126_3).length) = True := eq_true (by omega)
                                                (try rw [show ((1 : Int)).toNat = 1 from rfl] at hx276_0)
                                                replace p276 := eq_true p276
                                                replace q276 := eq_true q276
                                                go_wp2_with (first | (go_at_call 15; (with_reducible refine (impl_SquareQuotient.calls (rd (rd_L1 t261 x126_3) 0) (rd (rd_L1 t261 x126_3) 1) t277 true _ A41.out).mono ?_); rintro e w' ⟨rfl, ⟨nd, rfl⟩⟩; (try first | exact ⟨rfl, _, World.drewN_drewN _ _ _⟩ | exact ⟨rfl, _, Eq.trans (World.drewN_drewN _ _ _) (congrArg (World.drewN _) (Nat.add_assoc _ _ _))⟩)))
                                                repeat (go_quiet (first | (go_at_call 15; (with_reducible refine (impl_SquareQuotient.calls (rd (rd_L1 t261 x126_3) 0) (rd (rd_L1 t261 x126_3) 1) t277 true _ A41.out).mono ?_); rintro e w' ⟨rfl, ⟨nd, rfl⟩⟩; (try first | exact ⟨rfl, _, World.drewN_drewN _ _ _⟩ | exact ⟨rfl, _, Eq.trans (World.drewN_drewN _ _ _) (congrArg (World.drewN _) (Nat.add_assoc _ _ _))⟩))); try go_wp2_with (first | (go_at_call 15; (with_reducible refine (impl_SquareQuotient.calls (rd (rd_L1 t261 x126_3) 0) (rd (rd_L1 t261 x126_3) 1) t277 true _ A41.out).mono ?_); rintro e w' ⟨rfl, ⟨nd, rfl⟩⟩; (try first | exact ⟨rfl, _, World.drewN_drewN _ _ _⟩ | exact ⟨rfl, _, Eq.trans (World.drewN_drewN _ _ _) (congrArg (World.drewN _) (Nat.add_assoc _ _ _))⟩))))
                                                go_ret
                                                exact ⟨by first | rfl | (simp [errW_none, errW_some] <;> rfl) | (simp only [← hji26]; first | rfl | (simp [errW_none, errW_some] <;> rfl)) | (simp [*, errW_none, errW_some] <;> rfl), by repeat (first | (with_reducible first | exact HB.out | apply below_alloc | apply pw_below_drewN | apply below_drew1) | exact HB.out | exact Below.refl _ _)⟩
                                            · replace c42 := Bool.eq_false_iff.mpr c42
                                              subst c42
                                              have H1 : (some false) = some r := by rw [if_neg (show ¬ (false = true) by decide)] at H; exact H
                                              clear H
                                              have H := H1
                                              clear H1
                                              obtain rfl := Option.some.inj H
                                              have p274 : 0 ≤ (x126_3 : Int) := of_decide_eq_true (by first | (with_reducible assumption) | assumption)
                                              have q274 : x126_3 < (t261.length : Int) := of_decide_eq_true (by first | (with_reducible assumption) | assumption)
                                              obtain ⟨ad274, A274_0, c274_0, e274, hx274_0, hl274_0, hi274_0⟩ := at_L1 (Kd.N_reads' HO_124.out).2.2 x126_3 p274 q274
                                              obtain rfl : ad270 = ad274 := (by injection e274)
                                              obtain ⟨ce274, hce274, hMe274, hcc274⟩ := Kd.N_get HO_124.out [] x126_3 p274 (by first | exact q274 | exact of_decide_eq_true (by first | (with_reducible assumption) | assumption) | (have e_ := (Kd.N_reads' HO_124.out).1; omega))
                                              obtain ⟨ua274_0, uc274_0, rfl, ul274_0, ge274_0⟩ := Kd.FK_slice_open hMe274
                                              have hv274_0 := hcc274 0 _ rfl
                                              rw [Nat.add_zero, show ((Kd.slice 3 (Kd.int .i64))).sz = 1 from rfl, Nat.mul_one] at hv274_0
                                              replace hv274_0 := Option.some.inj (hv274_0.symm.trans hx274_0)
                                              injection hv274_0 with hva_ hvn_ hvc_
                                              rw [hva_] at ge274_0
                                              rw [hvc_] at ul274_0
                                              have HL274_0 := Aside0.mk (show Kd.V (Kd.int .i64) 3 _ w.heap.size _ _ (rd_L1 t261 x126_3) from Kd.V_mk ul274_0 ge274_0)
                                              clear hva_ hvn_ hvc_ ge274_0 ul274_0
                                              clear hcc274 hce274
                                              have HR274_0 := Aside0.mk hi274_0
                                              have HC274_0 := Aside0.mk hl274_0
                                              clear hi274_0 hl274_0
                                              replace p274 := eq_true p274
                                              replace q274 := eq_true q274
                                              have p275 : 0 ≤ (0 : Int) := (by omega)
                                              have q275 : 0 < ((rd_L1 t261 x126_3).length : Int) := of_decide_eq_true (by first | (with_reducible assumption) | assumption)
                                              obtain ⟨ad275, e275, hx275_0⟩ := Kd.at_int (by repeat (first | (with_reducible exact HR274_0.out) | (with_reducible refine Kd.C_alloc ?_ _) | (with_reducible refine Kd.C_drewN ?_ _) | (with_reducible refine Kd.C_drew ?_) | exact HR274_0.out)) 0 p275 q275
                                              cases e275
                                              have qi275 : (0 < (rd_L1 t261 x126_3).length) = True := eq_true (by omega)
                                              (try rw [show ((0 : Int)).toNat = 0 from rfl] at hx275_0)
                                              (try rw [Addr.add_zero'] at hx275_0)
                                              replace p275 := eq_true p275
                                              replace q275 := eq_true q275
                                              have p276 : 0 ≤ (1 : Int) := (by omega)
                                              have q276 : 1 < ((rd_L1 t261 x126_3).length : Int) := of_decide_eq_true (by first | (with_reducible assumption) | assumption)
                                              obtain ⟨ad276, e276, hx276_0⟩ := Kd.at_int (by repeat (first | (with_reducible exact HR274_0.out) | (with_reducible refine Kd.C_alloc ?_ _) | (with_reducible refine Kd.C_drewN ?_ _) | (with_reducible refine Kd.C_drew ?_) | exact HR274_0.out)) 1 p276 q276
                                              obtain rfl : ad275 = ad276 := (by injection e276)
                                              (try simp only [show (1 : Int).toNat = 1 from rfl, Nat.reduceMul, Nat.reduceEqDiff, Go.Addr.add, ↓reduceIte] at hx276_0)
                                              have qi276 : (1 < (rd_L1 t261 x126_3).length) = True := eq_true (by omega)
                                              (try rw [show ((1 : Int)).toNat = 1 from rfl] at hx276_0)
                                              replace p276 := eq_true p276
                                              replace q276 := eq_true q276
                                              go_wp2_with (first | (go_at_call 15; (with_reducible refine (impl_SquareQuotient.calls (rd (rd_L1 t261 x126_3) 0) (rd (rd_L1 t261 x126_3) 1) t277 false _ A41.out).mono ?_); rintro e w' ⟨rfl, ⟨nd, rfl⟩⟩; (try first | exact ⟨rfl, _, World.drewN_drewN _ _ _⟩ | exact ⟨rfl, _, Eq.trans (World.drewN_drewN _ _ _) (congrArg (World.drewN _) (Nat.add_assoc _ _ _))⟩)))
                                              repeat (go_quiet (first | (go_at_call 15; (with_reducible refine (impl_SquareQuotient.calls (rd (rd_L1 t261 x126_3) 0) (rd (rd_L1 t261 x126_3) 1) t277 false _ A41.out).mono ?_); rintro e w' ⟨rfl, ⟨nd, rfl⟩⟩; (try first | exact ⟨rfl, _, World.drewN_drewN _ _ _⟩ | exact ⟨rfl, _, Eq.trans (World.drewN_drewN _ _ _) (congrArg (World.drewN _) (Nat.add_assoc _ _ _))⟩))); try go_wp2_with (first | (go_at_call 15; (with_reducible refine (impl_SquareQuotient.calls (rd (rd_L1 t261 x126_3) 0) (rd (rd_L1 t261 x126_3) 1) t277 false _ A41.out).mono ?_); rintro e w' ⟨rfl, ⟨nd, rfl⟩⟩; (try first | exact ⟨rfl, _, World.drewN_drewN _ _ _⟩ | exact ⟨rfl, _, Eq.trans (World.drewN_drewN _ _ _) (congrArg (World.drewN _) (Nat.add_assoc _ _ _))⟩))))
                                              go_ret
                                              exact ⟨by first | rfl | (simp [errW_none, errW_some] <;> rfl) | (simp only [← hji26]; first | rfl | (simp [errW_none, errW_some] <;> rfl)) | (simp [*, errW_none, errW_some] <;> rfl), by repeat (first | (with_reducible first | exact HB.out | apply below_alloc | apply pw_below_drewN | apply below_drew1) | exact HB.out | exact Below.refl _ _)⟩
                                          · rw [if_neg c40] at H
                                            exact absurd H (by simp)
                                        · rw [if_neg c39] at H
                                          exact absurd H (by simp)
                                      · rw [if_neg c38] at H
                                        exact absurd H (by simp)
                                    · rw [if_neg c37] at H
                                      exact absurd H (by simp)
                                  · rw [if_neg c36] at H
                                    have c36b0 : decide (x126_3 < (t261.length : Int)) = false := decide_eq_false c36
                                    clear c36
                                    have H' := Aside0.mk H
                                    clear H
                                    go_wp2
                                    repeat (go_quiet (fail); try go_wp2)
                                    go_meet
                                    case rel => exact ⟨_, H', ⟨by have := HJ9.out; have := HJ28.out; have := HK3.out; first | omega | exact Nat.le_refl _⟩, ⟨by repeat (first | (with_reducible first | exact HB.out | apply below_alloc | apply pw_below_drewN | apply below_drew1) | exact HB.out | exact Below.refl _ _)⟩⟩
                  · rw [if_neg c28] at H
                    exact absurd H (by simp)
                · rw [if_neg c27] at H
                  exact absurd H (by simp)
              · replace c25 := Bool.eq_false_iff.mpr c25
                subst c25
                have H1 : (laws_FnQuotientsAreSquares.j3 kj9 l1) = some r := by rw [if_neg (show ¬ (false = true) by decide)] at H; exact H
                clear H
                have H := H1
                clear H1
                have H' := Aside0.mk H
                clear H
                go_wp2
                repeat (go_quiet (fail); try go_wp2)
                go_meet
                case rel => exact ⟨_, H', ⟨by have := HJ9.out; first | omega | exact Nat.le_refl _⟩, ⟨by repeat (first | (with_reducible first | exact HB.out | apply below_alloc | apply pw_below_drewN | apply below_drew1) | exact HB.out | exact Below.refl _ _)⟩⟩
            case rest =>
              as_aux_lemma =>
                clear HC24
                try clear c1
                try clear c2
                try clear p2
                try clear q2
                try clear hx2
                try clear qi2
                try clear c3
                try clear c4
                try clear c5
                try clear p6
                try clear c14
                try clear c14b0
                try clear c14b1
                try clear c14b2
                try clear c15
                try clear c15b0
                try clear c15b1
                try clear c16
                try clear c16b0
                try clear c16b1
                try clear c16b2
                try clear c18
                try clear c23
                try clear c25
                try clear c27
                try clear c27b0
                try clear p27
                try clear q27
                try clear hx27
                try clear qi27
                try clear c28
                try clear c28b0
                try clear p28
                try clear q28
                try clear hx28
                try clear qi28
                try clear c31
                try clear c31b0
                try clear c31b1
                try clear c32
                try clear c32b0
                try clear c32b1
                try clear c33
                try clear c33b0
                try clear c33b1
                try clear c34
                try clear c34b0
                try clear c34b1
                try clear c35
                try clear c36
                try clear c36b0
                try clear c37
                try clear c37b0
                try clear c38
                try clear c38b0
                try clear c39
                try clear c39b0
                try clear c39b1
                try clear c40
                try clear c40b0
                try clear c40b1
                try clear c42
                try clear c43
                try clear c43b0
                try clear c43b1
                try clear c44
                try clear c44b0
                try clear c46
                try clear c46b0
                try clear c47
                try clear c47b0
                try clear c48
                try clear c48b0
                try clear c48b1
                try clear c49
                try clear c49b0
                try clear c49b1
                try clear c50
                try clear c50b0
                try clear hx270_0
                try clear hx271_0
                try clear hx272_0
                try clear hx273_0
                try clear hx274_0
                try clear hx275_0
                try clear hx276_0
                try clear hx279_0
                try clear hx280_0
                try clear hx281_0
                try clear hx282_0
                try clear hx283_0
                try clear hx284_0
                try clear p2
                try clear p27
                try clear p270
                try clear p271
                try clear p272
                try clear p273
                try clear p274
                try clear p275
                try clear p276
                try clear p279
                try clear p280
                try clear p281
                try clear p282
                try clear p283
                try clear p284
                try clear p6
                try clear q2
                try clear q27
                try clear q270
                try clear q271
                try clear q272
                try clear q273
                try clear q274
                try clear q275
                try clear q276
                try clear q279
                try clear q280
                try clear q281
                try clear q282
                try clear q283
                try clear q284
                obtain ⟨kq, HA, HJ23, HB⟩ := hcut
                cases kq with
                | zero => exact absurd HA.out (by simp [laws_FnQuotientsAreSquares.j3])
                | succ kj23 =>
                  have H := HA.out
                  clear HA
                  simp only [laws_FnQuotientsAreSquares.j3] at H
                  replace H := Option.bind_eq_some_iff.mp H
                  obtain ⟨⟨t285, t286⟩, A510, H⟩ := H
                  replace H : ((impl_QuotientPairs.f kj23 t285 t286).bind fun bt287 => ((spec_QuotientPairs.f kj23 t285 t286).bind fun bt291 => (if (bt287.2 != bt291.2) = true then (laws_FnQuotientsAreSquares.j4 kj23 t285 bt287.1 true) else ((laws_vSameLists.f kj23 bt287.1 bt291.1).bind fun t295 => (laws_FnQuotientsAreSquares.j4 kj23 t285 bt287.1 (!t295)))))) = some r := H
                  have A51 := Aside0.mk A510
                  clear A510
                  replace H := Option.bind_eq_some_iff.mp H
                  obtain ⟨⟨t287, t288⟩, A520, H⟩ := H
                  replace H : ((spec_QuotientPairs.f kj23 t285 t286).bind fun bt291 => (if (t288 != bt291.2) = true then (laws_FnQuotientsAreSquares.j4 kj23 t285 t287 true) else ((laws_vSameLists.f kj23 t287 bt291.1).bind fun t295 => (laws_FnQuotientsAreSquares.j4 kj23 t285 t287 (!t295))))) = some r := H
                  have A52 := Aside0.mk A520
                  clear A520
                  replace H := Option.bind_eq_some_iff.mp H
                  obtain ⟨⟨t291, t292⟩, A530, H⟩ := H
                  replace H : (if (t288 != t292) = true then (laws_FnQuotientsAreSquares.j4 kj23 t285 t287 true) else ((laws_vSameLists.f kj23 t287 t291).bind fun t295 => (laws_FnQuotientsAreSquares.j4 kj23 t285 t287 (!t295)))) = some r := H
                  have A53 := Aside0.mk A530
                  clear A530
                  have HC54 := Aside0.mk H
                  clear H
                  go_upto_region 24 with (first | (go_at_call 18; (with_reducible refine (spec_DrawQuotientPairs.calls _ _ l1 t285 t286 _ ?side1 ?side2 A51.out).mono ?_); (case side1 => repeat (first | exact (Kd.C_below HR1.out HB.out) | (with_reducible refine Kd.C_alloc ?_ _) | (with_reducible refine Kd.C_drewN ?_ _) | (with_reducible refine Kd.C_drew ?_))); (case side2 => exact HC1.out); rintro e w55 ⟨rfl, hb⟩; have n0_ := Aside0.mk (below_step (by repeat (first | (with_reducible first | exact HB.out | apply below_alloc | apply pw_below_drewN | apply below_drew1) | exact HB.out | exact Below.refl _ _)) hb); clear HB; have HB := n0_; clear n0_; (try clear hb); (try clear hb2); (try clear hk); (try clear hi)) | (go_at_call 19; (with_reducible refine (impl_QuotientPairs.calls kj23 t285 t286 t287 t288 _ A52.out).mono ?_); rintro e w56 ⟨v289, rfl, ho0, hb⟩; have n0_ := Aside0.mk (Kd.N_lower (Kd.N_mono (ok' := fun k_ => True) (Kd.S_N (Kd.S_bound ho0)) (fun k_ hk_ => trivial)) (below_size (by repeat (first | (with_reducible first | exact HB.out | apply below_alloc | apply pw_below_drewN | apply below_drew1) | exact HB.out | exact Below.refl _ _)))); have n1_ := Aside0.mk (below_step (by repeat (first | (with_reducible first | exact HB.out | apply below_alloc | apply pw_below_drewN | apply below_drew1) | exact HB.out | exact Below.refl _ _)) hb); clear HB; have HO290 := n0_; have HB := n1_; clear n0_ n1_; (try clear hb); (try clear hb2); (try clear hk); (try clear hi); (try clear ho0)) | (go_at_call 20; (with_reducible refine (spec_QuotientPairs.calls kj23 t285 t286 t291 t292 _ A53.out).mono ?_); rintro e w57 ⟨v293, rfl, ho0, hb⟩; have n0_ := Aside0.mk (Kd.N_elder' (by (with_reducible repeat (first | apply Kd.N_alloc | apply Kd.N_drewN | apply Kd.N_drew)); exact HO290.out) (Kd.S_base ho0) hb); have n1_ := Aside0.mk (Kd.N_lower (Kd.N_mono (ok' := fun k_ => some k_ ≠ (v289 : Value).ownBlock) (Kd.S_N (Kd.S_bound ho0)) (fun k_ hk_ => (Kd.fresh' (Kd.N_lt (by (with_reducible repeat (first | apply Kd.N_alloc | apply Kd.N_drewN | apply Kd.N_drew)); exact HO290.out)) k_ hk_.2.1))) (below_size (by repeat (first | (with_reducible first | exact HB.out | apply below_alloc | apply pw_below_drewN | apply below_drew1) | exact HB.out | exact Below.refl _ _)))); have n2_ := Aside0.mk (below_step (by repeat (first | (with_reducible first | exact HB.out | apply below_alloc | apply pw_below_drewN | apply below_drew1) | exact HB.out | exact Below.refl _ _)) hb); clear HO290; clear HB; have HO290 := n0_; have HO294 := n1_; have HB := n2_; clear n0_ n1_ n2_; (try clear hb); (try clear hb2); (try clear hk); (try clear hi); (try clear ho0)))
                  repeat (go_quiet (first | (go_at_call 18; (with_reducible refine (spec_DrawQuotientPairs.calls _ _ l1 t285 t286 _ ?side1 ?side2 A51.out).mono ?_); (case side1 => repeat (first | exact (Kd.C_below HR1.out HB.out) | (with_reducible refine Kd.C_alloc ?_ _) | (with_reducible refine Kd.C_drewN ?_ _) | (with_reducible refine Kd.C_drew ?_))); (case side2 => exact HC1.out); rintro e w55 ⟨rfl, hb⟩; have n0_ := Aside0.mk (below_step (by repeat (first | (with_reducible first | exact HB.out | apply below_alloc | apply pw_below_drewN | apply below_drew1) | exact HB.out | exact Below.refl _ _)) hb); clear HB; have HB := n0_; clear n0_; (try clear hb); (try clear hb2); (try clear hk); (try clear hi)) | (go_at_call 19; (with_reducible refine (impl_QuotientPairs.calls kj23 t285 t286 t287 t288 _ A52.out).mono ?_); rintro e w56 ⟨v289, rfl, ho0, hb⟩; have n0_ := Aside0.mk (Kd.N_lower (Kd.N_mono (ok' := fun k_ => True) (Kd.S_N (Kd.S_bound ho0)) (fun k_ hk_ => trivial)) (below_size (by repeat (first | (with_reducible first | exact HB.out | apply below_alloc | apply pw_below_drewN | apply below_drew1) | exact HB.out | exact Below.refl _ _)))); have n1_ := Aside0.mk (below_step (by repeat (first | (with_reducible first | exact HB.out | apply below_alloc | apply pw_below_drewN | apply below_drew1) | exact HB.out | exact Below.refl _ _)) hb); clear HB; have HO290 := n0_; have HB := n1_; clear n0_ n1_; (try clear hb); (try clear hb2); (try clear hk); (try clear hi); (try clear ho0)) | (go_at_call 20; (with_reducible refine (spec_QuotientPairs.calls kj23 t285 t286 t291 t292 _ A53.out).mono ?_); rintro e w57 ⟨v293, rfl, ho0, hb⟩; have n0_ := Aside0.mk (Kd.N_elder' (by (with_reducible repeat (first | apply Kd.N_alloc | apply Kd.N_drewN | apply Kd.N_drew)); exact HO290.out) (Kd.S_base ho0) hb); have n1_ := Aside0.mk (Kd.N_lower (Kd.N_mono (ok' := fun k_ => some k_ ≠ (v289 : Value).ownBlock) (Kd.S_N (Kd.S_bound ho0)) (fun k_ hk_ => (Kd.fresh' (Kd.N_lt (by (with_reducible repeat (first | apply Kd.N_alloc | apply Kd.N_drewN | apply Kd.N_drew)); exact HO290.out)) k_ hk_.2.1))) (below_size (by repeat (first | (with_reducible first | exact HB.out | apply below_alloc | apply pw_below_drewN | apply below_drew1) | exact HB.out | exact Below.refl _ _)))); have n2_ := Aside0.mk (below_step (by repeat (first | (with_reducible first | exact HB.out | apply below_alloc | apply pw_below_drewN | apply below_drew1) | exact HB.out | exact Below.refl _ _)) hb); clear HO290; clear HB; have HO290 := n0_; have HO294 := n1_; have HB := n2_; clear n0_ n1_ n2_; (try clear hb); (try clear hb2); (try clear hk); (try clear hi); (try clear ho0))); go_upto_region 24 with (first | (go_at_call 18; (with_reducible refine (spec_DrawQuotientPairs.calls _ _ l1 t285 t286 _ ?side1 ?side2 A51.out).mono ?_); (case side1 => repeat (first | exact (Kd.C_below HR1.out HB.out) | (with_reducible refine Kd.C_alloc ?_ _) | (with_reducible refine Kd.C_drewN ?_ _) | (with_reducible refine Kd.C_drew ?_))); (case side2 => exact HC1.out); rintro e w55 ⟨rfl, hb⟩; have n0_ := Aside0.mk (below_step (by repeat (first | (with_reducible first | exact HB.out | apply below_alloc | apply pw_below_drewN | apply below_drew1) | exact HB.out | exact Below.refl _ _)) hb); clear HB; have HB := n0_; clear n0_; (try clear hb); (try clear hb2); (try clear hk); (try clear hi)) | (go_at_call 19; (with_reducible refine (impl_QuotientPairs.calls kj23 t285 t286 t287 t288 _ A52.out).mono ?_); rintro e w56 ⟨v289, rfl, ho0, hb⟩; have n0_ := Aside0.mk (Kd.N_lower (Kd.N_mono (ok' := fun k_ => True) (Kd.S_N (Kd.S_bound ho0)) (fun k_ hk_ => trivial)) (below_size (by repeat (first | (with_reducible first | exact HB.out | apply below_alloc | apply pw_below_drewN | apply below_drew1) | exact HB.out | exact Below.refl _ _)))); have n1_ := Aside0.mk (below_step (by repeat (first | (with_reducible first | exact HB.out | apply below_alloc | apply pw_below_drewN | apply below_drew1) | exact HB.out | exact Below.refl _ _)) hb); clear HB; have HO290 := n0_; have HB := n1_; clear n0_ n1_; (try clear hb); (try clear hb2); (try clear hk); (try clear hi); (try clear ho0)) | (go_at_call 20; (with_reducible refine (spec_QuotientPairs.calls kj23 t285 t286 t291 t292 _ A53.out).mono ?_); rintro e w57 ⟨v293, rfl, ho0, hb⟩; have n0_ := Aside0.mk (Kd.N_elder' (by (with_reducible repeat (first | apply Kd.N_alloc | apply Kd.N_drewN | apply Kd.N_drew)); exact HO290.out) (Kd.S_base ho0) hb); have n1_ := Aside0.mk (Kd.N_lower (Kd.N_mono (ok' := fun k_ => some k_ ≠ (v289 : Value).ownBlock) (Kd.S_N (Kd.S_bound ho0)) (fun k_ hk_ => (Kd.fresh' (Kd.N_lt (by (with_reducible repeat (first | apply Kd.N_alloc | apply Kd.N_drewN | apply Kd.N_drew)); exact HO290.out)) k_ hk_.2.1))) (below_size (by repeat (first | (with_reducible first | exact HB.out | apply below_alloc | apply pw_below_drewN | apply below_drew1) | exact HB.out | exact Below.refl _ _)))); have n2_ := Aside0.mk (below_step (by repeat (first | (with_reducible first | exact HB.out | apply below_alloc | apply pw_below_drewN | apply below_drew1) | exact HB.out | exact Below.refl _ _)) hb); clear HO290; clear HB; have HO290 := n0_; have HO294 := n1_; have HB := n2_; clear n0_ n1_ n2_; (try clear hb); (try clear hb2); (try clear hk); (try clear hi); (try clear ho0))))
                  (try simp only [Act.put, List.setIfInBounds_toArray, List.set_cons_zero, List.set_cons_succ])
                  go_cut [203] (fun v203 wc => ∃ (kq : Nat) (x203_53 : Bool), v203 = .bool x203_53 ∧ Aside0 (laws_FnQuotientsAreSquares.j4 kq t285 t287 x203_53 = some r) ∧ Aside0 (kq ≤ kj23) ∧ Aside0 (Kd.N (Kd.slice 3 (Kd.int .i64)) 34 wc w.heap.size (fun _ => True) v289 t287) ∧ Aside0 (Below w.heap.size w wc))
                  case first =>
                    have H := HC54.out
                    clear HC54
                    by_cases c58 : (t288 != t292) = true
                    · rw [if_pos c58] at H
                      have c58b0 : (t288 != t292) = true := c58
                      (try (have c58b1 : decide (t288 = t292) = false := by simpa using c58))
                      (try (have c58b2 : (t288 == t292) = false := by simpa using c58))
                      (try (have c58b3 : ¬ (t288 = t292) := by simpa using c58))
                      clear c58
                      (first | rw [c58b0] | (simp only [i64_w, i32_w]; rw [c58b0]) | skip)
                      have H' := Aside0.mk H
                      clear H
                      go_wp2
                      repeat (go_quiet (fail); try go_wp2)
                      go_meet
                      case rel => exact ⟨_, (true), (by first | rfl | (simp; done) | (simp [*]; done)), H', ⟨by have := HJ9.out; have := HJ23.out; first | omega | exact Nat.le_refl _⟩, ⟨by (with_reducible repeat (first | apply Kd.N_alloc | apply Kd.N_drewN | apply Kd.N_drew)); exact Kd.N_mono HO290.out (fun _ hk => trivial)⟩, ⟨by repeat (first | (with_reducible first | exact HB.out | apply below_alloc | apply pw_below_drewN | apply below_drew1) | exact HB.out | exact Below.refl _ _)⟩⟩
                    · rw [if_neg c58] at H
                      have c58b0 : (t288 != t292) = false := by simpa using c58
                      (try (have c58b1 : decide (t288 = t292) = true := by simpa using c58))
                      (try (have c58b2 : (t288 == t292) = true := by simpa using c58))
                      clear c58
                      (first | rw [c58b0] | (simp only [i64_w, i32_w]; rw [c58b0]) | skip)
                      replace H := Option.bind_eq_some_iff.mp H
                      obtain ⟨t295, A590, H⟩ := H
                      replace H : (laws_FnQuotientsAreSquares.j4 kj23 t285 t287 (!t295)) = some r := H
                      have A59 := Aside0.mk A590
                      clear A590
                      have H' := Aside0.mk H
                      clear H
                      obtain ⟨Ao60, co60, eo60⟩ := Kd.N_slice HO290.out
                      subst eo60
                      obtain ⟨Ao61, co61, eo61⟩ := Kd.N_slice HO294.out
                      subst eo61
                      go_wp2_with (first | (go_at_call 17; (with_reducible refine (laws_vSameLists.calls kj23 _ _ t287 _ _ t291 t295 _ ?side1 ?side2 ?side3 ?side4 A59.out).mono ?_); (case side1 => repeat (first | exact (Kd.N_reads' HO290.out).2.2 | (with_reducible refine Kd.C_alloc ?_ _) | (with_reducible refine Kd.C_drewN ?_ _) | (with_reducible refine Kd.C_drew ?_))); (case side2 => exact (Kd.N_reads' HO290.out).2.1); (case side3 => repeat (first | exact (Kd.N_reads' HO294.out).2.2 | (with_reducible refine Kd.C_alloc ?_ _) | (with_reducible refine Kd.C_drewN ?_ _) | (with_reducible refine Kd.C_drew ?_))); (case side4 => exact (Kd.N_reads' HO294.out).2.1); rintro e w' ⟨rfl, ⟨nd, rfl⟩⟩; (try first | exact ⟨rfl, _, World.drewN_drewN _ _ _⟩ | exact ⟨rfl, _, Eq.trans (World.drewN_drewN _ _ _) (congrArg (World.drewN _) (Nat.add_assoc _ _ _))⟩)))
                      repeat (go_quiet (first | (go_at_call 17; (with_reducible refine (laws_vSameLists.calls kj23 _ _ t287 _ _ t291 t295 _ ?side1 ?side2 ?side3 ?side4 A59.out).mono ?_); (case side1 => repeat (first | exact (Kd.N_reads' HO290.out).2.2 | (with_reducible refine Kd.C_alloc ?_ _) | (with_reducible refine Kd.C_drewN ?_ _) | (with_reducible refine Kd.C_drew ?_))); (case side2 => exact (Kd.N_reads' HO290.out).2.1); (case side3 => repeat (first | exact (Kd.N_reads' HO294.out).2.2 | (with_reducible refine Kd.C_alloc ?_ _) | (with_reducible refine Kd.C_drewN ?_ _) | (with_reducible refine Kd.C_drew ?_))); (case side4 => exact (Kd.N_reads' HO294.out).2.1); rintro e w' ⟨rfl, ⟨nd, rfl⟩⟩; (try first | exact ⟨rfl, _, World.drewN_drewN _ _ _⟩ | exact ⟨rfl, _, Eq.trans (World.drewN_drewN _ _ _) (congrArg (World.drewN _) (Nat.add_assoc _ _ _))⟩))); try go_wp2_with (first | (go_at_call 17; (with_reducible refine (laws_vSameLists.calls kj23 _ _ t287 _ _ t291 t295 _ ?side1 ?side2 ?side3 ?side4 A59.out).mono ?_); (case side1 => repeat (first | exact (Kd.N_reads' HO290.out).2.2 | (with_reducible refine Kd.C_alloc ?_ _) | (with_reducible refine Kd.C_drewN ?_ _) | (with_reducible refine Kd.C_drew ?_))); (case side2 => exact (Kd.N_reads' HO290.out).2.1); (case side3 => repeat (first | exact (Kd.N_reads' HO294.out).2.2 | (with_reducible refine Kd.C_alloc ?_ _) | (with_reducible refine Kd.C_drewN ?_ _) | (with_reducible refine Kd.C_drew ?_))); (case side4 => exact (Kd.N_reads' HO294.out).2.1); rintro e w' ⟨rfl, ⟨nd, rfl⟩⟩; (try first | exact ⟨rfl, _, World.drewN_drewN _ _ _⟩ | exact ⟨rfl, _, Eq.trans (World.drewN_drewN _ _ _) (congrArg (World.drewN _) (Nat.add_assoc _ _ _))⟩))))
                      go_meet
                      case rel => exact ⟨_, (!t295), (by first | rfl | (simp; done) | (simp [*]; done)), H', ⟨by have := HJ9.out; have := HJ23.out; first | omega | exact Nat.le_refl _⟩, ⟨by (with_reducible repeat (first | apply Kd.N_alloc | apply Kd.N_drewN | apply Kd.N_drew)); exact Kd.N_mono HO290.out (fun _ hk => trivial)⟩, ⟨by repeat (first | (with_reducible first | exact HB.out | apply below_alloc | apply pw_below_drewN | apply below_drew1) | exact HB.out | exact Below.refl _ _)⟩⟩
                  case rest =>
                    as_aux_lemma =>
                      clear HC54
                      try clear c1
                      try clear c2
                      try clear p2
                      try clear q2
                      try clear hx2
                      try clear qi2
                      try clear c3
                      try clear c4
                      try clear c5
                      try clear p6
                      try clear c14
                      try clear c14b0
                      try clear c14b1
                      try clear c14b2
                      try clear c15
                      try clear c15b0
                      try clear c15b1
                      try clear c16
                      try clear c16b0
                      try clear c16b1
                      try clear c16b2
                      try clear c18
                      try clear c23
                      try clear c25
                      try clear c27
                      try clear c27b0
                      try clear p27
                      try clear q27
                      try clear hx27
                      try clear qi27
                      try clear c28
                      try clear c28b0
                      try clear p28
                      try clear q28
                      try clear hx28
                      try clear qi28
                      try clear c31
                      try clear c31b0
                      try clear c31b1
                      try clear c32
                      try clear c32b0
                      try clear c32b1
                      try clear c33
                      try clear c33b0
                      try clear c33b1
                      try clear c34
                      try clear c34b0
                      try clear c34b1
                      try clear c35
                      try clear c36
                      try clear c36b0
                      try clear c37
                      try clear c37b0
                      try clear c38
                      try clear c38b0
                      try clear c39
                      try clear c39b0
                      try clear c39b1
                      try clear c40
                      try clear c40b0
                      try clear c40b1
                      try clear c42
                      try clear c43
                      try clear c43b0
                      try clear c43b1
                      try clear c44
                      try clear c44b0
                      try clear c46
                      try clear c46b0
                      try clear c47
                      try clear c47b0
                      try clear c48
                      try clear c48b0
                      try clear c48b1
                      try clear c49
                      try clear c49b0
                      try clear c49b1
                      try clear c50
                      try clear c50b0
                      try clear c58
                      try clear c58b0
                      try clear c58b1
                      try clear c58b2
                      try clear hx270_0
                      try clear hx271_0
                      try clear hx272_0
                      try clear hx273_0
                      try clear hx274_0
                      try clear hx275_0
                      try clear hx276_0
                      try clear hx279_0
                      try clear hx280_0
                      try clear hx281_0
                      try clear hx282_0
                      try clear hx283_0
                      try clear hx284_0
                      try clear p2
                      try clear p27
                      try clear p270
                      try clear p271
                      try clear p272
                      try clear p273
                      try clear p274
                      try clear p275
                      try clear p276
                      try clear p279
                      try clear p28
                      try clear p280
                      try clear p281
                      try clear p282
                      try clear p283
                      try clear p284
                      try clear p6
                      try clear q2
                      try clear q27
                      try clear q270
                      try clear q271
                      try clear q272
                      try clear q273
                      try clear q274
                      try clear q275
                      try clear q276
                      try clear q279
                      try clear q28
                      try clear q280
                      try clear q281
                      try clear q282
                      try clear q283
                      try clear q284
                      obtain ⟨kq, x203_53, rfl, HA, HJ53, HO_22, HB⟩ := hcut
                      cases kq with
                      | zero => exact absurd HA.out (by simp [laws_FnQuotientsAreSquares.j4])
                      | succ kj53 =>
                        have H := HA.out
                        clear HA
                        simp only [laws_FnQuotientsAreSquares.j4] at H
                        by_cases c62 : x203_53 = true
                        · subst c62
                          have H1 : (some false) = some r := by rw [if_pos rfl] at H; exact H
                          clear H
                          have H := H1
                          clear H1
                          obtain rfl := Option.some.inj H
                          go_wp2
                          repeat (go_quiet (fail); try go_wp2)
                          go_ret
                          exact ⟨by first | rfl | (simp [errW_none, errW_some] <;> rfl) | (simp [*, errW_none, errW_some] <;> rfl), by repeat (first | (with_reducible first | exact HB.out | apply below_alloc | apply pw_below_drewN | apply below_drew1) | exact HB.out | exact Below.refl _ _)⟩
                        · replace c62 := Bool.eq_false_iff.mpr c62
                          subst c62
                          have H1 : (laws_FnQuotientsAreSquares.l1 kj53 t285 t287 t287 (t287.length : Int) 0) = some r := by rw [if_neg (show ¬ (false = true) by decide)] at H; exact H
                          clear H
                          have H := H1
                          clear H1
                          have H' := Aside0.mk H
                          clear H
                          obtain ⟨Ao63, co63, eo63⟩ := Kd.N_slice HO_22.out
                          subst eo63
                          go_wp2
                          repeat (go_quiet (fail); try go_wp2)
                          go_loopg [206] kj53 (fun kq v206 w' => ∃ (x206_4 : Int), v206 = .int .i64 x206_4 ∧ Aside0 (laws_FnQuotientsAreSquares.l1 kq t285 t287 t287 (t287.length : Int) x206_4 = some r) ∧ Aside0 (kq ≤ kj53) ∧ Aside0 (Kd.N (Kd.slice 3 (Kd.int .i64)) 34 w' w.heap.size (fun _ => True) (.slice Ao63 t287.length co63) t287) ∧ Aside0 (Kd.N (Kd.slice 3 (Kd.int .i64)) 34 w' w.heap.size (fun _ => True) (.slice Ao63 t287.length co63) t287) ∧ Aside0 (Below w.heap.size w w'))
                          case atStart => exact ⟨(0), (by first | rfl | (simp; done) | (simp [*]; done)), H', ⟨Nat.le_refl _⟩, ⟨by (with_reducible repeat (first | apply Kd.N_alloc | apply Kd.N_drewN | apply Kd.N_drew)); exact HO_22.out⟩, ⟨by (with_reducible repeat (first | apply Kd.N_alloc | apply Kd.N_drewN | apply Kd.N_drew)); exact HO_22.out⟩, ⟨by repeat (first | (with_reducible first | exact HB.out | apply below_alloc | apply pw_below_drewN | apply below_drew1) | exact HB.out | exact Below.refl _ _)⟩⟩
                          case round =>
                            as_aux_lemma =>
                              clear H'
                              try clear c1
                              try clear c2
                              try clear p2
                              try clear q2
                              try clear hx2
                              try clear qi2
                              try clear c3
                              try clear c4
                              try clear c5
                              try clear c6
                              try clear p6
                              try clear c14
                              try clear c14b0
                              try clear c14b1
                              try clear c14b2
                              try clear c15
                              try clear c15b0
                              try clear c15b1
                              try clear c16
                              try clear c16b0
                              try clear c16b1
                              try clear c16b2
                              try clear c18
                              try clear c23
                              try clear c25
                              try clear c27
                              try clear c27b0
                              try clear p27
                              try clear q27
                              try clear hx27
                              try clear qi27
                              try clear c28
                              try clear c28b0
                              try clear p28
                              try clear q28
                              try clear hx28
                              try clear qi28
                              try clear c31
                              try clear c31b0
                              try clear c31b1
                              try clear c32
                              try clear c32b0
                              try clear c32b1
                              try clear c33
                              try clear c33b0
                              try clear c33b1
                              try clear c34
                              try clear c34b0
                              try clear c34b1
                              try clear c35
                              try clear c36
                              try clear c36b0
                              try clear c37
                              try clear c37b0
                              try clear c38
                              try clear c38b0
                              try clear c39
                              try clear c39b0
                              try clear c39b1
                              try clear c40
                              try clear c40b0
                              try clear c40b1
                              try clear c42
                              try clear c43
                              try clear c43b0
                              try clear c43b1
                              try clear c44
                              try clear c44b0
                              try clear c46
                              try clear c46b0
                              try clear c47
                              try clear c47b0
                              try clear c48
                              try clear c48b0
                              try clear c48b1
                              try clear c49
                              try clear c49b0
                              try clear c49b1
                              try clear c50
                              try clear c50b0
                              try clear c58
                              try clear c58b0
                              try clear c58b1
                              try clear c58b2
                              try clear c62
                              try clear hx270_0
                              try clear hx271_0
                              try clear hx272_0
                              try clear hx273_0
                              try clear hx274_0
                              try clear hx275_0
                              try clear hx276_0
                              try clear hx279_0
                              try clear hx280_0
                              try clear hx281_0
                              try clear hx282_0
                              try clear hx283_0
                              try clear hx284_0
                              try clear p2
                              try clear p27
                              try clear p270
                              try clear p271
                              try clear p272
                              try clear p273
                              try clear p274
                              try clear p275
                              try clear p276
                              try clear p279
                              try clear p28
                              try clear p280
                              try clear p281
                              try clear p282
                              try clear p283
                              try clear p284
                              try clear p6
                              try clear q2
                              try clear q27
                              try clear q270
                              try clear q271
                              try clear q272
                              try clear q273
                              try clear q274
                              try clear q275
                              try clear q276
                              try clear q279
                              try clear q28
                              try clear q280
                              try clear q281
                              try clear q282
                              try clear q283
                              try clear q284
                              obtain ⟨x206_4, rfl, HA, HK4, HO_22, HO_204, HB⟩ := hrel
                              cases gk with
                              | zero => exact absurd HA.out (by simp [laws_FnQuotientsAreSquares.l1])
                              | succ k4 =>
                                have H := HA.out
                                clear HA
                                simp only [laws_FnQuotientsAreSquares.l1] at H
                                by_cases c64 : x206_4 < (t287.length : Int)
                                · rw [if_pos c64] at H
                                  have c64b0 : decide (x206_4 < (t287.length : Int)) = true := decide_eq_true c64
                                  clear c64
                                  by_cases c65 : 0 ≤ x206_4
                                  · rw [if_pos c65] at H
                                    have c65b0 : decide (0 ≤ x206_4) = true := decide_eq_true c65
                                    clear c65
                                    by_cases c66 : x206_4 < (t287.length : Int)
                                    · rw [if_pos c66] at H
                                      have c66b0 : decide (x206_4 < (t287.length : Int)) = true := decide_eq_true c66
                                      clear c66
                                      by_cases c67 : 0 < ((rd_L1 t287 x206_4).length : Int)
                                      · rw [if_pos c67] at H
                                        have c67b0 : decide (0 < ((rd_L1 t287 x206_4).length : Int)) = true := decide_eq_true c67
                                        have c67b1 : decide (0 < (rd_L1 t287 x206_4).length) = true := decide_eq_true (by omega)
                                        clear c67
                                        by_cases c68 : 1 < ((rd_L1 t287 x206_4).length : Int)
                                        · rw [if_pos c68] at H
                                          have c68b0 : decide (1 < ((rd_L1 t287 x206_4).length : Int)) = true := decide_eq_true c68
                                          have c68b1 : decide (1 < (rd_L1 t287 x206_4).length) = true := decide_eq_true (by omega)
                                          clear c68
                                          replace H := Option.bind_eq_some_iff.mp H
                                          obtain ⟨⟨t299, t300⟩, A690, H⟩ := H
                                          replace H : (if t300 = true then (if t299 = (wrap64 (t285 * t285)) then (if x206_4 > 0 then (if 0 ≤ (wrap64 (x206_4 - 1)) then (if (wrap64 (x206_4 - 1)) < (t287.length : Int) then (if 0 < ((rd_L1 t287 (wrap64 (x206_4 - 1))).length : Int) then (if (rd (rd_L1 t287 x206_4) 1) = (rd (rd_L1 t287 (wrap64 (x206_4 - 1))) 0) then (if (rd (rd_L1 t287 x206_4) 0) < (rd (rd_L1 t287 x206_4) 1) then (some false) else (laws_FnQuotientsAreSquares.l1 k4 t285 t287 t287 (t287.length : Int) (wrap64 (x206_4 + 1)))) else (some false)) else (none)) else (none)) else (none)) else (laws_FnQuotientsAreSquares.l1 k4 t285 t287 t287 (t287.length : Int) (wrap64 (x206_4 + 1)))) else (some false)) else (some false)) = some r := H
                                          have A69 := Aside0.mk A690
                                          clear A690
                                          by_cases c70 : t300 = true
                                          · subst c70
                                            have H1 : (if t299 = (wrap64 (t285 * t285)) then (if x206_4 > 0 then (if 0 ≤ (wrap64 (x206_4 - 1)) then (if (wrap64 (x206_4 - 1)) < (t287.length : Int) then (if 0 < ((rd_L1 t287 (wrap64 (x206_4 - 1))).length : Int) then (if (rd (rd_L1 t287 x206_4) 1) = (rd (rd_L1 t287 (wrap64 (x206_4 - 1))) 0) then (if (rd (rd_L1 t287 x206_4) 0) < (rd (rd_L1 t287 x206_4) 1) then (some false) else (laws_FnQuotientsAreSquares.l1 k4 t285 t287 t287 (t287.length : Int) (wrap64 (x206_4 + 1)))) else (some false)) else (none)) else (none)) else (none)) else (laws_FnQuotientsAreSquares.l1 k4 t285 t287 t287 (t287.length : Int) (wrap64 (x206_4 + 1)))) else (some false)) = some r := by rw [if_pos rfl] at H; exact H
                                            clear H
                                            have H := H1
                                            clear H1
                                            by_cases c71 : t299 = (wrap64 (t285 * t285))
                                            · rw [if_pos c71] at H
                                              have c71b0 : (t299 == (wrap64 (t285 * t285))) = true := beq_iff_eq.mpr c71
                                              have c71b1 : (t299 != (wrap64 (t285 * t285))) = false := bne_eq_false_iff_eq.mpr c71
                                              clear c71
                                              by_cases c72 : x206_4 > 0
                                              · rw [if_pos c72] at H
                                                have c72b0 : decide (0 < x206_4) = true := decide_eq_true c72
                                                clear c72
                                                obtain ⟨ji73, hji73⟩ : ∃ j_ : Int, (wrap64 (x206_4 - 1)) = j_ := ⟨_, rfl⟩
                                                replace H : (if 0 ≤ (ji73) then (if (ji73) < (t287.length : Int) then (if 0 < ((rd_L1 t287 (ji73)).length : Int) then (if (rd (rd_L1 t287 x206_4) 1) = (rd (rd_L1 t287 (ji73)) 0) then (if (rd (rd_L1 t287 x206_4) 0) < (rd (rd_L1 t287 x206_4) 1) then (some false) else (laws_FnQuotientsAreSquares.l1 k4 t285 t287 t287 (t287.length : Int) (wrap64 (x206_4 + 1)))) else (some false)) else (none)) else (none)) else (none)) = some r := by first | (rw [hji73] at H; exact H) | (simp only [hji73] at H ⊢; exact H)
                                                (try rw [hji73] at A69)
                                                have hji73w : (IntKind.i64.wrap (x206_4 - 1)) = ji73 := (i64_w _).trans hji73
                                                by_cases c74 : 0 ≤ (ji73)
                                                · rw [if_pos c74] at H
                                                  have c74b0 : decide (0 ≤ (ji73)) = true := decide_eq_true c74
                                                  clear c74
                                                  by_cases c75 : (ji73) < (t287.length : Int)
                                                  · rw [if_pos c75] at H
                                                    have c75b0 : decide ((ji73) < (t287.length : Int)) = true := decide_eq_true c75
                                                    clear c75
                                                    by_cases c76 : 0 < ((rd_L1 t287 (ji73)).length : Int)
                                                    · rw [if_pos c76] at H
                                                      have c76b0 : decide (0 < ((rd_L1 t287 (ji73)).length : Int)) = true := decide_eq_true c76
                                                      have c76b1 : decide (0 < (rd_L1 t287 (ji73)).length) = true := decide_eq_true (by omega)
                                                      clear c76
                                                      by_cases c77 : (rd (rd_L1 t287 x206_4) 1) = (rd (rd_L1 t287 (ji73)) 0)
                                                      · rw [if_pos c77] at H
                                                        have c77b0 : ((rd (rd_L1 t287 x206_4) 1) == (rd (rd_L1 t287 (ji73)) 0)) = true := beq_iff_eq.mpr c77
                                                        have c77b1 : ((rd (rd_L1 t287 x206_4) 1) != (rd (rd_L1 t287 (ji73)) 0)) = false := bne_eq_false_iff_eq.mpr c77
                                                        clear c77
                                                        by_cases c78 : (rd (rd_L1 t287 x206_4) 0) < (rd (rd_L1 t287 x206_4) 1)
                                                        · rw [if_pos c78] at H
                                                          have c78b0 : decide ((rd (rd_L1 t287 x206_4) 0) < (rd (rd_L1 t287 x206_4) 1)) = true := decide_eq_true c78
                                                          clear c78
                                                          obtain rfl := Option.some.inj H
                                                          have p296 : 0 ≤ (x206_4 : Int) := of_decide_eq_true (by first | (with_reducible assumption) | assumption)
                                                          have q296 : x206_4 < (t287.length : Int) := of_decide_eq_true (by first | (with_reducible assumption) | assumption)
                                                          obtain ⟨ad296, A296_0, c296_0, e296, hx296_0, hl296_0, hi296_0⟩ := at_L1 (Kd.N_reads' HO_204.out).2.2 x206_4 p296 q296
                                                          cases e296
                                                          obtain ⟨ce296, hce296, hMe296, hcc296⟩ := Kd.N_get HO_204.out [] x206_4 p296 (by first | exact q296 | exact of_decide_eq_true (by first | (with_reducible assumption) | assumption) | (have e_ := (Kd.N_reads' HO_204.out).1; omega))
                                                          obtain ⟨ua296_0, uc296_0, rfl, ul296_0, ge296_0⟩ := Kd.FK_slice_open hMe296
                                                          have hv296_0 := hcc296 0 _ rfl
                                                          rw [Nat.add_zero, show ((Kd.slice 3 (Kd.int .i64))).sz = 1 from rfl, Nat.mul_one] at hv296_0
                                                          replace hv296_0 := Option.some.inj (hv296_0.symm.trans hx296_0)
                                                          injection hv296_0 with hva_ hvn_ hvc_
                                                          rw [hva_] at ge296_0
                                                          rw [hvc_] at ul296_0
                                                          have HL296_0 := Aside0.mk (show Kd.V (Kd.int .i64) 3 _ w.heap.size _ _ (rd_L1 t287 x206_4) from Kd.V_mk ul296_0 ge296_0)
                                                          clear hva_ hvn_ hvc_ ge296_0 ul296_0
                                                          clear hcc296 hce296
                                                          have HR296_0 := Aside0.mk hi296_0
                                                          have HC296_0 := Aside0.mk hl296_0
                                                          clear hi296_0 hl296_0
                                                          replace p296 := eq_true p296
                                                          replace q296 := eq_true q296
                                                          have p297 : 0 ≤ (0 : Int) := (by omega)
                                                          have q297 : 0 < ((rd_L1 t287 x206_4).length : Int) := of_decide_eq_true (by first | (with_reducible assumption) | assumption)
                                                          obtain ⟨ad297, e297, hx297_0⟩ := Kd.at_int (by repeat (first | (with_reducible exact HR296_0.out) | (with_reducible refine Kd.C_alloc ?_ _) | (with_reducible refine Kd.C_drewN ?_ _) | (with_reducible refine Kd.C_drew ?_) | exact HR296_0.out)) 0 p297 q297
                                                          cases e297
                                                          have qi297 : (0 < (rd_L1 t287 x206_4).length) = True := eq_true (by omega)
                                                          (try rw [show ((0 : Int)).toNat = 0 from rfl] at hx297_0)
                                                          (try rw [Addr.add_zero'] at hx297_0)
                                                          replace p297 := eq_true p297
                                                          replace q297 := eq_true q297
                                                          have p298 : 0 ≤ (1 : Int) := (by omega)
                                                          have q298 : 1 < ((rd_L1 t287 x206_4).length : Int) := of_decide_eq_true (by first | (with_reducible assumption) | assumption)
                                                          obtain ⟨ad298, e298, hx298_0⟩ := Kd.at_int (by repeat (first | (with_reducible exact HR296_0.out) | (with_reducible refine Kd.C_alloc ?_ _) | (with_reducible refine Kd.C_drewN ?_ _) | (with_reducible refine Kd.C_drew ?_) | exact HR296_0.out)) 1 p298 q298
                                                          obtain rfl : ad297 = ad298 := (by injection e298)
                                                          (try simp only [show (1 : Int).toNat = 1 from rfl, Nat.reduceMul, Nat.reduceEqDiff, Go.Addr.add, ↓reduceIte] at hx298_0)
                                                          have qi298 : (1 < (rd_L1 t287 x206_4).length) = True := eq_true (by omega)
                                                          (try rw [show ((1 : Int)).toNat = 1 from rfl] at hx298_0)
                                                          replace p298 := eq_true p298
                                                          replace q298 := eq_true q298
                                                          go_wp2_with (first | (go_at_call 15; (with_reducible refine (impl_SquareQuotient.calls (rd (rd_L1 t287 x206_4) 0) (rd (rd_L1 t287 x206_4) 1) t299 true _ A69.out).mono ?_); rintro e w' ⟨rfl, ⟨nd, rfl⟩⟩; (try first | exact ⟨rfl, _, World.drewN_drewN _ _ _⟩ | exact ⟨rfl, _, Eq.trans (World.drewN_drewN _ _ _) (congrArg (World.drewN _) (Nat.add_assoc _ _ _))⟩); have p301 : 0 ≤ (1 : Int) := (by omega); have q301 : 1 < ((rd_L1 t287 x206_4).length : Int) := of_decide_eq_true (by first | (with_reducible assumption) | assumption); obtain ⟨ad301, e301, hx301_0⟩ := Kd.at_int (by repeat (first | (with_reducible exact HR296_0.out) | (with_reducible refine Kd.C_alloc ?_ _) | (with_reducible refine Kd.C_drewN ?_ _) | (with_reducible refine Kd.C_drew ?_) | exact HR296_0.out)) 1 p301 q301; obtain rfl : ad297 = ad301 := (by injection e301); (try simp only [show (1 : Int).toNat = 1 from rfl, Nat.reduceMul, Nat.reduceEqDiff, Go.Addr.add, ↓reduceIte] at hx301_0); have qi301 : (1 < (rd_L1 t287 x206_4).length) = True := eq_true (by omega); (try rw [show ((1 : Int)).toNat = 1 from rfl] at hx301_0); replace p301 := eq_true p301; replace q301 := eq_true q301; have p302 : 0 ≤ ((ji73) : Int) := of_decide_eq_true (by first | (with_reducible assumption) | assumption); have q302 : (ji73) < (t287.length : Int) := of_decide_eq_true (by first | (with_reducible assumption) | assumption); obtain ⟨ad302, A302_0, c302_0, e302, hx302_0, hl302_0, hi302_0⟩ := at_L1 (Kd.N_reads' HO_22.out).2.2 (ji73) p302 q302; obtain rfl : ad296 = ad302 := (by injection e302); obtain ⟨ce302, hce302, hMe302, hcc302⟩ := Kd.N_get HO_22.out [] (ji73) p302 (by first | exact q302 | exact of_decide_eq_true (by first | (with_reducible assumption) | assumption) | (have e_ := (Kd.N_reads' HO_22.out).1; omega)); obtain ⟨ua302_0, uc302_0, rfl, ul302_0, ge302_0⟩ := Kd.FK_slice_open hMe302; have hv302_0 := hcc302 0 _ rfl; rw [Nat.add_zero, show ((Kd.slice 3 (Kd.int .i64))).sz = 1 from rfl, Nat.mul_one] at hv302_0; replace hv302_0 := Option.some.inj (hv302_0.symm.trans hx302_0); injection hv302_0 with hva_ hvn_ hvc_; rw [hva_] at ge302_0; rw [hvc_] at ul302_0; have HL302_0 := Aside0.mk (show Kd.V (Kd.int .i64) 3 _ w.heap.size _ _ (rd_L1 t287 (ji73)) from Kd.V_mk ul302_0 ge302_0); clear hva_ hvn_ hvc_ ge302_0 ul302_0; clear hcc302 hce302; have HR302_0 := Aside0.mk hi302_0; have HC302_0 := Aside0.mk hl302_0; clear hi302_0 hl302_0; replace p302 := eq_true p302; replace q302 := eq_true q302; have p303 : 0 ≤ (0 : Int) := (by omega); have q303 : 0 < ((rd_L1 t287 (ji73)).length : Int) := of_decide_eq_true (by first | (with_reducible assumption) | assumption); obtain ⟨ad303, e303, hx303_0⟩ := Kd.at_int (by repeat (first | (with_reducible exact HR302_0.out) | (with_reducible refine Kd.C_alloc ?_ _) | (with_reducible refine Kd.C_drewN ?_ _) | (with_reducible refine Kd.C_drew ?_) | exact HR302_0.out)) 0 p303 q303; cases e303; have qi303 : (0 < (rd_L1 t287 (ji73)).length) = True := eq_true (by omega); (try rw [show ((0 : Int)).toNat = 0 from rfl] at hx303_0); (try rw [Addr.add_zero'] at hx303_0); replace p303 := eq_true p303; replace q303 := eq_true q303; have p304 : 0 ≤ (0 : Int) := (by omega); have q304 : 0 < ((rd_L1 t287 x206_4).length : Int) := of_decide_eq_true (by first | (with_reducible assumption) | assumption); obtain ⟨ad304, e304, hx304_0⟩ := Kd.at_int (by repeat (first | (with_reducible exact HR296_0.out) | (with_reducible refine Kd.C_alloc ?_ _) | (with_reducible refine Kd.C_drewN ?_ _) | (with_reducible refine Kd.C_drew ?_) | exact HR296_0.out)) 0 p304 q304; obtain rfl : ad297 = ad304 := (by injection e304); have qi304 : (0 < (rd_L1 t287 x206_4).length) = True := eq_true (by omega); (try rw [show ((0 : Int)).toNat = 0 from rfl] at hx304_0); (try rw [Addr.add_zero'] at hx304_0); replace p304 := eq_true p304; replace q304 := eq_true q304; have p305 : 0 ≤ (1 : Int) := (by omega); have q305 : 1 < ((rd_L1 t287 x206_4).length : Int) := of_decide_eq_true (by first | (with_reducible assumption) | assumption); obtain ⟨ad305, e305, hx305_0⟩ := Kd.at_int (by repeat (first | (with_reducible exact HR296_0.out) | (with_reducible refine Kd.C_alloc ?_ _) | (with_reducible refine Kd.C_drewN ?_ _) | (with_reducible refine Kd.C_drew ?_) | exact HR296_0.out)) 1 p305 q305; obtain rfl : ad297 = ad305 := (by injection e305); (try simp only [show (1 : Int).toNat = 1 from rfl, Nat.reduceMul, Nat.reduceEqDiff, Go.Addr.add, ↓reduceIte] at hx305_0); have qi305 : (1 < (rd_L1 t287 x206_4).length) = True := eq_true (by omega); (try rw [show ((1 : Int)).toNat = 1 from rfl] at hx305_0); replace p305 := eq_true p305; replace q305 := eq_true q305))
                                                          repeat (go_quiet (first | (go_at_call 15; (with_reducible refine (impl_SquareQuotient.calls (rd (rd_L1 t287 x206_4) 0) (rd (rd_L1 t287 x206_4) 1) t299 true _ A69.out).mono ?_); rintro e w' ⟨rfl, ⟨nd, rfl⟩⟩; (try first | exact ⟨rfl, _, World.drewN_drewN _ _ _⟩ | exact ⟨rfl, _, Eq.trans (World.drewN_drewN _ _ _) (congrArg (World.drewN _) (Nat.add_assoc _ _ _))⟩); have p301 : 0 ≤ (1 : Int) := (by omega); have q301 : 1 < ((rd_L1 t287 x206_4).length : Int) := of_decide_eq_true (by first | (with_reducible assumption) | assumption); obtain ⟨ad301, e301, hx301_0⟩ := Kd.at_int (by repeat (first | (with_reducible exact HR296_0.out) | (with_reducible refine Kd.C_alloc ?_ _) | (with_reducible refine Kd.C_drewN ?_ _) | (with_reducible refine Kd.C_drew ?_) | exact HR296_0.out)) 1 p301 q301; obtain rfl : ad297 = ad301 := (by injection e301); (try simp only [show (1 : Int).toNat = 1 from rfl, Nat.reduceMul, Nat.reduceEqDiff, Go.Addr.add, ↓reduceIte] at hx301_0); have qi301 : (1 < (rd_L1 t287 x206_4).length) = True := eq_true (by omega); (try rw [show ((1 : Int)).toNat = 1 from rfl] at hx301_0); replace p301 := eq_true p301; replace q301 := eq_true q301; have p302 : 0 ≤ ((ji73) : Int) := of_decide_eq_true (by first | (with_reducible assumption) | assumption); have q302 : (ji73) < (t287.length : Int) := of_decide_eq_true (by first | (with_reducible assumption) | assumption); obtain ⟨ad302, A302_0, c302_0, e302, hx302_0, hl302_0, hi302_0⟩ := at_L1 (Kd.N_reads' HO_22.out).2.2 (ji73) p302 q302; obtain rfl : ad296 = ad302 := (by injection e302); obtain ⟨ce302, hce302, hMe302, hcc302⟩ := Kd.N_get HO_22.out [] (ji73) p302 (by first | exact q302 | exact of_decide_eq_true (by first | (with_reducible assumption) | assumption) | (have e_ := (Kd.N_reads' HO_22.out).1; omega)); obtain ⟨ua302_0, uc302_0, rfl, ul302_0, ge302_0⟩ := Kd.FK_slice_open hMe302; have hv302_0 := hcc302 0 _ rfl; rw [Nat.add_zero, show ((Kd.slice 3 (Kd.int .i64))).sz = 1 from rfl, Nat.mul_one] at hv302_0; replace hv302_0 := Option.some.inj (hv302_0.symm.trans hx302_0); injection hv302_0 with hva_ hvn_ hvc_; rw [hva_] at ge302_0; rw [hvc_] at ul302_0; have HL302_0 := Aside0.mk (show Kd.V (Kd.int .i64) 3 _ w.heap.size _ _ (rd_L1 t287 (ji73)) from Kd.V_mk ul302_0 ge302_0); clear hva_ hvn_ hvc_ ge302_0 ul302_0; clear hcc302 hce302; have HR302_0 := Aside0.mk hi302_0; have HC302_0 := Aside0.mk hl302_0; clear hi302_0 hl302_0; replace p302 := eq_true p302; replace q302 := eq_true q302; have p303 : 0 ≤ (0 : Int) := (by omega); have q303 : 0 < ((rd_L1 t287 (ji73)).length : Int) := of_decide_eq_true (by first | (with_reducible assumption) | assumption); obtain ⟨ad303, e303, hx303_0⟩ := Kd.at_int (by repeat (first | (with_reducible exact HR302_0.out) | (with_reducible refine Kd.C_alloc ?_ _) | (with_reducible refine Kd.C_drewN ?_ _) | (with_reducible refine Kd.C_drew ?_) | exact HR302_0.out)) 0 p303 q303; cases e303; have qi303 : (0 < (rd_L1 t287 (ji73)).length) = True := eq_true (by omega); (try rw [show ((0 : Int)).toNat = 0 from rfl] at hx303_0); (try rw [Addr.add_zero'] at hx303_0); replace p303 := eq_true p303; replace q303 := eq_true q303; have p304 : 0 ≤ (0 : Int) := (by omega); have q304 : 0 < ((rd_L1 t287 x206_4).length : Int) := of_decide_eq_true (by first | (with_reducible assumption) | assumption); obtain ⟨ad304, e304, hx304_0⟩ := Kd.at_int (by repeat (first | (with_reducible exact HR296_0.out) | (with_reducible refine Kd.C_alloc ?_ _) | (with_reducible refine Kd.C_drewN ?_ _) | (with_reducible refine Kd.C_drew ?_) | exact HR296_0.out)) 0 p304 q304; obtain rfl : ad297 = ad304 := (by injection e304); have qi304 : (0 < (rd_L1 t287 x206_4).length) = True := eq_true (by omega); (try rw [show ((0 : Int)).toNat = 0 from rfl] at hx304_0); (try rw [Addr.add_zero'] at hx304_0); replace p304 := eq_true p304; replace q304 := eq_true q304; have p305 : 0 ≤ (1 : Int) := (by omega); have q305 : 1 < ((rd_L1 t287 x206_4).length : Int) := of_decide_eq_true (by first | (with_reducible assumption) | assumption); obtain ⟨ad305, e305, hx305_0⟩ := Kd.at_int (by repeat (first | (with_reducible exact HR296_0.out) | (with_reducible refine Kd.C_alloc ?_ _) | (with_reducible refine Kd.C_drewN ?_ _) | (with_reducible refine Kd.C_drew ?_) | exact HR296_0.out)) 1 p305 q305; obtain rfl : ad297 = ad305 := (by injection e305); (try simp only [show (1 : Int).toNat = 1 from rfl, Nat.reduceMul, Nat.reduceEqDiff, Go.Addr.add, ↓reduceIte] at hx305_0); have qi305 : (1 < (rd_L1 t287 x206_4).length) = True := eq_true (by omega); (try rw [show ((1 : Int)).toNat = 1 from rfl] at hx305_0); replace p305 := eq_true p305; replace q305 := eq_true q305)); try go_wp2_with (first | (go_at_call 15; (with_reducible refine (impl_SquareQuotient.calls (rd (rd_L1 t287 x206_4) 0) (rd (rd_L1 t287 x206_4) 1) t299 true _ A69.out).mono ?_); rintro e w' ⟨rfl, ⟨nd, rfl⟩⟩; (try first | exact ⟨rfl, _, World.drewN_drewN _ _ _⟩ | exact ⟨rfl, _, Eq.trans (World.drewN_drewN _ _ _) (congrArg (World.drewN _) (Nat.add_assoc _ _ _))⟩); have p301 : 0 ≤ (1 : Int) := (by omega); have q301 : 1 < ((rd_L1 t287 x206_4).length : Int) := of_decide_eq_true (by first | (with_reducible assumption) | assumption); obtain ⟨ad301, e301, hx301_0⟩ := Kd.at_int (by repeat (first | (with_reducible exact HR296_0.out) | (with_reducible refine Kd.C_alloc ?_ _) | (with_reducible refine Kd.C_drewN ?_ _) | (with_reducible refine Kd.C_drew ?_) | exact HR296_0.out)) 1 p301 q301; obtain rfl : ad297 = ad301 := (by injection e301); (try simp only [show (1 : Int).toNat = 1 from rfl, Nat.reduceMul, Nat.reduceEqDiff, Go.Addr.add, ↓reduceIte] at hx301_0); have qi301 : (1 < (rd_L1 t287 x206_4).length) = True := eq_true (by omega); (try rw [show ((1 : Int)).toNat = 1 from rfl] at hx301_0); replace p301 := eq_true p301; replace q301 := eq_true q301; have p302 : 0 ≤ ((ji73) : Int) := of_decide_eq_true (by first | (with_reducible assumption) | assumption); have q302 : (ji73) < (t287.length : Int) := of_decide_eq_true (by first | (with_reducible assumption) | assumption); obtain ⟨ad302, A302_0, c302_0, e302, hx302_0, hl302_0, hi302_0⟩ := at_L1 (Kd.N_reads' HO_22.out).2.2 (ji73) p302 q302; obtain rfl : ad296 = ad302 := (by injection e302); obtain ⟨ce302, hce302, hMe302, hcc302⟩ := Kd.N_get HO_22.out [] (ji73) p302 (by first | exact q302 | exact of_decide_eq_true (by first | (with_reducible assumption) | assumption) | (have e_ := (Kd.N_reads' HO_22.out).1; omega)); obtain ⟨ua302_0, uc302_0, rfl, ul302_0, ge302_0⟩ := Kd.FK_slice_open hMe302; have hv302_0 := hcc302 0 _ rfl; rw [Nat.add_zero, show ((Kd.slice 3 (Kd.int .i64))).sz = 1 from rfl, Nat.mul_one] at hv302_0; replace hv302_0 := Option.some.inj (hv302_0.symm.trans hx302_0); injection hv302_0 with hva_ hvn_ hvc_; rw [hva_] at ge302_0; rw [hvc_] at ul302_0; have HL302_0 := Aside0.mk (show Kd.V (Kd.int .i64) 3 _ w.heap.size _ _ (rd_L1 t287 (ji73)) from Kd.V_mk ul302_0 ge302_0); clear hva_ hvn_ hvc_ ge302_0 ul302_0; clear hcc302 hce302; have HR302_0 := Aside0.mk hi302_0; have HC302_0 := Aside0.mk hl302_0; clear hi302_0 hl302_0; replace p302 := eq_true p302; replace q302 := eq_true q302; have p303 : 0 ≤ (0 : Int) := (by omega); have q303 : 0 < ((rd_L1 t287 (ji73)).length : Int) := of_decide_eq_true (by first | (with_reducible assumption) | assumption); obtain ⟨ad303, e303, hx303_0⟩ := Kd.at_int (by repeat (first | (with_reducible exact HR302_0.out) | (with_reducible refine Kd.C_alloc ?_ _) | (with_reducible refine Kd.C_drewN ?_ _) | (with_reducible refine Kd.C_drew ?_) | exact HR302_0.out)) 0 p303 q303; cases e303; have qi303 : (0 < (rd_L1 t287 (ji73)).length) = True := eq_true (by omega); (try rw [show ((0 : Int)).toNat = 0 from rfl] at hx303_0); (try rw [Addr.add_zero'] at hx303_0); replace p303 := eq_true p303; replace q303 := eq_true q303; have p304 : 0 ≤ (0 : Int) := (by omega); have q304 : 0 < ((rd_L1 t287 x206_4).length : Int) := of_decide_eq_true (by first | (with_reducible assumption) | assumption); obtain ⟨ad304, e304, hx304_0⟩ := Kd.at_int (by repeat (first | (with_reducible exact HR296_0.out) | (with_reducible refine Kd.C_alloc ?_ _) | (with_reducible refine Kd.C_drewN ?_ _) | (with_reducible refine Kd.C_drew ?_) | exact HR296_0.out)) 0 p304 q304; obtain rfl : ad297 = ad304 := (by injection e304); have qi304 : (0 < (rd_L1 t287 x206_4).length) = True := eq_true (by omega); (try rw [show ((0 : Int)).toNat = 0 from rfl] at hx304_0); (try rw [Addr.add_zero'] at hx304_0); replace p304 := eq_true p304; replace q304 := eq_true q304; have p305 : 0 ≤ (1 : Int) := (by omega); have q305 : 1 < ((rd_L1 t287 x206_4).length : Int) := of_decide_eq_true (by first | (with_reducible assumption) | assumption); obtain ⟨ad305, e305, hx305_0⟩ := Kd.at_int (by repeat (first | (with_reducible exact HR296_0.out) | (with_reducible refine Kd.C_alloc ?_ _) | (with_reducible refine Kd.C_drewN ?_ _) | (with_reducible refine Kd.C_drew ?_) | exact HR296_0.out)) 1 p305 q305; obtain rfl : ad297 = ad305 := (by injection e305); (try simp only [show (1 : Int).toNat = 1 from rfl, Nat.reduceMul, Nat.reduceEqDiff, Go.Addr.add, ↓reduceIte] at hx305_0); have qi305 : (1 < (rd_L1 t287 x206_4).length) = True := eq_true (by omega); (try rw [show ((1 : Int)).toNat = 1 from rfl] at hx305_0); replace p305 := eq_true p305; replace q305 := eq_true q305)))
                                                          go_ret
                                                          exact ⟨by first | rfl | (simp [errW_none, errW_some] <;> rfl) | (simp only [← hji73]; first | rfl | (simp [errW_none, errW_some] <;> rfl)) | (simp [*, errW_none, errW_some] <;> rfl), by repeat (first | (with_reducible first | exact HB.out | apply below_alloc | apply pw_below_drewN | apply below_drew1) | exact HB.out | exact Below.refl _ _)⟩
                                                        · rw [if_neg c78] at H
                                                          have c78b0 : decide ((rd (rd_L1 t287 x206_4) 0) < (rd (rd_L1 t287 x206_4) 1)) = false := decide_eq_false c78
                                                          clear c78
                                                          have H' := Aside0.mk H
                                                          clear H
                                                          have p296 : 0 ≤ (x206_4 : Int) := of_decide_eq_true (by first | (with_reducible assumption) | assumption)
                                                          have q296 : x206_4 < (t287.length : Int) := of_decide_eq_true (by first | (with_reducible assumption) | assumption)
                                                          obtain ⟨ad296, A296_0, c296_0, e296, hx296_0, hl296_0, hi296_0⟩ := at_L1 (Kd.N_reads' HO_204.out).2.2 x206_4 p296 q296
                                                          cases e296
                                                          obtain ⟨ce296, hce296, hMe296, hcc296⟩ := Kd.N_get HO_204.out [] x206_4 p296 (by first | exact q296 | exact of_decide_eq_true (by first | (with_reducible assumption) | assumption) | (have e_ := (Kd.N_reads' HO_204.out).1; omega))
                                                          obtain ⟨ua296_0, uc296_0, rfl, ul296_0, ge296_0⟩ := Kd.FK_slice_open hMe296
                                                          have hv296_0 := hcc296 0 _ rfl
                                                          rw [Nat.add_zero, show ((Kd.slice 3 (Kd.int .i64))).sz = 1 from rfl, Nat.mul_one] at hv296_0
                                                          replace hv296_0 := Option.some.inj (hv296_0.symm.trans hx296_0)
                                                          injection hv296_0 with hva_ hvn_ hvc_
                                                          rw [hva_] at ge296_0
                                                          rw [hvc_] at ul296_0
                                                          have HL296_0 := Aside0.mk (show Kd.V (Kd.int .i64) 3 _ w.heap.size _ _ (rd_L1 t287 x206_4) from Kd.V_mk ul296_0 ge296_0)
                                                          clear hva_ hvn_ hvc_ ge296_0 ul296_0
                                                          clear hcc296 hce296
                                                          have HR296_0 := Aside0.mk hi296_0
                                                          have HC296_0 := Aside0.mk hl296_0
                                                          clear hi296_0 hl296_0
                                                          replace p296 := eq_true p296
                                                          replace q296 := eq_true q296
                                                          have p297 : 0 ≤ (0 : Int) := (by omega)
                                                          have q297 : 0 < ((rd_L1 t287 x206_4).length : Int) := of_decide_eq_true (by first | (with_reducible assumption) | assumption)
                                                          obtain ⟨ad297, e297, hx297_0⟩ := Kd.at_int (by repeat (first | (with_reducible exact HR296_0.out) | (with_reducible refine Kd.C_alloc ?_ _) | (with_reducible refine Kd.C_drewN ?_ _) | (with_reducible refine Kd.C_drew ?_) | exact HR296_0.out)) 0 p297 q297
                                                          cases e297
                                                          have qi297 : (0 < (rd_L1 t287 x206_4).length) = True := eq_true (by omega)
                                                          (try rw [show ((0 : Int)).toNat = 0 from rfl] at hx297_0)
                                                          (try rw [Addr.add_zero'] at hx297_0)
                                                          replace p297 := eq_true p297
                                                          replace q297 := eq_true q297
                                                          have p298 : 0 ≤ (1 : Int) := (by omega)
                                                          have q298 : 1 < ((rd_L1 t287 x206_4).length : Int) := of_decide_eq_true (by first | (with_reducible assumption) | assumption)
                                                          obtain ⟨ad298, e298, hx298_0⟩ := Kd.at_int (by repeat (first | (with_reducible exact HR296_0.out) | (with_reducible refine Kd.C_alloc ?_ _) | (with_reducible refine Kd.C_drewN ?_ _) | (with_reducible refine Kd.C_drew ?_) | exact HR296_0.out)) 1 p298 q298
                                                          obtain rfl : ad297 = ad298 := (by injection e298)
                                                          (try simp only [show (1 : Int).toNat = 1 from rfl, Nat.reduceMul, Nat.reduceEqDiff, Go.Addr.add, ↓reduceIte] at hx298_0)
                                                          have qi298 : (1 < (rd_L1 t287 x206_4).length) = True := eq_true (by omega)
                                                          (try rw [show ((1 : Int)).toNat = 1 from rfl] at hx298_0)
                                                          replace p298 := eq_true p298
                                                          replace q298 := eq_true q298
                                                          go_wp2_with (first | (go_at_call 15; (with_reducible refine (impl_SquareQuotient.calls (rd (rd_L1 t287 x206_4) 0) (rd (rd_L1 t287 x206_4) 1) t299 true _ A69.out).mono ?_); rintro e w' ⟨rfl, ⟨nd, rfl⟩⟩; (try first | exact ⟨rfl, _, World.drewN_drewN _ _ _⟩ | exact ⟨rfl, _, Eq.trans (World.drewN_drewN _ _ _) (congrArg (World.drewN _) (Nat.add_assoc _ _ _))⟩); have p301 : 0 ≤ (1 : Int) := (by omega); have q301 : 1 < ((rd_L1 t287 x206_4).length : Int) := of_decide_eq_true (by first | (with_reducible assumption) | assumption); obtain ⟨ad301, e301, hx301_0⟩ := Kd.at_int (by repeat (first | (with_reducible exact HR296_0.out) | (with_reducible refine Kd.C_alloc ?_ _) | (with_reducible refine Kd.C_drewN ?_ _) | (with_reducible refine Kd.C_drew ?_) | exact HR296_0.out)) 1 p301 q301; obtain rfl : ad297 = ad301 := (by injection e301); (try simp only [show (1 : Int).toNat = 1 from rfl, Nat.reduceMul, Nat.reduceEqDiff, Go.Addr.add, ↓reduceIte] at hx301_0); have qi301 : (1 < (rd_L1 t287 x206_4).length) = True := eq_true (by omega); (try rw [show ((1 : Int)).toNat = 1 from rfl] at hx301_0); replace p301 := eq_true p301; replace q301 := eq_true q301; have p302 : 0 ≤ ((ji73) : Int) := of_decide_eq_true (by first | (with_reducible assumption) | assumption); have q302 : (ji73) < (t287.length : Int) := of_decide_eq_true (by first | (with_reducible assumption) | assumption); obtain ⟨ad302, A302_0, c302_0, e302, hx302_0, hl302_0, hi302_0⟩ := at_L1 (Kd.N_reads' HO_22.out).2.2 (ji73) p302 q302; obtain rfl : ad296 = ad302 := (by injection e302); obtain ⟨ce302, hce302, hMe302, hcc302⟩ := Kd.N_get HO_22.out [] (ji73) p302 (by first | exact q302 | exact of_decide_eq_true (by first | (with_reducible assumption) | assumption) | (have e_ := (Kd.N_reads' HO_22.out).1; omega)); obtain ⟨ua302_0, uc302_0, rfl, ul302_0, ge302_0⟩ := Kd.FK_slice_open hMe302; have hv302_0 := hcc302 0 _ rfl; rw [Nat.add_zero, show ((Kd.slice 3 (Kd.int .i64))).sz = 1 from rfl, Nat.mul_one] at hv302_0; replace hv302_0 := Option.some.inj (hv302_0.symm.trans hx302_0); injection hv302_0 with hva_ hvn_ hvc_; rw [hva_] at ge302_0; rw [hvc_] at ul302_0; have HL302_0 := Aside0.mk (show Kd.V (Kd.int .i64) 3 _ w.heap.size _ _ (rd_L1 t287 (ji73)) from Kd.V_mk ul302_0 ge302_0); clear hva_ hvn_ hvc_ ge302_0 ul302_0; clear hcc302 hce302; have HR302_0 := Aside0.mk hi302_0; have HC302_0 := Aside0.mk hl302_0; clear hi302_0 hl302_0; replace p302 := eq_true p302; replace q302 := eq_true q302; have p303 : 0 ≤ (0 : Int) := (by omega); have q303 : 0 < ((rd_L1 t287 (ji73)).length : Int) := of_decide_eq_true (by first | (with_reducible assumption) | assumption); obtain ⟨ad303, e303, hx303_0⟩ := Kd.at_int (by repeat (first | (with_reducible exact HR302_0.out) | (with_reducible refine Kd.C_alloc ?_ _) | (with_reducible refine Kd.C_drewN ?_ _) | (with_reducible refine Kd.C_drew ?_) | exact HR302_0.out)) 0 p303 q303; cases e303; have qi303 : (0 < (rd_L1 t287 (ji73)).length) = True := eq_true (by omega); (try rw [show ((0 : Int)).toNat = 0 from rfl] at hx303_0); (try rw [Addr.add_zero'] at hx303_0); replace p303 := eq_true p303; replace q303 := eq_true q303; have p304 : 0 ≤ (0 : Int) := (by omega); have q304 : 0 < ((rd_L1 t287 x206_4).length : Int) := of_decide_eq_true (by first | (with_reducible assumption) | assumption); obtain ⟨ad304, e304, hx304_0⟩ := Kd.at_int (by repeat (first | (with_reducible exact HR296_0.out) | (with_reducible refine Kd.C_alloc ?_ _) | (with_reducible refine Kd.C_drewN ?_ _) | (with_reducible refine Kd.C_drew ?_) | exact HR296_0.out)) 0 p304 q304; obtain rfl : ad297 = ad304 := (by injection e304); have qi304 : (0 < (rd_L1 t287 x206_4).length) = True := eq_true (by omega); (try rw [show ((0 : Int)).toNat = 0 from rfl] at hx304_0); (try rw [Addr.add_zero'] at hx304_0); replace p304 := eq_true p304; replace q304 := eq_true q304; have p305 : 0 ≤ (1 : Int) := (by omega); have q305 : 1 < ((rd_L1 t287 x206_4).length : Int) := of_decide_eq_true (by first | (with_reducible assumption) | assumption); obtain ⟨ad305, e305, hx305_0⟩ := Kd.at_int (by repeat (first | (with_reducible exact HR296_0.out) | (with_reducible refine Kd.C_alloc ?_ _) | (with_reducible refine Kd.C_drewN ?_ _) | (with_reducible refine Kd.C_drew ?_) | exact HR296_0.out)) 1 p305 q305; obtain rfl : ad297 = ad305 := (by injection e305); (try simp only [show (1 : Int).toNat = 1 from rfl, Nat.reduceMul, Nat.reduceEqDiff, Go.Addr.add, ↓reduceIte] at hx305_0); have qi305 : (1 < (rd_L1 t287 x206_4).length) = True := eq_true (by omega); (try rw [show ((1 : Int)).toNat = 1 from rfl] at hx305_0); replace p305 := eq_true p305; replace q305 := eq_true q305))
                                                          repeat (go_quiet (first | (go_at_call 15; (with_reducible refine (impl_SquareQuotient.calls (rd (rd_L1 t287 x206_4) 0) (rd (rd_L1 t287 x206_4) 1) t299 true _ A69.out).mono ?_); rintro e w' ⟨rfl, ⟨nd, rfl⟩⟩; (try first | exact ⟨rfl, _, World.drewN_drewN _ _ _⟩ | exact ⟨rfl, _, Eq.trans (World.drewN_drewN _ _ _) (congrArg (World.drewN _) (Nat.add_assoc _ _ _))⟩); have p301 : 0 ≤ (1 : Int) := (by omega); have q301 : 1 < ((rd_L1 t287 x206_4).length : Int) := of_decide_eq_true (by first | (with_reducible assumption) | assumption); obtain ⟨ad301, e301, hx301_0⟩ := Kd.at_int (by repeat (first | (with_reducible exact HR296_0.out) | (with_reducible refine Kd.C_alloc ?_ _) | (with_reducible refine Kd.C_drewN ?_ _) | (with_reducible refine Kd.C_drew ?_) | exact HR296_0.out)) 1 p301 q301; obtain rfl : ad297 = ad301 := (by injection e301); (try simp only [show (1 : Int).toNat = 1 from rfl, Nat.reduceMul, Nat.reduceEqDiff, Go.Addr.add, ↓reduceIte] at hx301_0); have qi301 : (1 < (rd_L1 t287 x206_4).length) = True := eq_true (by omega); (try rw [show ((1 : Int)).toNat = 1 from rfl] at hx301_0); replace p301 := eq_true p301; replace q301 := eq_true q301; have p302 : 0 ≤ ((ji73) : Int) := of_decide_eq_true (by first | (with_reducible assumption) | assumption); have q302 : (ji73) < (t287.length : Int) := of_decide_eq_true (by first | (with_reducible assumption) | assumption); obtain ⟨ad302, A302_0, c302_0, e302, hx302_0, hl302_0, hi302_0⟩ := at_L1 (Kd.N_reads' HO_22.out).2.2 (ji73) p302 q302; obtain rfl : ad296 = ad302 := (by injection e302); obtain ⟨ce302, hce302, hMe302, hcc302⟩ := Kd.N_get HO_22.out [] (ji73) p302 (by first | exact q302 | exact of_decide_eq_true (by first | (with_reducible assumption) | assumption) | (have e_ := (Kd.N_reads' HO_22.out).1; omega)); obtain ⟨ua302_0, uc302_0, rfl, ul302_0, ge302_0⟩ := Kd.FK_slice_open hMe302; have hv302_0 := hcc302 0 _ rfl; rw [Nat.add_zero, show ((Kd.slice 3 (Kd.int .i64))).sz = 1 from rfl, Nat.mul_one] at hv302_0; replace hv302_0 := Option.some.inj (hv302_0.symm.trans hx302_0); injection hv302_0 with hva_ hvn_ hvc_; rw [hva_] at ge302_0; rw [hvc_] at ul302_0; have HL302_0 := Aside0.mk (show Kd.V (Kd.int .i64) 3 _ w.heap.size _ _ (rd_L1 t287 (ji73)) from Kd.V_mk ul302_0 ge302_0); clear hva_ hvn_ hvc_ ge302_0 ul302_0; clear hcc302 hce302; have HR302_0 := Aside0.mk hi302_0; have HC302_0 := Aside0.mk hl302_0; clear hi302_0 hl302_0; replace p302 := eq_true p302; replace q302 := eq_true q302; have p303 : 0 ≤ (0 : Int) := (by omega); have q303 : 0 < ((rd_L1 t287 (ji73)).length : Int) := of_decide_eq_true (by first | (with_reducible assumption) | assumption); obtain ⟨ad303, e303, hx303_0⟩ := Kd.at_int (by repeat (first | (with_reducible exact HR302_0.out) | (with_reducible refine Kd.C_alloc ?_ _) | (with_reducible refine Kd.C_drewN ?_ _) | (with_reducible refine Kd.C_drew ?_) | exact HR302_0.out)) 0 p303 q303; cases e303; have qi303 : (0 < (rd_L1 t287 (ji73)).length) = True := eq_true (by omega); (try rw [show ((0 : Int)).toNat = 0 from rfl] at hx303_0); (try rw [Addr.add_zero'] at hx303_0); replace p303 := eq_true p303; replace q303 := eq_true q303; have p304 : 0 ≤ (0 : Int) := (by omega); have q304 : 0 < ((rd_L1 t287 x206_4).length : Int) := of_decide_eq_true (by first | (with_reducible assumption) | assumption); obtain ⟨ad304, e304, hx304_0⟩ := Kd.at_int (by repeat (first | (with_reducible exact HR296_0.out) | (with_reducible refine Kd.C_alloc ?_ _) | (with_reducible refine Kd.C_drewN ?_ _) | (with_reducible refine Kd.C_drew ?_) | exact HR296_0.out)) 0 p304 q304; obtain rfl : ad297 = ad304 := (by injection e304); have qi304 : (0 < (rd_L1 t287 x206_4).length) = True := eq_true (by omega); (try rw [show ((0 : Int)).toNat = 0 from rfl] at hx304_0); (try rw [Addr.add_zero'] at hx304_0); replace p304 := eq_true p304; replace q304 := eq_true q304; have p305 : 0 ≤ (1 : Int) := (by omega); have q305 : 1 < ((rd_L1 t287 x206_4).length : Int) := of_decide_eq_true (by first | (with_reducible assumption) | assumption); obtain ⟨ad305, e305, hx305_0⟩ := Kd.at_int (by repeat (first | (with_reducible exact HR296_0.out) | (with_reducible refine Kd.C_alloc ?_ _) | (with_reducible refine Kd.C_drewN ?_ _) | (with_reducible refine Kd.C_drew ?_) | exact HR296_0.out)) 1 p305 q305; obtain rfl : ad297 = ad305 := (by injection e305); (try simp only [show (1 : Int).toNat = 1 from rfl, Nat.reduceMul, Nat.reduceEqDiff, Go.Addr.add, ↓reduceIte] at hx305_0); have qi305 : (1 < (rd_L1 t287 x206_4).length) = True := eq_true (by omega); (try rw [show ((1 : Int)).toNat = 1 from rfl] at hx305_0); replace p305 := eq_true p305; replace q305 := eq_true q305)); try go_wp2_with (first | (go_at_call 15; (with_reducible refine (impl_SquareQuotient.calls (rd (rd_L1 t287 x206_4) 0) (rd (rd_L1 t287 x206_4) 1) t299 true _ A69.out).mono ?_); rintro e w' ⟨rfl, ⟨nd, rfl⟩⟩; (try first | exact ⟨rfl, _, World.drewN_drewN _ _ _⟩ | exact ⟨rfl, _, Eq.trans (World.drewN_drewN _ _ _) (congrArg (World.drewN _) (Nat.add_assoc _ _ _))⟩); have p301 : 0 ≤ (1 : Int) := (by omega); have q301 : 1 < ((rd_L1 t287 x206_4).length : Int) := of_decide_eq_true (by first | (with_reducible assumption) | assumption); obtain ⟨ad301, e301, hx301_0⟩ := Kd.at_int (by repeat (first | (with_reducible exact HR296_0.out) | (with_reducible refine Kd.C_alloc ?_ _) | (with_reducible refine Kd.C_drewN ?_ _) | (with_reducible refine Kd.C_drew ?_) | exact HR296_0.out)) 1 p301 q301; obtain rfl : ad297 = ad301 := (by injection e301); (try simp only [show (1 : Int).toNat = 1 from rfl, Nat.reduceMul, Nat.reduceEqDiff, Go.Addr.add, ↓reduceIte] at hx301_0); have qi301 : (1 < (rd_L1 t287 x206_4).length) = True := eq_true (by omega); (try rw [show ((1 : Int)).toNat = 1 from rfl] at hx301_0); replace p301 := eq_true p301; replace q301 := eq_true q301; have p302 : 0 ≤ ((ji73) : Int) := of_decide_eq_true (by first | (with_reducible assumption) | assumption); have q302 : (ji73) < (t287.length : Int) := of_decide_eq_true (by first | (with_reducible assumption) | assumption); obtain ⟨ad302, A302_0, c302_0, e302, hx302_0, hl302_0, hi302_0⟩ := at_L1 (Kd.N_reads' HO_22.out).2.2 (ji73) p302 q302; obtain rfl : ad296 = ad302 := (by injection e302); obtain ⟨ce302, hce302, hMe302, hcc302⟩ := Kd.N_get HO_22.out [] (ji73) p302 (by first | exact q302 | exact of_decide_eq_true (by first | (with_reducible assumption) | assumption) | (have e_ := (Kd.N_reads' HO_22.out).1; omega)); obtain ⟨ua302_0, uc302_0, rfl, ul302_0, ge302_0⟩ := Kd.FK_slice_open hMe302; have hv302_0 := hcc302 0 _ rfl; rw [Nat.add_zero, show ((Kd.slice 3 (Kd.int .i64))).sz = 1 from rfl, Nat.mul_one] at hv302_0; replace hv302_0 := Option.some.inj (hv302_0.symm.trans hx302_0); injection hv302_0 with hva_ hvn_ hvc_; rw [hva_] at ge302_0; rw [hvc_] at ul302_0; have HL302_0 := Aside0.mk (show Kd.V (Kd.int .i64) 3 _ w.heap.size _ _ (rd_L1 t287 (ji73)) from Kd.V_mk ul302_0 ge302_0); clear hva_ hvn_ hvc_ ge302_0 ul302_0; clear hcc302 hce302; have HR302_0 := Aside0.mk hi302_0; have HC302_0 := Aside0.mk hl302_0; clear hi302_0 hl302_0; replace p302 := eq_true p302; replace q302 := eq_true q302; have p303 : 0 ≤ (0 : Int) := (by omega); have q303 : 0 < ((rd_L1 t287 (ji73)).length : Int) := of_decide_eq_true (by first | (with_reducible assumption) | assumption); obtain ⟨ad303, e303, hx303_0⟩ := Kd.at_int (by repeat (first | (with_reducible exact HR302_0.out) | (with_reducible refine Kd.C_alloc ?_ _) | (with_reducible refine Kd.C_drewN ?_ _) | (with_reducible refine Kd.C_drew ?_) | exact HR302_0.out)) 0 p303 q303; cases e303; have qi303 : (0 < (rd_L1 t287 (ji73)).length) = True := eq_true (by omega); (try rw [show ((0 : Int)).toNat = 0 from rfl] at hx303_0); (try rw [Addr.add_zero'] at hx303_0); replace p303 := eq_true p303; replace q303 := eq_true q303; have p304 : 0 ≤ (0 : Int) := (by omega); have q304 : 0 < ((rd_L1 t287 x206_4).length : Int) := of_decide_eq_true (by first | (with_reducible assumption) | assumption); obtain ⟨ad304, e304, hx304_0⟩ := Kd.at_int (by repeat (first | (with_reducible exact HR296_0.out) | (with_reducible refine Kd.C_alloc ?_ _) | (with_reducible refine Kd.C_drewN ?_ _) | (with_reducible refine Kd.C_drew ?_) | exact HR296_0.out)) 0 p304 q304; obtain rfl : ad297 = ad304 := (by injection e304); have qi304 : (0 < (rd_L1 t287 x206_4).length) = True := eq_true (by omega); (try rw [show ((0 : Int)).toNat = 0 from rfl] at hx304_0); (try rw [Addr.add_zero'] at hx304_0); replace p304 := eq_true p304; replace q304 := eq_true q304; have p305 : 0 ≤ (1 : Int) := (by omega); have q305 : 1 < ((rd_L1 t287 x206_4).length : Int) := of_decide_eq_true (by first | (with_reducible assumption) | assumption); obtain ⟨ad305, e305, hx305_0⟩ := Kd.at_int (by repeat (first | (with_reducible exact HR296_0.out) | (with_reducible refine Kd.C_alloc ?_ _) | (with_reducible refine Kd.C_drewN ?_ _) | (with_reducible refine Kd.C_drew ?_) | exact HR296_0.out)) 1 p305 q305; obtain rfl : ad297 = ad305 := (by injection e305); (try simp only [show (1 : Int).toNat = 1 from rfl, Nat.reduceMul, Nat.reduceEqDiff, Go.Addr.add, ↓reduceIte] at hx305_0); have qi305 : (1 < (rd_L1 t287 x206_4).length) = True := eq_true (by omega); (try rw [show ((1 : Int)).toNat = 1 from rfl] at hx305_0); replace p305 := eq_true p305; replace q305 := eq_true q305)))
                                                          go_roundg k4
                                                          case measure => have := HJ9.out; have := HJ23.out; have := HJ53.out; have := HK4.out; omega
                                                          case rel => exact ⟨(wrap64 (x206_4 + 1)), (by first | rfl | (simp; done) | (simp [*]; done)), H', ⟨by have := HJ9.out; have := HJ23.out; have := HJ53.out; have := HK4.out; omega⟩, ⟨by (with_reducible repeat (first | apply Kd.N_alloc | apply Kd.N_drewN | apply Kd.N_drew)); exact HO_22.out⟩, ⟨by (with_reducible repeat (first | apply Kd.N_alloc | apply Kd.N_drewN | apply Kd.N_drew)); exact HO_204.out⟩, ⟨by repeat (first | (with_reducible first | exact HB.out | apply below_alloc | apply pw_below_drewN | apply below_drew1) | exact HB.out | exact Below.refl _ _)⟩⟩
                                                      · rw [if_neg c77] at H
                                                        have c77b0 : ((rd (rd_L1 t287 x206_4) 1) == (rd (rd_L1 t287 (ji73)) 0)) = false := beq_eq_false_iff_ne.mpr c77
                                                        have c77b1 : ((rd (rd_L1 t287 x206_4) 1) != (rd (rd_L1 t287 (ji73)) 0)) = true := bne_iff_ne.mpr c77
                                                        obtain rfl := Option.some.inj H
                                                        have p296 : 0 ≤ (x206_4 : Int) := of_decide_eq_true (by first | (with_reducible assumption) | assumption)
                                                        have q296 : x206_4 < (t287.length : Int) := of_decide_eq_true (by first | (with_reducible assumption) | assumption)
                                                        obtain ⟨ad296, A296_0, c296_0, e296, hx296_0, hl296_0, hi296_0⟩ := at_L1 (Kd.N_reads' HO_204.out).2.2 x206_4 p296 q296
                                                        cases e296
                                                        obtain ⟨ce296, hce296, hMe296, hcc296⟩ := Kd.N_get HO_204.out [] x206_4 p296 (by first | exact q296 | exact of_decide_eq_true (by first | (with_reducible assumption) | assumption) | (have e_ := (Kd.N_reads' HO_204.out).1; omega))
                                                        obtain ⟨ua296_0, uc296_0, rfl, ul296_0, ge296_0⟩ := Kd.FK_slice_open hMe296
                                                        have hv296_0 := hcc296 0 _ rfl
                                                        rw [Nat.add_zero, show ((Kd.slice 3 (Kd.int .i64))).sz = 1 from rfl, Nat.mul_one] at hv296_0
                                                        replace hv296_0 := Option.some.inj (hv296_0.symm.trans hx296_0)
                                                        injection hv296_0 with hva_ hvn_ hvc_
                                                        rw [hva_] at ge296_0
                                                        rw [hvc_] at ul296_0
                                                        have HL296_0 := Aside0.mk (show Kd.V (Kd.int .i64) 3 _ w.heap.size _ _ (rd_L1 t287 x206_4) from Kd.V_mk ul296_0 ge296_0)
                                                        clear hva_ hvn_ hvc_ ge296_0 ul296_0
                                                        clear hcc296 hce296
                                                        have HR296_0 := Aside0.mk hi296_0
                                                        have HC296_0 := Aside0.mk hl296_0
                                                        clear hi296_0 hl296_0
                                                        replace p296 := eq_true p296
                                                        replace q296 := eq_true q296
                                                        have p297 : 0 ≤ (0 : Int) := (by omega)
                                                        have q297 : 0 < ((rd_L1 t287 x206_4).length : Int) := of_decide_eq_true (by first | (with_reducible assumption) | assumption)
                                                        obtain ⟨ad297, e297, hx297_0⟩ := Kd.at_int (by repeat (first | (with_reducible exact HR296_0.out) | (with_reducible refine Kd.C_alloc ?_ _) | (with_reducible refine Kd.C_drewN ?_ _) | (with_reducible refine Kd.C_drew ?_) | exact HR296_0.out)) 0 p297 q297
                                                        cases e297
                                                        have qi297 : (0 < (rd_L1 t287 x206_4).length) = True := eq_true (by omega)
                                                        (try rw [show ((0 : Int)).toNat = 0 from rfl] at hx297_0)
                                                        (try rw [Addr.add_zero'] at hx297_0)
                                                        replace p297 := eq_true p297
                                                        replace q297 := eq_true q297
                                                        have p298 : 0 ≤ (1 : Int) := (by omega)
                                                        have q298 : 1 < ((rd_L1 t287 x206_4).length : Int) := of_decide_eq_true (by first | (with_reducible assumption) | assumption)
                                                        obtain ⟨ad298, e298, hx298_0⟩ := Kd.at_int (by repeat (first | (with_reducible exact HR296_0.out) | (with_reducible refine Kd.C_alloc ?_ _) | (with_reducible refine Kd.C_drewN ?_ _) | (with_reducible refine Kd.C_drew ?_) | exact HR296_0.out)) 1 p298 q298
                                                        obtain rfl : ad297 = ad298 := (by injection e298)
                                                        (try simp only [show (1 : Int).toNat = 1 from rfl, Nat.reduceMul, Nat.reduceEqDiff, Go.Addr.add, ↓reduceIte] at hx298_0)
                                                        have qi298 : (1 < (rd_L1 t287 x206_4).length) = True := eq_true (by omega)
                                                        (try rw [show ((1 : Int)).toNat = 1 from rfl] at hx298_0)
                                                        replace p298 := eq_true p298
                                                        replace q298 := eq_true q298
                                                        go_wp2_with (first | (go_at_call 15; (with_reducible refine (impl_SquareQuotient.calls (rd (rd_L1 t287 x206_4) 0) (rd (rd_L1 t287 x206_4) 1) t299 true _ A69.out).mono ?_); rintro e w' ⟨rfl, ⟨nd, rfl⟩⟩; (try first | exact ⟨rfl, _, World.drewN_drewN _ _ _⟩ | exact ⟨rfl, _, Eq.trans (World.drewN_drewN _ _ _) (congrArg (World.drewN _) (Nat.add_assoc _ _ _))⟩); have p301 : 0 ≤ (1 : Int) := (by omega); have q301 : 1 < ((rd_L1 t287 x206_4).length : Int) := of_decide_eq_true (by first | (with_reducible assumption) | assumption); obtain ⟨ad301, e301, hx301_0⟩ := Kd.at_int (by repeat (first | (with_reducible exact HR296_0.out) | (with_reducible refine Kd.C_alloc ?_ _) | (with_reducible refine Kd.C_drewN ?_ _) | (with_reducible refine Kd.C_drew ?_) | exact HR296_0.out)) 1 p301 q301; obtain rfl : ad297 = ad301 := (by injection e301); (try simp only [show (1 : Int).toNat = 1 from rfl, Nat.reduceMul, Nat.reduceEqDiff, Go.Addr.add, ↓reduceIte] at hx301_0); have qi301 : (1 < (rd_L1 t287 x206_4).length) = True := eq_true (by omega); (try rw [show ((1 : Int)).toNat = 1 from rfl] at hx301_0); replace p301 := eq_true p301; replace q301 := eq_true q301; have p302 : 0 ≤ ((ji73) : Int) := of_decide_eq_true (by first | (with_reducible assumption) | assumption); have q302 : (ji73) < (t287.length : Int) := of_decide_eq_true (by first | (with_reducible assumption) | assumption); obtain ⟨ad302, A302_0, c302_0, e302, hx302_0, hl302_0, hi302_0⟩ := at_L1 (Kd.N_reads' HO_22.out).2.2 (ji73) p302 q302; obtain rfl : ad296 = ad302 := (by injection e302); obtain ⟨ce302, hce302, hMe302, hcc302⟩ := Kd.N_get HO_22.out [] (ji73) p302 (by first | exact q302 | exact of_decide_eq_true (by first | (with_reducible assumption) | assumption) | (have e_ := (Kd.N_reads' HO_22.out).1; omega)); obtain ⟨ua302_0, uc302_0, rfl, ul302_0, ge302_0⟩ := Kd.FK_slice_open hMe302; have hv302_0 := hcc302 0 _ rfl; rw [Nat.add_zero, show ((Kd.slice 3 (Kd.int .i64))).sz = 1 from rfl, Nat.mul_one] at hv302_0; replace hv302_0 := Option.some.inj (hv302_0.symm.trans hx302_0); injection hv302_0 with hva_ hvn_ hvc_; rw [hva_] at ge302_0; rw [hvc_] at ul302_0; have HL302_0 := Aside0.mk (show Kd.V (Kd.int .i64) 3 _ w.heap.size _ _ (rd_L1 t287 (ji73)) from Kd.V_mk ul302_0 ge302_0); clear hva_ hvn_ hvc_ ge302_0 ul302_0; clear hcc302 hce302; have HR302_0 := Aside0.mk hi302_0; have HC302_0 := Aside0.mk hl302_0; clear hi302_0 hl302_0; replace p302 := eq_true p302; replace q302 := eq_true q302; have p303 : 0 ≤ (0 : Int) := (by omega); have q303 : 0 < ((rd_L1 t287 (ji73)).length : Int) := of_decide_eq_true (by first | (with_reducible assumption) | assumption); obtain ⟨ad303, e303, hx303_0⟩ := Kd.at_int (by repeat (first | (with_reducible exact HR302_0.out) | (with_reducible refine Kd.C_alloc ?_ _) | (with_reducible refine Kd.C_drewN ?_ _) | (with_reducible refine Kd.C_drew ?_) | exact HR302_0.out)) 0 p303 q303; cases e303; have qi303 : (0 < (rd_L1 t287 (ji73)).length) = True := eq_true (by omega); (try rw [show ((0 : Int)).toNat = 0 from rfl] at hx303_0); (try rw [Addr.add_zero'] at hx303_0); replace p303 := eq_true p303; replace q303 := eq_true q303))
                                                        repeat (go_quiet (first | (go_at_call 15; (with_reducible refine (impl_SquareQuotient.calls (rd (rd_L1 t287 x206_4) 0) (rd (rd_L1 t287 x206_4) 1) t299 true _ A69.out).mono ?_); rintro e w' ⟨rfl, ⟨nd, rfl⟩⟩; (try first | exact ⟨rfl, _, World.drewN_drewN _ _ _⟩ | exact ⟨rfl, _, Eq.trans (World.drewN_drewN _ _ _) (congrArg (World.drewN _) (Nat.add_assoc _ _ _))⟩); have p301 : 0 ≤ (1 : Int) := (by omega); have q301 : 1 < ((rd_L1 t287 x206_4).length : Int) := of_decide_eq_true (by first | (with_reducible assumption) | assumption); obtain ⟨ad301, e301, hx301_0⟩ := Kd.at_int (by repeat (first | (with_reducible exact HR296_0.out) | (with_reducible refine Kd.C_alloc ?_ _) | (with_reducible refine Kd.C_drewN ?_ _) | (with_reducible refine Kd.C_drew ?_) | exact HR296_0.out)) 1 p301 q301; obtain rfl : ad297 = ad301 := (by injection e301); (try simp only [show (1 : Int).toNat = 1 from rfl, Nat.reduceMul, Nat.reduceEqDiff, Go.Addr.add, ↓reduceIte] at hx301_0); have qi301 : (1 < (rd_L1 t287 x206_4).length) = True := eq_true (by omega); (try rw [show ((1 : Int)).toNat = 1 from rfl] at hx301_0); replace p301 := eq_true p301; replace q301 := eq_true q301; have p302 : 0 ≤ ((ji73) : Int) := of_decide_eq_true (by first | (with_reducible assumption) | assumption); have q302 : (ji73) < (t287.length : Int) := of_decide_eq_true (by first | (with_reducible assumption) | assumption); obtain ⟨ad302, A302_0, c302_0, e302, hx302_0, hl302_0, hi302_0⟩ := at_L1 (Kd.N_reads' HO_22.out).2.2 (ji73) p302 q302; obtain rfl : ad296 = ad302 := (by injection e302); obtain ⟨ce302, hce302, hMe302, hcc302⟩ := Kd.N_get HO_22.out [] (ji73) p302 (by first | exact q302 | exact of_decide_eq_true (by first | (with_reducible assumption) | assumption) | (have e_ := (Kd.N_reads' HO_22.out).1; omega)); obtain ⟨ua302_0, uc302_0, rfl, ul302_0, ge302_0⟩ := Kd.FK_slice_open hMe302; have hv302_0 := hcc302 0 _ rfl; rw [Nat.add_zero, show ((Kd.slice 3 (Kd.int .i64))).sz = 1 from rfl, Nat.mul_one] at hv302_0; replace hv302_0 := Option.some.inj (hv302_0.symm.trans hx302_0); injection hv302_0 with hva_ hvn_ hvc_; rw [hva_] at ge302_0; rw [hvc_] at ul302_0; have HL302_0 := Aside0.mk (show Kd.V (Kd.int .i64) 3 _ w.heap.size _ _ (rd_L1 t287 (ji73)) from Kd.V_mk ul302_0 ge302_0); clear hva_ hvn_ hvc_ ge302_0 ul302_0; clear hcc302 hce302; have HR302_0 := Aside0.mk hi302_0; have HC302_0 := Aside0.mk hl302_0; clear hi302_0 hl302_0; replace p302 := eq_true p302; replace q302 := eq_true q302; have p303 : 0 ≤ (0 : Int) := (by omega); have q303 : 0 < ((rd_L1 t287 (ji73)).length : Int) := of_decide_eq_true (by first | (with_reducible assumption) | assumption); obtain ⟨ad303, e303, hx303_0⟩ := Kd.at_int (by repeat (first | (with_reducible exact HR302_0.out) | (with_reducible refine Kd.C_alloc ?_ _) | (with_reducible refine Kd.C_drewN ?_ _) | (with_reducible refine Kd.C_drew ?_) | exact HR302_0.out)) 0 p303 q303; cases e303; have qi303 : (0 < (rd_L1 t287 (ji73)).length) = True := eq_true (by omega); (try rw [show ((0 : Int)).toNat = 0 from rfl] at hx303_0); (try rw [Addr.add_zero'] at hx303_0); replace p303 := eq_true p303; replace q303 := eq_true q303)); try go_wp2_with (first | (go_at_call 15; (with_reducible refine (impl_SquareQuotient.calls (rd (rd_L1 t287 x206_4) 0) (rd (rd_L1 t287 x206_4) 1) t299 true _ A69.out).mono ?_); rintro e w' ⟨rfl, ⟨nd, rfl⟩⟩; (try first | exact ⟨rfl, _, World.drewN_drewN _ _ _⟩ | exact ⟨rfl, _, Eq.trans (World.drewN_drewN _ _ _) (congrArg (World.drewN _) (Nat.add_assoc _ _ _))⟩); have p301 : 0 ≤ (1 : Int) := (by omega); have q301 : 1 < ((rd_L1 t287 x206_4).length : Int) := of_decide_eq_true (by first | (with_reducible assumption) | assumption); obtain ⟨ad301, e301, hx301_0⟩ := Kd.at_int (by repeat (first | (with_reducible exact HR296_0.out) | (with_reducible refine Kd.C_alloc ?_ _) | (with_reducible refine Kd.C_drewN ?_ _) | (with_reducible refine Kd.C_drew ?_) | exact HR296_0.out)) 1 p301 q301; obtain rfl : ad297 = ad301 := (by injection e301); (try simp only [show (1 : Int).toNat = 1 from rfl, Nat.reduceMul, Nat.reduceEqDiff, Go.Addr.add, ↓reduceIte] at hx301_0); have qi301 : (1 < (rd_L1 t287 x206_4).length) = True := eq_true (by omega); (try rw [show ((1 : Int)).toNat = 1 from rfl] at hx301_0); replace p301 := eq_true p301; replace q301 := eq_true q301; have p302 : 0 ≤ ((ji73) : Int) := of_decide_eq_true (by first | (with_reducible assumption) | assumption); have q302 : (ji73) < (t287.length : Int) := of_decide_eq_true (by first | (with_reducible assumption) | assumption); obtain ⟨ad302, A302_0, c302_0, e302, hx302_0, hl302_0, hi302_0⟩ := at_L1 (Kd.N_reads' HO_22.out).2.2 (ji73) p302 q302; obtain rfl : ad296 = ad302 := (by injection e302); obtain ⟨ce302, hce302, hMe302, hcc302⟩ := Kd.N_get HO_22.out [] (ji73) p302 (by first | exact q302 | exact of_decide_eq_true (by first | (with_reducible assumption) | assumption) | (have e_ := (Kd.N_reads' HO_22.out).1; omega)); obtain ⟨ua302_0, uc302_0, rfl, ul302_0, ge302_0⟩ := Kd.FK_slice_open hMe302; have hv302_0 := hcc302 0 _ rfl; rw [Nat.add_zero, show ((Kd.slice 3 (Kd.int .i64))).sz = 1 from rfl, Nat.mul_one] at hv302_0; replace hv302_0 := Option.some.inj (hv302_0.symm.trans hx302_0); injection hv302_0 with hva_ hvn_ hvc_; rw [hva_] at ge302_0; rw [hvc_] at ul302_0; have HL302_0 := Aside0.mk (show Kd.V (Kd.int .i64) 3 _ w.heap.size _ _ (rd_L1 t287 (ji73)) from Kd.V_mk ul302_0 ge302_0); clear hva_ hvn_ hvc_ ge302_0 ul302_0; clear hcc302 hce302; have HR302_0 := Aside0.mk hi302_0; have HC302_0 := Aside0.mk hl302_0; clear hi302_0 hl302_0; replace p302 := eq_true p302; replace q302 := eq_true q302; have p303 : 0 ≤ (0 : Int) := (by omega); have q303 : 0 < ((rd_L1 t287 (ji73)).length : Int) := of_decide_eq_true (by first | (with_reducible assumption) | assumption); obtain ⟨ad303, e303, hx303_0⟩ := Kd.at_int (by repeat (first | (with_reducible exact HR302_0.out) | (with_reducible refine Kd.C_alloc ?_ _) | (with_reducible refine Kd.C_drewN ?_ _) | (with_reducible refine Kd.C_drew ?_) | exact HR302_0.out)) 0 p303 q303; cases e303; have qi303 : (0 < (rd_L1 t287 (ji73)).length) = True := eq_true (by omega); (try rw [show ((0 : Int)).toNat = 0 from rfl] at hx303_0); (try rw [Addr.add_zero'] at hx303_0); replace p303 := eq_true p303; replace q303 := eq_true q303)))
                                                        go_ret
                                                        exact ⟨by first | rfl | (simp [errW_none, errW_some] <;> rfl) | (simp only [← hji73]; first | rfl | (simp [errW_none, errW_some] <;> rfl)) | (simp [*, errW_none, errW_some] <;> rfl), by repeat (first | (with_reducible first | exact HB.out | apply below_alloc | apply pw_below_drewN | apply below_drew1) | exact HB.out | exact Below.refl _ _)⟩
                                                    · rw [if_neg c76] at H
                                                      exact absurd H (by simp)
                                                  · rw [if_neg c75] at H
                                                    exact absurd H (by simp)
                                                · rw [if_neg c74] at H
                                                  exact absurd H (by simp)
                                              · rw [if_neg c72] at H
                                                have c72b0 : decide (0 < x206_4) = false := decide_eq_false c72
                                                clear c72
                                                have H' := Aside0.mk H
                                                clear H
                                                have p296 : 0 ≤ (x206_4 : Int) := of_decide_eq_true (by first | (with_reducible assumption) | assumption)
                                                have q296 : x206_4 < (t287.length : Int) := of_decide_eq_true (by first | (with_reducible assumption) | assumption)
                                                obtain ⟨ad296, A296_0, c296_0, e296, hx296_0, hl296_0, hi296_0⟩ := at_L1 (Kd.N_reads' HO_204.out).2.2 x206_4 p296 q296
                                                cases e296
                                                obtain ⟨ce296, hce296, hMe296, hcc296⟩ := Kd.N_get HO_204.out [] x206_4 p296 (by first | exact q296 | exact of_decide_eq_true (by first | (with_reducible assumption) | assumption) | (have e_ := (Kd.N_reads' HO_204.out).1; omega))
                                                obtain ⟨ua296_0, uc296_0, rfl, ul296_0, ge296_0⟩ := Kd.FK_slice_open hMe296
                                                have hv296_0 := hcc296 0 _ rfl
                                                rw [Nat.add_zero, show ((Kd.slice 3 (Kd.int .i64))).sz = 1 from rfl, Nat.mul_one] at hv296_0
                                                replace hv296_0 := Option.some.inj (hv296_0.symm.trans hx296_0)
                                                injection hv296_0 with hva_ hvn_ hvc_
                                                rw [hva_] at ge296_0
                                                rw [hvc_] at ul296_0
                                                have HL296_0 := Aside0.mk (show Kd.V (Kd.int .i64) 3 _ w.heap.size _ _ (rd_L1 t287 x206_4) from Kd.V_mk ul296_0 ge296_0)
                                                clear hva_ hvn_ hvc_ ge296_0 ul296_0
                                                clear hcc296 hce296
                                                have HR296_0 := Aside0.mk hi296_0
                                                have HC296_0 := Aside0.mk hl296_0
                                                clear hi296_0 hl296_0
                                                replace p296 := eq_true p296
                                                replace q296 := eq_true q296
                                                have p297 : 0 ≤ (0 : Int) := (by omega)
                                                have q297 : 0 < ((rd_L1 t287 x206_4).length : Int) := of_decide_eq_true (by first | (with_reducible assumption) | assumption)
                                                obtain ⟨ad297, e297, hx297_0⟩ := Kd.at_int (by repeat (first | (with_reducible exact HR296_0.out) | (with_reducible refine Kd.C_alloc ?_ _) | (with_reducible refine Kd.C_drewN ?_ _) | (with_reducible refine Kd.C_drew ?_) | exact HR296_0.out)) 0 p297 q297
                                                cases e297
                                                have qi297 : (0 < (rd_L1 t287 x206_4).length) = True := eq_true (by omega)
                                                (try rw [show ((0 : Int)).toNat = 0 from rfl] at hx297_0)
                                                (try rw [Addr.add_zero'] at hx297_0)
                                                replace p297 := eq_true p297
                                                replace q297 := eq_true q297
                                                have p298 : 0 ≤ (1 : Int) := (by omega)
                                                have q298 : 1 < ((rd_L1 t287 x206_4).length : Int) := of_decide_eq_true (by first | (with_reducible assumption) | assumption)
                                                obtain ⟨ad298, e298, hx298_0⟩ := Kd.at_int (by repeat (first | (with_reducible exact HR296_0.out) | (with_reducible refine Kd.C_alloc ?_ _) | (with_reducible refine Kd.C_drewN ?_ _) | (with_reducible refine Kd.C_drew ?_) | exact HR296_0.out)) 1 p298 q298
                                                obtain rfl : ad297 = ad298 := (by injection e298)
                                                (try simp only [show (1 : Int).toNat = 1 from rfl, Nat.reduceMul, Nat.reduceEqDiff, Go.Addr.add, ↓reduceIte] at hx298_0)
                                                have qi298 : (1 < (rd_L1 t287 x206_4).length) = True := eq_true (by omega)
                                                (try rw [show ((1 : Int)).toNat = 1 from rfl] at hx298_0)
                                                replace p298 := eq_true p298
                                                replace q298 := eq_true q298
                                                go_wp2_with (first | (go_at_call 15; (with_reducible refine (impl_SquareQuotient.calls (rd (rd_L1 t287 x206_4) 0) (rd (rd_L1 t287 x206_4) 1) t299 true _ A69.out).mono ?_); rintro e w' ⟨rfl, ⟨nd, rfl⟩⟩; (try first | exact ⟨rfl, _, World.drewN_drewN _ _ _⟩ | exact ⟨rfl, _, Eq.trans (World.drewN_drewN _ _ _) (congrArg (World.drewN _) (Nat.add_assoc _ _ _))⟩)))
                                                repeat (go_quiet (first | (go_at_call 15; (with_reducible refine (impl_SquareQuotient.calls (rd (rd_L1 t287 x206_4) 0) (rd (rd_L1 t287 x206_4) 1) t299 true _ A69.out).mono ?_); rintro e w' ⟨rfl, ⟨nd, rfl⟩⟩; (try first | exact ⟨rfl, _, World.drewN_drewN _ _ _⟩ | exact ⟨rfl, _, Eq.trans (World.drewN_drewN _ _ _) (congrArg (World.drewN _) (Nat.add_assoc _ _ _))⟩))); try go_wp2_with (first | (go_at_call 15; (with_reducible refine (impl_SquareQuotient.calls (rd (rd_L1 t287 x206_4) 0) (rd (rd_L1 t287 x206_4) 1) t299 true _ A69.out).mono ?_); rintro e w' ⟨rfl, ⟨nd, rfl⟩⟩; (try first | exact ⟨rfl, _, World.drewN_drewN _ _ _⟩ | exact ⟨rfl, _, Eq.trans (World.drewN_drewN _ _ _) (congrArg (World.drewN _) (Nat.add_assoc _ _ _))⟩))))
                                                go_roundg k4
                                                case measure => have := HJ9.out; have := HJ23.out; have := HJ53.out; have := HK4.out; omega
                                                case rel => exact ⟨(wrap64 (x206_4 + 1)), (by first | rfl | (simp; done) | (simp [*]; done)), H', ⟨by have := HJ9.out; have := HJ23.out; have := HJ53.out; have := HK4.out; omega⟩, ⟨by (with_reducible repeat (first | apply Kd.N_alloc | apply Kd.N_drewN | apply Kd.N_drew)); exact HO_22.out⟩, ⟨by (with_reducible repeat (first | apply Kd.N_alloc | apply Kd.N_drewN | apply Kd.N_drew)); exact HO_204.out⟩, ⟨by repeat (first | (with_reducible first | exact HB.out | apply below_alloc | apply pw_below_drewN | apply below_drew1) | exact HB.out | exact Below.refl _ _)⟩⟩
                                            · rw [if_neg c71] at H
                                              have c71b0 : (t299 == (wrap64 (t285 * t285))) = false := beq_eq_false_iff_ne.mpr c71
                                              have c71b1 : (t299 != (wrap64 (t285 * t285))) = true := bne_iff_ne.mpr c71
                                              obtain rfl := Option.some.inj H
                                              have p296 : 0 ≤ (x206_4 : Int) := of_decide_eq_true (by first | (with_reducible assumption) | assumption)
                                              have q296 : x206_4 < (t287.length : Int) := of_decide_eq_true (by first | (with_reducible assumption) | assumption)
                                              obtain ⟨ad296, A296_0, c296_0, e296, hx296_0, hl296_0, hi296_0⟩ := at_L1 (Kd.N_reads' HO_204.out).2.2 x206_4 p296 q296
                                              cases e296
                                              obtain ⟨ce296, hce296, hMe296, hcc296⟩ := Kd.N_get HO_204.out [] x206_4 p296 (by first | exact q296 | exact of_decide_eq_true (by first | (with_reducible assumption) | assumption) | (have e_ := (Kd.N_reads' HO_204.out).1; omega))
                                              obtain ⟨ua296_0, uc296_0, rfl, ul296_0, ge296_0⟩ := Kd.FK_slice_open hMe296
                                              have hv296_0 := hcc296 0 _ rfl
                                              rw [Nat.add_zero, show ((Kd.slice 3 (Kd.int .i64))).sz = 1 from rfl, Nat.mul_one] at hv296_0
                                              replace hv296_0 := Option.some.inj (hv296_0.symm.trans hx296_0)
                                              injection hv296_0 with hva_ hvn_ hvc_
                                              rw [hva_] at ge296_0
                                              rw [hvc_] at ul296_0
                                              have HL296_0 := Aside0.mk (show Kd.V (Kd.int .i64) 3 _ w.heap.size _ _ (rd_L1 t287 x206_4) from Kd.V_mk ul296_0 ge296_0)
                                              clear hva_ hvn_ hvc_ ge296_0 ul296_0
                                              clear hcc296 hce296
                                              have HR296_0 := Aside0.mk hi296_0
                                              have HC296_0 := Aside0.mk hl296_0
                                              clear hi296_0 hl296_0
                                              replace p296 := eq_true p296
                                              replace q296 := eq_true q296
                                              have p297 : 0 ≤ (0 : Int) := (by omega)
                                              have q297 : 0 < ((rd_L1 t287 x206_4).length : Int) := of_decide_eq_true (by first | (with_reducible assumption) | assumption)
                                              obtain ⟨ad297, e297, hx297_0⟩ := Kd.at_int (by repeat (first | (with_reducible exact HR296_0.out) | (with_reducible refine Kd.C_alloc ?_ _) | (with_reducible refine Kd.C_drewN ?_ _) | (with_reducible refine Kd.C_drew ?_) | exact HR296_0.out)) 0 p297 q297
                                              cases e297
                                              have qi297 : (0 < (rd_L1 t287 x206_4).length) = True := eq_true (by omega)
                                              (try rw [show ((0 : Int)).toNat = 0 from rfl] at hx297_0)
                                              (try rw [Addr.add_zero'] at hx297_0)
                                              replace p297 := eq_true p297
                                              replace q297 := eq_true q297
                                              have p298 : 0 ≤ (1 : Int) := (by omega)
                                              have q298 : 1 < ((rd_L1 t287 x206_4).length : Int) := of_decide_eq_true (by first | (with_reducible assumption) | assumption)
                                              obtain ⟨ad298, e298, hx298_0⟩ := Kd.at_int (by repeat (first | (with_reducible exact HR296_0.out) | (with_reducible refine Kd.C_alloc ?_ _) | (with_reducible refine Kd.C_drewN ?_ _) | (with_reducible refine Kd.C_drew ?_) | exact HR296_0.out)) 1 p298 q298
                                              obtain rfl : ad297 = ad298 := (by injection e298)
                                              (try simp only [show (1 : Int).toNat = 1 from rfl, Nat.reduceMul, Nat.reduceEqDiff, Go.Addr.add, ↓reduceIte] at hx298_0)
                                              have qi298 : (1 < (rd_L1 t287 x206_4).length) = True := eq_true (by omega)
                                              (try rw [show ((1 : Int)).toNat = 1 from rfl] at hx298_0)
                                              replace p298 := eq_true p298
                                              replace q298 := eq_true q298
                                              go_wp2_with (first | (go_at_call 15; (with_reducible refine (impl_SquareQuotient.calls (rd (rd_L1 t287 x206_4) 0) (rd (rd_L1 t287 x206_4) 1) t299 true _ A69.out).mono ?_); rintro e w' ⟨rfl, ⟨nd, rfl⟩⟩; (try first | exact ⟨rfl, _, World.drewN_drewN _ _ _⟩ | exact ⟨rfl, _, Eq.trans (World.drewN_drewN _ _ _) (congrArg (World.drewN _) (Nat.add_assoc _ _ _))⟩)))
                                              repeat (go_quiet (first | (go_at_call 15; (with_reducible refine (impl_SquareQuotient.calls (rd (rd_L1 t287 x206_4) 0) (rd (rd_L1 t287 x206_4) 1) t299 true _ A69.out).mono ?_); rintro e w' ⟨rfl, ⟨nd, rfl⟩⟩; (try first | exact ⟨rfl, _, World.drewN_drewN _ _ _⟩ | exact ⟨rfl, _, Eq.trans (World.drewN_drewN _ _ _) (congrArg (World.drewN _) (Nat.add_assoc _ _ _))⟩))); try go_wp2_with (first | (go_at_call 15; (with_reducible refine (impl_SquareQuotient.calls (rd (rd_L1 t287 x206_4) 0) (rd (rd_L1 t287 x206_4) 1) t299 true _ A69.out).mono ?_); rintro e w' ⟨rfl, ⟨nd, rfl⟩⟩; (try first | exact ⟨rfl, _, World.drewN_drewN _ _ _⟩ | exact ⟨rfl, _, Eq.trans (World.drewN_drewN _ _ _) (congrArg (World.drewN _) (Nat.add_assoc _ _ _))⟩))))
                                              go_ret
                                              exact ⟨by first | rfl | (simp [errW_none, errW_some] <;> rfl) | (simp [*, errW_none, errW_some] <;> rfl), by repeat (first | (with_reducible first | exact HB.out | apply below_alloc | apply pw_below_drewN | apply below_drew1) | exact HB.out | exact Below.refl _ _)⟩
                                          · replace c70 := Bool.eq_false_iff.mpr c70
                                            subst c70
                                            have H1 : (some false) = some r := by rw [if_neg (show ¬ (false = true) by decide)] at H; exact H
                                            clear H
                                            have H := H1
                                            clear H1
                                            obtain rfl := Option.some.inj H
                                            have p296 : 0 ≤ (x206_4 : Int) := of_decide_eq_true (by first | (with_reducible assumption) | assumption)
                                            have q296 : x206_4 < (t287.length : Int) := of_decide_eq_true (by first | (with_reducible assumption) | assumption)
                                            obtain ⟨ad296, A296_0, c296_0, e296, hx296_0, hl296_0, hi296_0⟩ := at_L1 (Kd.N_reads' HO_204.out).2.2 x206_4 p296 q296
                                            cases e296
                                            obtain ⟨ce296, hce296, hMe296, hcc296⟩ := Kd.N_get HO_204.out [] x206_4 p296 (by first | exact q296 | exact of_decide_eq_true (by first | (with_reducible assumption) | assumption) | (have e_ := (Kd.N_reads' HO_204.out).1; omega))
                                            obtain ⟨ua296_0, uc296_0, rfl, ul296_0, ge296_0⟩ := Kd.FK_slice_open hMe296
                                            have hv296_0 := hcc296 0 _ rfl
                                            rw [Nat.add_zero, show ((Kd.slice 3 (Kd.int .i64))).sz = 1 from rfl, Nat.mul_one] at hv296_0
                                            replace hv296_0 := Option.some.inj (hv296_0.symm.trans hx296_0)
                                            injection hv296_0 with hva_ hvn_ hvc_
                                            rw [hva_] at ge296_0
                                            rw [hvc_] at ul296_0
                                            have HL296_0 := Aside0.mk (show Kd.V (Kd.int .i64) 3 _ w.heap.size _ _ (rd_L1 t287 x206_4) from Kd.V_mk ul296_0 ge296_0)
                                            clear hva_ hvn_ hvc_ ge296_0 ul296_0
                                            clear hcc296 hce296
                                            have HR296_0 := Aside0.mk hi296_0
                                            have HC296_0 := Aside0.mk hl296_0
                                            clear hi296_0 hl296_0
                                            replace p296 := eq_true p296
                                            replace q296 := eq_true q296
                                            have p297 : 0 ≤ (0 : Int) := (by omega)
                                            have q297 : 0 < ((rd_L1 t287 x206_4).length : Int) := of_decide_eq_true (by first | (with_reducible assumption) | assumption)
                                            obtain ⟨ad297, e297, hx297_0⟩ := Kd.at_int (by repeat (first | (with_reducible exact HR296_0.out) | (with_reducible refine Kd.C_alloc ?_ _) | (with_reducible refine Kd.C_drewN ?_ _) | (with_reducible refine Kd.C_drew ?_) | exact HR296_0.out)) 0 p297 q297
                                            cases e297
                                            have qi297 : (0 < (rd_L1 t287 x206_4).length) = True := eq_true (by omega)
                                            (try rw [show ((0 : Int)).toNat = 0 from rfl] at hx297_0)
                                            (try rw [Addr.add_zero'] at hx297_0)
                                            replace p297 := eq_true p297
                                            replace q297 := eq_true q297
                                            have p298 : 0 ≤ (1 : Int) := (by omega)
                                            have q298 : 1 < ((rd_L1 t287 x206_4).length : Int) := of_decide_eq_true (by first | (with_reducible assumption) | assumption)
                                            obtain ⟨ad298, e298, hx298_0⟩ := Kd.at_int (by repeat (first | (with_reducible exact HR296_0.out) | (with_reducible refine Kd.C_alloc ?_ _) | (with_reducible refine Kd.C_drewN ?_ _) | (with_reducible refine Kd.C_drew ?_) | exact HR296_0.out)) 1 p298 q298
                                            obtain rfl : ad297 = ad298 := (by injection e298)
                                            (try simp only [show (1 : Int).toNat = 1 from rfl, Nat.reduceMul, Nat.reduceEqDiff, Go.Addr.add, ↓reduceIte] at hx298_0)
                                            have qi298 : (1 < (rd_L1 t287 x206_4).length) = True := eq_true (by omega)
                                            (try rw [show ((1 : Int)).toNat = 1 from rfl] at hx298_0)
                                            replace p298 := eq_true p298
                                            replace q298 := eq_true q298
                                            go_wp2_with (first | (go_at_call 15; (with_reducible refine (impl_SquareQuotient.calls (rd (rd_L1 t287 x206_4) 0) (rd (rd_L1 t287 x206_4) 1) t299 false _ A69.out).mono ?_); rintro e w' ⟨rfl, ⟨nd, rfl⟩⟩; (try first | exact ⟨rfl, _, World.drewN_drewN _ _ _⟩ | exact ⟨rfl, _, Eq.trans (World.drewN_drewN _ _ _) (congrArg (World.drewN _) (Nat.add_assoc _ _ _))⟩)))
                                            repeat (go_quiet (first | (go_at_call 15; (with_reducible refine (impl_SquareQuotient.calls (rd (rd_L1 t287 x206_4) 0) (rd (rd_L1 t287 x206_4) 1) t299 false _ A69.out).mono ?_); rintro e w' ⟨rfl, ⟨nd, rfl⟩⟩; (try first | exact ⟨rfl, _, World.drewN_drewN _ _ _⟩ | exact ⟨rfl, _, Eq.trans (World.drewN_drewN _ _ _) (congrArg (World.drewN _) (Nat.add_assoc _ _ _))⟩))); try go_wp2_with (first | (go_at_call 15; (with_reducible refine (impl_SquareQuotient.calls (rd (rd_L1 t287 x206_4) 0) (rd (rd_L1 t287 x206_4) 1) t299 false _ A69.out).mono ?_); rintro e w' ⟨rfl, ⟨nd, rfl⟩⟩; (try first | exact ⟨rfl, _, World.drewN_drewN _ _ _⟩ | exact ⟨rfl, _, Eq.trans (World.drewN_drewN _ _ _) (congrArg (World.drewN _) (Nat.add_assoc _ _ _))⟩))))
                                            go_ret
                                            exact ⟨by first | rfl | (simp [errW_none, errW_some] <;> rfl) | (simp [*, errW_none, errW_some] <;> rfl), by repeat (first | (with_reducible first | exact HB.out | apply below_alloc | apply pw_below_drewN | apply below_drew1) | exact HB.out | exact Below.refl _ _)⟩
                                        · rw [if_neg c68] at H
                                          exact absurd H (by simp)
                                      · rw [if_neg c67] at H
                                        exact absurd H (by simp)
                                    · rw [if_neg c66] at H
                                      exact absurd H (by simp)
                                  · rw [if_neg c65] at H
                                    exact absurd H (by simp)
                                · rw [if_neg c64] at H
                                  have c64b0 : decide (x206_4 < (t287.length : Int)) = false := decide_eq_false c64
                                  clear c64
                                  obtain rfl := Option.some.inj H
                                  go_wp2
                                  repeat (go_quiet (fail); try go_wp2)
                                  go_ret
                                  exact ⟨by first | rfl | (simp [errW_none, errW_some] <;> rfl) | (simp [*, errW_none, errW_some] <;> rfl), by repeat (first | (with_reducible first | exact HB.out | apply below_alloc | apply pw_below_drewN | apply below_drew1) | exact HB.out | exact Below.refl _ _)⟩

/-- THE ONE PURE STATEMENT of laws_FnQuotientsAreSquares: yours. -/
def laws_FnQuotientsAreSquares.Pure : Prop := ∀ (l0 : List Int) (l1 : List Int), l0.length ≤ maxLen → l0.length * 1 ≤ 140737488351232 → (∀ x ∈ l0, (Lit.int .u8 x).wf = true) → l1.length ≤ maxLen → l1.length * 1 ≤ 140737488351232 → (∀ x ∈ l1, (Lit.int .u8 x).wf = true) → ∃ k, laws_FnQuotientsAreSquares.f k l0 l1 = some true
theorem laws_FnQuotientsAreSquares.walk (P : laws_FnQuotientsAreSquares.Pure) (a0 : Option Addr) (len0 cap0 : Nat) (z0 : List Int) (a1 : Option Addr) (len1 cap1 : Nat) (z1 : List Int) (w : World) (w0 : (a0 = none ∧ len0 = 0 ∧ cap0 = 0 ∧ z0 = []) ∨ ∃ x, a0 = some x ∧ len0 ≤ cap0 ∧ cap0 ≤ maxLen ∧ z0.length = cap0 ∧ (∀ i, i < z0.length → w.cell? (x.add i) = some (.int .u8 (z0.getD i 0))) ∧ ∀ n ∈ z0, (Lit.int .u8 n).wf = true) (y0 : len0 * 1 ≤ 140737488351232) (w1 : (a1 = none ∧ len1 = 0 ∧ cap1 = 0 ∧ z1 = []) ∨ ∃ x, a1 = some x ∧ len1 ≤ cap1 ∧ cap1 ≤ maxLen ∧ z1.length = cap1 ∧ (∀ i, i < z1.length → w.cell? (x.add i) = some (.int .u8 (z1.getD i 0))) ∧ ∀ n ∈ z1, (Lit.int .u8 n).wf = true) (y1 : len1 * 1 ≤ 140737488351232) :
    Calls Try.prog 4 #[.slice a0 len0 cap0, .slice a1 len1 cap1] w fun e w' => e = .returned (.bool true) ∧ Below w.heap.size w w' := by
  obtain ⟨l0, rfl, hr0, hm0, hw0, hc0⟩ := ReadsInt.ofRowC w0
  obtain ⟨l1, rfl, hr1, hm1, hw1, hc1⟩ := ReadsInt.ofRowC w1
  obtain ⟨k, h⟩ := P l0 l1 hm0 y0 hw0 hm1 y1 hw1
  refine (laws_FnQuotientsAreSquares.calls k _ _ l0 _ _ l1 true w (Kd.C_of_reads (d := (0 : Int)) (h1 := fun _ => rfl) hr0) hc0 (Kd.C_of_reads (d := (0 : Int)) (h1 := fun _ => rfl) hr1) hc1 h).mono ?_
  rintro e w' ⟨rfl, hd⟩
  exact ⟨rfl, hd⟩

end Go.Proofs.Ytaphbbnoadjplaa.P
