-- Written by a program of this session (wip/mkprint.py over the kit's print), out of the translation. Not trusted: Lean checks it.
import Derived.Test.YtldkkfpodldbgaaOx0
import Derived.Test.YtldkkfpodldbgaaOx1
namespace Go.Proofs.Ytldkkfpodldbgaa.P
open Go.RowKit Go.Proofs.YtldkkfpodldbgaaW.PrintWords Go.Proofs.YtldkkfpodldbgaaW.PrintLast Go.Proofs.YtldkkfpodldbgaaW.PrintMore
attribute [local go_sem] max2_int min2_int max_two min_two max_three min_three max_four min_four   -- for this text's walks alone
set_option linter.unusedVariables false
set_option linter.unusedSimpArgs false

/-! ### spec_l1Cur_matrix: function 91 -/
mutual
def spec_l1Cur_matrix.j6 : Nat → Int → List Int → Int → Int → List (List Int) → Option ((List (List Int)) × Int × Int)
 | 0, _, _, _, _, _ => none
 | k + 1, x6, x1000, x1001, x1002, x151000 => (spec_l1Cur_pick.f x1000 x1001 x1002 20).bind fun bt187 => (if bt187.1 = 0 then ((spec_l1Cur_pick.f x1000 bt187.2.1 bt187.2.2 x6).bind fun bt190 => (if 0 ≤ bt190.1 then (if bt190.1 < (x151000.length : Int) then ((spec_l1Cur_pick.f x1000 bt190.2.1 bt190.2.2 x6).bind fun bt194 => ((spec_l1Cur_among.f x1000 bt194.2.1 bt194.2.2 (([1000000, 1000001, (-1000001), 1001, 30001, (-9223372036854775808)] : List Int))).bind fun bt200 => (if 0 ≤ bt194.1 then (if bt194.1 < ((rd_L2 x151000 bt190.1).length : Int) then (some ((x151000.set (bt190.1 : Int).toNat ((rd_L2 x151000 bt190.1).set (bt194.1 : Int).toNat bt200.1)), bt200.2.1, bt200.2.2)) else (none)) else (none)))) else (none)) else (none))) else (if bt187.1 = 1 then (if 0 ≤ x6 then (if (x6 : Int).toNat ≤ 35184372088832 then (if x151000.length < 5864062014805 then (some ((x151000 ++ [(List.replicate (x6 : Int).toNat 0)]), bt187.2.1, bt187.2.2)) else (none)) else (none)) else (none)) else (if bt187.1 = 2 then ((cutRow.f x151000).bind fun t212 => (some (t212, bt187.2.1, bt187.2.2))) else (some (x151000, bt187.2.1, bt187.2.2)))))
def spec_l1Cur_matrix.l0 : Nat → Int → Int → Int → List Int → Int → Int → List (List Int) → Option ((List (List Int)) × Int × Int)
 | 0, _, _, _, _, _, _, _ => none
 | k + 1, x6, x27, x28, x1000, x1001, x1002, x151000 => if x28 < x27 then (spec_l1Cur_matrix.l1 k x6 x28 x27 x28 (x151000.length : Int) 0 x1000 x1001 x1002 x151000) else (spec_l1Cur_matrix.j6 k x6 x1000 x1001 x1002 x151000)
def spec_l1Cur_matrix.l1 : Nat → Int → Int → Int → Int → Int → Int → List Int → Int → Int → List (List Int) → Option ((List (List Int)) × Int × Int)
 | 0, _, _, _, _, _, _, _, _, _, _ => none
 | k + 1, x6, x7, x27, x28, x33, x34, x1000, x1001, x1002, x151000 => if x34 < x33 then (if 0 ≤ x7 then (if x7 < (x151000.length : Int) then ((spec_l1Cur_pick.f x1000 x1001 x1002 9).bind fun bt155 => (if 0 ≤ x34 then (if x34 < ((rd_L2 x151000 x7).length : Int) then (spec_l1Cur_matrix.l1 k x6 x7 x27 x28 x33 (wrap64 (x34 + 1)) x1000 bt155.2.1 bt155.2.2 (x151000.set (x7 : Int).toNat ((rd_L2 x151000 x7).set (x34 : Int).toNat (wrap64 (bt155.1 - 4))))) else (none)) else (none))) else (none)) else (none)) else (spec_l1Cur_matrix.l0 k x6 x27 (wrap64 (x28 + 1)) x1000 x1001 x1002 x151000)
def spec_l1Cur_matrix.l2 : Nat → Int → Int → List Int → Int → Int → List (List Int) → Option ((List (List Int)) × Int × Int)
 | 0, _, _, _, _, _, _ => none
 | k + 1, x6, x9, x1000, x1001, x1002, x151000 => if x9 > 0 then (spec_l1Cur_matrix.j3 k x6 x9 (decide (x6 > 1)) x1000 x1001 x1002 x151000) else (spec_l1Cur_matrix.j3 k x6 x9 false x1000 x1001 x1002 x151000)
def spec_l1Cur_matrix.j3 : Nat → Int → Int → Bool → List Int → Int → Int → List (List Int) → Option ((List (List Int)) × Int × Int)
 | 0, _, _, _, _, _, _, _ => none
 | k + 1, x6, x9, x58, x1000, x1001, x1002, x151000 => if x58 = true then ((spec_l1Cur_pick.f x1000 x1001 x1002 x6).bind fun bt164 => ((spec_l1Cur_pick.f x1000 bt164.2.1 bt164.2.2 x6).bind fun bt167 => (spec_l1Cur_matrix.l3 k x6 x9 bt164.1 bt167.1 (x151000.length : Int) 0 x1000 bt167.2.1 bt167.2.2 x151000))) else (spec_l1Cur_matrix.j6 k x6 x1000 x1001 x1002 x151000)
def spec_l1Cur_matrix.l3 : Nat → Int → Int → Int → Int → Int → Int → List Int → Int → Int → List (List Int) → Option ((List (List Int)) × Int × Int)
 | 0, _, _, _, _, _, _, _, _, _, _ => none
 | k + 1, x6, x9, x10, x11, x69, x70, x1000, x1001, x1002, x151000 => if x70 < x69 then (if x10 = x11 then (spec_l1Cur_matrix.l3 k x6 x9 x10 x11 x69 (wrap64 (x70 + 1)) x1000 x1001 x1002 x151000) else (if 0 ≤ x10 then (if x10 < (x151000.length : Int) then (if 0 ≤ x70 then (if x70 < ((rd_L2 x151000 x10).length : Int) then (if 0 ≤ x11 then (if x11 < (x151000.length : Int) then (if x70 < ((rd_L2 x151000 x11).length : Int) then (spec_l1Cur_matrix.l3 k x6 x9 x10 x11 x69 (wrap64 (x70 + 1)) x1000 x1001 x1002 (x151000.set (x10 : Int).toNat ((rd_L2 x151000 x10).set (x70 : Int).toNat (wrap64 ((rd (rd_L2 x151000 x10) x70) + (rd (rd_L2 x151000 x11) x70)))))) else (none)) else (none)) else (none)) else (none)) else (none)) else (none)) else (none))) else (spec_l1Cur_matrix.l2 k x6 (wrap64 (x9 - 1)) x1000 x1001 x1002 x151000)
def spec_l1Cur_matrix.l4 : Nat → Int → Int → Int → List Int → Int → Int → List (List Int) → Option ((List (List Int)) × Int × Int)
 | 0, _, _, _, _, _, _, _ => none
 | k + 1, x6, x99, x100, x1000, x1001, x1002, x151000 => if x100 < x99 then (if 0 ≤ x100 then (if x100 < (x151000.length : Int) then ((spec_l1Cur_among.f x1000 x1001 x1002 (([1, (-1), 2, (-2), 0] : List Int))).bind fun bt181 => (if x100 < ((rd_L2 x151000 x100).length : Int) then (spec_l1Cur_matrix.l4 k x6 x99 (wrap64 (x100 + 1)) x1000 bt181.2.1 bt181.2.2 (x151000.set (x100 : Int).toNat ((rd_L2 x151000 x100).set (x100 : Int).toNat bt181.1))) else (none))) else (none)) else (none)) else (spec_l1Cur_matrix.j6 k x6 x1000 x1001 x1002 x151000)
end
def spec_l1Cur_matrix.f (k : Nat) (s0_0 : List Int) (s0_1 : Int) (s0_2 : Int) (a1 : Int) : Option ((List (List Int)) × Int × Int) := (spec_l1Least.f a1 4).bind fun t145 => ((spec_l1Most.f 1 t145).bind fun t146 => ((spec_foUnit.f k t146).bind fun t147 => ((spec_l1Cur_pick.f s0_0 s0_1 s0_2 4).bind fun bt151 => (if bt151.1 = 0 then (spec_l1Cur_matrix.l0 k (t147.length : Int) (t147.length : Int) 0 s0_0 bt151.2.1 bt151.2.2 t147) else (if bt151.1 = 1 then ((spec_l1Cur_pick.f s0_0 bt151.2.1 bt151.2.2 6).bind fun bt161 => (spec_l1Cur_matrix.l2 k (t147.length : Int) bt161.1 s0_0 bt161.2.1 bt161.2.2 t147)) else (if bt151.1 = 2 then (spec_l1Cur_matrix.l4 k (t147.length : Int) (t147.length : Int) 0 s0_0 bt151.2.1 bt151.2.2 t147) else (spec_l1Cur_matrix.j6 k (t147.length : Int) s0_0 bt151.2.1 bt151.2.2 t147)))))))
theorem spec_l1Cur_matrix.mono_l : ∀ k, (∀ y0 y1 y2 y3 y4, LeO (spec_l1Cur_matrix.j6 k y0 y1 y2 y3 y4) (spec_l1Cur_matrix.j6 (k + 1) y0 y1 y2 y3 y4)) ∧ (∀ y0 y1 y2 y3 y4 y5 y6, LeO (spec_l1Cur_matrix.l0 k y0 y1 y2 y3 y4 y5 y6) (spec_l1Cur_matrix.l0 (k + 1) y0 y1 y2 y3 y4 y5 y6)) ∧ (∀ y0 y1 y2 y3 y4 y5 y6 y7 y8 y9, LeO (spec_l1Cur_matrix.l1 k y0 y1 y2 y3 y4 y5 y6 y7 y8 y9) (spec_l1Cur_matrix.l1 (k + 1) y0 y1 y2 y3 y4 y5 y6 y7 y8 y9)) ∧ (∀ y0 y1 y2 y3 y4 y5, LeO (spec_l1Cur_matrix.l2 k y0 y1 y2 y3 y4 y5) (spec_l1Cur_matrix.l2 (k + 1) y0 y1 y2 y3 y4 y5)) ∧ (∀ y0 y1 y2 y3 y4 y5 y6, LeO (spec_l1Cur_matrix.j3 k y0 y1 y2 y3 y4 y5 y6) (spec_l1Cur_matrix.j3 (k + 1) y0 y1 y2 y3 y4 y5 y6)) ∧ (∀ y0 y1 y2 y3 y4 y5 y6 y7 y8 y9, LeO (spec_l1Cur_matrix.l3 k y0 y1 y2 y3 y4 y5 y6 y7 y8 y9) (spec_l1Cur_matrix.l3 (k + 1) y0 y1 y2 y3 y4 y5 y6 y7 y8 y9)) ∧ (∀ y0 y1 y2 y3 y4 y5 y6, LeO (spec_l1Cur_matrix.l4 k y0 y1 y2 y3 y4 y5 y6) (spec_l1Cur_matrix.l4 (k + 1) y0 y1 y2 y3 y4 y5 y6))
 | 0 => ⟨fun _ _ _ _ _ r h => by simp [spec_l1Cur_matrix.j6] at h, fun _ _ _ _ _ _ _ r h => by simp [spec_l1Cur_matrix.l0] at h, fun _ _ _ _ _ _ _ _ _ _ r h => by simp [spec_l1Cur_matrix.l1] at h, fun _ _ _ _ _ _ r h => by simp [spec_l1Cur_matrix.l2] at h, fun _ _ _ _ _ _ _ r h => by simp [spec_l1Cur_matrix.j3] at h, fun _ _ _ _ _ _ _ _ _ _ r h => by simp [spec_l1Cur_matrix.l3] at h, fun _ _ _ _ _ _ _ r h => by simp [spec_l1Cur_matrix.l4] at h⟩
 | k + 1 => by
  obtain ⟨ih0, ih1, ih2, ih3, ih4, ih5, ih6⟩ := spec_l1Cur_matrix.mono_l k
  refine ⟨?_, ?_, ?_, ?_, ?_, ?_, ?_⟩
  ·
   intro y0 y1 y2 y3 y4
   unfold spec_l1Cur_matrix.j6
   repeat' first
   | (with_reducible exact ih0 _ _ _ _ _)
   | (with_reducible exact ih1 _ _ _ _ _ _ _)
   | (with_reducible exact ih2 _ _ _ _ _ _ _ _ _ _)
   | (with_reducible exact ih3 _ _ _ _ _ _)
   | (with_reducible exact ih4 _ _ _ _ _ _ _)
   | (with_reducible exact ih5 _ _ _ _ _ _ _ _ _ _)
   | (with_reducible exact ih6 _ _ _ _ _ _ _)
   | (with_reducible exact spec_foUnit.mono _ _)
   | (with_reducible exact LeO.refl _)
   | (with_reducible exact LeO.none _)
   | (with_reducible refine LeO.ite ?_ ?_)
   | (with_reducible refine LeO.bind ?_ (fun _ => ?_))
   | exact ih0 _ _ _ _ _
   | exact ih1 _ _ _ _ _ _ _
   | exact ih2 _ _ _ _ _ _ _ _ _ _
   | exact ih3 _ _ _ _ _ _
   | exact ih4 _ _ _ _ _ _ _
   | exact ih5 _ _ _ _ _ _ _ _ _ _
   | exact ih6 _ _ _ _ _ _ _
   | exact spec_foUnit.mono _ _
   | exact LeO.none _
   | refine LeO.ite ?_ ?_
   | refine LeO.bind ?_ (fun _ => ?_)
  ·
   intro y0 y1 y2 y3 y4 y5 y6
   unfold spec_l1Cur_matrix.l0
   repeat' first
   | (with_reducible exact ih0 _ _ _ _ _)
   | (with_reducible exact ih1 _ _ _ _ _ _ _)
   | (with_reducible exact ih2 _ _ _ _ _ _ _ _ _ _)
   | (with_reducible exact ih3 _ _ _ _ _ _)
   | (with_reducible exact ih4 _ _ _ _ _ _ _)
   | (with_reducible exact ih5 _ _ _ _ _ _ _ _ _ _)
   | (with_reducible exact ih6 _ _ _ _ _ _ _)
   | (with_reducible exact spec_foUnit.mono _ _)
   | (with_reducible exact LeO.refl _)
   | (with_reducible exact LeO.none _)
   | (with_reducible refine LeO.ite ?_ ?_)
   | (with_reducible refine LeO.bind ?_ (fun _ => ?_))
   | exact ih0 _ _ _ _ _
   | exact ih1 _ _ _ _ _ _ _
   | exact ih2 _ _ _ _ _ _ _ _ _ _
   | exact ih3 _ _ _ _ _ _
   | exact ih4 _ _ _ _ _ _ _
   | exact ih5 _ _ _ _ _ _ _ _ _ _
   | exact ih6 _ _ _ _ _ _ _
   | exact spec_foUnit.mono _ _
   | exact LeO.none _
   | refine LeO.ite ?_ ?_
   | refine LeO.bind ?_ (fun _ => ?_)
  ·
   intro y0 y1 y2 y3 y4 y5 y6 y7 y8 y9
   unfold spec_l1Cur_matrix.l1
   repeat' first
   | (with_reducible exact ih0 _ _ _ _ _)
   | (with_reducible exact ih1 _ _ _ _ _ _ _)
   | (with_reducible exact ih2 _ _ _ _ _ _ _ _ _ _)
   | (with_reducible exact ih3 _ _ _ _ _ _)
   | (with_reducible exact ih4 _ _ _ _ _ _ _)
   | (with_reducible exact ih5 _ _ _ _ _ _ _ _ _ _)
   | (with_reducible exact ih6 _ _ _ _ _ _ _)
   | (with_reducible exact spec_foUnit.mono _ _)
   | (with_reducible exact LeO.refl _)
   | (with_reducible exact LeO.none _)
   | (with_reducible refine LeO.ite ?_ ?_)
   | (with_reducible refine LeO.bind ?_ (fun _ => ?_))
   | exact ih0 _ _ _ _ _
   | exact ih1 _ _ _ _ _ _ _
   | exact ih2 _ _ _ _ _ _ _ _ _ _
   | exact ih3 _ _ _ _ _ _
   | exact ih4 _ _ _ _ _ _ _
   | exact ih5 _ _ _ _ _ _ _ _ _ _
   | exact ih6 _ _ _ _ _ _ _
   | exact spec_foUnit.mono _ _
   | exact LeO.none _
   | refine LeO.ite ?_ ?_
   | refine LeO.bind ?_ (fun _ => ?_)
  ·
   intro y0 y1 y2 y3 y4 y5
   unfold spec_l1Cur_matrix.l2
   repeat' first
   | (with_reducible exact ih0 _ _ _ _ _)
   | (with_reducible exact ih1 _ _ _ _ _ _ _)
   | (with_reducible exact ih2 _ _ _ _ _ _ _ _ _ _)
   | (with_reducible exact ih3 _ _ _ _ _ _)
   | (with_reducible exact ih4 _ _ _ _ _ _ _)
   | (with_reducible exact ih5 _ _ _ _ _ _ _ _ _ _)
   | (with_reducible exact ih6 _ _ _ _ _ _ _)
   | (with_reducible exact spec_foUnit.mono _ _)
   | (with_reducible exact LeO.refl _)
   | (with_reducible exact LeO.none _)
   | (with_reducible refine LeO.ite ?_ ?_)
   | (with_reducible refine LeO.bind ?_ (fun _ => ?_))
   | exact ih0 _ _ _ _ _
   | exact ih1 _ _ _ _ _ _ _
   | exact ih2 _ _ _ _ _ _ _ _ _ _
   | exact ih3 _ _ _ _ _ _
   | exact ih4 _ _ _ _ _ _ _
   | exact ih5 _ _ _ _ _ _ _ _ _ _
   | exact ih6 _ _ _ _ _ _ _
   | exact spec_foUnit.mono _ _
   | exact LeO.none _
   | refine LeO.ite ?_ ?_
   | refine LeO.bind ?_ (fun _ => ?_)
  ·
   intro y0 y1 y2 y3 y4 y5 y6
   unfold spec_l1Cur_matrix.j3
   repeat' first
   | (with_reducible exact ih0 _ _ _ _ _)
   | (with_reducible exact ih1 _ _ _ _ _ _ _)
   | (with_reducible exact ih2 _ _ _ _ _ _ _ _ _ _)
   | (with_reducible exact ih3 _ _ _ _ _ _)
   | (with_reducible exact ih4 _ _ _ _ _ _ _)
   | (with_reducible exact ih5 _ _ _ _ _ _ _ _ _ _)
   | (with_reducible exact ih6 _ _ _ _ _ _ _)
   | (with_reducible exact spec_foUnit.mono _ _)
   | (with_reducible exact LeO.refl _)
   | (with_reducible exact LeO.none _)
   | (with_reducible refine LeO.ite ?_ ?_)
   | (with_reducible refine LeO.bind ?_ (fun _ => ?_))
   | exact ih0 _ _ _ _ _
   | exact ih1 _ _ _ _ _ _ _
   | exact ih2 _ _ _ _ _ _ _ _ _ _
   | exact ih3 _ _ _ _ _ _
   | exact ih4 _ _ _ _ _ _ _
   | exact ih5 _ _ _ _ _ _ _ _ _ _
   | exact ih6 _ _ _ _ _ _ _
   | exact spec_foUnit.mono _ _
   | exact LeO.none _
   | refine LeO.ite ?_ ?_
   | refine LeO.bind ?_ (fun _ => ?_)
  ·
   intro y0 y1 y2 y3 y4 y5 y6 y7 y8 y9
   unfold spec_l1Cur_matrix.l3
   repeat' first
   | (with_reducible exact ih0 _ _ _ _ _)
   | (with_reducible exact ih1 _ _ _ _ _ _ _)
   | (with_reducible exact ih2 _ _ _ _ _ _ _ _ _ _)
   | (with_reducible exact ih3 _ _ _ _ _ _)
   | (with_reducible exact ih4 _ _ _ _ _ _ _)
   | (with_reducible exact ih5 _ _ _ _ _ _ _ _ _ _)
   | (with_reducible exact ih6 _ _ _ _ _ _ _)
   | (with_reducible exact spec_foUnit.mono _ _)
   | (with_reducible exact LeO.refl _)
   | (with_reducible exact LeO.none _)
   | (with_reducible refine LeO.ite ?_ ?_)
   | (with_reducible refine LeO.bind ?_ (fun _ => ?_))
   | exact ih0 _ _ _ _ _
   | exact ih1 _ _ _ _ _ _ _
   | exact ih2 _ _ _ _ _ _ _ _ _ _
   | exact ih3 _ _ _ _ _ _
   | exact ih4 _ _ _ _ _ _ _
   | exact ih5 _ _ _ _ _ _ _ _ _ _
   | exact ih6 _ _ _ _ _ _ _
   | exact spec_foUnit.mono _ _
   | exact LeO.none _
   | refine LeO.ite ?_ ?_
   | refine LeO.bind ?_ (fun _ => ?_)
  ·
   intro y0 y1 y2 y3 y4 y5 y6
   unfold spec_l1Cur_matrix.l4
   repeat' first
   | (with_reducible exact ih0 _ _ _ _ _)
   | (with_reducible exact ih1 _ _ _ _ _ _ _)
   | (with_reducible exact ih2 _ _ _ _ _ _ _ _ _ _)
   | (with_reducible exact ih3 _ _ _ _ _ _)
   | (with_reducible exact ih4 _ _ _ _ _ _ _)
   | (with_reducible exact ih5 _ _ _ _ _ _ _ _ _ _)
   | (with_reducible exact ih6 _ _ _ _ _ _ _)
   | (with_reducible exact spec_foUnit.mono _ _)
   | (with_reducible exact LeO.refl _)
   | (with_reducible exact LeO.none _)
   | (with_reducible refine LeO.ite ?_ ?_)
   | (with_reducible refine LeO.bind ?_ (fun _ => ?_))
   | exact ih0 _ _ _ _ _
   | exact ih1 _ _ _ _ _ _ _
   | exact ih2 _ _ _ _ _ _ _ _ _ _
   | exact ih3 _ _ _ _ _ _
   | exact ih4 _ _ _ _ _ _ _
   | exact ih5 _ _ _ _ _ _ _ _ _ _
   | exact ih6 _ _ _ _ _ _ _
   | exact spec_foUnit.mono _ _
   | exact LeO.none _
   | refine LeO.ite ?_ ?_
   | refine LeO.bind ?_ (fun _ => ?_)
theorem spec_l1Cur_matrix.mono : ∀ a0 a1 a2 a3 k, LeO (spec_l1Cur_matrix.f k a0 a1 a2 a3) (spec_l1Cur_matrix.f (k + 1) a0 a1 a2 a3) := by
 intro a0 a1 a2 a3 k
 obtain ⟨ih0, ih1, ih2, ih3, ih4, ih5, ih6⟩ := spec_l1Cur_matrix.mono_l k
 unfold spec_l1Cur_matrix.f
 repeat' first
  | (with_reducible exact ih0 _ _ _ _ _)
  | (with_reducible exact ih1 _ _ _ _ _ _ _)
  | (with_reducible exact ih2 _ _ _ _ _ _ _ _ _ _)
  | (with_reducible exact ih3 _ _ _ _ _ _)
  | (with_reducible exact ih4 _ _ _ _ _ _ _)
  | (with_reducible exact ih5 _ _ _ _ _ _ _ _ _ _)
  | (with_reducible exact ih6 _ _ _ _ _ _ _)
  | (with_reducible exact spec_foUnit.mono _ _)
  | (with_reducible exact LeO.refl _)
  | (with_reducible exact LeO.none _)
  | (with_reducible refine LeO.ite ?_ ?_)
  | (with_reducible refine LeO.bind ?_ (fun _ => ?_))
  | exact ih0 _ _ _ _ _
  | exact ih1 _ _ _ _ _ _ _
  | exact ih2 _ _ _ _ _ _ _ _ _ _
  | exact ih3 _ _ _ _ _ _
  | exact ih4 _ _ _ _ _ _ _
  | exact ih5 _ _ _ _ _ _ _ _ _ _
  | exact ih6 _ _ _ _ _ _ _
  | exact spec_foUnit.mono _ _
  | exact LeO.none _
  | refine LeO.ite ?_ ?_
  | refine LeO.bind ?_ (fun _ => ?_)
def spec_l1Cur_matrix.T11 : Bool × List (List Nat × List Nat) := (true, [([], []), ([0], [0]), ([], []), ([1, 2], [1, 2]), ([3], [3]), ([], []), ([], []), ([6], [6]), ([7], [7]), ([4, 5, 0, 1, 2, 3, 4, 5, 6, 7, 8], [4, 5]), ([9, 8, 7, 0, 1, 2, 3, 4, 5, 6, 7, 8], [8, 9])])
def spec_l1Cur_matrix.B11 : List Nat := [0, 1, 0, 7, 15, 0, 0, 64, 192, 511, 1023]
theorem spec_l1Cur_matrix.tab11 : rtab .any (opsOf Try.f91 11) = spec_l1Cur_matrix.T11 := by kernel_rfl
theorem spec_l1Cur_matrix.bits11 : waitsOk spec_l1Cur_matrix.T11.2 spec_l1Cur_matrix.B11 = true := by kernel_rfl
def spec_l1Cur_matrix.T23 : Bool × List (List Nat × List Nat) := (true, [([], []), ([0], [0]), ([], []), ([1, 2], [1, 2]), ([3], [3]), ([], []), ([4, 5], [4, 5]), ([6], [6]), ([], []), ([8], [8]), ([], []), ([9, 10], [9, 10]), ([11], [11]), ([], []), ([12, 13], [12, 13]), ([14], [14]), ([7, 15], [7, 15]), ([4, 5, 0, 1, 2, 3, 4, 5, 6, 7, 8, 9, 10, 11, 12, 13, 14, 15, 16], [4, 5]), ([17, 16, 0, 1, 2, 3, 4, 5, 6, 7, 8, 9, 10, 11, 12, 13, 14, 15, 16], [16, 17])])
def spec_l1Cur_matrix.B23 : List Nat := [0, 1, 0, 7, 15, 0, 63, 127, 0, 256, 0, 1792, 3840, 0, 16128, 32512, 65535, 131071, 262143]
theorem spec_l1Cur_matrix.tab23 : rtab .any (opsOf Try.f91 23) = spec_l1Cur_matrix.T23 := by kernel_rfl
theorem spec_l1Cur_matrix.bits23 : waitsOk spec_l1Cur_matrix.T23.2 spec_l1Cur_matrix.B23 = true := by kernel_rfl
def spec_l1Cur_matrix.T29 : Bool × List (List Nat × List Nat) := (true, [([], []), ([0], [0]), ([], []), ([1, 2], [1, 2]), ([3], [3]), ([], []), ([], []), ([], []), ([6, 7], [6, 7]), ([4, 5, 0, 1, 2, 3, 4, 5, 6, 7, 8], [4, 5]), ([9, 8, 8, 0, 1, 2, 3, 4, 5, 6, 7, 8], [8, 9])])
def spec_l1Cur_matrix.B29 : List Nat := [0, 1, 0, 7, 15, 0, 0, 0, 192, 511, 1023]
theorem spec_l1Cur_matrix.tab29 : rtab .any (opsOf Try.f91 29) = spec_l1Cur_matrix.T29 := by kernel_rfl
theorem spec_l1Cur_matrix.bits29 : waitsOk spec_l1Cur_matrix.T29.2 spec_l1Cur_matrix.B29 = true := by kernel_rfl
def spec_l1Cur_matrix.T33 : Bool × List (List Nat × List Nat) := (true, [([], []), ([0], [0]), ([], []), ([], []), ([2, 3], [2, 3]), ([1, 4], [1, 4]), ([5], [5]), ([], []), ([], []), ([7, 8, 4], [7, 8]), ([], []), ([], []), ([10, 11, 9], [10, 11]), ([6, 9, 0, 1, 2, 3, 4, 5, 6, 7, 8, 9, 10, 11, 12], [6, 9]), ([13, 12, 12, 0, 1, 2, 3, 4, 5, 6, 7, 8, 9, 10, 11, 12], [12, 13])])
def spec_l1Cur_matrix.B33 : List Nat := [0, 1, 0, 0, 12, 31, 63, 0, 0, 412, 0, 0, 3996, 8191, 16383]
theorem spec_l1Cur_matrix.tab33 : rtab .any (opsOf Try.f91 33) = spec_l1Cur_matrix.T33 := by kernel_rfl
theorem spec_l1Cur_matrix.bits33 : waitsOk spec_l1Cur_matrix.T33.2 spec_l1Cur_matrix.B33 = true := by kernel_rfl
def spec_l1Cur_matrix.T35 : Bool × List (List Nat × List Nat) := (true, [([], []), ([0], [0]), ([], []), ([2, 2], [2]), ([3], [3]), ([1, 4], [1, 4]), ([0, 1, 2, 3, 4, 5], []), ([6, 5, 5, 0, 1, 2, 3, 4, 5], [5, 6])])
def spec_l1Cur_matrix.B35 : List Nat := [0, 1, 0, 4, 12, 31, 63, 127]
theorem spec_l1Cur_matrix.tab35 : rtab .any (opsOf Try.f91 35) = spec_l1Cur_matrix.T35 := by kernel_rfl
theorem spec_l1Cur_matrix.bits35 : waitsOk spec_l1Cur_matrix.T35.2 spec_l1Cur_matrix.B35 = true := by kernel_rfl
set_option maxHeartbeats 8000000 in
set_option maxRecDepth 100000 in
theorem spec_l1Cur_matrix.calls (k : Nat) (g : Nat) (s0_0 : List Int) (s0_1 : Int) (s0_2 : Int) (a1 : Int) (r1 : List (List Int)) (r2 : Int) (r3 : Int) (w0 w : World) (hI : IsS92 w0 w g s0_0 s0_1 s0_2) (hB : Below w0.heap.size w0 w) (h : spec_l1Cur_matrix.f k s0_0 s0_1 s0_2 a1 = some (r1, r2, r3)) :
 Calls Try.prog 91 #[.pointer (some ⟨g, 0, none⟩), .int .i64 a1] w fun e w' => ∃ v0_ : Value, e = .returned (.agg #[v0_]) ∧ Kd.V (Kd.slice 3 (Kd.int .i64)) 34 w' w.heap.size (fun k_ => (w.heap.size ≤ k_)) v0_ r1 ∧ IsS92 w0 w' g s0_0 r2 r3 ∧ Below w0.heap.size w0 w' ∧ KeepBut w w' g none := by
 have hu26 := Try.underlying26
 have HI0 := Aside0.mk hI
 have HK := Aside0.mk (KeepBut.refl w g none)
 have HL := Aside0.mk hB.size
 clear hI
 have HW0 := Aside0.mk hB.size
 have HB := Aside0.mk hB
 clear hB
 have H : ((spec_l1Least.f a1 4).bind fun t145 => ((spec_l1Most.f 1 t145).bind fun t146 => ((spec_foUnit.f k t146).bind fun t147 => ((spec_l1Cur_pick.f s0_0 s0_1 s0_2 4).bind fun bt151 => (if bt151.1 = 0 then (spec_l1Cur_matrix.l0 k (t147.length : Int) (t147.length : Int) 0 s0_0 bt151.2.1 bt151.2.2 t147) else (if bt151.1 = 1 then ((spec_l1Cur_pick.f s0_0 bt151.2.1 bt151.2.2 6).bind fun bt161 => (spec_l1Cur_matrix.l2 k (t147.length : Int) bt161.1 s0_0 bt161.2.1 bt161.2.2 t147)) else (if bt151.1 = 2 then (spec_l1Cur_matrix.l4 k (t147.length : Int) (t147.length : Int) 0 s0_0 bt151.2.1 bt151.2.2 t147) else (spec_l1Cur_matrix.j6 k (t147.length : Int) s0_0 bt151.2.1 bt151.2.2 t147)))))))) = some (r1, r2, r3) := h
 clear h
 replace H := Option.bind_eq_some_iff.mp H
 obtain ⟨t145, A30, H⟩ := H
 replace H : ((spec_l1Most.f 1 t145).bind fun t146 => ((spec_foUnit.f k t146).bind fun t147 => ((spec_l1Cur_pick.f s0_0 s0_1 s0_2 4).bind fun bt151 => (if bt151.1 = 0 then (spec_l1Cur_matrix.l0 k (t147.length : Int) (t147.length : Int) 0 s0_0 bt151.2.1 bt151.2.2 t147) else (if bt151.1 = 1 then ((spec_l1Cur_pick.f s0_0 bt151.2.1 bt151.2.2 6).bind fun bt161 => (spec_l1Cur_matrix.l2 k (t147.length : Int) bt161.1 s0_0 bt161.2.1 bt161.2.2 t147)) else (if bt151.1 = 2 then (spec_l1Cur_matrix.l4 k (t147.length : Int) (t147.length : Int) 0 s0_0 bt151.2.1 bt151.2.2 t147) else (spec_l1Cur_matrix.j6 k (t147.length : Int) s0_0 bt151.2.1 bt151.2.2 t147))))))) = some (r1, r2, r3) := H
 have A3 := Aside0.mk A30
 clear A30
 replace H := Option.bind_eq_some_iff.mp H
 obtain ⟨t146, A40, H⟩ := H
 replace H : ((spec_foUnit.f k t146).bind fun t147 => ((spec_l1Cur_pick.f s0_0 s0_1 s0_2 4).bind fun bt151 => (if bt151.1 = 0 then (spec_l1Cur_matrix.l0 k (t147.length : Int) (t147.length : Int) 0 s0_0 bt151.2.1 bt151.2.2 t147) else (if bt151.1 = 1 then ((spec_l1Cur_pick.f s0_0 bt151.2.1 bt151.2.2 6).bind fun bt161 => (spec_l1Cur_matrix.l2 k (t147.length : Int) bt161.1 s0_0 bt161.2.1 bt161.2.2 t147)) else (if bt151.1 = 2 then (spec_l1Cur_matrix.l4 k (t147.length : Int) (t147.length : Int) 0 s0_0 bt151.2.1 bt151.2.2 t147) else (spec_l1Cur_matrix.j6 k (t147.length : Int) s0_0 bt151.2.1 bt151.2.2 t147)))))) = some (r1, r2, r3) := H
 have A4 := Aside0.mk A40
 clear A40
 replace H := Option.bind_eq_some_iff.mp H
 obtain ⟨t147, A50, H⟩ := H
 replace H : ((spec_l1Cur_pick.f s0_0 s0_1 s0_2 4).bind fun bt151 => (if bt151.1 = 0 then (spec_l1Cur_matrix.l0 k (t147.length : Int) (t147.length : Int) 0 s0_0 bt151.2.1 bt151.2.2 t147) else (if bt151.1 = 1 then ((spec_l1Cur_pick.f s0_0 bt151.2.1 bt151.2.2 6).bind fun bt161 => (spec_l1Cur_matrix.l2 k (t147.length : Int) bt161.1 s0_0 bt161.2.1 bt161.2.2 t147)) else (if bt151.1 = 2 then (spec_l1Cur_matrix.l4 k (t147.length : Int) (t147.length : Int) 0 s0_0 bt151.2.1 bt151.2.2 t147) else (spec_l1Cur_matrix.j6 k (t147.length : Int) s0_0 bt151.2.1 bt151.2.2 t147))))) = some (r1, r2, r3) := H
 have A5 := Aside0.mk A50
 clear A50
 replace H := Option.bind_eq_some_iff.mp H
 obtain ⟨⟨t151, t152, t153⟩, A60, H⟩ := H
 replace H : (if t151 = 0 then (spec_l1Cur_matrix.l0 k (t147.length : Int) (t147.length : Int) 0 s0_0 t152 t153 t147) else (if t151 = 1 then ((spec_l1Cur_pick.f s0_0 t152 t153 6).bind fun bt161 => (spec_l1Cur_matrix.l2 k (t147.length : Int) bt161.1 s0_0 bt161.2.1 bt161.2.2 t147)) else (if t151 = 2 then (spec_l1Cur_matrix.l4 k (t147.length : Int) (t147.length : Int) 0 s0_0 t152 t153 t147) else (spec_l1Cur_matrix.j6 k (t147.length : Int) s0_0 t152 t153 t147)))) = some (r1, r2, r3) := H
 have A6 := Aside0.mk A60
 clear A60
 have HC7 := Aside0.mk H
 clear H
 go_enter Try.func91, Try.ntmps91
 go_upto_block 0 with (first | ((with_reducible refine gate_dst (N := 4) rfl ?_); refine box_event ?hg (N := 4) ?hd (cs := #[.slice none 0 0]) (t := 26) ?hr ?_; (case hd => rfl); (case hg => rfl); (case hr => exact z116_); intro gb144 hg w8 hbox hb; have n0_ := Aside0.mk (IsS92.below z55_ hb); have n1_ := Aside0.mk (KeepBut.trans (kH HK) (KeepBut.of_below hb g none) (.inl rfl)); have n2_ := Aside0.mk (below_step z49_ hb); have n3_ := Aside0.mk (hbox); have n4_ := Aside0.mk ((by rw [hg]; exact (keep_size (w := w) (g := g) (row := none) (kH HK)) : w.heap.size ≤ gb144)); have n5_ := Aside0.mk ((Nat.le_trans HW0.out (by rw [hg]; exact (keep_size (w := w) (g := g) (row := none) (kH HK)) : w.heap.size ≤ gb144) : w0.heap.size ≤ gb144)); have n6_ := Aside0.mk ((by rw [hg]; exact Nat.ne_of_lt (IsS92.lt (show IsS92 w0 _ g s0_0 s0_1 s0_2 from z55_)) : g ≠ gb144)); have n7_ := Aside0.mk ((by rw [hg]; exact Nat.ne_of_gt (IsS92.lt (show IsS92 w0 _ g s0_0 s0_1 s0_2 from z55_)) : gb144 ≠ g)); clear HI0; clear HK; clear HB; have HI0 := n0_; have HK := n1_; have HB := n2_; have BK144 := n3_; have GW144 := n4_; have GE144 := n5_; have NB0_144 := n6_; have NB144_0 := n7_; clear n0_ n1_ n2_ n3_ n4_ n5_ n6_ n7_; clear hb hbox hg) | ((with_reducible refine gate_callee (f := 117) rfl ?_); refine gL (some 15) rfl rfl Try.func117 (by kernel_rfl) rfl #[.int .i64 a1, .int .i64 4] rfl ?_; (with_reducible refine (spec_l1Least.calls a1 4 t145 _ A3.out).mono ?_); rintro e w' ⟨rfl, ⟨nd, rfl⟩⟩; refine ⟨_, rfl, ?_⟩; (try (rw [drewN_self w8]; generalize hq_ : World.drewN w8 _ = w8; have n0_ : Aside0 (w8.heap[gb144]? = some (.cells #[.slice none 0 0] 26 (0, 0))) := ⟨by rw [← hq_]; exact (bA BK144)⟩; have n1_ : Aside0 (IsS92 w0 w8 g s0_0 s0_1 s0_2) := ⟨by rw [← hq_]; exact z48_⟩; have n2_ : Aside0 (KeepBut w w8 g none) := ⟨by rw [← hq_]; exact z53_⟩; have n3_ : Aside0 (Below w0.heap.size w0 w8) := ⟨by rw [← hq_]; exact z38_⟩; clear BK144 HI0 HK HB hq_; have BK144 := n0_; have HI0 := n1_; have HK := n2_; have HB := n3_; clear n0_ n1_ n2_ n3_))) | ((with_reducible refine gate_callee (f := 108) rfl ?_); refine gL (some 16) rfl rfl Try.func108 (by kernel_rfl) rfl #[.int .i64 1, .int .i64 t145] rfl ?_; (with_reducible refine (spec_l1Most.calls 1 t145 t146 _ A4.out).mono ?_); rintro e w' ⟨rfl, ⟨nd, rfl⟩⟩; refine ⟨_, rfl, ?_⟩; (try (rw [drewN_self w8]; generalize hq_ : World.drewN w8 _ = w8; have n0_ : Aside0 (w8.heap[gb144]? = some (.cells #[.slice none 0 0] 26 (0, 0))) := ⟨by rw [← hq_]; exact (bA BK144)⟩; have n1_ : Aside0 (IsS92 w0 w8 g s0_0 s0_1 s0_2) := ⟨by rw [← hq_]; exact z48_⟩; have n2_ : Aside0 (KeepBut w w8 g none) := ⟨by rw [← hq_]; exact z53_⟩; have n3_ : Aside0 (Below w0.heap.size w0 w8) := ⟨by rw [← hq_]; exact z38_⟩; clear BK144 HI0 HK HB hq_; have BK144 := n0_; have HI0 := n1_; have HK := n2_; have HB := n3_; clear n0_ n1_ n2_ n3_))) | ((with_reducible refine gate_callee (f := 76) rfl ?_); refine gL (some 17) rfl rfl Try.func76 (by kernel_rfl) rfl #[.int .i64 t146] rfl ?_; (with_reducible refine (spec_foUnit.calls k t146 t147 _ A5.out).mono ?_); rintro e w9 ⟨v148, rfl, ho0, hb⟩; refine ⟨_, rfl, ?_⟩; have n0_ := Aside0.mk (Kd.S_lower (Kd.S_newM (M := fun k_ => (w.heap.size ≤ k_)) ho0 (keep_size (w := w) (g := g) (row := none) z53_) (fun k_ h_ => h_)) (keep_size (w := w) (g := g) (row := none) z53_)); have n1_ := Aside0.mk (IsS92.below z48_ hb); have n2_ := Aside0.mk (kK BK144 hb); have n3_ := Aside0.mk (KeepBut.trans z53_ (KeepBut.of_below hb g none) (.inl rfl)); have n4_ := Aside0.mk (below_step z38_ hb); clear HI0; clear BK144; clear HK; clear HB; have HO149 := n0_; have HI0 := n1_; have BK144 := n2_; have HK := n3_; have HB := n4_; clear n0_ n1_ n2_ n3_ n4_; (try clear hb); (try clear hb2); (try clear hk); (try clear hi); (try clear ho0)) | ((with_reducible refine gate_dst (N := 5) rfl ?_); refine box_event ?hg (N := 5) ?hd (cs := #[.slice none 0 0]) (t := 26) ?hr ?_; (case hd => rfl); (case hg => rfl); (case hr => exact z116_); intro gb150 hg w10 hbox hb; have n0_ := Aside0.mk (Kd.S_below z100_ hb); have n1_ := Aside0.mk (IsS92.below z48_ hb); have n2_ := Aside0.mk (kK BK144 hb); have n3_ := Aside0.mk (KeepBut.trans z53_ (KeepBut.of_below hb g none) (.inl rfl)); have n4_ := Aside0.mk (below_step z38_ hb); have n5_ := Aside0.mk (hbox); have n6_ := Aside0.mk ((by rw [hg]; exact (keep_size (w := w) (g := g) (row := none) z53_) : w.heap.size ≤ gb150)); have n7_ := Aside0.mk ((Nat.le_trans HW0.out (by rw [hg]; exact (keep_size (w := w) (g := g) (row := none) z53_) : w.heap.size ≤ gb150) : w0.heap.size ≤ gb150)); have n8_ := Aside0.mk ((by rw [hg]; exact Nat.ne_of_lt (blk_lt (g := gb144) (o := .cells #[.slice none 0 0] 26 (0, 0)) (bA BK144)) : gb144 ≠ gb150)); have n9_ := Aside0.mk ((by rw [hg]; exact Nat.ne_of_gt (blk_lt (g := gb144) (o := .cells #[.slice none 0 0] 26 (0, 0)) (bA BK144)) : gb150 ≠ gb144)); have n10_ := Aside0.mk ((by rw [hg]; exact Nat.ne_of_lt (IsS92.lt (show IsS92 w0 _ g s0_0 s0_1 s0_2 from z48_)) : g ≠ gb150)); have n11_ := Aside0.mk ((by rw [hg]; exact Nat.ne_of_gt (IsS92.lt (show IsS92 w0 _ g s0_0 s0_1 s0_2 from z48_)) : gb150 ≠ g)); clear HO149; clear HI0; clear BK144; clear HK; clear HB; have HO149 := n0_; have HI0 := n1_; have BK144 := n2_; have HK := n3_; have HB := n4_; have BK150 := n5_; have GW150 := n6_; have GE150 := n7_; have NB144_150 := n8_; have NB150_144 := n9_; have NB0_150 := n10_; have NB150_0 := n11_; clear n0_ n1_ n2_ n3_ n4_ n5_ n6_ n7_ n8_ n9_ n10_ n11_; clear hb hbox hg; obtain ⟨Ao11, co11, eo11⟩ := Kd.S_slice HO149.out; subst eo11; have hnb12 := NB150_144.out; have hnc12 := NB144_150.out; have hnb13 := NB150_0.out; have hnc13 := NB0_150.out; have hcz14_0 : w10.cell? ⟨gb150, 0, none⟩ = some (.slice none 0 0) := (blk_cell BK150.out 0).trans rfl; have hfz14_0 := blk_frozen BK150.out 0) | ((with_reducible refine gate_callee (f := 107) rfl ?_); refine gL (some 22) rfl rfl Try.func107 (by kernel_rfl) rfl #[.pointer (some ⟨g, 0, none⟩), .int .i64 4] rfl ?_; (with_reducible refine (spec_l1Cur_pick.calls g s0_0 s0_1 s0_2 4 t151 t152 t153 w0 _ ?side1 ?side2 A6.out).mono ?_); (case side1 => exact z33_); (case side2 => exact z22_); rintro e w15 ⟨rfl, hi, hb, hk⟩; refine ⟨_, rfl, ?_⟩; have n0_ := Aside0.mk (KeepBut.blk hk (g' := gb144) (o := .cells #[.slice none 0 0] 26 (0, 0)) (by (with_reducible repeat (first | refine blk_drewN ?_ _ | refine blk_drew ?_ | refine blk_alloc ?_ _)); refine blk_far ?_ NB144_150.out _; (with_reducible repeat (first | refine blk_drewN ?_ _ | refine blk_drew ?_ | refine blk_alloc ?_ _)); exact BK144.out) NB144_0.out (by simp)); have n1_ := Aside0.mk (Kd.S_mono (Kd.S_keep (IsS92.apartS (show IsS92 w0 _ g s0_0 s0_1 s0_2 from z33_) (by (with_reducible repeat (first | apply Kd.S_alloc | apply Kd.S_drewN | apply Kd.S_drew)); exact (Kd.S_mono (Kd.S_far (p := ⟨gb150, 0, none⟩) (Kd.S_types HO149.out BK150.out (by decide)) (fun _ hk => hk.2) (.slice Ao11 t147.length co11)) (fun _ h_ => h_.1))) (by decide)) hk (fun _ h => h.2)) (fun _ h => h.1)); have n2_ := Aside0.mk (KeepBut.blk hk (g' := gb150) (o := .cells #[.slice Ao11 t147.length co11] 26 (0, 0)) (by (with_reducible repeat (first | refine blk_drewN ?_ _ | refine blk_drew ?_ | refine blk_alloc ?_ _)); refine blk_put (cs := #[.slice none 0 0]) ?_ 0 _ rfl; (with_reducible repeat (first | refine blk_drewN ?_ _ | refine blk_drew ?_ | refine blk_alloc ?_ _)); exact BK150.out) NB150_0.out (by simp)); have n3_ := Aside0.mk (KeepBut.trans z43_ hk (.inl rfl)); have n4_ := Aside0.mk (hb); have n5_ := Aside0.mk (hi); clear BK144; clear HO149; clear BK150; clear HK; clear HB; clear HI0; have BK144 := n0_; have HO149 := n1_; have BK150 := n2_; have HK := n3_; have HB := n4_; have HI0 := n5_; clear n0_ n1_ n2_ n3_ n4_ n5_; (try clear hb); (try clear hb2); (try clear hk); (try clear hi)))
 (try simp only [Act.put, List.setIfInBounds_toArray, List.set_cons_zero, List.set_cons_succ])
 go_cut [] (fun wc => ∃ (kq : Nat) (x1001_6 : Int) (x1002_6 : Int) (x151000_6 : List (List Int)) (u151000 : Value), Aside0 (spec_l1Cur_matrix.j6 kq (t147.length : Int) s0_0 x1001_6 x1002_6 x151000_6 = some (r1, r2, r3)) ∧ Aside0 (kq ≤ k) ∧ Aside0 (Kd.S (Kd.slice 3 (Kd.int .i64)) 34 wc w.heap.size (fun k_ => (w.heap.size ≤ k_)) u151000 x151000_6) ∧ Aside0 (wc.heap[gb144]? = some (.cells #[(.slice none 0 0)] 26 (0, 0))) ∧ Aside0 (wc.heap[gb150]? = some (.cells #[u151000] 26 (0, 0))) ∧ Aside0 (IsS92 w0 wc g s0_0 x1001_6 x1002_6) ∧ Aside0 (KeepBut w wc g none) ∧ Aside0 (Below w0.heap.size w0 wc))
 case first =>
  have H := HC7.out
  clear HC7
  by_cases c16 : t151 = 0
  ·
   rw [if_pos c16] at H
   have c16b0 : (t151 == 0) = true := beq_iff_eq.mpr c16
   have c16b1 : (t151 != 0) = false := bne_eq_false_iff_eq.mpr c16
   clear c16
   (first | rw [c16b0] | (simp only [i64_w, i32_w]; rw [c16b0]) | skip)
   have H' := Aside0.mk H
   clear H
   have hnb17 := NB150_144.out
   have hnc17 := NB144_150.out
   have hnb18 := NB150_0.out
   have hnc18 := NB0_150.out
   have hcz19_0 : w15.cell? ⟨gb150, 0, none⟩ = some (.slice Ao11 t147.length co11) := (blk_cell BK150.out 0).trans rfl
   have hfz19_0 := blk_frozen BK150.out 0
   go_wp2
   go_loopg [28] k (fun kq v28 w' => ∃ (x28_1 : Int) (x1001_1 : Int) (x1002_1 : Int) (x151000_1 : List (List Int)) (u151000 : Value), v28 = .int .i64 x28_1 ∧ Aside0 (spec_l1Cur_matrix.l0 kq (t147.length : Int) (t147.length : Int) x28_1 s0_0 x1001_1 x1002_1 x151000_1 = some (r1, r2, r3)) ∧ Aside0 (kq ≤ k) ∧ Aside0 (Kd.S (Kd.slice 3 (Kd.int .i64)) 34 w' w.heap.size (fun k_ => (w.heap.size ≤ k_)) u151000 x151000_1) ∧ Aside0 (w'.heap[gb144]? = some (.cells #[(.slice none 0 0)] 26 (0, 0))) ∧ Aside0 (w'.heap[gb150]? = some (.cells #[u151000] 26 (0, 0))) ∧ Aside0 (IsS92 w0 w' g s0_0 x1001_1 x1002_1) ∧ Aside0 (KeepBut w w' g none) ∧ Aside0 (Below w0.heap.size w0 w'))
   case atStart => exact ⟨(0), (t152), (t153), (t147), (.slice Ao11 t147.length co11), e2, H', ⟨Nat.le_refl _⟩, ⟨z61_⟩, ⟨z65_⟩, ⟨z80_⟩, ⟨z33_⟩, ⟨z43_⟩, ⟨z22_⟩⟩
   case round =>
    clear H'; (try clear c1); (try clear p2); (try clear c7); (try clear c9); (try clear c10); (try clear c11); (try clear c12); (try clear c13); (try clear c16); (try clear c16b0); (try clear c16b1); (try clear c17); (try clear c18); (try clear hcz14_0); (try clear hcz19_0); (try clear hfz14_0); (try clear hfz19_0)
    obtain ⟨x28_1, x1001_1, x1002_1, x151000_1, u151000, rfl, HA, HK1, HO_151000, BK144, BK150, HI0, HK, HB⟩ := hrel
    cases gk with
    | zero => exact absurd HA.out (by simp [spec_l1Cur_matrix.l0])
    | succ k1 =>
     have H := HA.out
     clear HA
     simp only [spec_l1Cur_matrix.l0] at H
     by_cases c20 : x28_1 < (t147.length : Int)
     ·
      rw [if_pos c20] at H
      have c20b0 : decide (x28_1 < (t147.length : Int)) = true := decide_eq_true c20
      clear c20
      have H' := Aside0.mk H
      clear H
      have hnb21 := NB150_144.out
      have hnc21 := NB144_150.out
      have hnb22 := NB150_0.out
      have hnc22 := NB0_150.out
      have hcz23_0 : wr.cell? ⟨gb150, 0, none⟩ = some (u151000) := (blk_cell BK150.out 0).trans rfl
      have hfz23_0 := blk_frozen BK150.out 0
      obtain ⟨Ao24, co24, eo24⟩ := Kd.S_slice HO_151000.out
      subst eo24
      go_wp2
      go_loopg [34] k1 (fun kq v34 w' => ∃ (x34_2 : Int) (x1001_2 : Int) (x1002_2 : Int) (x151000_2 : List (List Int)) (u151000 : Value), v34 = .int .i64 x34_2 ∧ Aside0 (spec_l1Cur_matrix.l1 kq (t147.length : Int) x28_1 (t147.length : Int) x28_1 (x151000_1.length : Int) x34_2 s0_0 x1001_2 x1002_2 x151000_2 = some (r1, r2, r3)) ∧ Aside0 (kq ≤ k1) ∧ Aside0 (Kd.S (Kd.slice 3 (Kd.int .i64)) 34 w' w.heap.size (fun k_ => (w.heap.size ≤ k_)) u151000 x151000_2) ∧ Aside0 (w'.heap[gb144]? = some (.cells #[(.slice none 0 0)] 26 (0, 0))) ∧ Aside0 (w'.heap[gb150]? = some (.cells #[u151000] 26 (0, 0))) ∧ Aside0 (IsS92 w0 w' g s0_0 x1001_2 x1002_2) ∧ Aside0 (KeepBut w w' g none) ∧ Aside0 (Below w0.heap.size w0 w'))
      case atStart => exact ⟨(0), (x1001_1), (x1002_1), (x151000_1), (.slice Ao24 x151000_1.length co24), e2, H', ⟨Nat.le_refl _⟩, ⟨z92_⟩, ⟨z65_⟩, ⟨z80_⟩, ⟨z33_⟩, ⟨z43_⟩, ⟨z22_⟩⟩
      case round =>
       clear H'; (try clear c1); (try clear c2); (try clear p2); (try clear c7); (try clear c9); (try clear c10); (try clear c11); (try clear c12); (try clear c13); (try clear c16); (try clear c16b0); (try clear c16b1); (try clear c17); (try clear c18); (try clear c20); (try clear c20b0); (try clear c21); (try clear c22); (try clear hcz14_0); (try clear hcz19_0); (try clear hcz23_0); (try clear hfz14_0); (try clear hfz19_0); (try clear hfz23_0); (try clear p2)
       obtain ⟨x34_2, x1001_2, x1002_2, x151000_2, u151000, rfl, HA, HK2, HO_151000, BK144, BK150, HI0, HK, HB⟩ := hrel
       cases gk with
       | zero => exact absurd HA.out (by simp [spec_l1Cur_matrix.l1])
       | succ k2 =>
        have H := HA.out
        clear HA
        simp only [spec_l1Cur_matrix.l1] at H
        by_cases c25 : x34_2 < (x151000_1.length : Int)
        ·
         rw [if_pos c25] at H
         have c25b0 : decide (x34_2 < (x151000_1.length : Int)) = true := decide_eq_true c25
         clear c25
         by_cases c26 : 0 ≤ x28_1
         ·
          rw [if_pos c26] at H
          have c26b0 : decide (0 ≤ x28_1) = true := decide_eq_true c26
          clear c26
          by_cases c27 : x28_1 < (x151000_2.length : Int)
          ·
           rw [if_pos c27] at H
           have c27b0 : decide (x28_1 < (x151000_2.length : Int)) = true := decide_eq_true c27
           clear c27
           replace H := Option.bind_eq_some_iff.mp H
           obtain ⟨⟨t155, t156, t157⟩, A280, H⟩ := H
           replace H : (if 0 ≤ x34_2 then (if x34_2 < ((rd_L2 x151000_2 x28_1).length : Int) then (spec_l1Cur_matrix.l1 k2 (t147.length : Int) x28_1 (t147.length : Int) x28_1 (x151000_1.length : Int) (wrap64 (x34_2 + 1)) s0_0 t156 t157 (x151000_2.set (x28_1 : Int).toNat ((rd_L2 x151000_2 x28_1).set (x34_2 : Int).toNat (wrap64 (t155 - 4))))) else (none)) else (none)) = some (r1, r2, r3) := H
           have A28 := Aside0.mk A280
           clear A280
           by_cases c29 : 0 ≤ x34_2
           ·
            rw [if_pos c29] at H
            have c29b0 : decide (0 ≤ x34_2) = true := decide_eq_true c29
            clear c29
            by_cases c30 : x34_2 < ((rd_L2 x151000_2 x28_1).length : Int)
            ·
             rw [if_pos c30] at H
             have c30b0 : decide (x34_2 < ((rd_L2 x151000_2 x28_1).length : Int)) = true := decide_eq_true c30
             clear c30
             obtain ⟨y158, hy158⟩ : ∃ y_ : List Int, y_ = ((rd_L2 x151000_2 x28_1).set (x34_2 : Int).toNat (wrap64 (t155 - 4))) := ⟨_, rfl⟩
             replace H : (spec_l1Cur_matrix.l1 k2 (t147.length : Int) x28_1 (t147.length : Int) x28_1 (x151000_1.length : Int) (wrap64 (x34_2 + 1)) s0_0 t156 t157 (x151000_2.set (x28_1 : Int).toNat y158)) = some (r1, r2, r3) := by first | (rw [hy158]; with_reducible exact H) | (have H2_ := (Option.bind_some _ _).symm.trans H; rw [hy158]; with_reducible exact H2_) | (have H2_ := (Option.bind_some _ _).symm.trans H; with_reducible exact H2_) | with_reducible exact H | (rw [hy158]; exact H) | exact H
             have Ny158 := Aside0.mk hy158
             clear hy158
             obtain ⟨y160, hy160⟩ : ∃ y_ : List (List Int), y_ = (x151000_2.set (x28_1 : Int).toNat y158) := ⟨_, rfl⟩
             replace H : (spec_l1Cur_matrix.l1 k2 (t147.length : Int) x28_1 (t147.length : Int) x28_1 (x151000_1.length : Int) (wrap64 (x34_2 + 1)) s0_0 t156 t157 y160) = some (r1, r2, r3) := by first | (rw [hy160]; with_reducible exact H) | (have H2_ := (Option.bind_some _ _).symm.trans H; rw [hy160]; with_reducible exact H2_) | (have H2_ := (Option.bind_some _ _).symm.trans H; with_reducible exact H2_) | with_reducible exact H | (rw [hy160]; exact H) | exact H
             have Ny160 := Aside0.mk hy160
             clear hy160
             have H' := Aside0.mk H
             clear H
             try go_wp2
             have n0_ := Aside0.mk (Kd.S_drew HO_151000.out)
             have n1_ := Aside0.mk (blk_drew BK144.out)
             have n2_ := Aside0.mk (blk_drew BK150.out)
             have n3_ := Aside0.mk (IsS92.drew HI0.out)
             have n4_ := Aside0.mk (keep_drew HK.out)
             have n5_ := Aside0.mk (below_drew1 HB.out)
             clear HO_151000; clear BK144; clear BK150; clear HI0; clear HK; clear HB
             have HO_151000 := n0_
             have BK144 := n1_
             have BK150 := n2_
             have HI0 := n3_
             have HK := n4_
             have HB := n5_
             clear n0_ n1_ n2_ n3_ n4_ n5_
             obtain ⟨Ao33, co33, eo33⟩ := Kd.S_slice HO_151000.out
             (first | subst eo33 | (injection eo33 with f1_ f2_ f3_; have f4_ := f1_.symm; have f5_ := f3_.symm; clear f1_ f2_ f3_; subst f4_; subst f5_))
             have p154 : 0 ≤ (x28_1 : Int) := od
             have q154 : x28_1 < (x151000_2.length : Int) := od
             obtain ⟨ad154, A154_0, c154_0, e154, hx154_0, hl154_0, hi154_0⟩ := at_L2 (Kd.S_reads' HO_151000.out).2.2 x28_1 p154 q154
             cases e154
             obtain ⟨ce154, hce154, hMe154, hcc154⟩ := Kd.S_get HO_151000.out [] x28_1 p154 (by first | exact q154 | exact od | (have e_ := (Kd.S_reads' HO_151000.out).1; omega))
             obtain ⟨ve154_0, rfl, ge154_0⟩ := hMe154
             have hv154_0 := hcc154 0 _ rfl
             rw [Nat.add_zero, show ((Kd.slice 3 (Kd.int .i64))).sz = 1 from rfl, Nat.mul_one] at hv154_0
             replace hv154_0 := Option.some.inj (hv154_0.symm.trans hx154_0)
             rw [hv154_0] at ge154_0
             have HL154_0 := Aside0.mk (show Kd.R (Kd.int .i64) 3 _ _ _ _ (rd_L2 x151000_2 x28_1) from ge154_0)
             clear hv154_0 ge154_0
             have HX154_0 := Aside0.mk hx154_0
             clear hcc154 hce154
             have HR154_0 := Aside0.mk hi154_0
             have HC154_0 := Aside0.mk hl154_0
             clear hi154_0 hl154_0
             replace p154 := eq_true p154
             replace q154 := eq_true q154
             refine start_ (n := 11) (S := fun w' => w'.cell? ⟨gb150, 0, none⟩ = some (.slice (some ad154) x151000_2.length co33) ∧ w'.cell? (ad154.add (x28_1).toNat) = some (.slice A154_0 (rd_L2 x151000_2 x28_1).length c154_0)) (ds := [10]) #[O,O,O,O,O,O,O,O,O,O,O] (by kernel_rfl) rfl rfl ⟨(blk_cell BK150.out 0).trans rfl, hx154_0⟩ (fun hHeld => ?_); refine with_tabW spec_l1Cur_matrix.tab11 spec_l1Cur_matrix.bits11 (fun HT_ HW_ => ?_)
             generalize wr.drew = w32 at HO_151000 BK144 BK150 HI0 HK HB HL154_0 HR154_0 HX154_0 hx154_0 hHeld ⊢
             refine pS 0 37 (BM 11 1) ?_
             refine pS 2 39 (BM 11 5) ?_
             refine pS 5 42 (BM 11 37) ?_
             refine pS 6 43 (BM 11 101) ?_
             refine take_ (i := 1) (N := some 38) (v := ?_) (a' := ?_) (BM 11 103) rfl rfl (take_ofW HT_.out HW_.out (by kernel_rfl)) (fun _ _ _ h => h) (Or.inl ⟨by rfl, ?_⟩) hHeld ?_ ?_
             rotate_left
             ·
              rintro w' ⟨s0, s1⟩
              go_simp
              with_reducible rfl
             rotate_left
             ·
              simp only [AP]
              rfl
             refine pS 3 40 (BM 11 111) ?_
             refine take_ (i := 4) (N := some 41) (v := ?_) (a' := ?_) (BM 11 127) rfl rfl (take_ofW HT_.out HW_.out (by kernel_rfl)) (fun _ _ _ h => h) (Or.inl ⟨by rfl, ?_⟩) hHeld ?_ ?_
             rotate_left
             ·
              rintro w' ⟨s0, s1⟩
              go_simp
              with_reducible rfl
             rotate_left
             ·
              simp only [AP]
              rfl
             refine one_ (i := 7) (N := some 44) (BM 11 255) rfl rfl (one_of HT_.out (by kernel_rfl)) (by decide) (fun K hK => ?_)
             refine goes_ Try.func107 (by kernel_rfl) rfl #[.pointer (some ⟨g, 0, none⟩), .int .i64 9] (by rfl) rfl rfl (by (try simp only [List.map_toArray, List.map_cons, List.map_nil]); first | done | rfl | (simp only [List.length_drop, List.length_take]; rfl)) ?_
             with_reducible refine (spec_l1Cur_pick.calls g s0_0 x1001_2 x1002_2 9 t155 t156 t157 w0 _ ?side1 ?side2 A28.out).mono ?_
             (case side1 => exact z33_)
             (case side2 => exact z22_)
             rintro e w34 ⟨rfl, hi, hb, hk⟩
             have HS1_ := keep_cell hk (hHeld.2) z11_
             refine ⟨_, rfl, ?_⟩
             have n0_ := Aside0.mk (Kd.S_mono (Kd.S_keep (IsS92.apartS (show IsS92 w0 _ g s0_0 x1001_2 x1002_2 from z33_) z92_ (by decide)) hk (fun _ h => h.2)) (fun _ h => h.1))
             have n1_ := Aside0.mk (KeepBut.blk hk (g' := gb144) (o := .cells #[.slice none 0 0] 26 (0, 0)) (bA BK144) NB144_0.out (by simp))
             have n2_ := Aside0.mk (KeepBut.blk hk (g' := gb150) (o := .cells #[.slice (some ad154) x151000_2.length co33] 26 (0, 0)) (bA BK150) NB150_0.out (by simp))
             have n3_ := Aside0.mk (Kd.R_mono (Kd.R_keep (IsS92.apart (show IsS92 w0 _ g s0_0 x1001_2 x1002_2 from z33_) (rA HL154_0) (by decide)) hk (fun _ h => h.2)) (fun _ h => h.1))
             have n4_ := Aside0.mk (keep_cell hk HX154_0.out z6_)
             have n5_ := Aside0.mk (KeepBut.trans z43_ hk (.inl rfl))
             have n6_ := Aside0.mk (hb)
             have n7_ := Aside0.mk (hi)
             clear HO_151000; clear BK144; clear BK150; clear HL154_0; clear HX154_0; clear HK; clear HB; clear HI0
             have HO_151000 := n0_
             have BK144 := n1_
             have BK150 := n2_
             have HL154_0 := n3_
             have HX154_0 := n4_
             have HK := n5_
             have HB := n6_
             have HI0 := n7_
             clear n0_ n1_ n2_ n3_ n4_ n5_ n6_ n7_
             (try clear hb)
             (try clear hb2)
             (try clear hk)
             (try clear hi)
             have p31 : 0 ≤ (x34_2 : Int) := od
             have q31 : (x34_2 : Int) < (((rd_L2 x151000_2 x28_1).length : Int) : Int) := od
             obtain ⟨go31, co31, eo31, gb31, gl31, cl31, HG31⟩ := Kd.R_form HL154_0.out (by omega)
             (first | cases eo31 | (injection eo31 with ea_ en_ ec_; (first | subst ea_ | (injection ea_ with ea_; subst ea_)); subst ec_; clear en_))
             have GB31 := Aside0.mk gb31
             have GG31 := Aside0.mk HG31
             clear gb31 gl31 HG31
             obtain ⟨hx31_0, hf31_0⟩ := Kd.R_celln 0 HL154_0.out (x34_2 : Int) p31 q31
             replace p31 := eq_true p31
             replace q31 := eq_true q31
             have hq35 : (x28_1 : Int) < (x151000_2.length : Int) := (by have h_ : (x28_1 : Int) < ((x151000_2.length : Int) : Int) := od; first | exact h_ | (have e_ := (Kd.S_reads' HO_151000.out).1; omega) | simpa only [List.length_set, List.length_set] using h_)
             obtain ⟨oki35, ce35, hcl35, hM35, hcc35, hok35, hbk35⟩ := Kd.S_borrow HO_151000.out [] (x28_1 : Int) (od) hq35
             obtain ⟨ve35_0, rfl, ge35_0⟩ := hM35
             have hv35 := hcc35 0 _ rfl
             rw [Nat.add_zero, show ((Kd.slice 3 (Kd.int .i64))).sz = 1 from rfl, Nat.mul_one] at hv35
             replace hv35 := Option.some.inj (hv35.symm.trans HX154_0.out)
             subst hv35
             clear hcc35 hcl35
             replace ge35_0 := (show Kd.R (Kd.int .i64) 3 _ _ _ _ (rd_L2 x151000_2 x28_1) from ge35_0)
             have HP35 := Kd.R_putg ge35_0 (x34_2 : Int) (wrap64 (t155 - 4))
             have HN0_go31 := Aside0.mk (show g ≠ go31 from by have h_ := IsS92.own_ne HI0.out HL154_0.out (by decide); intro e_; exact h_ (by rw [e_]; rfl))
             rw [← Ny158.out] at HP35
             have HS35 := hbk35 HP35.2 (fun k_ e_ => by injection e_ with e_; subst e_; exact ge35_0.1 _ rfl) (x' := y158) (Kd.M_row HP35.1)
             rw [← Ny160.out] at HS35
             have HQ35 := Aside0.mk HS35
             clear HP35 HS35 hbk35 hok35
             refine hK.out _ _ ⟨(blk_cell BK150.out 0).trans rfl, HS1_⟩ (fun hHeld => ?_)
             clear hK K
             refine norm_ (a' := ?_) ?_ ?_
             rotate_left
             ·
              show Act.put _ (some 44) _ = _
              simp only [AP]
              rfl
             refine pS 8 45 (BM 11 511) ?_
             refine pS 9 46 (BM 11 1023) ?_
             refine last_ (i := 10) (N := none) (BM 11 2047) rfl rfl (one_of HT_.out (by kernel_rfl)) (by decide) (fun K hK => ?_)
             refine skip_ (w1 := ?_) (by rfl) rfl ?_ ?_
             rotate_left
             ·
              go_simp
              rfl
             refine hK.out _ _ ?_
             clear hK K
             refine done_ (done_of HT_.out (by kernel_rfl)) ?_
             try go_wp2
             go_roundg k2
             case measure => have := HK1.out; have := HK2.out; omega
             case rel => exact ⟨(wrap64 (x34_2 + 1)), (t156), (t157), (y160), (.slice (some ad154) x151000_2.length co33), e2, H', ⟨by have := HK1.out; have := HK2.out; omega⟩, ⟨by (with_reducible repeat (first | apply Kd.S_alloc | apply Kd.S_drewN | apply Kd.S_drew)); exact HQ35.out⟩, ⟨by (with_reducible repeat (first | refine blk_drewN ?_ _ | refine blk_drew ?_ | refine blk_alloc ?_ _)); refine blk_far ?_ (by have h_ := Kd.R_ne HL154_0.out BK144.out (by decide); intro e_; exact h_ (by rw [e_]; rfl)) _; (with_reducible repeat (first | refine blk_drewN ?_ _ | refine blk_drew ?_ | refine blk_alloc ?_ _)); exact BK144.out⟩, ⟨by (with_reducible repeat (first | refine blk_drewN ?_ _ | refine blk_drew ?_ | refine blk_alloc ?_ _)); refine blk_far ?_ (by have h_ := Kd.R_ne HL154_0.out BK150.out (by decide); intro e_; exact h_ (by rw [e_]; rfl)) _; (with_reducible repeat (first | refine blk_drewN ?_ _ | refine blk_drew ?_ | refine blk_alloc ?_ _)); exact BK150.out⟩, ⟨by repeat (first | (with_reducible first | exact HI0.out | apply IsS92.alloc | apply IsS92.drewN | apply IsS92.drew | apply IsS92.set_1 | apply IsS92.set_2 | refine IsS92.far ?_ HN0_go31.out _ | refine IsS92.far ?_ NB0_144.out _ | refine IsS92.far ?_ NB0_150.out _) | exact HI0.out)⟩, ⟨by repeat (first | (with_reducible first | exact HK.out | apply KeepBut.set_ | apply keep_drewN | apply keep_drew | apply keep_alloc | refine keep_far ?_ GB31.out _ | refine keep_far ?_ GW144.out _ | refine keep_far ?_ GW150.out _) | exact HK.out)⟩, ⟨by repeat (first | (with_reducible first | exact HB.out | apply below_alloc | apply pw_below_drewN | apply below_drew1 | refine below_set ?_ (Nat.le_trans HL.out GB31.out) | refine below_set ?_ (IsS92.ge HI0.out) | refine below_set ?_ GE144.out | refine below_set ?_ GE150.out) | exact HB.out | exact Below.refl _ _)⟩⟩
            ·
             rw [if_neg c30] at H
             exact absurd H (by simp)
           ·
            rw [if_neg c29] at H
            exact absurd H (by simp)
          ·
           rw [if_neg c27] at H
           exact absurd H (by simp)
         ·
          rw [if_neg c26] at H
          exact absurd H (by simp)
        ·
         rw [if_neg c25] at H
         have c25b0 : decide (x34_2 < (x151000_1.length : Int)) = false := decide_eq_false c25
         clear c25
         have H' := Aside0.mk H
         clear H
         go_wp2
         go_roundg k2
         case measure => have := HK1.out; have := HK2.out; omega
         case rel => exact ⟨(wrap64 (x28_1 + 1)), (x1001_2), (x1002_2), (x151000_2), (u151000), e2, H', ⟨by have := HK1.out; have := HK2.out; omega⟩, ⟨z92_⟩, ⟨z65_⟩, ⟨z80_⟩, ⟨z33_⟩, ⟨z43_⟩, ⟨z22_⟩⟩
     ·
      rw [if_neg c20] at H
      have c20b0 : decide (x28_1 < (t147.length : Int)) = false := decide_eq_false c20
      clear c20
      have H' := Aside0.mk H
      clear H
      go_wp2
      go_meet
      case rel => exact ⟨_, (x1001_1), (x1002_1), (x151000_1), (u151000), H', ⟨by have := HK1.out; first | omega | exact Nat.le_refl _⟩, ⟨z92_⟩, ⟨z65_⟩, ⟨z80_⟩, ⟨z33_⟩, ⟨z43_⟩, ⟨z22_⟩⟩
  ·
   rw [if_neg c16] at H
   have c16b0 : (t151 == 0) = false := beq_eq_false_iff_ne.mpr c16
   have c16b1 : (t151 != 0) = true := bne_iff_ne.mpr c16
   (first | rw [c16b0] | (simp only [i64_w, i32_w]; rw [c16b0]) | skip)
   by_cases c37 : t151 = 1
   ·
    rw [if_pos c37] at H
    have c37b0 : (t151 == 1) = true := beq_iff_eq.mpr c37
    have c37b1 : (t151 != 1) = false := bne_eq_false_iff_eq.mpr c37
    clear c37
    replace H := Option.bind_eq_some_iff.mp H
    obtain ⟨⟨t161, t162, t163⟩, A380, H⟩ := H
    replace H : (spec_l1Cur_matrix.l2 k (t147.length : Int) t161 s0_0 t162 t163 t147) = some (r1, r2, r3) := H
    have A38 := Aside0.mk A380
    clear A380
    have H' := Aside0.mk H
    clear H
    go_wp2_with (first | ((with_reducible refine gate_callee (f := 107) rfl ?_); refine gL (some 52) rfl rfl Try.func107 (by kernel_rfl) rfl #[.pointer (some ⟨g, 0, none⟩), .int .i64 6] rfl ?_; (with_reducible refine (spec_l1Cur_pick.calls g s0_0 t152 t153 6 t161 t162 t163 w0 _ ?side1 ?side2 A38.out).mono ?_); (case side1 => exact z33_); (case side2 => exact z22_); rintro e w39 ⟨rfl, hi, hb, hk⟩; refine ⟨_, rfl, ?_⟩; have n0_ := Aside0.mk (KeepBut.blk hk (g' := gb144) (o := .cells #[.slice none 0 0] 26 (0, 0)) (bA BK144) NB144_0.out (by simp)); have n1_ := Aside0.mk (Kd.S_mono (Kd.S_keep (IsS92.apartS (show IsS92 w0 _ g s0_0 t152 t153 from z33_) z100_ (by decide)) hk (fun _ h => h.2)) (fun _ h => h.1)); have n2_ := Aside0.mk (KeepBut.blk hk (g' := gb150) (o := .cells #[.slice Ao11 t147.length co11] 26 (0, 0)) (bA BK150) NB150_0.out (by simp)); have n3_ := Aside0.mk (KeepBut.trans z43_ hk (.inl rfl)); have n4_ := Aside0.mk (hb); have n5_ := Aside0.mk (hi); clear BK144; clear HO149; clear BK150; clear HK; clear HB; clear HI0; have BK144 := n0_; have HO149 := n1_; have BK150 := n2_; have HK := n3_; have HB := n4_; have HI0 := n5_; clear n0_ n1_ n2_ n3_ n4_ n5_; (try clear hb); (try clear hb2); (try clear hk); (try clear hi)))
    go_loopg [9] k (fun kq v9 w' => ∃ (x9_1 : Int) (x1001_1 : Int) (x1002_1 : Int) (x151000_1 : List (List Int)) (u151000 : Value), v9 = .int .i64 x9_1 ∧ Aside0 (spec_l1Cur_matrix.l2 kq (t147.length : Int) x9_1 s0_0 x1001_1 x1002_1 x151000_1 = some (r1, r2, r3)) ∧ Aside0 (kq ≤ k) ∧ Aside0 (Kd.S (Kd.slice 3 (Kd.int .i64)) 34 w' w.heap.size (fun k_ => (w.heap.size ≤ k_)) u151000 x151000_1) ∧ Aside0 (w'.heap[gb144]? = some (.cells #[(.slice none 0 0)] 26 (0, 0))) ∧ Aside0 (w'.heap[gb150]? = some (.cells #[u151000] 26 (0, 0))) ∧ Aside0 (IsS92 w0 w' g s0_0 x1001_1 x1002_1) ∧ Aside0 (KeepBut w w' g none) ∧ Aside0 (Below w0.heap.size w0 w'))
    case atStart => exact ⟨(t161), (t162), (t163), (t147), (.slice Ao11 t147.length co11), e2, H', ⟨Nat.le_refl _⟩, ⟨z61_⟩, ⟨z65_⟩, ⟨z80_⟩, ⟨z33_⟩, ⟨z43_⟩, ⟨z22_⟩⟩
    case round =>
     clear H'; (try clear c1); (try clear p1); (try clear q1); (try clear hx1); (try clear c2); (try clear p2); (try clear c3); (try clear p3); (try clear q3); (try clear hx3); (try clear hf3); (try clear p6); (try clear c7); (try clear c9); (try clear c10); (try clear c11); (try clear c12); (try clear c13); (try clear c15); (try clear p15); (try clear q15); (try clear hx15); (try clear c16); (try clear c16b0); (try clear c16b1); (try clear c17); (try clear c18); (try clear c20); (try clear c20b0); (try clear c21); (try clear c22); (try clear c25); (try clear c25b0); (try clear c26); (try clear c26b0); (try clear c27); (try clear c27b0); (try clear c29); (try clear c29b0); (try clear c30); (try clear c30b0); (try clear p31); (try clear q31); (try clear hx31); (try clear hf31); (try clear c35); (try clear q35); (try clear c37); (try clear c37b0); (try clear c37b1); (try clear hcz14_0); (try clear hcz19_0); (try clear hcz23_0); (try clear hfz14_0); (try clear hfz19_0); (try clear hfz23_0); (try clear hx154_0); (try clear hx31_0); (try clear p154); (try clear p2); (try clear p31); (try clear q154); (try clear q31)
     obtain ⟨x9_1, x1001_1, x1002_1, x151000_1, u151000, rfl, HA, HK1, HO_151000, BK144, BK150, HI0, HK, HB⟩ := hrel
     cases gk with
     | zero => exact absurd HA.out (by simp [spec_l1Cur_matrix.l2])
     | succ k1 =>
      have H := HA.out
      clear HA
      simp only [spec_l1Cur_matrix.l2] at H
      have HC40 := Aside0.mk H
      clear H
      go_upto_region 16 with (fail)
      go_cut [58] (fun v58 wc => ∃ (kq : Nat) (x58_39 : Bool), v58 = .bool x58_39 ∧ Aside0 (spec_l1Cur_matrix.j3 kq (t147.length : Int) x9_1 x58_39 s0_0 x1001_1 x1002_1 x151000_1 = some (r1, r2, r3)) ∧ Aside0 (kq ≤ k1) ∧ Aside0 (Kd.S (Kd.slice 3 (Kd.int .i64)) 34 wc w.heap.size (fun k_ => (w.heap.size ≤ k_)) u151000 x151000_1) ∧ Aside0 (wc.heap[gb144]? = some (.cells #[(.slice none 0 0)] 26 (0, 0))) ∧ Aside0 (wc.heap[gb150]? = some (.cells #[u151000] 26 (0, 0))) ∧ Aside0 (IsS92 w0 wc g s0_0 x1001_1 x1002_1) ∧ Aside0 (KeepBut w wc g none) ∧ Aside0 (Below w0.heap.size w0 wc))
      case first =>
       have H := HC40.out
       clear HC40
       by_cases c41 : x9_1 > 0
       ·
        rw [if_pos c41] at H
        have c41b0 : decide (0 < x9_1) = true := decide_eq_true c41
        clear c41
        (first | rw [c41b0] | (simp only [i64_w, i32_w]; rw [c41b0]) | skip)
        have H' := Aside0.mk H
        clear H
        go_wp2
        go_meet
        case rel => exact ⟨_, (decide ((t147.length : Int) > 1)), e2, H', ⟨by have := HK1.out; first | omega | exact Nat.le_refl _⟩, ⟨z92_⟩, ⟨z65_⟩, ⟨z80_⟩, ⟨z33_⟩, ⟨z43_⟩, ⟨z22_⟩⟩
       ·
        rw [if_neg c41] at H
        have c41b0 : decide (0 < x9_1) = false := decide_eq_false c41
        clear c41
        (first | rw [c41b0] | (simp only [i64_w, i32_w]; rw [c41b0]) | skip)
        have H' := Aside0.mk H
        clear H
        go_wp2
        go_meet
        case rel => exact ⟨_, (false), e2, H', ⟨by have := HK1.out; first | omega | exact Nat.le_refl _⟩, ⟨z92_⟩, ⟨z65_⟩, ⟨z80_⟩, ⟨z33_⟩, ⟨z43_⟩, ⟨z22_⟩⟩
      case rest =>
       clear HC40; (try clear c1); (try clear p1); (try clear q1); (try clear hx1); (try clear c2); (try clear p2); (try clear c3); (try clear p3); (try clear q3); (try clear hx3); (try clear hf3); (try clear c4); (try clear p6); (try clear c7); (try clear c9); (try clear c10); (try clear c11); (try clear c12); (try clear c13); (try clear c15); (try clear p15); (try clear q15); (try clear hx15); (try clear c16); (try clear c16b0); (try clear c16b1); (try clear c17); (try clear c18); (try clear c20); (try clear c20b0); (try clear c21); (try clear c22); (try clear c25); (try clear c25b0); (try clear c26); (try clear c26b0); (try clear c27); (try clear c27b0); (try clear c29); (try clear c29b0); (try clear c30); (try clear c30b0); (try clear p31); (try clear q31); (try clear hx31); (try clear hf31); (try clear c35); (try clear q35); (try clear c37); (try clear c37b0); (try clear c37b1); (try clear c41); (try clear c41b0); (try clear hcz14_0); (try clear hcz19_0); (try clear hcz23_0); (try clear hfz14_0); (try clear hfz19_0); (try clear hfz23_0); (try clear hx154_0); (try clear hx31_0); (try clear p1); (try clear p15); (try clear p154); (try clear p2); (try clear p3); (try clear p31); (try clear p6); (try clear q1); (try clear q15); (try clear q154); (try clear q3); (try clear q31); (try clear q35)
       obtain ⟨kq, x58_39, rfl, HA, HJ39, HO_151000, BK144, BK150, HI0, HK, HB⟩ := hcut
       cases kq with
       | zero => exact absurd HA.out (by simp [spec_l1Cur_matrix.j3])
       | succ kj39 =>
        have H := HA.out
        clear HA
        simp only [spec_l1Cur_matrix.j3] at H
        by_cases c42 : x58_39 = true
        ·
         subst c42
         have H1 : ((spec_l1Cur_pick.f s0_0 x1001_1 x1002_1 (t147.length : Int)).bind fun bt164 => ((spec_l1Cur_pick.f s0_0 bt164.2.1 bt164.2.2 (t147.length : Int)).bind fun bt167 => (spec_l1Cur_matrix.l3 kj39 (t147.length : Int) x9_1 bt164.1 bt167.1 (x151000_1.length : Int) 0 s0_0 bt167.2.1 bt167.2.2 x151000_1))) = some (r1, r2, r3) := by rw [if_pos rfl] at H; exact H
         clear H
         have H := H1
         clear H1
         replace H := Option.bind_eq_some_iff.mp H
         obtain ⟨⟨t164, t165, t166⟩, A430, H⟩ := H
         replace H : ((spec_l1Cur_pick.f s0_0 t165 t166 (t147.length : Int)).bind fun bt167 => (spec_l1Cur_matrix.l3 kj39 (t147.length : Int) x9_1 t164 bt167.1 (x151000_1.length : Int) 0 s0_0 bt167.2.1 bt167.2.2 x151000_1)) = some (r1, r2, r3) := H
         have A43 := Aside0.mk A430
         clear A430
         replace H := Option.bind_eq_some_iff.mp H
         obtain ⟨⟨t167, t168, t169⟩, A440, H⟩ := H
         replace H : (spec_l1Cur_matrix.l3 kj39 (t147.length : Int) x9_1 t164 t167 (x151000_1.length : Int) 0 s0_0 t168 t169 x151000_1) = some (r1, r2, r3) := H
         have A44 := Aside0.mk A440
         clear A440
         have H' := Aside0.mk H
         clear H
         go_wp2_with (first | ((with_reducible refine gate_callee (f := 107) rfl ?_); refine gL (some 63) rfl rfl Try.func107 (by kernel_rfl) rfl #[.pointer (some ⟨g, 0, none⟩), .int .i64 (t147.length : Int)] rfl ?_; (with_reducible refine (spec_l1Cur_pick.calls g s0_0 x1001_1 x1002_1 (t147.length : Int) t164 t165 t166 w0 _ ?side1 ?side2 A43.out).mono ?_); (case side1 => exact z33_); (case side2 => exact z22_); rintro e w45 ⟨rfl, hi, hb, hk⟩; refine ⟨_, rfl, ?_⟩; have n0_ := Aside0.mk (Kd.S_mono (Kd.S_keep (IsS92.apartS (show IsS92 w0 _ g s0_0 x1001_1 x1002_1 from z33_) z92_ (by decide)) hk (fun _ h => h.2)) (fun _ h => h.1)); have n1_ := Aside0.mk (KeepBut.blk hk (g' := gb144) (o := .cells #[.slice none 0 0] 26 (0, 0)) (bA BK144) NB144_0.out (by simp)); have n2_ := Aside0.mk (KeepBut.blk hk (g' := gb150) (o := .cells #[u151000] 26 (0, 0)) (bA BK150) NB150_0.out (by simp)); have n3_ := Aside0.mk (KeepBut.trans z43_ hk (.inl rfl)); have n4_ := Aside0.mk (hb); have n5_ := Aside0.mk (hi); clear HO_151000; clear BK144; clear BK150; clear HK; clear HB; clear HI0; have HO_151000 := n0_; have BK144 := n1_; have BK150 := n2_; have HK := n3_; have HB := n4_; have HI0 := n5_; clear n0_ n1_ n2_ n3_ n4_ n5_; (try clear hb); (try clear hb2); (try clear hk); (try clear hi)) | ((with_reducible refine gate_callee (f := 107) rfl ?_); refine gL (some 66) rfl rfl Try.func107 (by kernel_rfl) rfl #[.pointer (some ⟨g, 0, none⟩), .int .i64 (t147.length : Int)] rfl ?_; (with_reducible refine (spec_l1Cur_pick.calls g s0_0 t165 t166 (t147.length : Int) t167 t168 t169 w0 _ ?side1 ?side2 A44.out).mono ?_); (case side1 => exact z33_); (case side2 => exact z22_); rintro e w46 ⟨rfl, hi, hb, hk⟩; refine ⟨_, rfl, ?_⟩; have n0_ := Aside0.mk (Kd.S_mono (Kd.S_keep (IsS92.apartS (show IsS92 w0 _ g s0_0 t165 t166 from z33_) z92_ (by decide)) hk (fun _ h => h.2)) (fun _ h => h.1)); have n1_ := Aside0.mk (KeepBut.blk hk (g' := gb144) (o := .cells #[.slice none 0 0] 26 (0, 0)) (bA BK144) NB144_0.out (by simp)); have n2_ := Aside0.mk (KeepBut.blk hk (g' := gb150) (o := .cells #[u151000] 26 (0, 0)) (bA BK150) NB150_0.out (by simp)); have n3_ := Aside0.mk (KeepBut.trans z43_ hk (.inl rfl)); have n4_ := Aside0.mk (hb); have n5_ := Aside0.mk (hi); clear HO_151000; clear BK144; clear BK150; clear HK; clear HB; clear HI0; have HO_151000 := n0_; have BK144 := n1_; have BK150 := n2_; have HK := n3_; have HB := n4_; have HI0 := n5_; clear n0_ n1_ n2_ n3_ n4_ n5_; (try clear hb); (try clear hb2); (try clear hk); (try clear hi); have hnb47 := NB150_144.out; have hnc47 := NB144_150.out; have hnb48 := NB150_0.out; have hnc48 := NB0_150.out; have hcz49_0 : w46.cell? ⟨gb150, 0, none⟩ = some (u151000) := (blk_cell BK150.out 0).trans rfl; have hfz49_0 := blk_frozen BK150.out 0; obtain ⟨Ao50, co50, eo50⟩ := Kd.S_slice HO_151000.out; subst eo50))
         go_loopg [70] kj39 (fun kq v70 w' => ∃ (x70_3 : Int) (x151000_3 : List (List Int)) (u151000 : Value), v70 = .int .i64 x70_3 ∧ Aside0 (spec_l1Cur_matrix.l3 kq (t147.length : Int) x9_1 t164 t167 (x151000_1.length : Int) x70_3 s0_0 t168 t169 x151000_3 = some (r1, r2, r3)) ∧ Aside0 (kq ≤ kj39) ∧ Aside0 (Kd.S (Kd.slice 3 (Kd.int .i64)) 34 w' w.heap.size (fun k_ => (w.heap.size ≤ k_)) u151000 x151000_3) ∧ Aside0 (w'.heap[gb144]? = some (.cells #[(.slice none 0 0)] 26 (0, 0))) ∧ Aside0 (w'.heap[gb150]? = some (.cells #[u151000] 26 (0, 0))) ∧ Aside0 (IsS92 w0 w' g s0_0 t168 t169) ∧ Aside0 (KeepBut w w' g none) ∧ Aside0 (Below w0.heap.size w0 w'))
         case atStart => exact ⟨(0), (x151000_1), (.slice Ao50 x151000_1.length co50), e2, H', ⟨Nat.le_refl _⟩, ⟨z92_⟩, ⟨z65_⟩, ⟨z80_⟩, ⟨z33_⟩, ⟨z43_⟩, ⟨z22_⟩⟩
         case round =>
          clear H'; (try clear c1); (try clear p1); (try clear q1); (try clear hx1); (try clear c2); (try clear p2); (try clear c3); (try clear p3); (try clear q3); (try clear hx3); (try clear hf3); (try clear c4); (try clear p6); (try clear c7); (try clear c9); (try clear c10); (try clear c11); (try clear c12); (try clear c13); (try clear c15); (try clear p15); (try clear q15); (try clear hx15); (try clear c16); (try clear c16b0); (try clear c16b1); (try clear c17); (try clear c18); (try clear c20); (try clear c20b0); (try clear c21); (try clear c22); (try clear c25); (try clear c25b0); (try clear c26); (try clear c26b0); (try clear c27); (try clear c27b0); (try clear c29); (try clear c29b0); (try clear c30); (try clear c30b0); (try clear p31); (try clear q31); (try clear hx31); (try clear hf31); (try clear c35); (try clear q35); (try clear c37); (try clear c37b0); (try clear c37b1); (try clear c41); (try clear c41b0); (try clear c42); (try clear c47); (try clear c48); (try clear hcz14_0); (try clear hcz19_0); (try clear hcz23_0); (try clear hcz49_0); (try clear hfz14_0); (try clear hfz19_0); (try clear hfz23_0); (try clear hfz49_0); (try clear hx154_0); (try clear hx31_0); (try clear p1); (try clear p15); (try clear p154); (try clear p2); (try clear p3); (try clear p31); (try clear p6); (try clear q1); (try clear q15); (try clear q154); (try clear q3); (try clear q31); (try clear q35)
          obtain ⟨x70_3, x151000_3, u151000, rfl, HA, HK3, HO_151000, BK144, BK150, HI0, HK, HB⟩ := hrel
          cases gk with
          | zero => exact absurd HA.out (by simp [spec_l1Cur_matrix.l3])
          | succ k3 =>
           have H := HA.out
           clear HA
           simp only [spec_l1Cur_matrix.l3] at H
           by_cases c51 : x70_3 < (x151000_1.length : Int)
           ·
            rw [if_pos c51] at H
            have c51b0 : decide (x70_3 < (x151000_1.length : Int)) = true := decide_eq_true c51
            clear c51
            by_cases c52 : t164 = t167
            ·
             rw [if_pos c52] at H
             have c52b0 : (t164 == t167) = true := beq_iff_eq.mpr c52
             have c52b1 : (t164 != t167) = false := bne_eq_false_iff_eq.mpr c52
             clear c52
             have H' := Aside0.mk H
             clear H
             go_wp2
             go_roundg k3
             case measure => have := HK1.out; have := HJ39.out; have := HK3.out; omega
             case rel => exact ⟨(wrap64 (x70_3 + 1)), (x151000_3), (u151000), e2, H', ⟨by have := HK1.out; have := HJ39.out; have := HK3.out; omega⟩, ⟨z92_⟩, ⟨z65_⟩, ⟨z80_⟩, ⟨z33_⟩, ⟨z43_⟩, ⟨z22_⟩⟩
            ·
             rw [if_neg c52] at H
             have c52b0 : (t164 == t167) = false := beq_eq_false_iff_ne.mpr c52
             have c52b1 : (t164 != t167) = true := bne_iff_ne.mpr c52
             by_cases c53 : 0 ≤ t164
             ·
              rw [if_pos c53] at H
              have c53b0 : decide (0 ≤ t164) = true := decide_eq_true c53
              clear c53
              by_cases c54 : t164 < (x151000_3.length : Int)
              ·
               rw [if_pos c54] at H
               have c54b0 : decide (t164 < (x151000_3.length : Int)) = true := decide_eq_true c54
               clear c54
               by_cases c55 : 0 ≤ x70_3
               ·
                rw [if_pos c55] at H
                have c55b0 : decide (0 ≤ x70_3) = true := decide_eq_true c55
                clear c55
                by_cases c56 : x70_3 < ((rd_L2 x151000_3 t164).length : Int)
                ·
                 rw [if_pos c56] at H
                 have c56b0 : decide (x70_3 < ((rd_L2 x151000_3 t164).length : Int)) = true := decide_eq_true c56
                 clear c56
                 by_cases c57 : 0 ≤ t167
                 ·
                  rw [if_pos c57] at H
                  have c57b0 : decide (0 ≤ t167) = true := decide_eq_true c57
                  clear c57
                  by_cases c58 : t167 < (x151000_3.length : Int)
                  ·
                   rw [if_pos c58] at H
                   have c58b0 : decide (t167 < (x151000_3.length : Int)) = true := decide_eq_true c58
                   clear c58
                   by_cases c59 : x70_3 < ((rd_L2 x151000_3 t167).length : Int)
                   ·
                    rw [if_pos c59] at H
                    have c59b0 : decide (x70_3 < ((rd_L2 x151000_3 t167).length : Int)) = true := decide_eq_true c59
                    clear c59
                    obtain ⟨y174, hy174⟩ : ∃ y_ : List Int, y_ = ((rd_L2 x151000_3 t164).set (x70_3 : Int).toNat (wrap64 ((rd (rd_L2 x151000_3 t164) x70_3) + (rd (rd_L2 x151000_3 t167) x70_3)))) := ⟨_, rfl⟩
                    replace H : (spec_l1Cur_matrix.l3 k3 (t147.length : Int) x9_1 t164 t167 (x151000_1.length : Int) (wrap64 (x70_3 + 1)) s0_0 t168 t169 (x151000_3.set (t164 : Int).toNat y174)) = some (r1, r2, r3) := by first | (rw [hy174]; with_reducible exact H) | (have H2_ := (Option.bind_some _ _).symm.trans H; rw [hy174]; with_reducible exact H2_) | (have H2_ := (Option.bind_some _ _).symm.trans H; with_reducible exact H2_) | with_reducible exact H | (rw [hy174]; exact H) | exact H
                    have Ny174 := Aside0.mk hy174
                    clear hy174
                    obtain ⟨y176, hy176⟩ : ∃ y_ : List (List Int), y_ = (x151000_3.set (t164 : Int).toNat y174) := ⟨_, rfl⟩
                    replace H : (spec_l1Cur_matrix.l3 k3 (t147.length : Int) x9_1 t164 t167 (x151000_1.length : Int) (wrap64 (x70_3 + 1)) s0_0 t168 t169 y176) = some (r1, r2, r3) := by first | (rw [hy176]; with_reducible exact H) | (have H2_ := (Option.bind_some _ _).symm.trans H; rw [hy176]; with_reducible exact H2_) | (have H2_ := (Option.bind_some _ _).symm.trans H; with_reducible exact H2_) | with_reducible exact H | (rw [hy176]; exact H) | exact H
                    have Ny176 := Aside0.mk hy176
                    clear hy176
                    have H' := Aside0.mk H
                    clear H
                    try go_wp2
                    have n0_ := Aside0.mk (Kd.S_drew HO_151000.out)
                    have n1_ := Aside0.mk (blk_drew BK144.out)
                    have n2_ := Aside0.mk (blk_drew BK150.out)
                    have n3_ := Aside0.mk (IsS92.drew HI0.out)
                    have n4_ := Aside0.mk (keep_drew HK.out)
                    have n5_ := Aside0.mk (below_drew1 HB.out)
                    clear HO_151000; clear BK144; clear BK150; clear HI0; clear HK; clear HB
                    have HO_151000 := n0_
                    have BK144 := n1_
                    have BK150 := n2_
                    have HI0 := n3_
                    have HK := n4_
                    have HB := n5_
                    clear n0_ n1_ n2_ n3_ n4_ n5_
                    obtain ⟨Ao62, co62, eo62⟩ := Kd.S_slice HO_151000.out
                    (first | subst eo62 | (injection eo62 with f1_ f2_ f3_; have f4_ := f1_.symm; have f5_ := f3_.symm; clear f1_ f2_ f3_; subst f4_; subst f5_))
                    have p170 : 0 ≤ (t164 : Int) := od
                    have q170 : t164 < (x151000_3.length : Int) := od
                    obtain ⟨ad170, A170_0, c170_0, e170, hx170_0, hl170_0, hi170_0⟩ := at_L2 (Kd.S_reads' HO_151000.out).2.2 t164 p170 q170
                    cases e170
                    obtain ⟨ce170, hce170, hMe170, hcc170⟩ := Kd.S_get HO_151000.out [] t164 p170 (by first | exact q170 | exact od | (have e_ := (Kd.S_reads' HO_151000.out).1; omega))
                    obtain ⟨ve170_0, rfl, ge170_0⟩ := hMe170
                    have hv170_0 := hcc170 0 _ rfl
                    rw [Nat.add_zero, show ((Kd.slice 3 (Kd.int .i64))).sz = 1 from rfl, Nat.mul_one] at hv170_0
                    replace hv170_0 := Option.some.inj (hv170_0.symm.trans hx170_0)
                    rw [hv170_0] at ge170_0
                    have HL170_0 := Aside0.mk (show Kd.R (Kd.int .i64) 3 _ _ _ _ (rd_L2 x151000_3 t164) from ge170_0)
                    clear hv170_0 ge170_0
                    have HX170_0 := Aside0.mk hx170_0
                    clear hcc170 hce170
                    have HR170_0 := Aside0.mk hi170_0
                    have HC170_0 := Aside0.mk hl170_0
                    clear hi170_0 hl170_0
                    replace p170 := eq_true p170
                    replace q170 := eq_true q170
                    have p171 : 0 ≤ (x70_3 : Int) := od
                    have q171 : x70_3 < ((rd_L2 x151000_3 t164).length : Int) := od
                    obtain ⟨ad171, e171, hx171_0⟩ := Kd.at_int (by repeat (first | (with_reducible exact HR170_0.out) | (with_reducible refine Kd.C_alloc ?_ _) | (with_reducible refine Kd.C_drewN ?_ _) | (with_reducible refine Kd.C_drew ?_) | exact HR170_0.out)) x70_3 p171 q171
                    cases e171
                    replace p171 := eq_true p171
                    replace q171 := eq_true q171
                    have p172 : 0 ≤ (t167 : Int) := od
                    have q172 : t167 < (x151000_3.length : Int) := od
                    obtain ⟨ad172, A172_0, c172_0, e172, hx172_0, hl172_0, hi172_0⟩ := at_L2 (Kd.S_reads' HO_151000.out).2.2 t167 p172 q172
                    obtain rfl : ad170 = ad172 := (by injection e172)
                    obtain ⟨ce172, hce172, hMe172, hcc172⟩ := Kd.S_get HO_151000.out [] t167 p172 (by first | exact q172 | exact od | (have e_ := (Kd.S_reads' HO_151000.out).1; omega))
                    obtain ⟨ve172_0, rfl, ge172_0⟩ := hMe172
                    have hv172_0 := hcc172 0 _ rfl
                    rw [Nat.add_zero, show ((Kd.slice 3 (Kd.int .i64))).sz = 1 from rfl, Nat.mul_one] at hv172_0
                    replace hv172_0 := Option.some.inj (hv172_0.symm.trans hx172_0)
                    rw [hv172_0] at ge172_0
                    have HL172_0 := Aside0.mk (show Kd.R (Kd.int .i64) 3 _ _ _ _ (rd_L2 x151000_3 t167) from ge172_0)
                    clear hv172_0 ge172_0
                    have HX172_0 := Aside0.mk hx172_0
                    clear hcc172 hce172
                    have HR172_0 := Aside0.mk hi172_0
                    have HC172_0 := Aside0.mk hl172_0
                    clear hi172_0 hl172_0
                    replace p172 := eq_true p172
                    replace q172 := eq_true q172
                    have p173 : 0 ≤ (x70_3 : Int) := od
                    have q173 : x70_3 < ((rd_L2 x151000_3 t167).length : Int) := od
                    obtain ⟨ad173, e173, hx173_0⟩ := Kd.at_int (by repeat (first | (with_reducible exact HR172_0.out) | (with_reducible refine Kd.C_alloc ?_ _) | (with_reducible refine Kd.C_drewN ?_ _) | (with_reducible refine Kd.C_drew ?_) | exact HR172_0.out)) x70_3 p173 q173
                    cases e173
                    replace p173 := eq_true p173
                    replace q173 := eq_true q173
                    have p60 : 0 ≤ (x70_3 : Int) := od
                    have q60 : (x70_3 : Int) < (((rd_L2 x151000_3 t164).length : Int) : Int) := od
                    obtain ⟨go60, co60, eo60, gb60, gl60, cl60, HG60⟩ := Kd.R_form HL170_0.out (by omega)
                    (first | cases eo60 | (injection eo60 with ea_ en_ ec_; (first | subst ea_ | (injection ea_ with ea_; subst ea_)); subst ec_; clear en_))
                    have GB60 := Aside0.mk gb60
                    have GG60 := Aside0.mk HG60
                    clear gb60 gl60 HG60
                    (first | simp only [add_plain] at hx171_0 | skip)
                    obtain ⟨hx60_0, hf60_0⟩ := Kd.R_celln 0 HL170_0.out (x70_3 : Int) p60 q60
                    replace p60 := eq_true p60
                    replace q60 := eq_true q60
                    have hq63 : (t164 : Int) < (x151000_3.length : Int) := (by have h_ : (t164 : Int) < ((x151000_3.length : Int) : Int) := od; first | exact h_ | (have e_ := (Kd.S_reads' HO_151000.out).1; omega) | simpa only [List.length_set, List.length_set] using h_)
                    obtain ⟨oki63, ce63, hcl63, hM63, hcc63, hok63, hbk63⟩ := Kd.S_borrow HO_151000.out [] (t164 : Int) (od) hq63
                    obtain ⟨ve63_0, rfl, ge63_0⟩ := hM63
                    have hv63 := hcc63 0 _ rfl
                    rw [Nat.add_zero, show ((Kd.slice 3 (Kd.int .i64))).sz = 1 from rfl, Nat.mul_one] at hv63
                    replace hv63 := Option.some.inj (hv63.symm.trans HX170_0.out)
                    subst hv63
                    clear hcc63 hcl63
                    replace ge63_0 := (show Kd.R (Kd.int .i64) 3 _ _ _ _ (rd_L2 x151000_3 t164) from ge63_0)
                    have HP63 := Kd.R_putg ge63_0 (x70_3 : Int) (wrap64 ((rd (rd_L2 x151000_3 t164) x70_3) + (rd (rd_L2 x151000_3 t167) x70_3)))
                    have HN0_go60 := Aside0.mk (show g ≠ go60 from by have h_ := IsS92.own_ne HI0.out HL170_0.out (by decide); intro e_; exact h_ (by rw [e_]; rfl))
                    rw [← Ny174.out] at HP63
                    have HS63 := hbk63 HP63.2 (fun k_ e_ => by injection e_ with e_; subst e_; exact ge63_0.1 _ rfl) (x' := y174) (Kd.M_row HP63.1)
                    rw [← Ny176.out] at HS63
                    have HQ63 := Aside0.mk HS63
                    clear HP63 HS63 hbk63 hok63
                    refine start_ (n := 19) (S := fun w' => w'.cell? ⟨gb150, 0, none⟩ = some (.slice (some ad170) x151000_3.length co62) ∧ w'.cell? (ad170.add (t164).toNat) = some (.slice (some ⟨go60, 0, none⟩) (rd_L2 x151000_3 t164).length c170_0) ∧ w'.cell? ⟨go60, (x70_3).toNat, none⟩ = some (.int .i64 (rd (rd_L2 x151000_3 t164) x70_3)) ∧ w'.cell? (ad170.add (t167).toNat) = some (.slice (some ad173) (rd_L2 x151000_3 t167).length c172_0) ∧ w'.cell? (ad173.add (x70_3).toNat) = some (.int .i64 (rd (rd_L2 x151000_3 t167) x70_3))) (ds := [18]) #[O,O,O,O,O,O,O,O,O,O,O,O,O,O,O,O,O,O,O] (by kernel_rfl) rfl rfl ⟨(blk_cell BK150.out 0).trans rfl, hx170_0, hx171_0, hx172_0, hx173_0⟩ (fun hHeld => ?_); refine with_tabW spec_l1Cur_matrix.tab23 spec_l1Cur_matrix.bits23 (fun HT_ HW_ => ?_)
                    generalize wr.drew = w61 at HO_151000 BK144 BK150 HI0 HK HB GG60 HL170_0 HL172_0 HQ63 HR170_0 HR172_0 HX170_0 HX172_0 hf60_0 hx170_0 hx171_0 hx172_0 hx173_0 hx60_0 hHeld ⊢
                    refine pS 0 76 (BM 19 1) ?_
                    refine pS 2 78 (BM 19 5) ?_
                    refine pS 5 81 (BM 19 37) ?_
                    refine pS 8 84 (BM 19 293) ?_
                    refine pS 10 86 (BM 19 1317) ?_
                    refine pS 13 89 (BM 19 9509) ?_
                    refine take_ (i := 1) (N := some 77) (v := ?_) (a' := ?_) (BM 19 9511) rfl rfl (take_ofW HT_.out HW_.out (by kernel_rfl)) (fun _ _ _ h => h) (Or.inl ⟨by rfl, ?_⟩) hHeld ?_ ?_
                    rotate_left
                    ·
                     rintro w' ⟨s0, s1, s2, s3, s4⟩
                     go_simp
                     with_reducible rfl
                    rotate_left
                    ·
                     simp only [AP]
                     rfl
                    refine pS 3 79 (BM 19 9519) ?_
                    refine take_ (i := 4) (N := some 80) (v := ?_) (a' := ?_) (BM 19 9535) rfl rfl (take_ofW HT_.out HW_.out (by kernel_rfl)) (fun _ _ _ h => h) (Or.inl ⟨by rfl, ?_⟩) hHeld ?_ ?_
                    rotate_left
                    ·
                     rintro w' ⟨s0, s1, s2, s3, s4⟩
                     go_simp
                     with_reducible rfl
                    rotate_left
                    ·
                     simp only [AP]
                     rfl
                    refine pS 6 82 (BM 19 9599) ?_
                    refine take_ (i := 7) (N := some 83) (v := ?_) (a' := ?_) (BM 19 9727) rfl rfl (take_ofW HT_.out HW_.out (by kernel_rfl)) (fun _ _ _ h => h) (Or.inl ⟨by rfl, ?_⟩) hHeld ?_ ?_
                    rotate_left
                    ·
                     rintro w' ⟨s0, s1, s2, s3, s4⟩
                     go_simp
                     with_reducible rfl
                    rotate_left
                    ·
                     simp only [AP]
                     rfl
                    refine take_ (i := 9) (N := some 85) (v := ?_) (a' := ?_) (BM 19 10239) rfl rfl (take_ofW HT_.out HW_.out (by kernel_rfl)) (fun _ _ _ h => h) (Or.inl ⟨by rfl, ?_⟩) hHeld ?_ ?_
                    rotate_left
                    ·
                     rintro w' ⟨s0, s1, s2, s3, s4⟩
                     go_simp
                     with_reducible rfl
                    rotate_left
                    ·
                     simp only [AP]
                     rfl
                    refine pS 11 87 (BM 19 12287) ?_
                    refine take_ (i := 12) (N := some 88) (v := ?_) (a' := ?_) (BM 19 16383) rfl rfl (take_ofW HT_.out HW_.out (by kernel_rfl)) (fun _ _ _ h => h) (Or.inl ⟨by rfl, ?_⟩) hHeld ?_ ?_
                    rotate_left
                    ·
                     rintro w' ⟨s0, s1, s2, s3, s4⟩
                     go_simp
                     with_reducible rfl
                    rotate_left
                    ·
                     simp only [AP]
                     rfl
                    refine pS 14 90 (BM 19 32767) ?_
                    refine take_ (i := 15) (N := some 91) (v := ?_) (a' := ?_) (BM 19 65535) rfl rfl (take_ofW HT_.out HW_.out (by kernel_rfl)) (fun _ _ _ h => h) (Or.inl ⟨by rfl, ?_⟩) hHeld ?_ ?_
                    rotate_left
                    ·
                     rintro w' ⟨s0, s1, s2, s3, s4⟩
                     go_simp
                     with_reducible rfl
                    rotate_left
                    ·
                     simp only [AP]
                     rfl
                    refine pS 16 92 (BM 19 131071) ?_
                    refine pS 17 93 (BM 19 262143) ?_
                    refine last_ (i := 18) (N := none) (BM 19 524287) rfl rfl (one_of HT_.out (by kernel_rfl)) (by decide) (fun K hK => ?_)
                    refine skip_ (w1 := ?_) (by rfl) rfl ?_ ?_
                    rotate_left
                    ·
                     go_simp
                     rfl
                    refine hK.out _ _ ?_
                    clear hK K
                    refine done_ (done_of HT_.out (by kernel_rfl)) ?_
                    try go_wp2
                    go_roundg k3
                    case measure => have := HK1.out; have := HJ39.out; have := HK3.out; omega
                    case rel => exact ⟨(wrap64 (x70_3 + 1)), (y176), (.slice (some ad170) x151000_3.length co62), e2, H', ⟨by have := HK1.out; have := HJ39.out; have := HK3.out; omega⟩, ⟨by (with_reducible repeat (first | apply Kd.S_alloc | apply Kd.S_drewN | apply Kd.S_drew)); exact HQ63.out⟩, ⟨by (with_reducible repeat (first | refine blk_drewN ?_ _ | refine blk_drew ?_ | refine blk_alloc ?_ _)); refine blk_far ?_ (by have h_ := Kd.R_ne HL170_0.out BK144.out (by decide); intro e_; exact h_ (by rw [e_]; rfl)) _; (with_reducible repeat (first | refine blk_drewN ?_ _ | refine blk_drew ?_ | refine blk_alloc ?_ _)); exact BK144.out⟩, ⟨by (with_reducible repeat (first | refine blk_drewN ?_ _ | refine blk_drew ?_ | refine blk_alloc ?_ _)); refine blk_far ?_ (by have h_ := Kd.R_ne HL170_0.out BK150.out (by decide); intro e_; exact h_ (by rw [e_]; rfl)) _; (with_reducible repeat (first | refine blk_drewN ?_ _ | refine blk_drew ?_ | refine blk_alloc ?_ _)); exact BK150.out⟩, ⟨by repeat (first | (with_reducible first | exact HI0.out | apply IsS92.alloc | apply IsS92.drewN | apply IsS92.drew | apply IsS92.set_1 | apply IsS92.set_2 | refine IsS92.far ?_ HN0_go60.out _ | refine IsS92.far ?_ NB0_144.out _ | refine IsS92.far ?_ NB0_150.out _) | exact HI0.out)⟩, ⟨by repeat (first | (with_reducible first | exact HK.out | apply KeepBut.set_ | apply keep_drewN | apply keep_drew | apply keep_alloc | refine keep_far ?_ GB60.out _ | refine keep_far ?_ GW144.out _ | refine keep_far ?_ GW150.out _) | exact HK.out)⟩, ⟨by repeat (first | (with_reducible first | exact HB.out | apply below_alloc | apply pw_below_drewN | apply below_drew1 | refine below_set ?_ (Nat.le_trans HL.out GB60.out) | refine below_set ?_ (IsS92.ge HI0.out) | refine below_set ?_ GE144.out | refine below_set ?_ GE150.out) | exact HB.out | exact Below.refl _ _)⟩⟩
                   ·
                    rw [if_neg c59] at H
                    exact absurd H (by simp)
                  ·
                   rw [if_neg c58] at H
                   exact absurd H (by simp)
                 ·
                  rw [if_neg c57] at H
                  exact absurd H (by simp)
                ·
                 rw [if_neg c56] at H
                 exact absurd H (by simp)
               ·
                rw [if_neg c55] at H
                exact absurd H (by simp)
              ·
               rw [if_neg c54] at H
               exact absurd H (by simp)
             ·
              rw [if_neg c53] at H
              exact absurd H (by simp)
           ·
            rw [if_neg c51] at H
            have c51b0 : decide (x70_3 < (x151000_1.length : Int)) = false := decide_eq_false c51
            clear c51
            have H' := Aside0.mk H
            clear H
            go_wp2
            go_roundg k3
            case measure => have := HK1.out; have := HJ39.out; have := HK3.out; omega
            case rel => exact ⟨(wrap64 (x9_1 - 1)), (t168), (t169), (x151000_3), (u151000), e2, H', ⟨by have := HK1.out; have := HJ39.out; have := HK3.out; omega⟩, ⟨z92_⟩, ⟨z65_⟩, ⟨z80_⟩, ⟨z33_⟩, ⟨z43_⟩, ⟨z22_⟩⟩
        ·
         replace c42 := Bool.eq_false_iff.mpr c42
         subst c42
         have H1 : (spec_l1Cur_matrix.j6 kj39 (t147.length : Int) s0_0 x1001_1 x1002_1 x151000_1) = some (r1, r2, r3) := by rw [if_neg (show ¬ (false = true) by decide)] at H; exact H
         clear H
         have H := H1
         clear H1
         have H' := Aside0.mk H
         clear H
         go_wp2
         go_meet
         case rel => exact ⟨_, (x1001_1), (x1002_1), (x151000_1), (u151000), H', ⟨by have := HK1.out; have := HJ39.out; first | omega | exact Nat.le_refl _⟩, ⟨z92_⟩, ⟨z65_⟩, ⟨z80_⟩, ⟨z33_⟩, ⟨z43_⟩, ⟨z22_⟩⟩
   ·
    rw [if_neg c37] at H
    have c37b0 : (t151 == 1) = false := beq_eq_false_iff_ne.mpr c37
    have c37b1 : (t151 != 1) = true := bne_iff_ne.mpr c37
    by_cases c65 : t151 = 2
    ·
     rw [if_pos c65] at H
     have c65b0 : (t151 == 2) = true := beq_iff_eq.mpr c65
     have c65b1 : (t151 != 2) = false := bne_eq_false_iff_eq.mpr c65
     clear c65
     have H' := Aside0.mk H
     clear H
     have hnb66 := NB150_144.out
     have hnc66 := NB144_150.out
     have hnb67 := NB150_0.out
     have hnc67 := NB0_150.out
     have hcz68_0 : w15.cell? ⟨gb150, 0, none⟩ = some (.slice Ao11 t147.length co11) := (blk_cell BK150.out 0).trans rfl
     have hfz68_0 := blk_frozen BK150.out 0
     go_wp2
     go_loopg [100] k (fun kq v100 w' => ∃ (x100_1 : Int) (x1001_1 : Int) (x1002_1 : Int) (x151000_1 : List (List Int)) (u151000 : Value), v100 = .int .i64 x100_1 ∧ Aside0 (spec_l1Cur_matrix.l4 kq (t147.length : Int) (t147.length : Int) x100_1 s0_0 x1001_1 x1002_1 x151000_1 = some (r1, r2, r3)) ∧ Aside0 (kq ≤ k) ∧ Aside0 (Kd.S (Kd.slice 3 (Kd.int .i64)) 34 w' w.heap.size (fun k_ => (w.heap.size ≤ k_)) u151000 x151000_1) ∧ Aside0 (w'.heap[gb144]? = some (.cells #[(.slice none 0 0)] 26 (0, 0))) ∧ Aside0 (w'.heap[gb150]? = some (.cells #[u151000] 26 (0, 0))) ∧ Aside0 (IsS92 w0 w' g s0_0 x1001_1 x1002_1) ∧ Aside0 (KeepBut w w' g none) ∧ Aside0 (Below w0.heap.size w0 w'))
     case atStart => exact ⟨(0), (t152), (t153), (t147), (.slice Ao11 t147.length co11), e2, H', ⟨Nat.le_refl _⟩, ⟨z61_⟩, ⟨z65_⟩, ⟨z80_⟩, ⟨z33_⟩, ⟨z43_⟩, ⟨z22_⟩⟩
     case round =>
      clear H'; (try clear c1); (try clear p1); (try clear q1); (try clear hx1); (try clear c2); (try clear p2); (try clear c3); (try clear p3); (try clear q3); (try clear hx3); (try clear hf3); (try clear c4); (try clear c5); (try clear c6); (try clear p6); (try clear q6); (try clear hx6); (try clear hf6); (try clear c7); (try clear c9); (try clear c10); (try clear c11); (try clear c12); (try clear c13); (try clear c15); (try clear p15); (try clear q15); (try clear hx15); (try clear c16); (try clear c16b0); (try clear c16b1); (try clear c17); (try clear p17); (try clear q17); (try clear hx17); (try clear c18); (try clear c20); (try clear c20b0); (try clear c21); (try clear c22); (try clear c25); (try clear c25b0); (try clear c26); (try clear c26b0); (try clear c27); (try clear c27b0); (try clear c29); (try clear c29b0); (try clear c30); (try clear c30b0); (try clear p31); (try clear q31); (try clear hx31); (try clear hf31); (try clear c35); (try clear q35); (try clear c37); (try clear c37b0); (try clear c37b1); (try clear c41); (try clear c41b0); (try clear c42); (try clear c47); (try clear c48); (try clear c51); (try clear c51b0); (try clear c52); (try clear c52b0); (try clear c52b1); (try clear c53); (try clear c53b0); (try clear c54); (try clear c54b0); (try clear c55); (try clear c55b0); (try clear c56); (try clear c56b0); (try clear c57); (try clear c57b0); (try clear c58); (try clear c58b0); (try clear c59); (try clear c59b0); (try clear p60); (try clear q60); (try clear hx60); (try clear hf60); (try clear c63); (try clear q63); (try clear p64); (try clear c65); (try clear c65b0); (try clear c65b1); (try clear c66); (try clear c67); (try clear hcz14_0); (try clear hcz19_0); (try clear hcz23_0); (try clear hcz49_0); (try clear hcz68_0); (try clear hfz14_0); (try clear hfz19_0); (try clear hfz23_0); (try clear hfz49_0); (try clear hfz68_0); (try clear hx154_0); (try clear hx170_0); (try clear hx171_0); (try clear hx172_0); (try clear hx173_0); (try clear hx31_0); (try clear hx60_0); (try clear p1); (try clear p15); (try clear p154); (try clear p170); (try clear p171); (try clear p172); (try clear p173); (try clear p2); (try clear p3); (try clear p31); (try clear p6); (try clear p60); (try clear q1); (try clear q15); (try clear q154); (try clear q170); (try clear q171); (try clear q172); (try clear q173); (try clear q3); (try clear q31); (try clear q35); (try clear q60)
      obtain ⟨x100_1, x1001_1, x1002_1, x151000_1, u151000, rfl, HA, HK1, HO_151000, BK144, BK150, HI0, HK, HB⟩ := hrel
      cases gk with
      | zero => exact absurd HA.out (by simp [spec_l1Cur_matrix.l4])
      | succ k1 =>
       have H := HA.out
       clear HA
       simp only [spec_l1Cur_matrix.l4] at H
       by_cases c69 : x100_1 < (t147.length : Int)
       ·
        rw [if_pos c69] at H
        have c69b0 : decide (x100_1 < (t147.length : Int)) = true := decide_eq_true c69
        clear c69
        by_cases c70 : 0 ≤ x100_1
        ·
         rw [if_pos c70] at H
         have c70b0 : decide (0 ≤ x100_1) = true := decide_eq_true c70
         clear c70
         by_cases c71 : x100_1 < (x151000_1.length : Int)
         ·
          rw [if_pos c71] at H
          have c71b0 : decide (x100_1 < (x151000_1.length : Int)) = true := decide_eq_true c71
          clear c71
          obtain ⟨y178, hy178⟩ : ∃ y_ : List Int, y_ = (([1, (-1), 2, (-2), 0] : List Int)) := ⟨_, rfl⟩
          replace H : ((spec_l1Cur_among.f s0_0 x1001_1 x1002_1 y178).bind fun bt181 => (if x100_1 < ((rd_L2 x151000_1 x100_1).length : Int) then (spec_l1Cur_matrix.l4 k1 (t147.length : Int) (t147.length : Int) (wrap64 (x100_1 + 1)) s0_0 bt181.2.1 bt181.2.2 (x151000_1.set (x100_1 : Int).toNat ((rd_L2 x151000_1 x100_1).set (x100_1 : Int).toNat bt181.1))) else (none))) = some (r1, r2, r3) := by first | (rw [hy178]; with_reducible exact H) | (have H2_ := (Option.bind_some _ _).symm.trans H; rw [hy178]; with_reducible exact H2_) | (have H2_ := (Option.bind_some _ _).symm.trans H; with_reducible exact H2_) | with_reducible exact H | (rw [hy178]; exact H) | exact H
          have Ny178 := Aside0.mk hy178
          clear hy178
          replace H := Option.bind_eq_some_iff.mp H
          obtain ⟨⟨t181, t182, t183⟩, A720, H⟩ := H
          replace H : (if x100_1 < ((rd_L2 x151000_1 x100_1).length : Int) then (spec_l1Cur_matrix.l4 k1 (t147.length : Int) (t147.length : Int) (wrap64 (x100_1 + 1)) s0_0 t182 t183 (x151000_1.set (x100_1 : Int).toNat ((rd_L2 x151000_1 x100_1).set (x100_1 : Int).toNat t181))) else (none)) = some (r1, r2, r3) := H
          have A72 := Aside0.mk A720
          clear A720
          by_cases c73 : x100_1 < ((rd_L2 x151000_1 x100_1).length : Int)
          ·
           rw [if_pos c73] at H
           have c73b0 : decide (x100_1 < ((rd_L2 x151000_1 x100_1).length : Int)) = true := decide_eq_true c73
           clear c73
           obtain ⟨y184, hy184⟩ : ∃ y_ : List Int, y_ = ((rd_L2 x151000_1 x100_1).set (x100_1 : Int).toNat t181) := ⟨_, rfl⟩
           replace H : (spec_l1Cur_matrix.l4 k1 (t147.length : Int) (t147.length : Int) (wrap64 (x100_1 + 1)) s0_0 t182 t183 (x151000_1.set (x100_1 : Int).toNat y184)) = some (r1, r2, r3) := by first | (rw [hy184]; with_reducible exact H) | (have H2_ := (Option.bind_some _ _).symm.trans H; rw [hy184]; with_reducible exact H2_) | (have H2_ := (Option.bind_some _ _).symm.trans H; with_reducible exact H2_) | with_reducible exact H | (rw [hy184]; exact H) | exact H
           have Ny184 := Aside0.mk hy184
           clear hy184
           obtain ⟨y186, hy186⟩ : ∃ y_ : List (List Int), y_ = (x151000_1.set (x100_1 : Int).toNat y184) := ⟨_, rfl⟩
           replace H : (spec_l1Cur_matrix.l4 k1 (t147.length : Int) (t147.length : Int) (wrap64 (x100_1 + 1)) s0_0 t182 t183 y186) = some (r1, r2, r3) := by first | (rw [hy186]; with_reducible exact H) | (have H2_ := (Option.bind_some _ _).symm.trans H; rw [hy186]; with_reducible exact H2_) | (have H2_ := (Option.bind_some _ _).symm.trans H; with_reducible exact H2_) | with_reducible exact H | (rw [hy186]; exact H) | exact H
           have Ny186 := Aside0.mk hy186
           clear hy186
           have H' := Aside0.mk H
           clear H
           try go_wp2
           have n0_ := Aside0.mk (Kd.S_drew HO_151000.out)
           have n1_ := Aside0.mk (blk_drew BK144.out)
           have n2_ := Aside0.mk (blk_drew BK150.out)
           have n3_ := Aside0.mk (IsS92.drew HI0.out)
           have n4_ := Aside0.mk (keep_drew HK.out)
           have n5_ := Aside0.mk (below_drew1 HB.out)
           clear HO_151000; clear BK144; clear BK150; clear HI0; clear HK; clear HB
           have HO_151000 := n0_
           have BK144 := n1_
           have BK150 := n2_
           have HI0 := n3_
           have HK := n4_
           have HB := n5_
           clear n0_ n1_ n2_ n3_ n4_ n5_
           obtain ⟨Ao76, co76, eo76⟩ := Kd.S_slice HO_151000.out
           (first | subst eo76 | (injection eo76 with f1_ f2_ f3_; have f4_ := f1_.symm; have f5_ := f3_.symm; clear f1_ f2_ f3_; subst f4_; subst f5_))
           have p177 : 0 ≤ (x100_1 : Int) := od
           have q177 : x100_1 < (x151000_1.length : Int) := od
           obtain ⟨ad177, A177_0, c177_0, e177, hx177_0, hl177_0, hi177_0⟩ := at_L2 (Kd.S_reads' HO_151000.out).2.2 x100_1 p177 q177
           cases e177
           obtain ⟨ce177, hce177, hMe177, hcc177⟩ := Kd.S_get HO_151000.out [] x100_1 p177 (by first | exact q177 | exact od | (have e_ := (Kd.S_reads' HO_151000.out).1; omega))
           obtain ⟨ve177_0, rfl, ge177_0⟩ := hMe177
           have hv177_0 := hcc177 0 _ rfl
           rw [Nat.add_zero, show ((Kd.slice 3 (Kd.int .i64))).sz = 1 from rfl, Nat.mul_one] at hv177_0
           replace hv177_0 := Option.some.inj (hv177_0.symm.trans hx177_0)
           rw [hv177_0] at ge177_0
           have HL177_0 := Aside0.mk (show Kd.R (Kd.int .i64) 3 _ _ _ _ (rd_L2 x151000_1 x100_1) from ge177_0)
           clear hv177_0 ge177_0
           have HX177_0 := Aside0.mk hx177_0
           clear hcc177 hce177
           have HR177_0 := Aside0.mk hi177_0
           have HC177_0 := Aside0.mk hl177_0
           clear hi177_0 hl177_0
           replace p177 := eq_true p177
           replace q177 := eq_true q177
           refine start_ (n := 11) (S := fun w' => w'.cell? ⟨gb150, 0, none⟩ = some (.slice (some ad177) x151000_1.length co76) ∧ w'.cell? (ad177.add (x100_1).toNat) = some (.slice A177_0 (rd_L2 x151000_1 x100_1).length c177_0)) (ds := [10]) #[O,O,O,O,O,O,O,O,O,O,O] (by kernel_rfl) rfl rfl ⟨(blk_cell BK150.out 0).trans rfl, hx177_0⟩ (fun hHeld => ?_); refine with_tabW spec_l1Cur_matrix.tab29 spec_l1Cur_matrix.bits29 (fun HT_ HW_ => ?_)
           generalize wr.drew = w75 at HO_151000 BK144 BK150 HI0 HK HB HL177_0 HR177_0 HX177_0 hx177_0 hHeld ⊢
           refine pS 0 103 (BM 11 1) ?_
           refine pS 2 105 (BM 11 5) ?_
           refine pS 5 108 (BM 11 37) ?_
           refine pS 6 109 (BM 11 101) ?_
           refine take_ (i := 1) (N := some 104) (v := ?_) (a' := ?_) (BM 11 103) rfl rfl (take_ofW HT_.out HW_.out (by kernel_rfl)) (fun _ _ _ h => h) (Or.inl ⟨by rfl, ?_⟩) hHeld ?_ ?_
           rotate_left
           ·
            rintro w' ⟨s0, s1⟩
            go_simp
            with_reducible rfl
           rotate_left
           ·
            simp only [AP]
            rfl
           refine pS 3 106 (BM 11 111) ?_
           refine take_ (i := 4) (N := some 107) (v := ?_) (a' := ?_) (BM 11 127) rfl rfl (take_ofW HT_.out HW_.out (by kernel_rfl)) (fun _ _ _ h => h) (Or.inl ⟨by rfl, ?_⟩) hHeld ?_ ?_
           rotate_left
           ·
            rintro w' ⟨s0, s1⟩
            go_simp
            with_reducible rfl
           rotate_left
           ·
            simp only [AP]
            rfl
           refine one_ (i := 7) (N := some 110) (BM 11 255) rfl rfl (one_of HT_.out (by kernel_rfl)) (by decide) (fun K hK => ?_)
           refine Kd.R_lit_step (Kd.int .i64) _ 3 ?hg (N := 110) ?hd (xs := ([1, (-1), 2, (-2), 0] : List Int)) (inner := [.int .i64 1, .int .i64 (-1), .int .i64 2, .int .i64 (-2), .int .i64 0]) (ok := fun _ => True) (okp := fun _ => True) ?hr ?hp (fun _ hk => hk) trivial (Below.refl _ _) (Nat.le_refl _) (by simp) ?_; (case hd => rfl); (case hg => rfl); (case hr => exact z116_); (case hp => exact (Reps.one (show Kd.M (Kd.int .i64) _ _ _ 1 [.int .i64 1] from rfl) (Reps.one (show Kd.M (Kd.int .i64) _ _ _ (-1) [.int .i64 (-1)] from rfl) (Reps.one (show Kd.M (Kd.int .i64) _ _ _ 2 [.int .i64 2] from rfl) (Reps.one (show Kd.M (Kd.int .i64) _ _ _ (-2) [.int .i64 (-2)] from rfl) (Reps.one (show Kd.M (Kd.int .i64) _ _ _ 0 [.int .i64 0] from rfl) (Reps.none _ _)))))))
           intro v179 w77 ho78 hb hg_ hnew_
           have HS1_ := (hb.cell (World.block_lt_of_cell? _ _ (hHeld.2))).trans (hHeld.2)
           clear hg_ hnew_
           (first | rw [← Ny178.out] at ho78 | (simp only [Int.reduceToNat] at ho78; rw [← Ny178.out] at ho78))
           have n0_ := Aside0.mk (Kd.S_elder' z92_ (Kd.R_base ho78) hb)
           have n1_ := Aside0.mk (Kd.R_elder' (rA HL177_0) (Kd.R_base ho78) hb)
           have n2_ := Aside0.mk (Kd.R_lower (Kd.R_new' (Kd.R_newM (M := fun k_ => (w.heap.size ≤ k_)) ho78 (keep_size (w := w) (g := g) (row := none) z43_) (fun k_ h_ => h_)) (Kd.R_lt (rA HL177_0))) (keep_size (w := w) (g := g) (row := none) z43_))
           have n3_ := Aside0.mk (kK BK144 hb)
           have n4_ := Aside0.mk (kK BK150 hb)
           have n5_ := Aside0.mk (IsS92.below z33_ hb)
           have n6_ := Aside0.mk ((by with_reducible first | exact Kd.C_below HR177_0.out hb | exact Kd.C_below (Kd.C_drewN HR177_0.out _) hb | exact Kd.C_below (Kd.C_alloc HR177_0.out _) hb | exact Kd.C_below (Kd.C_drewN (Kd.C_drewN HR177_0.out _) _) hb))
           have n7_ := Aside0.mk (pw_cell_below hb HX177_0.out)
           have n8_ := Aside0.mk (KeepBut.trans z43_ (KeepBut.of_below hb g none) (.inl rfl))
           have n9_ := Aside0.mk (below_step z22_ hb)
           clear HO_151000; clear HL177_0; clear BK144; clear BK150; clear HI0; clear HR177_0; clear HX177_0; clear HK; clear HB
           have HO_151000 := n0_
           have HL177_0 := n1_
           have HO180 := n2_
           have BK144 := n3_
           have BK150 := n4_
           have HI0 := n5_
           have HR177_0 := n6_
           have HX177_0 := n7_
           have HK := n8_
           have HB := n9_
           clear n0_ n1_ n2_ n3_ n4_ n5_ n6_ n7_ n8_ n9_
           clear hb ho78
           obtain ⟨Ao79, co79, eo79⟩ := Kd.R_slice HO180.out
           (first | subst eo79 | (injection eo79 with f1_ f2_ f3_; have f4_ := f1_.symm; have f5_ := f3_.symm; clear f1_ f2_ f3_; subst f4_; subst f5_))
           refine hK.out _ _ ⟨(blk_cell BK150.out 0).trans rfl, HS1_⟩ (fun hHeld => ?_)
           clear hK K
           refine norm_ (a' := ?_) ?_ ?_
           rotate_left
           ·
            show Act.put _ (some 110) _ = _
            simp only [AP]
            rfl
           refine one_ (i := 8) (N := some 111) (BM 11 511) rfl rfl (one_of HT_.out (by kernel_rfl)) (by decide) (fun K hK => ?_)
           refine goes_ Try.func99 (by kernel_rfl) rfl #[.pointer (some ⟨g, 0, none⟩), .slice Ao79 y178.length co79] (by rfl) rfl rfl (by (try simp only [List.map_toArray, List.map_cons, List.map_nil]); first | done | rfl | (simp only [List.length_drop, List.length_take]; rfl)) ?_
           with_reducible refine (spec_l1Cur_among.calls g s0_0 x1001_1 x1002_1 _ _ y178 t181 t182 t183 w0 _ ?side1 ?side2 ?side3 ?side4 ?side5 A72.out).mono ?_
           (case side1 => exact z33_)
           (case side2 => exact z22_)
           (case side3 => exact cC (Kd.R_reads' HO180.out).2.2)
           (case side4 => exact (Kd.R_reads' HO180.out).2.1)
           (case side5 => exact far_slice (IsS92.own_ne HI0.out HO180.out (by decide)))
           rintro e w80 ⟨rfl, hi, hb, hk⟩
           have HS1_ := keep_cell hk (hHeld.2) z11_
           refine ⟨_, rfl, ?_⟩
           have n0_ := Aside0.mk (Kd.S_mono (Kd.S_keep (IsS92.apartS (show IsS92 w0 _ g s0_0 x1001_1 x1002_1 from z33_) z92_ (by decide)) hk (fun _ h => h.2)) (fun _ h => h.1))
           have n1_ := Aside0.mk (KeepBut.blk hk (g' := gb144) (o := .cells #[.slice none 0 0] 26 (0, 0)) (bA BK144) NB144_0.out (by simp))
           have n2_ := Aside0.mk (KeepBut.blk hk (g' := gb150) (o := .cells #[.slice (some ad177) x151000_1.length co76] 26 (0, 0)) (bA BK150) NB150_0.out (by simp))
           have n3_ := Aside0.mk (Kd.R_mono (Kd.R_keep (IsS92.apart (show IsS92 w0 _ g s0_0 x1001_1 x1002_1 from z33_) (rA HL177_0) (by decide)) hk (fun _ h => h.2)) (fun _ h => h.1))
           have n4_ := Aside0.mk (keep_cell hk HX177_0.out z6_)
           have n5_ := Aside0.mk (Kd.R_mono (Kd.R_keep (IsS92.apart (show IsS92 w0 _ g s0_0 x1001_1 x1002_1 from z33_) (rA HO180) (by decide)) hk (fun _ h => h.2)) (fun _ h => h.1))
           have n6_ := Aside0.mk (KeepBut.trans z43_ hk (.inl rfl))
           have n7_ := Aside0.mk (hb)
           have n8_ := Aside0.mk (hi)
           clear HO_151000; clear BK144; clear BK150; clear HL177_0; clear HX177_0; clear HO180; clear HK; clear HB; clear HI0
           have HO_151000 := n0_
           have BK144 := n1_
           have BK150 := n2_
           have HL177_0 := n3_
           have HX177_0 := n4_
           have HO180 := n5_
           have HK := n6_
           have HB := n7_
           have HI0 := n8_
           clear n0_ n1_ n2_ n3_ n4_ n5_ n6_ n7_ n8_
           (try clear hb)
           (try clear hb2)
           (try clear hk)
           (try clear hi)
           have p74 : 0 ≤ (x100_1 : Int) := od
           have q74 : (x100_1 : Int) < (((rd_L2 x151000_1 x100_1).length : Int) : Int) := od
           obtain ⟨go74, co74, eo74, gb74, gl74, cl74, HG74⟩ := Kd.R_form HL177_0.out (by omega)
           (first | cases eo74 | (injection eo74 with ea_ en_ ec_; (first | subst ea_ | (injection ea_ with ea_; subst ea_)); subst ec_; clear en_))
           have GB74 := Aside0.mk gb74
           have GG74 := Aside0.mk HG74
           clear gb74 gl74 HG74
           obtain ⟨hx74_0, hf74_0⟩ := Kd.R_celln 0 HL177_0.out (x100_1 : Int) p74 q74
           replace p74 := eq_true p74
           replace q74 := eq_true q74
           have hq81 : (x100_1 : Int) < (x151000_1.length : Int) := (by have h_ : (x100_1 : Int) < ((x151000_1.length : Int) : Int) := od; first | exact h_ | (have e_ := (Kd.S_reads' HO_151000.out).1; omega) | simpa only [List.length_set, List.length_set] using h_)
           obtain ⟨oki81, ce81, hcl81, hM81, hcc81, hok81, hbk81⟩ := Kd.S_borrow HO_151000.out [] (x100_1 : Int) (od) hq81
           obtain ⟨ve81_0, rfl, ge81_0⟩ := hM81
           have hv81 := hcc81 0 _ rfl
           rw [Nat.add_zero, show ((Kd.slice 3 (Kd.int .i64))).sz = 1 from rfl, Nat.mul_one] at hv81
           replace hv81 := Option.some.inj (hv81.symm.trans HX177_0.out)
           subst hv81
           clear hcc81 hcl81
           replace ge81_0 := (show Kd.R (Kd.int .i64) 3 _ _ _ _ (rd_L2 x151000_1 x100_1) from ge81_0)
           have HP81 := Kd.R_putg ge81_0 (x100_1 : Int) t181
           have HN0_go74 := Aside0.mk (show g ≠ go74 from by have h_ := IsS92.own_ne HI0.out HL177_0.out (by decide); intro e_; exact h_ (by rw [e_]; rfl))
           rw [← Ny184.out] at HP81
           have HS81 := hbk81 HP81.2 (fun k_ e_ => by injection e_ with e_; subst e_; exact ge81_0.1 _ rfl) (x' := y184) (Kd.M_row HP81.1)
           rw [← Ny186.out] at HS81
           have HQ81 := Aside0.mk HS81
           clear HP81 HS81 hbk81 hok81
           refine hK.out _ _ ⟨(blk_cell BK150.out 0).trans rfl, HS1_⟩ (fun hHeld => ?_)
           clear hK K
           refine norm_ (a' := ?_) ?_ ?_
           rotate_left
           ·
            show Act.put _ (some 111) _ = _
            simp only [AP]
            rfl
           refine pS 9 112 (BM 11 1023) ?_
           refine last_ (i := 10) (N := none) (BM 11 2047) rfl rfl (one_of HT_.out (by kernel_rfl)) (by decide) (fun K hK => ?_)
           refine skip_ (w1 := ?_) (by rfl) rfl ?_ ?_
           rotate_left
           ·
            go_simp
            rfl
           refine hK.out _ _ ?_
           clear hK K
           refine done_ (done_of HT_.out (by kernel_rfl)) ?_
           try go_wp2
           go_roundg k1
           case measure => have := HK1.out; omega
           case rel => exact ⟨(wrap64 (x100_1 + 1)), (t182), (t183), (y186), (.slice (some ad177) x151000_1.length co76), e2, H', ⟨by have := HK1.out; omega⟩, ⟨by (with_reducible repeat (first | apply Kd.S_alloc | apply Kd.S_drewN | apply Kd.S_drew)); exact Kd.S_mono HQ81.out (fun _ hk => hk.1)⟩, ⟨by (with_reducible repeat (first | refine blk_drewN ?_ _ | refine blk_drew ?_ | refine blk_alloc ?_ _)); refine blk_far ?_ (by have h_ := Kd.R_ne HL177_0.out BK144.out (by decide); intro e_; exact h_ (by rw [e_]; rfl)) _; (with_reducible repeat (first | refine blk_drewN ?_ _ | refine blk_drew ?_ | refine blk_alloc ?_ _)); exact BK144.out⟩, ⟨by (with_reducible repeat (first | refine blk_drewN ?_ _ | refine blk_drew ?_ | refine blk_alloc ?_ _)); refine blk_far ?_ (by have h_ := Kd.R_ne HL177_0.out BK150.out (by decide); intro e_; exact h_ (by rw [e_]; rfl)) _; (with_reducible repeat (first | refine blk_drewN ?_ _ | refine blk_drew ?_ | refine blk_alloc ?_ _)); exact BK150.out⟩, ⟨by repeat (first | (with_reducible first | exact HI0.out | apply IsS92.alloc | apply IsS92.drewN | apply IsS92.drew | apply IsS92.set_1 | apply IsS92.set_2 | refine IsS92.far ?_ HN0_go74.out _ | refine IsS92.far ?_ NB0_144.out _ | refine IsS92.far ?_ NB0_150.out _) | exact HI0.out)⟩, ⟨by repeat (first | (with_reducible first | exact HK.out | apply KeepBut.set_ | apply keep_drewN | apply keep_drew | apply keep_alloc | refine keep_far ?_ GB74.out _ | refine keep_far ?_ GW144.out _ | refine keep_far ?_ GW150.out _) | exact HK.out)⟩, ⟨by repeat (first | (with_reducible first | exact HB.out | apply below_alloc | apply pw_below_drewN | apply below_drew1 | refine below_set ?_ (Nat.le_trans HL.out GB74.out) | refine below_set ?_ (IsS92.ge HI0.out) | refine below_set ?_ GE144.out | refine below_set ?_ GE150.out) | exact HB.out | exact Below.refl _ _)⟩⟩
          ·
           rw [if_neg c73] at H
           exact absurd H (by simp)
         ·
          rw [if_neg c71] at H
          exact absurd H (by simp)
        ·
         rw [if_neg c70] at H
         exact absurd H (by simp)
       ·
        rw [if_neg c69] at H
        have c69b0 : decide (x100_1 < (t147.length : Int)) = false := decide_eq_false c69
        clear c69
        have H' := Aside0.mk H
        clear H
        go_wp2
        go_meet
        case rel => exact ⟨_, (x1001_1), (x1002_1), (x151000_1), (u151000), H', ⟨by have := HK1.out; first | omega | exact Nat.le_refl _⟩, ⟨z92_⟩, ⟨z65_⟩, ⟨z80_⟩, ⟨z33_⟩, ⟨z43_⟩, ⟨z22_⟩⟩
    ·
     rw [if_neg c65] at H
     have c65b0 : (t151 == 2) = false := beq_eq_false_iff_ne.mpr c65
     have c65b1 : (t151 != 2) = true := bne_iff_ne.mpr c65
     have H' := Aside0.mk H
     clear H
     go_wp2
     go_meet
     case rel => exact ⟨_, (t152), (t153), (t147), (.slice Ao11 t147.length co11), H', ⟨z117_⟩, ⟨z61_⟩, ⟨z65_⟩, ⟨z80_⟩, ⟨z33_⟩, ⟨z43_⟩, ⟨z22_⟩⟩
 case rest =>
  clear HC7; (try clear c1); (try clear p1); (try clear q1); (try clear hx1); (try clear c2); (try clear p2); (try clear c3); (try clear p3); (try clear q3); (try clear hx3); (try clear hf3); (try clear c4); (try clear c5); (try clear c6); (try clear p6); (try clear q6); (try clear hx6); (try clear hf6); (try clear c7); (try clear p7); (try clear q7); (try clear hx7); (try clear hf7); (try clear c8); (try clear q8); (try clear c9); (try clear c10); (try clear c11); (try clear c12); (try clear c13); (try clear c15); (try clear p15); (try clear q15); (try clear hx15); (try clear c16); (try clear c16b0); (try clear c16b1); (try clear c17); (try clear p17); (try clear q17); (try clear hx17); (try clear c18); (try clear c20); (try clear c20b0); (try clear c21); (try clear c22); (try clear c25); (try clear c25b0); (try clear c26); (try clear c26b0); (try clear c27); (try clear c27b0); (try clear c29); (try clear c29b0); (try clear c30); (try clear c30b0); (try clear p31); (try clear q31); (try clear hx31); (try clear hf31); (try clear c35); (try clear q35); (try clear c37); (try clear c37b0); (try clear c37b1); (try clear c41); (try clear c41b0); (try clear c42); (try clear c47); (try clear c48); (try clear c51); (try clear c51b0); (try clear c52); (try clear c52b0); (try clear c52b1); (try clear c53); (try clear c53b0); (try clear c54); (try clear c54b0); (try clear c55); (try clear c55b0); (try clear c56); (try clear c56b0); (try clear c57); (try clear c57b0); (try clear c58); (try clear c58b0); (try clear c59); (try clear c59b0); (try clear p60); (try clear q60); (try clear hx60); (try clear hf60); (try clear c63); (try clear q63); (try clear p64); (try clear c65); (try clear c65b0); (try clear c65b1); (try clear c66); (try clear c67); (try clear c69); (try clear c69b0); (try clear c70); (try clear c70b0); (try clear c71); (try clear c71b0); (try clear c73); (try clear c73b0); (try clear p74); (try clear q74); (try clear hx74); (try clear hf74); (try clear c81); (try clear q81); (try clear hcz14_0); (try clear hcz19_0); (try clear hcz23_0); (try clear hcz49_0); (try clear hcz68_0); (try clear hfz14_0); (try clear hfz19_0); (try clear hfz23_0); (try clear hfz49_0); (try clear hfz68_0); (try clear hx154_0); (try clear hx170_0); (try clear hx171_0); (try clear hx172_0); (try clear hx173_0); (try clear hx177_0); (try clear hx31_0); (try clear hx60_0); (try clear hx74_0); (try clear p1); (try clear p15); (try clear p154); (try clear p17); (try clear p170); (try clear p171); (try clear p172); (try clear p173); (try clear p177); (try clear p2); (try clear p3); (try clear p31); (try clear p6); (try clear p60); (try clear p64); (try clear p74); (try clear q1); (try clear q15); (try clear q154); (try clear q17); (try clear q170); (try clear q171); (try clear q172); (try clear q173); (try clear q177); (try clear q3); (try clear q31); (try clear q35); (try clear q6); (try clear q60); (try clear q63); (try clear q74)
  obtain ⟨kq, x1001_6, x1002_6, x151000_6, u151000, HA, HJ6, HO_151000, BK144, BK150, HI0, HK, HB⟩ := hcut
  cases kq with
  | zero => exact absurd HA.out (by simp [spec_l1Cur_matrix.j6])
  | succ kj6 =>
   have H := HA.out
   clear HA
   simp only [spec_l1Cur_matrix.j6] at H
   replace H := Option.bind_eq_some_iff.mp H
   obtain ⟨⟨t187, t188, t189⟩, A830, H⟩ := H
   replace H : (if t187 = 0 then ((spec_l1Cur_pick.f s0_0 t188 t189 (t147.length : Int)).bind fun bt190 => (if 0 ≤ bt190.1 then (if bt190.1 < (x151000_6.length : Int) then ((spec_l1Cur_pick.f s0_0 bt190.2.1 bt190.2.2 (t147.length : Int)).bind fun bt194 => ((spec_l1Cur_among.f s0_0 bt194.2.1 bt194.2.2 (([1000000, 1000001, (-1000001), 1001, 30001, (-9223372036854775808)] : List Int))).bind fun bt200 => (if 0 ≤ bt194.1 then (if bt194.1 < ((rd_L2 x151000_6 bt190.1).length : Int) then (some ((x151000_6.set (bt190.1 : Int).toNat ((rd_L2 x151000_6 bt190.1).set (bt194.1 : Int).toNat bt200.1)), bt200.2.1, bt200.2.2)) else (none)) else (none)))) else (none)) else (none))) else (if t187 = 1 then (if 0 ≤ (t147.length : Int) then (if ((t147.length : Int) : Int).toNat ≤ 35184372088832 then (if x151000_6.length < 5864062014805 then (some ((x151000_6 ++ [(List.replicate ((t147.length : Int) : Int).toNat 0)]), t188, t189)) else (none)) else (none)) else (none)) else (if t187 = 2 then ((cutRow.f x151000_6).bind fun t212 => (some (t212, t188, t189))) else (some (x151000_6, t188, t189))))) = some (r1, r2, r3) := H
   have A83 := Aside0.mk A830
   clear A830
   by_cases c84 : t187 = 0
   ·
    rw [if_pos c84] at H
    have c84b0 : (t187 == 0) = true := beq_iff_eq.mpr c84
    have c84b1 : (t187 != 0) = false := bne_eq_false_iff_eq.mpr c84
    clear c84
    replace H := Option.bind_eq_some_iff.mp H
    obtain ⟨⟨t190, t191, t192⟩, A850, H⟩ := H
    replace H : (if 0 ≤ t190 then (if t190 < (x151000_6.length : Int) then ((spec_l1Cur_pick.f s0_0 t191 t192 (t147.length : Int)).bind fun bt194 => ((spec_l1Cur_among.f s0_0 bt194.2.1 bt194.2.2 (([1000000, 1000001, (-1000001), 1001, 30001, (-9223372036854775808)] : List Int))).bind fun bt200 => (if 0 ≤ bt194.1 then (if bt194.1 < ((rd_L2 x151000_6 t190).length : Int) then (some ((x151000_6.set (t190 : Int).toNat ((rd_L2 x151000_6 t190).set (bt194.1 : Int).toNat bt200.1)), bt200.2.1, bt200.2.2)) else (none)) else (none)))) else (none)) else (none)) = some (r1, r2, r3) := H
    have A85 := Aside0.mk A850
    clear A850
    by_cases c86 : 0 ≤ t190
    ·
     rw [if_pos c86] at H
     have c86b0 : decide (0 ≤ t190) = true := decide_eq_true c86
     clear c86
     by_cases c87 : t190 < (x151000_6.length : Int)
     ·
      rw [if_pos c87] at H
      have c87b0 : decide (t190 < (x151000_6.length : Int)) = true := decide_eq_true c87
      clear c87
      replace H := Option.bind_eq_some_iff.mp H
      obtain ⟨⟨t194, t195, t196⟩, A880, H⟩ := H
      replace H : ((spec_l1Cur_among.f s0_0 t195 t196 (([1000000, 1000001, (-1000001), 1001, 30001, (-9223372036854775808)] : List Int))).bind fun bt200 => (if 0 ≤ t194 then (if t194 < ((rd_L2 x151000_6 t190).length : Int) then (some ((x151000_6.set (t190 : Int).toNat ((rd_L2 x151000_6 t190).set (t194 : Int).toNat bt200.1)), bt200.2.1, bt200.2.2)) else (none)) else (none))) = some (r1, r2, r3) := H
      have A88 := Aside0.mk A880
      clear A880
      obtain ⟨y197, hy197⟩ : ∃ y_ : List Int, y_ = (([1000000, 1000001, (-1000001), 1001, 30001, (-9223372036854775808)] : List Int)) := ⟨_, rfl⟩
      replace H : ((spec_l1Cur_among.f s0_0 t195 t196 y197).bind fun bt200 => (if 0 ≤ t194 then (if t194 < ((rd_L2 x151000_6 t190).length : Int) then (some ((x151000_6.set (t190 : Int).toNat ((rd_L2 x151000_6 t190).set (t194 : Int).toNat bt200.1)), bt200.2.1, bt200.2.2)) else (none)) else (none))) = some (r1, r2, r3) := by first | (rw [hy197]; with_reducible exact H) | (have H2_ := (Option.bind_some _ _).symm.trans H; rw [hy197]; with_reducible exact H2_) | (have H2_ := (Option.bind_some _ _).symm.trans H; with_reducible exact H2_) | with_reducible exact H | (rw [hy197]; exact H) | exact H
      have Ny197 := Aside0.mk hy197
      clear hy197
      replace H := Option.bind_eq_some_iff.mp H
      obtain ⟨⟨t200, t201, t202⟩, A890, H⟩ := H
      replace H : (if 0 ≤ t194 then (if t194 < ((rd_L2 x151000_6 t190).length : Int) then (some ((x151000_6.set (t190 : Int).toNat ((rd_L2 x151000_6 t190).set (t194 : Int).toNat t200)), t201, t202)) else (none)) else (none)) = some (r1, r2, r3) := H
      have A89 := Aside0.mk A890
      clear A890
      by_cases c90 : 0 ≤ t194
      ·
       rw [if_pos c90] at H
       have c90b0 : decide (0 ≤ t194) = true := decide_eq_true c90
       clear c90
       by_cases c91 : t194 < ((rd_L2 x151000_6 t190).length : Int)
       ·
        rw [if_pos c91] at H
        have c91b0 : decide (t194 < ((rd_L2 x151000_6 t190).length : Int)) = true := decide_eq_true c91
        clear c91
        obtain ⟨y203, hy203⟩ : ∃ y_ : List Int, y_ = ((rd_L2 x151000_6 t190).set (t194 : Int).toNat t200) := ⟨_, rfl⟩
        replace H : (some ((x151000_6.set (t190 : Int).toNat y203), t201, t202)) = some (r1, r2, r3) := by first | (rw [hy203]; with_reducible exact H) | (have H2_ := (Option.bind_some _ _).symm.trans H; rw [hy203]; with_reducible exact H2_) | (have H2_ := (Option.bind_some _ _).symm.trans H; with_reducible exact H2_) | with_reducible exact H | (rw [hy203]; exact H) | exact H
        have Ny203 := Aside0.mk hy203
        clear hy203
        obtain ⟨y205, hy205⟩ : ∃ y_ : List (List Int), y_ = (x151000_6.set (t190 : Int).toNat y203) := ⟨_, rfl⟩
        replace H : (some (y205, t201, t202)) = some (r1, r2, r3) := by first | (rw [hy205]; with_reducible exact H) | (have H2_ := (Option.bind_some _ _).symm.trans H; rw [hy205]; with_reducible exact H2_) | (have H2_ := (Option.bind_some _ _).symm.trans H; with_reducible exact H2_) | with_reducible exact H | (rw [hy205]; exact H) | exact H
        have Ny205 := Aside0.mk hy205
        clear hy205
        simp only [Option.some.injEq, Prod.mk.injEq] at H
        obtain ⟨rfl, rfl, rfl⟩ := H
        try go_wp2_with (first | ((with_reducible refine gate_callee (f := 107) rfl ?_); refine gL (some 115) rfl rfl Try.func107 (by kernel_rfl) rfl #[.pointer (some ⟨g, 0, none⟩), .int .i64 20] rfl ?_; (with_reducible refine (spec_l1Cur_pick.calls g s0_0 x1001_6 x1002_6 20 t187 t188 t189 w0 _ ?side1 ?side2 A83.out).mono ?_); (case side1 => exact z33_); (case side2 => exact z22_); rintro e w93 ⟨rfl, hi, hb, hk⟩; refine ⟨_, rfl, ?_⟩; have n0_ := Aside0.mk (Kd.S_mono (Kd.S_keep (IsS92.apartS (show IsS92 w0 _ g s0_0 x1001_6 x1002_6 from z33_) z92_ (by decide)) hk (fun _ h => h.2)) (fun _ h => h.1)); have n1_ := Aside0.mk (KeepBut.blk hk (g' := gb144) (o := .cells #[.slice none 0 0] 26 (0, 0)) (bA BK144) NB144_0.out (by simp)); have n2_ := Aside0.mk (KeepBut.blk hk (g' := gb150) (o := .cells #[u151000] 26 (0, 0)) (bA BK150) NB150_0.out (by simp)); have n3_ := Aside0.mk (KeepBut.trans z43_ hk (.inl rfl)); have n4_ := Aside0.mk (hb); have n5_ := Aside0.mk (hi); clear HO_151000; clear BK144; clear BK150; clear HK; clear HB; clear HI0; have HO_151000 := n0_; have BK144 := n1_; have BK150 := n2_; have HK := n3_; have HB := n4_; have HI0 := n5_; clear n0_ n1_ n2_ n3_ n4_ n5_; (try clear hb); (try clear hb2); (try clear hk); (try clear hi)))
        have n0_ := Aside0.mk (Kd.S_drew HO_151000.out)
        have n1_ := Aside0.mk (blk_drew BK144.out)
        have n2_ := Aside0.mk (blk_drew BK150.out)
        have n3_ := Aside0.mk (IsS92.drew HI0.out)
        have n4_ := Aside0.mk (keep_drew HK.out)
        have n5_ := Aside0.mk (below_drew1 HB.out)
        clear HO_151000; clear BK144; clear BK150; clear HI0; clear HK; clear HB
        have HO_151000 := n0_
        have BK144 := n1_
        have BK150 := n2_
        have HI0 := n3_
        have HK := n4_
        have HB := n5_
        clear n0_ n1_ n2_ n3_ n4_ n5_
        obtain ⟨Ao96, co96, eo96⟩ := Kd.S_slice HO_151000.out
        (first | subst eo96 | (injection eo96 with f1_ f2_ f3_; have f4_ := f1_.symm; have f5_ := f3_.symm; clear f1_ f2_ f3_; subst f4_; subst f5_))
        have p193 : 0 ≤ (t190 : Int) := od
        have q193 : t190 < (x151000_6.length : Int) := od
        obtain ⟨ad193, A193_0, c193_0, e193, hx193_0, hl193_0, hi193_0⟩ := at_L2 (Kd.S_reads' HO_151000.out).2.2 t190 p193 q193
        cases e193
        obtain ⟨ce193, hce193, hMe193, hcc193⟩ := Kd.S_get HO_151000.out [] t190 p193 (by first | exact q193 | exact od | (have e_ := (Kd.S_reads' HO_151000.out).1; omega))
        obtain ⟨ve193_0, rfl, ge193_0⟩ := hMe193
        have hv193_0 := hcc193 0 _ rfl
        rw [Nat.add_zero, show ((Kd.slice 3 (Kd.int .i64))).sz = 1 from rfl, Nat.mul_one] at hv193_0
        replace hv193_0 := Option.some.inj (hv193_0.symm.trans hx193_0)
        rw [hv193_0] at ge193_0
        have HL193_0 := Aside0.mk (show Kd.R (Kd.int .i64) 3 _ _ _ _ (rd_L2 x151000_6 t190) from ge193_0)
        clear hv193_0 ge193_0
        have HX193_0 := Aside0.mk hx193_0
        clear hcc193 hce193
        have HR193_0 := Aside0.mk hi193_0
        have HC193_0 := Aside0.mk hl193_0
        clear hi193_0 hl193_0
        replace p193 := eq_true p193
        replace q193 := eq_true q193
        refine start_ (n := 15) (S := fun w' => w'.cell? ⟨gb150, 0, none⟩ = some (.slice (some ad193) x151000_6.length co96) ∧ w'.cell? (ad193.add (t190).toNat) = some (.slice A193_0 (rd_L2 x151000_6 t190).length c193_0)) (ds := [14]) #[O,O,O,O,O,O,O,O,O,O,O,O,O,O,O] (by kernel_rfl) rfl rfl ⟨(blk_cell BK150.out 0).trans rfl, hx193_0⟩ (fun hHeld => ?_); refine with_tabW spec_l1Cur_matrix.tab33 spec_l1Cur_matrix.bits33 (fun HT_ HW_ => ?_)
        generalize w93.drew = w95 at HO_151000 BK144 BK150 HI0 HK HB HL193_0 HR193_0 HX193_0 hx193_0 hHeld ⊢
        refine pS 0 118 (BM 15 1) ?_
        refine pS 2 120 (BM 15 5) ?_
        refine pS 3 121 (BM 15 13) ?_
        refine pS 7 125 (BM 15 141) ?_
        refine pS 8 126 (BM 15 397) ?_
        refine pS 10 128 (BM 15 1421) ?_
        refine take_ (i := 1) (N := some 119) (v := ?_) (a' := ?_) (BM 15 1423) rfl rfl (take_ofW HT_.out HW_.out (by kernel_rfl)) (fun _ _ _ h => h) (Or.inl ⟨by rfl, ?_⟩) hHeld ?_ ?_
        rotate_left
        ·
         rintro w' ⟨s0, s1⟩
         go_simp
         with_reducible rfl
        rotate_left
        ·
         simp only [AP]
         rfl
        refine join_ (σ := Value) 3 #[Y,Y,Y,Y,Y,Y,Y,Y,Y,Y,Y,Y,O,O,O] (fun s_ => [(122, .int .i64 t190), (123, .pointer (some (ad193.add (t190).toNat))), (124, .slice A193_0 (rd_L2 x151000_6 t190).length c193_0), (127, .int .i64 t194), (129, s_)]) (fun s_ w' => (w'.cell? ⟨gb150, 0, none⟩ = some (.slice (some ad193) x151000_6.length co96) ∧ w'.cell? (ad193.add (t190).toNat) = some (.slice A193_0 (rd_L2 x151000_6 t190).length c193_0)) ∧ (Kd.R (Kd.int .i64) 3 w' w.heap.size (fun k_ => (w.heap.size ≤ k_) ∧ some k_ ≠ (s_ : Value).ownBlock ∧ some k_ ≠ (.slice (some ad193) x151000_6.length co96 : Value).ownBlock) (.slice A193_0 (rd_L2 x151000_6 t190).length c193_0) (rd_L2 x151000_6 t190)) ∧ (Kd.R (Kd.int .i64) 3 w' w.heap.size (fun k_ => (w.heap.size ≤ k_) ∧ some k_ ≠ (.slice A193_0 (rd_L2 x151000_6 t190).length c193_0 : Value).ownBlock) s_ y197) ∧ (Kd.S (Kd.slice 3 (Kd.int .i64)) 34 w' w.heap.size (fun k_ => (w.heap.size ≤ k_) ∧ some k_ ≠ (s_ : Value).ownBlock) (.slice (some ad193) x151000_6.length co96) x151000_6) ∧ (w'.cell? (ad193.add (t190).toNat) = some (.slice A193_0 (rd_L2 x151000_6 t190).length c193_0)) ∧ (w'.heap[gb144]? = some (.cells #[.slice none 0 0] 26 (0, 0))) ∧ (w'.heap[gb150]? = some (.cells #[.slice (some ad193) x151000_6.length co96] 26 (0, 0))) ∧ (IsS92 w0 w' g s0_0 t195 t196) ∧ (KeepBut w w' g none) ∧ (Below w0.heap.size w0 w')) ?_ ?_
        rotate_left
        ·
         intro hCont
         refine two_ (i := 4) (j := 11) (Ni := some 122) (Nj := some 129) (BM 15 1439) (BM 15 3471) rfl rfl rfl rfl (two_of HT_.out (by kernel_rfl)) (by decide) (by decide) (fun K hK => ?_) (fun K hK => ?_)
         ·
          skip
          refine goes_ Try.func107 (by kernel_rfl) rfl #[.pointer (some ⟨g, 0, none⟩), .int .i64 (t147.length : Int)] (by rfl) rfl rfl (by (try simp only [List.map_toArray, List.map_cons, List.map_nil]); first | done | rfl | (simp only [List.length_drop, List.length_take]; rfl)) ?_
          with_reducible refine (spec_l1Cur_pick.calls g s0_0 t188 t189 (t147.length : Int) t190 t191 t192 w0 _ ?side1 ?side2 A85.out).mono ?_
          (case side1 => exact z33_)
          (case side2 => exact z22_)
          rintro e w97 ⟨rfl, hi, hb, hk⟩
          have HS1_ := keep_cell hk (hHeld.2) z11_
          refine ⟨_, rfl, ?_⟩
          have n0_ := Aside0.mk (Kd.S_mono (Kd.S_keep (IsS92.apartS (show IsS92 w0 _ g s0_0 t188 t189 from z33_) z92_ (by decide)) hk (fun _ h => h.2)) (fun _ h => h.1))
          have n1_ := Aside0.mk (KeepBut.blk hk (g' := gb144) (o := .cells #[.slice none 0 0] 26 (0, 0)) (bA BK144) NB144_0.out (by simp))
          have n2_ := Aside0.mk (KeepBut.blk hk (g' := gb150) (o := .cells #[.slice (some ad193) x151000_6.length co96] 26 (0, 0)) (bA BK150) NB150_0.out (by simp))
          have n3_ := Aside0.mk (Kd.R_mono (Kd.R_keep (IsS92.apart (show IsS92 w0 _ g s0_0 t188 t189 from z33_) (rA HL193_0) (by decide)) hk (fun _ h => h.2)) (fun _ h => h.1))
          have n4_ := Aside0.mk (keep_cell hk HX193_0.out z6_)
          have n5_ := Aside0.mk (KeepBut.trans z43_ hk (.inl rfl))
          have n6_ := Aside0.mk (hb)
          have n7_ := Aside0.mk (hi)
          clear HO_151000; clear BK144; clear BK150; clear HL193_0; clear HX193_0; clear HK; clear HB; clear HI0
          have HO_151000 := n0_
          have BK144 := n1_
          have BK150 := n2_
          have HL193_0 := n3_
          have HX193_0 := n4_
          have HK := n5_
          have HB := n6_
          have HI0 := n7_
          clear n0_ n1_ n2_ n3_ n4_ n5_ n6_ n7_
          (try clear hb)
          (try clear hb2)
          (try clear hk)
          (try clear hi)
          refine hK.out _ _ ⟨(blk_cell BK150.out 0).trans rfl, HS1_⟩ (fun hHeld => ?_)
          clear hK K
          refine norm_ (a' := ?_) ?_ ?_
          rotate_left
          ·
           show Act.put _ (some 122) _ = _
           simp only [AP]
           rfl
          refine pS 5 123 (BM 15 1471) ?_
          refine take_ (i := 6) (N := some 124) (v := ?_) (a' := ?_) (BM 15 1535) rfl rfl (take_ofW HT_.out HW_.out (by kernel_rfl)) (fun _ _ _ h => h) (Or.inl ⟨by rfl, ?_⟩) hHeld ?_ ?_
          rotate_left
          ·
           rintro w' ⟨s0, s1⟩
           go_simp
           with_reducible rfl
          rotate_left
          ·
           simp only [AP]
           rfl
          refine two_ (i := 9) (j := 11) (Ni := some 127) (Nj := some 129) (BM 15 2047) (BM 15 3583) rfl rfl rfl rfl (two_of HT_.out (by kernel_rfl)) (by decide) (by decide) (fun K hK => ?_) (fun K hK => ?_)
          ·
           skip
           refine goes_ Try.func107 (by kernel_rfl) rfl #[.pointer (some ⟨g, 0, none⟩), .int .i64 (t147.length : Int)] (by rfl) rfl rfl (by (try simp only [List.map_toArray, List.map_cons, List.map_nil]); first | done | rfl | (simp only [List.length_drop, List.length_take]; rfl)) ?_
           with_reducible refine (spec_l1Cur_pick.calls g s0_0 t191 t192 (t147.length : Int) t194 t195 t196 w0 _ ?side1 ?side2 A88.out).mono ?_
           (case side1 => exact z33_)
           (case side2 => exact z22_)
           rintro e w97 ⟨rfl, hi, hb, hk⟩
           have HS1_ := keep_cell hk (hHeld.2) z11_
           refine ⟨_, rfl, ?_⟩
           have n0_ := Aside0.mk (Kd.S_mono (Kd.S_keep (IsS92.apartS (show IsS92 w0 _ g s0_0 t191 t192 from z33_) z92_ (by decide)) hk (fun _ h => h.2)) (fun _ h => h.1))
           have n1_ := Aside0.mk (KeepBut.blk hk (g' := gb144) (o := .cells #[.slice none 0 0] 26 (0, 0)) (bA BK144) NB144_0.out (by simp))
           have n2_ := Aside0.mk (KeepBut.blk hk (g' := gb150) (o := .cells #[.slice (some ad193) x151000_6.length co96] 26 (0, 0)) (bA BK150) NB150_0.out (by simp))
           have n3_ := Aside0.mk (Kd.R_mono (Kd.R_keep (IsS92.apart (show IsS92 w0 _ g s0_0 t191 t192 from z33_) (rA HL193_0) (by decide)) hk (fun _ h => h.2)) (fun _ h => h.1))
           have n4_ := Aside0.mk (keep_cell hk HX193_0.out z6_)
           have n5_ := Aside0.mk (KeepBut.trans z43_ hk (.inl rfl))
           have n6_ := Aside0.mk (hb)
           have n7_ := Aside0.mk (hi)
           clear HO_151000; clear BK144; clear BK150; clear HL193_0; clear HX193_0; clear HK; clear HB; clear HI0
           have HO_151000 := n0_
           have BK144 := n1_
           have BK150 := n2_
           have HL193_0 := n3_
           have HX193_0 := n4_
           have HK := n5_
           have HB := n6_
           have HI0 := n7_
           clear n0_ n1_ n2_ n3_ n4_ n5_ n6_ n7_
           (try clear hb)
           (try clear hb2)
           (try clear hk)
           (try clear hi)
           refine hK.out _ _ ⟨(blk_cell BK150.out 0).trans rfl, HS1_⟩ (fun hHeld => ?_)
           clear hK K
           refine norm_ (a' := ?_) ?_ ?_
           rotate_left
           ·
            show Act.put _ (some 127) _ = _
            simp only [AP]
            rfl
           refine one_ (i := 11) (N := some 129) (BM 15 4095) rfl rfl (one_of HT_.out (by kernel_rfl)) (by decide) (fun K hK => ?_)
           refine Kd.R_lit_step (Kd.int .i64) _ 3 ?hg (N := 129) ?hd (xs := ([1000000, 1000001, (-1000001), 1001, 30001, (-9223372036854775808)] : List Int)) (inner := [.int .i64 1000000, .int .i64 1000001, .int .i64 (-1000001), .int .i64 1001, .int .i64 30001, .int .i64 (-9223372036854775808)]) (ok := fun _ => True) (okp := fun _ => True) ?hr ?hp (fun _ hk => hk) trivial (Below.refl _ _) (Nat.le_refl _) (by simp) ?_; (case hd => rfl); (case hg => rfl); (case hr => exact z116_); (case hp => exact (Reps.one (show Kd.M (Kd.int .i64) _ _ _ 1000000 [.int .i64 1000000] from rfl) (Reps.one (show Kd.M (Kd.int .i64) _ _ _ 1000001 [.int .i64 1000001] from rfl) (Reps.one (show Kd.M (Kd.int .i64) _ _ _ (-1000001) [.int .i64 (-1000001)] from rfl) (Reps.one (show Kd.M (Kd.int .i64) _ _ _ 1001 [.int .i64 1001] from rfl) (Reps.one (show Kd.M (Kd.int .i64) _ _ _ 30001 [.int .i64 30001] from rfl) (Reps.one (show Kd.M (Kd.int .i64) _ _ _ (-9223372036854775808) [.int .i64 (-9223372036854775808)] from rfl) (Reps.none _ _))))))))
           intro v198 w98 ho99 hb hg_ hnew_
           have HS1_ := (hb.cell (World.block_lt_of_cell? _ _ (hHeld.2))).trans (hHeld.2)
           clear hg_ hnew_
           (first | rw [← Ny197.out] at ho99 | (simp only [Int.reduceToNat] at ho99; rw [← Ny197.out] at ho99))
           have n0_ := Aside0.mk (Kd.S_elder' z92_ (Kd.R_base ho99) hb)
           have n1_ := Aside0.mk (Kd.R_elder' (rA HL193_0) (Kd.R_base ho99) hb)
           have n2_ := Aside0.mk (Kd.R_lower (Kd.R_new' (Kd.R_newM (M := fun k_ => (w.heap.size ≤ k_)) ho99 (keep_size (w := w) (g := g) (row := none) z43_) (fun k_ h_ => h_)) (Kd.R_lt (rA HL193_0))) (keep_size (w := w) (g := g) (row := none) z43_))
           have n3_ := Aside0.mk (kK BK144 hb)
           have n4_ := Aside0.mk (kK BK150 hb)
           have n5_ := Aside0.mk (IsS92.below z33_ hb)
           have n6_ := Aside0.mk (pw_cell_below hb HX193_0.out)
           have n7_ := Aside0.mk (KeepBut.trans z43_ (KeepBut.of_below hb g none) (.inl rfl))
           have n8_ := Aside0.mk (below_step z22_ hb)
           clear HO_151000; clear HL193_0; clear BK144; clear BK150; clear HI0; clear HX193_0; clear HK; clear HB
           have HO_151000 := n0_
           have HL193_0 := n1_
           have HO199 := n2_
           have BK144 := n3_
           have BK150 := n4_
           have HI0 := n5_
           have HX193_0 := n6_
           have HK := n7_
           have HB := n8_
           clear n0_ n1_ n2_ n3_ n4_ n5_ n6_ n7_ n8_
           clear hb ho99
           refine hK.out _ _ ⟨(blk_cell BK150.out 0).trans rfl, HS1_⟩ (fun hHeld => ?_)
           clear hK K
           refine norm_ (a' := ?_) ?_ ?_
           rotate_left
           ·
            show Act.put _ (some 129) _ = _
            simp only [AP]
            rfl
           exact norm_ (by simp only [putAll, Act.put, List.setIfInBounds_toArray, List.set_cons_zero, List.set_cons_succ]) (hCont (v198) _ ⟨hHeld, z56_, z58_, z92_, HX193_0.out, (bA BK144), (bA BK150), z33_, z43_, z22_⟩)
          ·
           skip
           refine Kd.R_lit_step (Kd.int .i64) _ 3 ?hg (N := 129) ?hd (xs := ([1000000, 1000001, (-1000001), 1001, 30001, (-9223372036854775808)] : List Int)) (inner := [.int .i64 1000000, .int .i64 1000001, .int .i64 (-1000001), .int .i64 1001, .int .i64 30001, .int .i64 (-9223372036854775808)]) (ok := fun _ => True) (okp := fun _ => True) ?hr ?hp (fun _ hk => hk) trivial (Below.refl _ _) (Nat.le_refl _) (by simp) ?_; (case hd => rfl); (case hg => rfl); (case hr => exact z116_); (case hp => exact (Reps.one (show Kd.M (Kd.int .i64) _ _ _ 1000000 [.int .i64 1000000] from rfl) (Reps.one (show Kd.M (Kd.int .i64) _ _ _ 1000001 [.int .i64 1000001] from rfl) (Reps.one (show Kd.M (Kd.int .i64) _ _ _ (-1000001) [.int .i64 (-1000001)] from rfl) (Reps.one (show Kd.M (Kd.int .i64) _ _ _ 1001 [.int .i64 1001] from rfl) (Reps.one (show Kd.M (Kd.int .i64) _ _ _ 30001 [.int .i64 30001] from rfl) (Reps.one (show Kd.M (Kd.int .i64) _ _ _ (-9223372036854775808) [.int .i64 (-9223372036854775808)] from rfl) (Reps.none _ _))))))))
           intro v198 w98 ho99 hb hg_ hnew_
           have HS1_ := (hb.cell (World.block_lt_of_cell? _ _ (hHeld.2))).trans (hHeld.2)
           clear hg_ hnew_
           (first | rw [← Ny197.out] at ho99 | (simp only [Int.reduceToNat] at ho99; rw [← Ny197.out] at ho99))
           have n0_ := Aside0.mk (Kd.S_elder' z92_ (Kd.R_base ho99) hb)
           have n1_ := Aside0.mk (Kd.R_elder' (rA HL193_0) (Kd.R_base ho99) hb)
           have n2_ := Aside0.mk (Kd.R_lower (Kd.R_new' (Kd.R_newM (M := fun k_ => (w.heap.size ≤ k_)) ho99 (keep_size (w := w) (g := g) (row := none) z43_) (fun k_ h_ => h_)) (Kd.R_lt (rA HL193_0))) (keep_size (w := w) (g := g) (row := none) z43_))
           have n3_ := Aside0.mk (kK BK144 hb)
           have n4_ := Aside0.mk (kK BK150 hb)
           have n5_ := Aside0.mk (IsS92.below z33_ hb)
           have n6_ := Aside0.mk (pw_cell_below hb HX193_0.out)
           have n7_ := Aside0.mk (KeepBut.trans z43_ (KeepBut.of_below hb g none) (.inl rfl))
           have n8_ := Aside0.mk (below_step z22_ hb)
           clear HO_151000; clear HL193_0; clear BK144; clear BK150; clear HI0; clear HX193_0; clear HK; clear HB
           have HO_151000 := n0_
           have HL193_0 := n1_
           have HO199 := n2_
           have BK144 := n3_
           have BK150 := n4_
           have HI0 := n5_
           have HX193_0 := n6_
           have HK := n7_
           have HB := n8_
           clear n0_ n1_ n2_ n3_ n4_ n5_ n6_ n7_ n8_
           clear hb ho99
           refine hK.out _ _ ⟨(blk_cell BK150.out 0).trans rfl, HS1_⟩ (fun hHeld => ?_)
           clear hK K
           refine norm_ (a' := ?_) ?_ ?_
           rotate_left
           ·
            show Act.put _ (some 129) _ = _
            simp only [AP]
            rfl
           refine one_ (i := 9) (N := some 127) (BM 15 4095) rfl rfl (one_of HT_.out (by kernel_rfl)) (by decide) (fun K hK => ?_)
           refine goes_ Try.func107 (by kernel_rfl) rfl #[.pointer (some ⟨g, 0, none⟩), .int .i64 (t147.length : Int)] (by rfl) rfl rfl (by (try simp only [List.map_toArray, List.map_cons, List.map_nil]); first | done | rfl | (simp only [List.length_drop, List.length_take]; rfl)) ?_
           with_reducible refine (spec_l1Cur_pick.calls g s0_0 t191 t192 (t147.length : Int) t194 t195 t196 w0 _ ?side1 ?side2 A88.out).mono ?_
           (case side1 => exact z33_)
           (case side2 => exact z22_)
           rintro e w99 ⟨rfl, hi, hb, hk⟩
           have HS1_ := keep_cell hk (hHeld.2) z11_
           refine ⟨_, rfl, ?_⟩
           have n0_ := Aside0.mk (Kd.S_mono (Kd.S_keep (IsS92.apartS (show IsS92 w0 _ g s0_0 t191 t192 from z33_) z92_ (by decide)) hk (fun _ h => h.2)) (fun _ h => h.1))
           have n1_ := Aside0.mk (KeepBut.blk hk (g' := gb144) (o := .cells #[.slice none 0 0] 26 (0, 0)) (bA BK144) NB144_0.out (by simp))
           have n2_ := Aside0.mk (KeepBut.blk hk (g' := gb150) (o := .cells #[.slice (some ad193) x151000_6.length co96] 26 (0, 0)) (bA BK150) NB150_0.out (by simp))
           have n3_ := Aside0.mk (Kd.R_mono (Kd.R_keep (IsS92.apart (show IsS92 w0 _ g s0_0 t191 t192 from z33_) (rA HL193_0) (by decide)) hk (fun _ h => h.2)) (fun _ h => h.1))
           have n4_ := Aside0.mk (keep_cell hk HX193_0.out z6_)
           have n5_ := Aside0.mk (Kd.R_mono (Kd.R_keep (IsS92.apart (show IsS92 w0 _ g s0_0 t191 t192 from z33_) (rA HO199) (by decide)) hk (fun _ h => h.2)) (fun _ h => h.1))
           have n6_ := Aside0.mk (KeepBut.trans z43_ hk (.inl rfl))
           have n7_ := Aside0.mk (hb)
           have n8_ := Aside0.mk (hi)
           clear HO_151000; clear BK144; clear BK150; clear HL193_0; clear HX193_0; clear HO199; clear HK; clear HB; clear HI0
           have HO_151000 := n0_
           have BK144 := n1_
           have BK150 := n2_
           have HL193_0 := n3_
           have HX193_0 := n4_
           have HO199 := n5_
           have HK := n6_
           have HB := n7_
           have HI0 := n8_
           clear n0_ n1_ n2_ n3_ n4_ n5_ n6_ n7_ n8_
           (try clear hb)
           (try clear hb2)
           (try clear hk)
           (try clear hi)
           refine hK.out _ _ ⟨(blk_cell BK150.out 0).trans rfl, HS1_⟩ (fun hHeld => ?_)
           clear hK K
           refine norm_ (a' := ?_) ?_ ?_
           rotate_left
           ·
            show Act.put _ (some 127) _ = _
            simp only [AP]
            rfl
           exact norm_ (by simp only [putAll, Act.put, List.setIfInBounds_toArray, List.set_cons_zero, List.set_cons_succ]) (hCont (v198) _ ⟨hHeld, z56_, z58_, z92_, HX193_0.out, (bA BK144), (bA BK150), z33_, z43_, z22_⟩)
         ·
          skip
          refine Kd.R_lit_step (Kd.int .i64) _ 3 ?hg (N := 129) ?hd (xs := ([1000000, 1000001, (-1000001), 1001, 30001, (-9223372036854775808)] : List Int)) (inner := [.int .i64 1000000, .int .i64 1000001, .int .i64 (-1000001), .int .i64 1001, .int .i64 30001, .int .i64 (-9223372036854775808)]) (ok := fun _ => True) (okp := fun _ => True) ?hr ?hp (fun _ hk => hk) trivial (Below.refl _ _) (Nat.le_refl _) (by simp) ?_; (case hd => rfl); (case hg => rfl); (case hr => exact z116_); (case hp => exact (Reps.one (show Kd.M (Kd.int .i64) _ _ _ 1000000 [.int .i64 1000000] from rfl) (Reps.one (show Kd.M (Kd.int .i64) _ _ _ 1000001 [.int .i64 1000001] from rfl) (Reps.one (show Kd.M (Kd.int .i64) _ _ _ (-1000001) [.int .i64 (-1000001)] from rfl) (Reps.one (show Kd.M (Kd.int .i64) _ _ _ 1001 [.int .i64 1001] from rfl) (Reps.one (show Kd.M (Kd.int .i64) _ _ _ 30001 [.int .i64 30001] from rfl) (Reps.one (show Kd.M (Kd.int .i64) _ _ _ (-9223372036854775808) [.int .i64 (-9223372036854775808)] from rfl) (Reps.none _ _))))))))
          intro v198 w97 ho98 hb hg_ hnew_
          have HS1_ := (hb.cell (World.block_lt_of_cell? _ _ (hHeld.2))).trans (hHeld.2)
          clear hg_ hnew_
          (first | rw [← Ny197.out] at ho98 | (simp only [Int.reduceToNat] at ho98; rw [← Ny197.out] at ho98))
          have n0_ := Aside0.mk (Kd.S_elder' z92_ (Kd.R_base ho98) hb)
          have n1_ := Aside0.mk (Kd.R_elder' (rA HL193_0) (Kd.R_base ho98) hb)
          have n2_ := Aside0.mk (Kd.R_lower (Kd.R_new' (Kd.R_newM (M := fun k_ => (w.heap.size ≤ k_)) ho98 (keep_size (w := w) (g := g) (row := none) z43_) (fun k_ h_ => h_)) (Kd.R_lt (rA HL193_0))) (keep_size (w := w) (g := g) (row := none) z43_))
          have n3_ := Aside0.mk (kK BK144 hb)
          have n4_ := Aside0.mk (kK BK150 hb)
          have n5_ := Aside0.mk (IsS92.below z33_ hb)
          have n6_ := Aside0.mk ((by with_reducible first | exact Kd.C_below HR193_0.out hb | exact Kd.C_below (Kd.C_drewN HR193_0.out _) hb | exact Kd.C_below (Kd.C_alloc HR193_0.out _) hb | exact Kd.C_below (Kd.C_drewN (Kd.C_drewN HR193_0.out _) _) hb))
          have n7_ := Aside0.mk (pw_cell_below hb HX193_0.out)
          have n8_ := Aside0.mk (KeepBut.trans z43_ (KeepBut.of_below hb g none) (.inl rfl))
          have n9_ := Aside0.mk (below_step z22_ hb)
          clear HO_151000; clear HL193_0; clear BK144; clear BK150; clear HI0; clear HR193_0; clear HX193_0; clear HK; clear HB
          have HO_151000 := n0_
          have HL193_0 := n1_
          have HO199 := n2_
          have BK144 := n3_
          have BK150 := n4_
          have HI0 := n5_
          have HR193_0 := n6_
          have HX193_0 := n7_
          have HK := n8_
          have HB := n9_
          clear n0_ n1_ n2_ n3_ n4_ n5_ n6_ n7_ n8_ n9_
          clear hb ho98
          refine hK.out _ _ ⟨(blk_cell BK150.out 0).trans rfl, HS1_⟩ (fun hHeld => ?_)
          clear hK K
          refine norm_ (a' := ?_) ?_ ?_
          rotate_left
          ·
           show Act.put _ (some 129) _ = _
           simp only [AP]
           rfl
          refine one_ (i := 4) (N := some 122) (BM 15 3487) rfl rfl (one_of HT_.out (by kernel_rfl)) (by decide) (fun K hK => ?_)
          refine goes_ Try.func107 (by kernel_rfl) rfl #[.pointer (some ⟨g, 0, none⟩), .int .i64 (t147.length : Int)] (by rfl) rfl rfl (by (try simp only [List.map_toArray, List.map_cons, List.map_nil]); first | done | rfl | (simp only [List.length_drop, List.length_take]; rfl)) ?_
          with_reducible refine (spec_l1Cur_pick.calls g s0_0 t188 t189 (t147.length : Int) t190 t191 t192 w0 _ ?side1 ?side2 A85.out).mono ?_
          (case side1 => exact z33_)
          (case side2 => exact z22_)
          rintro e w99 ⟨rfl, hi, hb, hk⟩
          have HS1_ := keep_cell hk (hHeld.2) z11_
          refine ⟨_, rfl, ?_⟩
          have n0_ := Aside0.mk (Kd.S_mono (Kd.S_keep (IsS92.apartS (show IsS92 w0 _ g s0_0 t188 t189 from z33_) z92_ (by decide)) hk (fun _ h => h.2)) (fun _ h => h.1))
          have n1_ := Aside0.mk (KeepBut.blk hk (g' := gb144) (o := .cells #[.slice none 0 0] 26 (0, 0)) (bA BK144) NB144_0.out (by simp))
          have n2_ := Aside0.mk (KeepBut.blk hk (g' := gb150) (o := .cells #[.slice (some ad193) x151000_6.length co96] 26 (0, 0)) (bA BK150) NB150_0.out (by simp))
          have n3_ := Aside0.mk (Kd.R_mono (Kd.R_keep (IsS92.apart (show IsS92 w0 _ g s0_0 t188 t189 from z33_) (rA HL193_0) (by decide)) hk (fun _ h => h.2)) (fun _ h => h.1))
          have n4_ := Aside0.mk (keep_cell hk HX193_0.out z6_)
          have n5_ := Aside0.mk (Kd.R_mono (Kd.R_keep (IsS92.apart (show IsS92 w0 _ g s0_0 t188 t189 from z33_) (rA HO199) (by decide)) hk (fun _ h => h.2)) (fun _ h => h.1))
          have n6_ := Aside0.mk (KeepBut.trans z43_ hk (.inl rfl))
          have n7_ := Aside0.mk (hb)
          have n8_ := Aside0.mk (hi)
          clear HO_151000; clear BK144; clear BK150; clear HL193_0; clear HX193_0; clear HO199; clear HK; clear HB; clear HI0
          have HO_151000 := n0_
          have BK144 := n1_
          have BK150 := n2_
          have HL193_0 := n3_
          have HX193_0 := n4_
          have HO199 := n5_
          have HK := n6_
          have HB := n7_
          have HI0 := n8_
          clear n0_ n1_ n2_ n3_ n4_ n5_ n6_ n7_ n8_
          (try clear hb)
          (try clear hb2)
          (try clear hk)
          (try clear hi)
          refine hK.out _ _ ⟨(blk_cell BK150.out 0).trans rfl, HS1_⟩ (fun hHeld => ?_)
          clear hK K
          refine norm_ (a' := ?_) ?_ ?_
          rotate_left
          ·
           show Act.put _ (some 122) _ = _
           simp only [AP]
           rfl
          refine pS 5 123 (BM 15 3519) ?_
          refine take_ (i := 6) (N := some 124) (v := ?_) (a' := ?_) (BM 15 3583) rfl rfl (take_ofW HT_.out HW_.out (by kernel_rfl)) (fun _ _ _ h => h) (Or.inl ⟨by rfl, ?_⟩) hHeld ?_ ?_
          rotate_left
          ·
           rintro w' ⟨s0, s1⟩
           go_simp
           with_reducible rfl
          rotate_left
          ·
           simp only [AP]
           rfl
          refine one_ (i := 9) (N := some 127) (BM 15 4095) rfl rfl (one_of HT_.out (by kernel_rfl)) (by decide) (fun K hK => ?_)
          refine goes_ Try.func107 (by kernel_rfl) rfl #[.pointer (some ⟨g, 0, none⟩), .int .i64 (t147.length : Int)] (by rfl) rfl rfl (by (try simp only [List.map_toArray, List.map_cons, List.map_nil]); first | done | rfl | (simp only [List.length_drop, List.length_take]; rfl)) ?_
          with_reducible refine (spec_l1Cur_pick.calls g s0_0 t191 t192 (t147.length : Int) t194 t195 t196 w0 _ ?side1 ?side2 A88.out).mono ?_
          (case side1 => exact z33_)
          (case side2 => exact z22_)
          rintro e w99 ⟨rfl, hi, hb, hk⟩
          have HS1_ := keep_cell hk (hHeld.2) z11_
          refine ⟨_, rfl, ?_⟩
          have n0_ := Aside0.mk (Kd.S_mono (Kd.S_keep (IsS92.apartS (show IsS92 w0 _ g s0_0 t191 t192 from z33_) z92_ (by decide)) hk (fun _ h => h.2)) (fun _ h => h.1))
          have n1_ := Aside0.mk (KeepBut.blk hk (g' := gb144) (o := .cells #[.slice none 0 0] 26 (0, 0)) (bA BK144) NB144_0.out (by simp))
          have n2_ := Aside0.mk (KeepBut.blk hk (g' := gb150) (o := .cells #[.slice (some ad193) x151000_6.length co96] 26 (0, 0)) (bA BK150) NB150_0.out (by simp))
          have n3_ := Aside0.mk (Kd.R_mono (Kd.R_keep (IsS92.apart (show IsS92 w0 _ g s0_0 t191 t192 from z33_) (rA HL193_0) (by decide)) hk (fun _ h => h.2)) (fun _ h => h.1))
          have n4_ := Aside0.mk (keep_cell hk HX193_0.out z6_)
          have n5_ := Aside0.mk (Kd.R_mono (Kd.R_keep (IsS92.apart (show IsS92 w0 _ g s0_0 t191 t192 from z33_) (rA HO199) (by decide)) hk (fun _ h => h.2)) (fun _ h => h.1))
          have n6_ := Aside0.mk (KeepBut.trans z43_ hk (.inl rfl))
          have n7_ := Aside0.mk (hb)
          have n8_ := Aside0.mk (hi)
          clear HO_151000; clear BK144; clear BK150; clear HL193_0; clear HX193_0; clear HO199; clear HK; clear HB; clear HI0
          have HO_151000 := n0_
          have BK144 := n1_
          have BK150 := n2_
          have HL193_0 := n3_
          have HX193_0 := n4_
          have HO199 := n5_
          have HK := n6_
          have HB := n7_
          have HI0 := n8_
          clear n0_ n1_ n2_ n3_ n4_ n5_ n6_ n7_ n8_
          (try clear hb)
          (try clear hb2)
          (try clear hk)
          (try clear hi)
          refine hK.out _ _ ⟨(blk_cell BK150.out 0).trans rfl, HS1_⟩ (fun hHeld => ?_)
          clear hK K
          refine norm_ (a' := ?_) ?_ ?_
          rotate_left
          ·
           show Act.put _ (some 127) _ = _
           simp only [AP]
           rfl
          exact norm_ (by simp only [putAll, Act.put, List.setIfInBounds_toArray, List.set_cons_zero, List.set_cons_succ]) (hCont (v198) _ ⟨hHeld, z56_, z58_, z92_, HX193_0.out, (bA BK144), (bA BK150), z33_, z43_, z22_⟩)
        rintro v198 w100 ⟨hS_, h0_, h1_, h2_, h3_, h4_, h5_, h6_, h7_, h8_⟩
        have n0_ : Aside0 (Kd.R (Kd.int .i64) 3 w100 w.heap.size (fun k_ => (w.heap.size ≤ k_) ∧ some k_ ≠ (v198 : Value).ownBlock ∧ some k_ ≠ (.slice (some ad193) x151000_6.length co96 : Value).ownBlock) (.slice A193_0 (rd_L2 x151000_6 t190).length c193_0) (rd_L2 x151000_6 t190)) := ⟨h0_⟩
        have n1_ : Aside0 (Kd.R (Kd.int .i64) 3 w100 w.heap.size (fun k_ => (w.heap.size ≤ k_) ∧ some k_ ≠ (.slice A193_0 (rd_L2 x151000_6 t190).length c193_0 : Value).ownBlock) v198 y197) := ⟨h1_⟩
        have n2_ : Aside0 (Kd.S (Kd.slice 3 (Kd.int .i64)) 34 w100 w.heap.size (fun k_ => (w.heap.size ≤ k_) ∧ some k_ ≠ (v198 : Value).ownBlock) (.slice (some ad193) x151000_6.length co96) x151000_6) := ⟨h2_⟩
        have n3_ : Aside0 (w100.cell? (ad193.add (t190).toNat) = some (.slice A193_0 (rd_L2 x151000_6 t190).length c193_0)) := ⟨h3_⟩
        have n4_ : Aside0 (w100.heap[gb144]? = some (.cells #[.slice none 0 0] 26 (0, 0))) := ⟨h4_⟩
        have n5_ : Aside0 (w100.heap[gb150]? = some (.cells #[.slice (some ad193) x151000_6.length co96] 26 (0, 0))) := ⟨h5_⟩
        have n6_ : Aside0 (IsS92 w0 w100 g s0_0 t195 t196) := ⟨h6_⟩
        have n7_ : Aside0 (KeepBut w w100 g none) := ⟨h7_⟩
        have n8_ : Aside0 (Below w0.heap.size w0 w100) := ⟨h8_⟩
        clear HO_151000; clear BK144; clear BK150; clear HI0; clear HK; clear HB
        clear h0_ h1_ h2_ h3_ h4_ h5_ h6_ h7_ h8_
        have HL193_0 := n0_
        have HO199 := n1_
        have HO_151000 := n2_
        have HX193_0 := n3_
        have BK144 := n4_
        have BK150 := n5_
        have HI0 := n6_
        have HK := n7_
        have HB := n8_
        clear n0_ n1_ n2_ n3_ n4_ n5_ n6_ n7_ n8_
        have hHeld : w100.cell? ⟨gb150, 0, none⟩ = some (.slice (some ad193) x151000_6.length co96) ∧ w100.cell? (ad193.add (t190).toNat) = some (.slice A193_0 (rd_L2 x151000_6 t190).length c193_0) := hS_
        obtain ⟨Ao101, co101, eo101⟩ := Kd.R_slice HO199.out
        (first | subst eo101 | (injection eo101 with f1_ f2_ f3_; have f4_ := f1_.symm; have f5_ := f3_.symm; clear f1_ f2_ f3_; subst f4_; subst f5_))
        refine norm_ (a' := ?_) ?_ ?_
        rotate_left
        ·
         simp only [putAll, Act.put, List.setIfInBounds_toArray, List.set_cons_zero, List.set_cons_succ]
         rfl
        refine one_ (i := 12) (N := some 130) (BM 15 8191) rfl rfl (one_of HT_.out (by kernel_rfl)) (by decide) (fun K hK => ?_)
        refine goes_ Try.func99 (by kernel_rfl) rfl #[.pointer (some ⟨g, 0, none⟩), .slice Ao101 y197.length co101] (by rfl) rfl rfl (by (try simp only [List.map_toArray, List.map_cons, List.map_nil]); first | done | rfl | (simp only [List.length_drop, List.length_take]; rfl)) ?_
        with_reducible refine (spec_l1Cur_among.calls g s0_0 t195 t196 _ _ y197 t200 t201 t202 w0 _ ?side1 ?side2 ?side3 ?side4 ?side5 A89.out).mono ?_
        (case side1 => exact z33_)
        (case side2 => exact z22_)
        (case side3 => exact cC (Kd.R_reads' HO199.out).2.2)
        (case side4 => exact (Kd.R_reads' HO199.out).2.1)
        (case side5 => exact far_slice (IsS92.own_ne HI0.out HO199.out (by decide)))
        rintro e w102 ⟨rfl, hi, hb, hk⟩
        have HS1_ := keep_cell hk (hHeld.2) z11_
        refine ⟨_, rfl, ?_⟩
        have n0_ := Aside0.mk (Kd.S_mono (Kd.S_keep (IsS92.apartS (show IsS92 w0 _ g s0_0 t195 t196 from z33_) z92_ (by decide)) hk (fun _ h => h.2)) (fun _ h => h.1))
        have n1_ := Aside0.mk (KeepBut.blk hk (g' := gb144) (o := .cells #[.slice none 0 0] 26 (0, 0)) (bA BK144) NB144_0.out (by simp))
        have n2_ := Aside0.mk (KeepBut.blk hk (g' := gb150) (o := .cells #[.slice (some ad193) x151000_6.length co96] 26 (0, 0)) (bA BK150) NB150_0.out (by simp))
        have n3_ := Aside0.mk (Kd.R_mono (Kd.R_keep (IsS92.apart (show IsS92 w0 _ g s0_0 t195 t196 from z33_) (rA HL193_0) (by decide)) hk (fun _ h => h.2)) (fun _ h => h.1))
        have n4_ := Aside0.mk (keep_cell hk HX193_0.out z6_)
        have n5_ := Aside0.mk (Kd.R_mono (Kd.R_keep (IsS92.apart (show IsS92 w0 _ g s0_0 t195 t196 from z33_) (rA HO199) (by decide)) hk (fun _ h => h.2)) (fun _ h => h.1))
        have n6_ := Aside0.mk (KeepBut.trans z43_ hk (.inl rfl))
        have n7_ := Aside0.mk (hb)
        have n8_ := Aside0.mk (hi)
        clear HO_151000; clear BK144; clear BK150; clear HL193_0; clear HX193_0; clear HO199; clear HK; clear HB; clear HI0
        have HO_151000 := n0_
        have BK144 := n1_
        have BK150 := n2_
        have HL193_0 := n3_
        have HX193_0 := n4_
        have HO199 := n5_
        have HK := n6_
        have HB := n7_
        have HI0 := n8_
        clear n0_ n1_ n2_ n3_ n4_ n5_ n6_ n7_ n8_
        (try clear hb)
        (try clear hb2)
        (try clear hk)
        (try clear hi)
        have p92 : 0 ≤ (t194 : Int) := od
        have q92 : (t194 : Int) < (((rd_L2 x151000_6 t190).length : Int) : Int) := od
        obtain ⟨go92, co92, eo92, gb92, gl92, cl92, HG92⟩ := Kd.R_form HL193_0.out (by omega)
        (first | cases eo92 | (injection eo92 with ea_ en_ ec_; (first | subst ea_ | (injection ea_ with ea_; subst ea_)); subst ec_; clear en_))
        have GB92 := Aside0.mk gb92
        have GG92 := Aside0.mk HG92
        clear gb92 gl92 HG92
        obtain ⟨hx92_0, hf92_0⟩ := Kd.R_celln 0 HL193_0.out (t194 : Int) p92 q92
        replace p92 := eq_true p92
        replace q92 := eq_true q92
        have hq103 : (t190 : Int) < (x151000_6.length : Int) := (by have h_ : (t190 : Int) < ((x151000_6.length : Int) : Int) := od; first | exact h_ | (have e_ := (Kd.S_reads' HO_151000.out).1; omega) | simpa only [List.length_set, List.length_set] using h_)
        obtain ⟨oki103, ce103, hcl103, hM103, hcc103, hok103, hbk103⟩ := Kd.S_borrow HO_151000.out [] (t190 : Int) (od) hq103
        obtain ⟨ve103_0, rfl, ge103_0⟩ := hM103
        have hv103 := hcc103 0 _ rfl
        rw [Nat.add_zero, show ((Kd.slice 3 (Kd.int .i64))).sz = 1 from rfl, Nat.mul_one] at hv103
        replace hv103 := Option.some.inj (hv103.symm.trans HX193_0.out)
        subst hv103
        clear hcc103 hcl103
        replace ge103_0 := (show Kd.R (Kd.int .i64) 3 _ _ _ _ (rd_L2 x151000_6 t190) from ge103_0)
        have HP103 := Kd.R_putg ge103_0 (t194 : Int) t200
        have HN0_go92 := Aside0.mk (show g ≠ go92 from by have h_ := IsS92.own_ne HI0.out HL193_0.out (by decide); intro e_; exact h_ (by rw [e_]; rfl))
        rw [← Ny203.out] at HP103
        have HS103 := hbk103 HP103.2 (fun k_ e_ => by injection e_ with e_; subst e_; exact ge103_0.1 _ rfl) (x' := y203) (Kd.M_row HP103.1)
        rw [← Ny205.out] at HS103
        have HQ103 := Aside0.mk HS103
        clear HP103 HS103 hbk103 hok103
        refine hK.out _ _ ⟨(blk_cell BK150.out 0).trans rfl, HS1_⟩ (fun hHeld => ?_)
        clear hK K
        refine norm_ (a' := ?_) ?_ ?_
        rotate_left
        ·
         show Act.put _ (some 130) _ = _
         simp only [AP]
         rfl
        refine pS 13 131 (BM 15 16383) ?_
        refine last_ (i := 14) (N := none) (BM 15 32767) rfl rfl (one_of HT_.out (by kernel_rfl)) (by decide) (fun K hK => ?_)
        refine skip_ (w1 := ?_) (by rfl) rfl ?_ ?_
        rotate_left
        ·
         go_simp
         rfl
        refine hK.out _ _ ?_
        clear hK K
        refine done_ (done_of HT_.out (by kernel_rfl)) ?_
        have n0_ : Aside0 (Kd.S (Kd.slice 3 (Kd.int .i64)) 34 (w102.setCell ⟨go92, (t194 : Int).toNat, none⟩ (.int .i64 t200)) w.heap.size (fun k_ => (w.heap.size ≤ k_) ∧ some k_ ≠ (.slice Ao101 y197.length co101 : Value).ownBlock) (.slice (some ad193) x151000_6.length co96) y205) := ⟨by (with_reducible repeat (first | apply Kd.S_alloc | apply Kd.S_drewN | apply Kd.S_drew)); exact HQ103.out⟩
        have n1_ : Aside0 (Kd.R (Kd.int .i64) 3 (w102.setCell ⟨go92, (t194 : Int).toNat, none⟩ (.int .i64 t200)) w.heap.size (fun k_ => (w.heap.size ≤ k_)) (.slice Ao101 y197.length co101) y197) := ⟨by (with_reducible repeat (first | apply Kd.R_alloc | apply Kd.R_drewN | apply Kd.R_drew)); exact Kd.R_mono (Kd.R_far (p := ⟨go92, (t194 : Int).toNat, none⟩) (Kd.R_far1 HO199.out rfl ((HL193_0.out.1 _ rfl).2.1)) (fun _ hk => hk.2) (.int .i64 t200)) (fun _ hk => hk.1.1)⟩
        have n2_ : Aside0 ((w102.setCell ⟨go92, (t194 : Int).toNat, none⟩ (.int .i64 t200)).heap[gb144]? = some (.cells #[.slice none 0 0] 26 (0, 0))) := ⟨by (with_reducible repeat (first | refine blk_drewN ?_ _ | refine blk_drew ?_ | refine blk_alloc ?_ _)); refine blk_far ?_ (by have h_ := Kd.R_ne HL193_0.out BK144.out (by decide); intro e_; exact h_ (by rw [e_]; rfl)) _; (with_reducible repeat (first | refine blk_drewN ?_ _ | refine blk_drew ?_ | refine blk_alloc ?_ _)); exact BK144.out⟩
        have n3_ : Aside0 ((w102.setCell ⟨go92, (t194 : Int).toNat, none⟩ (.int .i64 t200)).heap[gb150]? = some (.cells #[.slice (some ad193) x151000_6.length co96] 26 (0, 0))) := ⟨by (with_reducible repeat (first | refine blk_drewN ?_ _ | refine blk_drew ?_ | refine blk_alloc ?_ _)); refine blk_far ?_ (by have h_ := Kd.R_ne HL193_0.out BK150.out (by decide); intro e_; exact h_ (by rw [e_]; rfl)) _; (with_reducible repeat (first | refine blk_drewN ?_ _ | refine blk_drew ?_ | refine blk_alloc ?_ _)); exact BK150.out⟩
        have n4_ : Aside0 (IsS92 w0 (w102.setCell ⟨go92, (t194 : Int).toNat, none⟩ (.int .i64 t200)) g s0_0 t201 t202) := ⟨by repeat (first | (with_reducible first | exact HI0.out | apply IsS92.alloc | apply IsS92.drewN | apply IsS92.drew | apply IsS92.set_1 | apply IsS92.set_2 | refine IsS92.far ?_ HN0_go92.out _ | refine IsS92.far ?_ NB0_144.out _ | refine IsS92.far ?_ NB0_150.out _) | exact HI0.out)⟩
        have n5_ : Aside0 (KeepBut w (w102.setCell ⟨go92, (t194 : Int).toNat, none⟩ (.int .i64 t200)) g none) := ⟨by repeat (first | (with_reducible first | exact HK.out | apply KeepBut.set_ | apply keep_drewN | apply keep_drew | apply keep_alloc | refine keep_far ?_ GB92.out _ | refine keep_far ?_ GW144.out _ | refine keep_far ?_ GW150.out _) | exact HK.out)⟩
        have n6_ : Aside0 (Below w0.heap.size w0 (w102.setCell ⟨go92, (t194 : Int).toNat, none⟩ (.int .i64 t200))) := ⟨by repeat (first | (with_reducible first | exact HB.out | apply below_alloc | apply pw_below_drewN | apply below_drew1 | refine below_set ?_ (Nat.le_trans HL.out GB92.out) | refine below_set ?_ (IsS92.ge HI0.out) | refine below_set ?_ GE144.out | refine below_set ?_ GE150.out) | exact HB.out | exact Below.refl _ _)⟩
        (try clear HO_151000)
        (try clear HO199)
        (try clear BK144)
        (try clear BK150)
        (try clear HI0)
        (try clear HK)
        (try clear HB)
        generalize (w102.setCell ⟨go92, (t194 : Int).toNat, none⟩ (.int .i64 t200)) = w105 at n0_ n1_ n2_ n3_ n4_ n5_ n6_ ⊢
        have HO_151000 := n0_
        have HO199 := n1_
        have BK144 := n2_
        have BK150 := n3_
        have HI0 := n4_
        have HK := n5_
        have HB := n6_
        clear n0_ n1_ n2_ n3_ n4_ n5_ n6_
        have hnb106 := NB150_144.out
        have hnc106 := NB144_150.out
        have hnb107 := NB150_0.out
        have hnc107 := NB0_150.out
        have hcz108_0 : w105.cell? ⟨gb150, 0, none⟩ = some (.slice (some ad193) x151000_6.length co96) := (blk_cell BK150.out 0).trans rfl
        have hfz108_0 := blk_frozen BK150.out 0
        have hnb109 := NB144_0.out
        have hnc109 := NB0_144.out
        have hcz110_0 : w105.cell? ⟨gb144, 0, none⟩ = some (.slice none 0 0) := (blk_cell BK144.out 0).trans rfl
        have hfz110_0 := blk_frozen BK144.out 0
        try go_wp2
        refine bodyPost_ret (results_cell_row rfl _ _ gb144 26 #[.slice (some ad193) x151000_6.length co96] (0, 0) _ rfl z15_ Try.underlying26 rfl (by kernel_rfl)) rfl ?_
        exact ⟨_, e1, Kd.S_V (by (with_reducible repeat (first | apply Kd.S_alloc | apply Kd.S_drewN | apply Kd.S_drew)); exact Kd.S_mono (Kd.S_far (p := ⟨gb144, 0, none⟩) (Kd.S_types HO_151000.out BK144.out (by decide)) (fun _ hk => hk.2) (.slice (some ad193) x151000_6.length co96)) (fun _ hk => hk.1.1)), z33_, z22_, z43_⟩
       ·
        rw [if_neg c91] at H
        exact absurd H (by simp)
      ·
       rw [if_neg c90] at H
       exact absurd H (by simp)
     ·
      rw [if_neg c87] at H
      exact absurd H (by simp)
    ·
     rw [if_neg c86] at H
     exact absurd H (by simp)
   ·
    rw [if_neg c84] at H
    have c84b0 : (t187 == 0) = false := beq_eq_false_iff_ne.mpr c84
    have c84b1 : (t187 != 0) = true := bne_iff_ne.mpr c84
    by_cases c111 : t187 = 1
    ·
     rw [if_pos c111] at H
     have c111b0 : (t187 == 1) = true := beq_iff_eq.mpr c111
     have c111b1 : (t187 != 1) = false := bne_eq_false_iff_eq.mpr c111
     clear c111
     by_cases c112 : 0 ≤ (t147.length : Int)
     ·
      rw [if_pos c112] at H
      have c112b0 := eq_true c112
      have c112b1 : decide (0 ≤ (t147.length : Int)) = true := decide_eq_true c112
      clear c112
      by_cases c113 : ((t147.length : Int) : Int).toNat ≤ 35184372088832
      ·
       rw [if_pos c113] at H
       have c113b0 := eq_true c113
       have c113b1 : decide (((t147.length : Int) : Int).toNat ≤ 35184372088832) = true := decide_eq_true c113
       clear c113
       obtain ⟨y206, hy206⟩ : ∃ y_ : List Int, y_ = (List.replicate ((t147.length : Int) : Int).toNat 0) := ⟨_, rfl⟩
       replace H : (if x151000_6.length < 5864062014805 then (some ((x151000_6 ++ [y206]), t188, t189)) else (none)) = some (r1, r2, r3) := by first | (rw [hy206]; with_reducible exact H) | (have H2_ := (Option.bind_some _ _).symm.trans H; rw [hy206]; with_reducible exact H2_) | (have H2_ := (Option.bind_some _ _).symm.trans H; with_reducible exact H2_) | with_reducible exact H | (rw [hy206]; exact H) | exact H
       have Ny206 := Aside0.mk hy206
       clear hy206
       by_cases c114 : x151000_6.length < 5864062014805
       ·
        rw [if_pos c114] at H
        have LMc114 := Aside0.mk c114
        clear c114
        obtain ⟨y209, hy209⟩ : ∃ y_ : List (List Int), y_ = (x151000_6 ++ [y206]) := ⟨_, rfl⟩
        replace H : (some (y209, t188, t189)) = some (r1, r2, r3) := by first | (rw [hy209]; with_reducible exact H) | (have H2_ := (Option.bind_some _ _).symm.trans H; rw [hy209]; with_reducible exact H2_) | (have H2_ := (Option.bind_some _ _).symm.trans H; with_reducible exact H2_) | with_reducible exact H | (rw [hy209]; exact H) | exact H
        have Ny209 := Aside0.mk hy209
        clear hy209
        simp only [Option.some.injEq, Prod.mk.injEq] at H
        obtain ⟨rfl, rfl, rfl⟩ := H
        try go_wp2_with (first | ((with_reducible refine gate_callee (f := 107) rfl ?_); refine gL (some 115) rfl rfl Try.func107 (by kernel_rfl) rfl #[.pointer (some ⟨g, 0, none⟩), .int .i64 20] rfl ?_; (with_reducible refine (spec_l1Cur_pick.calls g s0_0 x1001_6 x1002_6 20 t187 t188 t189 w0 _ ?side1 ?side2 A83.out).mono ?_); (case side1 => exact z33_); (case side2 => exact z22_); rintro e w115 ⟨rfl, hi, hb, hk⟩; refine ⟨_, rfl, ?_⟩; have n0_ := Aside0.mk (Kd.S_mono (Kd.S_keep (IsS92.apartS (show IsS92 w0 _ g s0_0 x1001_6 x1002_6 from z33_) z92_ (by decide)) hk (fun _ h => h.2)) (fun _ h => h.1)); have n1_ := Aside0.mk (KeepBut.blk hk (g' := gb144) (o := .cells #[.slice none 0 0] 26 (0, 0)) (bA BK144) NB144_0.out (by simp)); have n2_ := Aside0.mk (KeepBut.blk hk (g' := gb150) (o := .cells #[u151000] 26 (0, 0)) (bA BK150) NB150_0.out (by simp)); have n3_ := Aside0.mk (KeepBut.trans z43_ hk (.inl rfl)); have n4_ := Aside0.mk (hb); have n5_ := Aside0.mk (hi); clear HO_151000; clear BK144; clear BK150; clear HK; clear HB; clear HI0; have HO_151000 := n0_; have BK144 := n1_; have BK150 := n2_; have HK := n3_; have HB := n4_; have HI0 := n5_; clear n0_ n1_ n2_ n3_ n4_ n5_; (try clear hb); (try clear hb2); (try clear hk); (try clear hi)))
        have n0_ := Aside0.mk (Kd.S_drew HO_151000.out)
        have n1_ := Aside0.mk (blk_drew BK144.out)
        have n2_ := Aside0.mk (blk_drew BK150.out)
        have n3_ := Aside0.mk (IsS92.drew HI0.out)
        have n4_ := Aside0.mk (keep_drew HK.out)
        have n5_ := Aside0.mk (below_drew1 HB.out)
        clear HO_151000; clear BK144; clear BK150; clear HI0; clear HK; clear HB
        have HO_151000 := n0_
        have BK144 := n1_
        have BK150 := n2_
        have HI0 := n3_
        have HK := n4_
        have HB := n5_
        clear n0_ n1_ n2_ n3_ n4_ n5_
        refine start_ (n := 8) (S := fun w' => w'.cell? ⟨gb150, 0, none⟩ = some (u151000)) (ds := [7]) #[O,O,O,O,O,O,O,O] (by kernel_rfl) rfl rfl ((blk_cell BK150.out 0).trans rfl) (fun hHeld => ?_); refine with_tabW spec_l1Cur_matrix.tab35 spec_l1Cur_matrix.bits35 (fun HT_ HW_ => ?_)
        generalize w115.drew = w116 at HO_151000 BK144 BK150 HI0 HK HB hHeld ⊢
        refine pS 0 134 (BM 8 1) ?_
        refine pS 2 136 (BM 8 5) ?_
        refine take_ (i := 1) (N := some 135) (v := ?_) (a' := ?_) (BM 8 7) rfl rfl (take_ofW HT_.out HW_.out (by kernel_rfl)) (fun _ _ _ h => h) (Or.inl ⟨by rfl, ?_⟩) hHeld ?_ ?_
        rotate_left
        ·
         intro w' s0
         go_simp
         with_reducible rfl
        rotate_left
        ·
         simp only [AP]
         rfl
        refine one_ (i := 3) (N := some 137) (BM 8 15) rfl rfl (one_of HT_.out (by kernel_rfl)) (by decide) (fun K hK => ?_)
        refine Kd.R_make_step (Kd.int .i64) _ 3 (by rfl) (N := 137) rfl 34 _ _ rfl (t147.length : Int) rfl rfl Try.underlying34 (.int .i64 0) 8 info3 rfl (by decide) (by omega) 0 (ok := fun _ => True) (okp := fun _ => True) rfl (fun _ hk => hk) trivial (od) (Nat.le_trans (Nat.mul_le_mul_right _ (od : (t147.length : Int).toNat ≤ 35184372088832)) (by omega)) (Below.refl _ _) (Nat.le_refl _) ?_
        intro v207 w117 ho118 hb hg_ hnew_
        clear hg_ hnew_
        (first | rw [← Ny206.out] at ho118 | (simp only [Int.reduceToNat] at ho118; rw [← Ny206.out] at ho118))
        have n0_ := Aside0.mk (Kd.S_elder' z92_ (Kd.R_base ho118) hb)
        have n1_ := Aside0.mk (Kd.R_lower (Kd.R_newM (M := fun k_ => (w.heap.size ≤ k_)) ho118 (keep_size (w := w) (g := g) (row := none) z43_) (fun k_ h_ => h_)) (keep_size (w := w) (g := g) (row := none) z43_))
        have n2_ := Aside0.mk (kK BK144 hb)
        have n3_ := Aside0.mk (kK BK150 hb)
        have n4_ := Aside0.mk (IsS92.below z33_ hb)
        have n5_ := Aside0.mk (KeepBut.trans z43_ (KeepBut.of_below hb g none) (.inl rfl))
        have n6_ := Aside0.mk (below_step z22_ hb)
        clear HO_151000; clear BK144; clear BK150; clear HI0; clear HK; clear HB
        have HO_151000 := n0_
        have HO208 := n1_
        have BK144 := n2_
        have BK150 := n3_
        have HI0 := n4_
        have HK := n5_
        have HB := n6_
        clear n0_ n1_ n2_ n3_ n4_ n5_ n6_
        clear hb ho118
        obtain ⟨Ao120, co120, eo120⟩ := Kd.R_slice HO208.out
        (first | subst eo120 | (injection eo120 with f1_ f2_ f3_; have f4_ := f1_.symm; have f5_ := f3_.symm; clear f1_ f2_ f3_; subst f4_; subst f5_))
        refine hK.out _ _ ((blk_cell BK150.out 0).trans rfl) (fun hHeld => ?_)
        clear hK K
        refine norm_ (a' := ?_) ?_ ?_
        rotate_left
        ·
         show Act.put _ (some 137) _ = _
         simp only [AP]
         rfl
        refine one_ (i := 4) (N := some 138) (BM 8 31) rfl rfl (one_of HT_.out (by kernel_rfl)) (by decide) (fun K hK => ?_)
        refine value_ (w1 := ?_) (v := ?_) (by rfl) rfl ?_ ?_
        rotate_left 2
        ·
         go_simp
         constructor
         ·
          rfl
         ·
          rfl
        refine hK.out _ _ ((blk_cell (blk_alloc BK150.out _) 0).trans rfl) (fun hHeld => ?_)
        clear hK K
        refine norm_ (a' := ?_) ?_ ?_
        rotate_left
        ·
         show Act.put _ (some 138) _ = _
         simp only [AP]
         rfl
        refine one_ (i := 5) (N := some 139) (BM 8 63) rfl rfl (one_of HT_.out (by kernel_rfl)) (by decide) (fun K hK => ?_)
        refine Kd.S_append_step (Kd.slice 3 (Kd.int .i64)) w.heap.size (by rfl) (.tmp 135) (.tmp 138) 22 34 (.slice none 0 0) 24 rfl Try.underlying22 info34 rfl (by decide) (by omega) u151000 x151000_6 y206 [.slice Ao120 y206.length co120] (fun k_ => (w.heap.size ≤ k_)) (fun k_ => some k_ = (.slice Ao120 y206.length co120 : Value).ownBlock) rfl rfl ?aP (fun k_ hk_ => ((Kd.R_mono (ok' := fun k_ => ((fun k_ => (w.heap.size ≤ k_))) k_ ∧ some k_ ≠ (u151000 : Value).ownBlock) (Kd.R_apart' (HO208.out) (Kd.S_typed HO_151000.out) (by decide)) (fun k_ hk => ⟨hk.1.1, hk.2⟩))).1 k_ hk_.symm) ?aF ?aO (Below.refl _ _) ?aS ?aL ?_
        (case aP => exact Kd.M_row (Kd.R_mono (Kd.R_tight rfl (Kd.R_mono (ok' := fun k_ => ((fun k_ => (w.heap.size ≤ k_))) k_ ∧ some k_ ≠ (u151000 : Value).ownBlock) (Kd.R_apart' (HO208.out) (Kd.S_typed HO_151000.out) (by decide)) (fun k_ hk => ⟨hk.1.1, hk.2⟩))) (fun _ h_ => h_)))
        (case aF => exact (fun k_ hk => (Nat.le_trans (keep_size (w := w) (g := g) (row := none) z43_) hk)))
        (case aO => exact (by (with_reducible repeat (first | apply Kd.S_alloc | apply Kd.S_drewN | apply Kd.S_drew)); exact Kd.S_mono HO_151000.out (fun k_ hk => ⟨hk.1, fun e_ => hk.2 e_⟩)))
        (case aS => exact (keep_size (w := w) (g := g) (row := none) z43_))
        (case aL => have := LMc114.out; omega)
        intro v210 w119 ho hb hg hat
        rw [← Ny209.out] at ho
        have n0_ := Aside0.mk (blk_grown (g := gb144) (o := .cells #[.slice none 0 0] 26 (0, 0)) (bA BK144) hg (Kd.S_ne HO_151000.out BK144.out (by decide)))
        have n1_ := Aside0.mk (blk_grown (g := gb150) (o := .cells #[u151000] 26 (0, 0)) (bA BK150) hg (Kd.S_ne HO_151000.out BK150.out (by decide)))
        have n2_ := Aside0.mk (IsS92.grown z33_ hg (IsS92.own_neS HI0.out HO_151000.out (by decide)))
        have n3_ := Aside0.mk (below_weaken z22_ HL.out hb)
        have n4_ := Aside0.mk (KeepBut.trans z43_ (KeepBut.of_grown hg g) (Kd.S_base2 HO_151000.out))
        have n5_ := Aside0.mk (ho)
        clear BK144; clear BK150; clear HI0; clear HB; clear HK; clear HO_151000; clear HO208
        have BK144 := n0_
        have BK150 := n1_
        have HI0 := n2_
        have HB := n3_
        have HK := n4_
        have HO211 := n5_
        clear n0_ n1_ n2_ n3_ n4_ n5_
        clear ho hb hg hat
        obtain ⟨Ao121, co121, eo121⟩ := Kd.S_slice HO211.out
        (first | subst eo121 | (injection eo121 with f1_ f2_ f3_; have f4_ := f1_.symm; have f5_ := f3_.symm; clear f1_ f2_ f3_; subst f4_; subst f5_))
        refine hK.out _ _ ((blk_cell BK150.out 0).trans rfl) (fun hHeld => ?_)
        clear hK K
        refine norm_ (a' := ?_) ?_ ?_
        rotate_left
        ·
         show Act.put _ (some 139) _ = _
         simp only [AP]
         rfl
        refine pS 6 140 (BM 8 127) ?_
        refine last_ (i := 7) (N := none) (BM 8 255) rfl rfl (one_of HT_.out (by kernel_rfl)) (by decide) (fun K hK => ?_)
        have hs122 : w119.cell? ⟨gb150, 0, none⟩ = some (u151000) := (blk_cell BK150.out 0).trans rfl
        have hfs122 := blk_frozen BK150.out 0
        have hns122_0 := NB144_150.out
        have hms122_0 := NB150_144.out
        refine skip_ (w1 := ?_) (by rfl) rfl ?_ ?_
        rotate_left
        ·
         go_simp
         rfl
        refine hK.out _ _ ?_
        clear hK K
        refine done_ (done_of HT_.out (by kernel_rfl)) ?_
        have hnb123 := NB150_144.out
        have hnc123 := NB144_150.out
        have hnb124 := NB150_0.out
        have hnc124 := NB0_150.out
        have hcz125_0 : w119.cell? ⟨gb150, 0, none⟩ = some (u151000) := (blk_cell BK150.out 0).trans rfl
        have hfz125_0 := blk_frozen BK150.out 0
        have hnb126 := NB144_0.out
        have hnc126 := NB0_144.out
        have hcz127_0 : w119.cell? ⟨gb144, 0, none⟩ = some (.slice none 0 0) := (blk_cell BK144.out 0).trans rfl
        have hfz127_0 := blk_frozen BK144.out 0
        try go_wp2
        refine bodyPost_ret (results_cell_row rfl _ _ gb144 26 #[.slice Ao121 y209.length co121] (0, 0) _ rfl z3_ Try.underlying26 rfl (by kernel_rfl)) rfl ?_
        exact ⟨_, e1, Kd.S_V (by (with_reducible repeat (first | apply Kd.S_alloc | apply Kd.S_drewN | apply Kd.S_drew)); exact Kd.S_mono (Kd.S_far (p := ⟨gb144, 0, none⟩) (Kd.S_far (p := ⟨gb150, 0, none⟩) (Kd.S_types (Kd.S_types HO211.out BK150.out (by decide)) BK144.out (by decide)) (fun _ hk => hk.1.2) (.slice Ao121 y209.length co121)) (fun _ hk => hk.2) (.slice Ao121 y209.length co121)) (fun _ hk => hk.1.1)), z33_, z22_, z43_⟩
       ·
        rw [if_neg c114] at H
        exact absurd H (by simp)
      ·
       rw [if_neg c113] at H
       exact absurd H (by simp)
     ·
      rw [if_neg c112] at H
      exact absurd H (by simp)
    ·
     rw [if_neg c111] at H
     have c111b0 : (t187 == 1) = false := beq_eq_false_iff_ne.mpr c111
     have c111b1 : (t187 != 1) = true := bne_iff_ne.mpr c111
     by_cases c128 : t187 = 2
     ·
      rw [if_pos c128] at H
      have c128b0 : (t187 == 2) = true := beq_iff_eq.mpr c128
      have c128b1 : (t187 != 2) = false := bne_eq_false_iff_eq.mpr c128
      clear c128
      replace H := Option.bind_eq_some_iff.mp H
      obtain ⟨t212, A1290, H⟩ := H
      replace H : (some (t212, t188, t189)) = some (r1, r2, r3) := H
      have A129 := Aside0.mk A1290
      clear A1290
      simp only [Option.some.injEq, Prod.mk.injEq] at H
      obtain ⟨rfl, rfl, rfl⟩ := H
      go_wp2_with (first | ((with_reducible refine gate_callee (f := 107) rfl ?_); refine gL (some 115) rfl rfl Try.func107 (by kernel_rfl) rfl #[.pointer (some ⟨g, 0, none⟩), .int .i64 20] rfl ?_; (with_reducible refine (spec_l1Cur_pick.calls g s0_0 x1001_6 x1002_6 20 t187 t188 t189 w0 _ ?side1 ?side2 A83.out).mono ?_); (case side1 => exact z33_); (case side2 => exact z22_); rintro e w130 ⟨rfl, hi, hb, hk⟩; refine ⟨_, rfl, ?_⟩; have n0_ := Aside0.mk (Kd.S_mono (Kd.S_keep (IsS92.apartS (show IsS92 w0 _ g s0_0 x1001_6 x1002_6 from z33_) z92_ (by decide)) hk (fun _ h => h.2)) (fun _ h => h.1)); have n1_ := Aside0.mk (KeepBut.blk hk (g' := gb144) (o := .cells #[.slice none 0 0] 26 (0, 0)) (bA BK144) NB144_0.out (by simp)); have n2_ := Aside0.mk (KeepBut.blk hk (g' := gb150) (o := .cells #[u151000] 26 (0, 0)) (bA BK150) NB150_0.out (by simp)); have n3_ := Aside0.mk (KeepBut.trans z43_ hk (.inl rfl)); have n4_ := Aside0.mk (hb); have n5_ := Aside0.mk (hi); clear HO_151000; clear BK144; clear BK150; clear HK; clear HB; clear HI0; have HO_151000 := n0_; have BK144 := n1_; have BK150 := n2_; have HK := n3_; have HB := n4_; have HI0 := n5_; clear n0_ n1_ n2_ n3_ n4_ n5_; (try clear hb); (try clear hb2); (try clear hk); (try clear hi); have hnb131 := NB150_144.out; have hnc131 := NB144_150.out; have hnb132 := NB150_0.out; have hnc132 := NB0_150.out; have hcz133_0 : w130.cell? ⟨gb150, 0, none⟩ = some (u151000) := (blk_cell BK150.out 0).trans rfl; have hfz133_0 := blk_frozen BK150.out 0; obtain ⟨Ao134, co134, eo134⟩ := Kd.S_slice HO_151000.out; subst eo134; have q3_ : (1 : Int) ≤ ((x151000_6.length : Int) : Int) := (by have h_ := A129.out; unfold cutRow.f at h_; split at h_; (· assumption); (· cases h_)); have ny_ : t212 = x151000_6.drop 1 := (by have h_ := A129.out; unfold cutRow.f at h_; rw [if_pos q3_] at h_; exact (Option.some.inj h_).symm); obtain ⟨i03, hi03, _, hsz3, _⟩ := info_parts info34; have hvs_ := (show Kd.V (Kd.slice 3 (Kd.int .i64)) 34 _ w.heap.size (fun k_ => ((((w.heap.size ≤ k_) ∧ k_ ≠ gb144) ∧ k_ ≠ gb150) ∧ k_ ≠ g)) (.slice Ao134 x151000_6.length co134) x151000_6 from Kd.S_V (IsS92.apartS HI0.out (Kd.S_types (Kd.S_types (HO_151000.out) BK144.out (by decide)) BK150.out (by decide)) (by decide))); have hroom3 := (Kd.V_reads' hvs_).2.1; have hC3 : Kd.F (Kd.slice 3 (Kd.int .i64)) _ _ Ao134 x151000_6.length x151000_6 := (Kd.V_at (base := w.heap.size) hvs_).2.2; have hcut3 := cut_from (P := Try.prog) 22 34 .i64 Try.underlying22 hi03 1 hsz3 Ao134 x151000_6.length co134 1 (by omega) q3_; have hr3 := Kd.F_cut (m := (1 : Int).toNat) (c := co134) hC3 (by omega) hroom3; obtain ⟨Ao136, hA3⟩ : ∃ A1, A1 = (if co134 = (1 : Int).toNat then Ao134 else (Ao134 : Option Addr).map (·.add ((1 : Int).toNat * 1))) := ⟨_, rfl⟩; obtain ⟨co136, hc3⟩ : ∃ c1, c1 = co134 - (1 : Int).toNat := ⟨_, rfl⟩; have hy3 : t212.length = x151000_6.length - (1 : Int).toNat := (by rw [ny_, List.length_drop] <;> omega); rw [show (x151000_6).drop (1 : Int).toNat = t212 from ny_.symm] at hr3; replace hr3 : Kd.F (Kd.slice 3 (Kd.int .i64)) _ _ Ao136 t212.length t212 := (by rw [hA3]; exact hr3); rw [← hy3, ← hA3, ← hc3] at hcut3; have HO214 := Aside0.mk (Kd.V_mono (ok' := fun k_ => (w.heap.size ≤ k_) ∧ k_ ≠ gb144 ∧ k_ ≠ gb150 ∧ k_ ≠ g) (show Kd.V (Kd.slice 3 (Kd.int .i64)) 34 _ w.heap.size (fun k_ => ((((w.heap.size ≤ k_) ∧ k_ ≠ gb144) ∧ k_ ≠ gb150) ∧ k_ ≠ g)) (.slice Ao136 t212.length co136) t212 from Kd.V_mk (by rw [hy3, hc3]; exact Nat.sub_le_sub_right hroom3 _) hr3) (fun k_ hk_ => ⟨hk_.1.1.1, hk_.1.1.2, hk_.1.2, hk_.2⟩)); clear hr3 hC3 hroom3 hi03 hsz3 hc3 hvs_ hy3 hA3 ny_; replace q3_ := eq_true q3_; have hcz137_0 : w130.cell? ⟨gb150, 0, none⟩ = some (.slice Ao134 x151000_6.length co134) := (blk_cell BK150.out 0).trans rfl; have hfz137_0 := blk_frozen BK150.out 0; have hnb138 := NB144_0.out; have hnc138 := NB0_144.out; have hcz139_0 : w130.cell? ⟨gb144, 0, none⟩ = some (.slice none 0 0) := (blk_cell BK144.out 0).trans rfl; have hfz139_0 := blk_frozen BK144.out 0))
      refine bodyPost_ret (results_cell_row rfl _ _ gb144 26 #[.slice Ao136 t212.length co136] (0, 0) _ rfl z3_ Try.underlying26 rfl (by kernel_rfl)) rfl ?_
      exact ⟨_, e1, by (with_reducible repeat (first | apply Kd.V_alloc | apply Kd.V_drewN | apply Kd.V_drew)); exact Kd.V_mono (Kd.V_far (p := ⟨gb144, 0, none⟩) (Kd.V_far (p := ⟨gb150, 0, none⟩) (Kd.V_mono (Kd.V_mono HO214.out (fun k_ hk => (⟨hk, hk.2.2.1⟩ : _ ∧ k_ ≠ gb150))) (fun k_ hk => (⟨hk, hk.1.2.1⟩ : _ ∧ k_ ≠ gb144))) (fun _ hk => hk.1.2) (.slice Ao136 t212.length co136)) (fun _ hk => hk.2) (.slice Ao136 t212.length co136)) (fun _ hk => hk.1.1.1), z33_, z22_, z43_⟩
     ·
      rw [if_neg c128] at H
      have c128b0 : (t187 == 2) = false := beq_eq_false_iff_ne.mpr c128
      have c128b1 : (t187 != 2) = true := bne_iff_ne.mpr c128
      simp only [Option.some.injEq, Prod.mk.injEq] at H
      obtain ⟨rfl, rfl, rfl⟩ := H
      go_wp2_with (first | ((with_reducible refine gate_callee (f := 107) rfl ?_); refine gL (some 115) rfl rfl Try.func107 (by kernel_rfl) rfl #[.pointer (some ⟨g, 0, none⟩), .int .i64 20] rfl ?_; (with_reducible refine (spec_l1Cur_pick.calls g s0_0 x1001_6 x1002_6 20 t187 t188 t189 w0 _ ?side1 ?side2 A83.out).mono ?_); (case side1 => exact z33_); (case side2 => exact z22_); rintro e w140 ⟨rfl, hi, hb, hk⟩; refine ⟨_, rfl, ?_⟩; have n0_ := Aside0.mk (Kd.S_mono (Kd.S_keep (IsS92.apartS (show IsS92 w0 _ g s0_0 x1001_6 x1002_6 from z33_) z92_ (by decide)) hk (fun _ h => h.2)) (fun _ h => h.1)); have n1_ := Aside0.mk (KeepBut.blk hk (g' := gb144) (o := .cells #[.slice none 0 0] 26 (0, 0)) (bA BK144) NB144_0.out (by simp)); have n2_ := Aside0.mk (KeepBut.blk hk (g' := gb150) (o := .cells #[u151000] 26 (0, 0)) (bA BK150) NB150_0.out (by simp)); have n3_ := Aside0.mk (KeepBut.trans z43_ hk (.inl rfl)); have n4_ := Aside0.mk (hb); have n5_ := Aside0.mk (hi); clear HO_151000; clear BK144; clear BK150; clear HK; clear HB; clear HI0; have HO_151000 := n0_; have BK144 := n1_; have BK150 := n2_; have HK := n3_; have HB := n4_; have HI0 := n5_; clear n0_ n1_ n2_ n3_ n4_ n5_; (try clear hb); (try clear hb2); (try clear hk); (try clear hi); have hnb141 := NB150_144.out; have hnc141 := NB144_150.out; have hnb142 := NB150_0.out; have hnc142 := NB0_150.out; have hcz143_0 : w140.cell? ⟨gb150, 0, none⟩ = some (u151000) := (blk_cell BK150.out 0).trans rfl; have hfz143_0 := blk_frozen BK150.out 0; obtain ⟨Ao144, co144, eo144⟩ := Kd.S_slice HO_151000.out; subst eo144; have hnb145 := NB144_0.out; have hnc145 := NB0_144.out; have hcz146_0 : w140.cell? ⟨gb144, 0, none⟩ = some (.slice none 0 0) := (blk_cell BK144.out 0).trans rfl; have hfz146_0 := blk_frozen BK144.out 0))
      refine bodyPost_ret (results_cell_row rfl _ _ gb144 26 #[.slice Ao144 x151000_6.length co144] (0, 0) _ rfl z15_ Try.underlying26 rfl (by kernel_rfl)) rfl ?_
      exact ⟨_, e1, Kd.S_V (by (with_reducible repeat (first | apply Kd.S_alloc | apply Kd.S_drewN | apply Kd.S_drew)); exact Kd.S_mono (Kd.S_far (p := ⟨gb144, 0, none⟩) (Kd.S_types HO_151000.out BK144.out (by decide)) (fun _ hk => hk.2) (.slice Ao144 x151000_6.length co144)) (fun _ hk => hk.1)), z33_, z22_, z43_⟩

end Go.Proofs.Ytldkkfpodldbgaa.P
