-- Written by a program of this session (wip/mkprint.py over the kit's print), out of the translation. Not trusted: Lean checks it.
import Derived.Test.YtpmbffchkcemoaaFx0
import Derived.Test.YtpmbffchkcemoaaFx3
import Derived.Test.YtpmbffchkcemoaaFx6
import Derived.Test.YtpmbffchkcemoaaFx9
import Derived.Test.YtpmbffchkcemoaaFx10
namespace Go.Proofs.Ytpmbffchkcemoaa.P
open Go.RowKit Go.Proofs.YtpmbffchkcemoaaW.PrintWords Go.Proofs.YtpmbffchkcemoaaW.PrintLast Go.Proofs.YtpmbffchkcemoaaW.PrintMore
attribute [local go_sem] max2_int min2_int max_two min_two max_three min_three max_four min_four   -- for this text's walks alone
set_option linter.unusedVariables false
set_option linter.unusedSimpArgs false

/-! ### laws_FnFourSquaresDescend: function 5 -/
mutual
def laws_FnFourSquaresDescend.j0 : Nat → List Int → Int → List (List Int) → Bool → List Int → Bool → Option (Bool)
 | 0, _, _, _, _, _, _ => none
 | k + 1, x1, x5, x6, x9, x10, x72 => if x72 = true then (some false) else ((spec_DrawMultiplyFour.f k x1).bind fun bt377 => ((impl_MultiplyFour.f bt377.1 bt377.2).bind fun bt383 => ((spec_MultiplyFour.f k bt377.1 bt377.2).bind fun bt387 => (if (bt383.2 != bt387.2) = true then (laws_FnFourSquaresDescend.j1 k x5 x6 x9 x10 true) else ((laws_vSame.f k bt383.1 bt387.1).bind fun t391 => (if t391 = true then (if bt383.2 = true then ((laws_vSquares.f k bt383.1).bind fun t392 => ((laws_vSquares.f k bt377.1).bind fun t393 => ((laws_vSquares.f k bt377.2).bind fun t394 => (laws_FnFourSquaresDescend.j1 k x5 x6 x9 x10 (t392 != (wrap64 (t393 * t394))))))) else (laws_FnFourSquaresDescend.j1 k x5 x6 x9 x10 false)) else (laws_FnFourSquaresDescend.j1 k x5 x6 x9 x10 true)))))))
def laws_FnFourSquaresDescend.j1 : Nat → Int → List (List Int) → Bool → List Int → Bool → Option (Bool)
 | 0, _, _, _, _, _ => none
 | k + 1, x5, x6, x9, x10, x111 => if x111 = true then (some false) else (if x9 = true then (if 0 < (x6.length : Int) then (if 4 ≤ ((rd_L1 x6 0).length : Int) then ((laws_vSame.f k ((rd_L1 x6 0).take 4) x10).bind fun t401 => (if t401 = true then (laws_FnFourSquaresDescend.l0 k x5 x6 x6 (x6.length : Int) 0) else (some false))) else (none)) else (none)) else (some true))
def laws_FnFourSquaresDescend.l0 : Nat → Int → List (List Int) → List (List Int) → Int → Int → Option (Bool)
 | 0, _, _, _, _, _ => none
 | k + 1, x5, x6, x121, x122, x123 => if x123 < x122 then (if 0 ≤ x123 then (if x123 < (x121.length : Int) then (if 4 < ((rd_L1 x121 x123).length : Int) then (if ((rd_L1 x121 x123).length : Int) = 5 then (if 4 ≤ ((rd_L1 x121 x123).length : Int) then ((laws_vSquares.f k ((rd_L1 x121 x123).take 4)).bind fun t409 => (if t409 = (wrap64 ((rd (rd_L1 x121 x123) 4) * x5)) then (if x123 > 0 then (if 0 ≤ (wrap64 (x123 - 1)) then (if (wrap64 (x123 - 1)) < (x6.length : Int) then (if 4 < ((rd_L1 x6 (wrap64 (x123 - 1))).length : Int) then (if (rd (rd_L1 x121 x123) 4) ≥ (rd (rd_L1 x6 (wrap64 (x123 - 1))) 4) then (some false) else (if (((rd (rd_L1 x121 x123) 4) == 1) != (x123 == (wrap64 ((x6.length : Int) - 1)))) = true then (some false) else (laws_FnFourSquaresDescend.l0 k x5 x6 x121 x122 (wrap64 (x123 + 1))))) else (none)) else (none)) else (none)) else (if (((rd (rd_L1 x121 x123) 4) == 1) != (x123 == (wrap64 ((x6.length : Int) - 1)))) = true then (some false) else (laws_FnFourSquaresDescend.l0 k x5 x6 x121 x122 (wrap64 (x123 + 1))))) else (some false))) else (none)) else (some false)) else (none)) else (none)) else (none)) else (some true)
end
def laws_FnFourSquaresDescend.f (k : Nat) (l0 : List Int) (l1 : List Int) : Option (Bool) := (laws_big.f l0 l1).bind fun t357 => (if t357 = true then (some true) else ((spec_DrawFourDescent.f k l0).bind fun t358 => ((impl_FourDescent.f k t358).bind fun bt359 => ((spec_FourDescent.f k t358).bind fun bt363 => ((impl_FourStart.f k t358).bind fun bt367 => ((spec_FourStart.f k t358).bind fun bt371 => (if (bt359.2 != bt363.2) = true then (laws_FnFourSquaresDescend.j0 k l1 t358 bt359.1 bt363.2 bt367.1 true) else ((laws_vSameLists.f k bt359.1 bt363.1).bind fun t375 => (if t375 = true then (if (bt367.2 != bt371.2) = true then (laws_FnFourSquaresDescend.j0 k l1 t358 bt359.1 bt363.2 bt367.1 true) else ((laws_vSame.f k bt367.1 bt371.1).bind fun t376 => (if t376 = true then (laws_FnFourSquaresDescend.j0 k l1 t358 bt359.1 bt363.2 bt367.1 (bt367.2 != bt359.2)) else (laws_FnFourSquaresDescend.j0 k l1 t358 bt359.1 bt363.2 bt367.1 true)))) else (laws_FnFourSquaresDescend.j0 k l1 t358 bt359.1 bt363.2 bt367.1 true))))))))))
theorem laws_FnFourSquaresDescend.mono_l : ∀ k, (∀ y0 y1 y2 y3 y4 y5, LeO (laws_FnFourSquaresDescend.j0 k y0 y1 y2 y3 y4 y5) (laws_FnFourSquaresDescend.j0 (k + 1) y0 y1 y2 y3 y4 y5)) ∧ (∀ y0 y1 y2 y3 y4, LeO (laws_FnFourSquaresDescend.j1 k y0 y1 y2 y3 y4) (laws_FnFourSquaresDescend.j1 (k + 1) y0 y1 y2 y3 y4)) ∧ (∀ y0 y1 y2 y3 y4, LeO (laws_FnFourSquaresDescend.l0 k y0 y1 y2 y3 y4) (laws_FnFourSquaresDescend.l0 (k + 1) y0 y1 y2 y3 y4))
 | 0 => ⟨fun _ _ _ _ _ _ r h => by simp [laws_FnFourSquaresDescend.j0] at h, fun _ _ _ _ _ r h => by simp [laws_FnFourSquaresDescend.j1] at h, fun _ _ _ _ _ r h => by simp [laws_FnFourSquaresDescend.l0] at h⟩
 | k + 1 => by
  obtain ⟨ih0, ih1, ih2⟩ := laws_FnFourSquaresDescend.mono_l k
  refine ⟨?_, ?_, ?_⟩
  ·
   intro y0 y1 y2 y3 y4 y5
   unfold laws_FnFourSquaresDescend.j0
   repeat' first
   | (with_reducible exact ih0 _ _ _ _ _ _)
   | (with_reducible exact ih1 _ _ _ _ _)
   | (with_reducible exact ih2 _ _ _ _ _)
   | (with_reducible exact impl_FourDescent.mono _ _)
   | (with_reducible exact impl_FourStart.mono _ _)
   | (with_reducible exact laws_vSame.mono _ _ _)
   | (with_reducible exact laws_vSameLists.mono _ _ _)
   | (with_reducible exact laws_vSquares.mono _ _)
   | (with_reducible exact spec_DrawFourDescent.mono _ _)
   | (with_reducible exact spec_DrawMultiplyFour.mono _ _)
   | (with_reducible exact spec_FourDescent.mono _ _)
   | (with_reducible exact spec_FourStart.mono _ _)
   | (with_reducible exact spec_MultiplyFour.mono _ _ _)
   | (with_reducible exact LeO.refl _)
   | (with_reducible exact LeO.none _)
   | (with_reducible refine LeO.ite ?_ ?_)
   | (with_reducible refine LeO.bind ?_ (fun _ => ?_))
   | exact ih0 _ _ _ _ _ _
   | exact ih1 _ _ _ _ _
   | exact ih2 _ _ _ _ _
   | exact impl_FourDescent.mono _ _
   | exact impl_FourStart.mono _ _
   | exact laws_vSame.mono _ _ _
   | exact laws_vSameLists.mono _ _ _
   | exact laws_vSquares.mono _ _
   | exact spec_DrawFourDescent.mono _ _
   | exact spec_DrawMultiplyFour.mono _ _
   | exact spec_FourDescent.mono _ _
   | exact spec_FourStart.mono _ _
   | exact spec_MultiplyFour.mono _ _ _
   | exact LeO.none _
   | refine LeO.ite ?_ ?_
   | refine LeO.bind ?_ (fun _ => ?_)
  ·
   intro y0 y1 y2 y3 y4
   unfold laws_FnFourSquaresDescend.j1
   repeat' first
   | (with_reducible exact ih0 _ _ _ _ _ _)
   | (with_reducible exact ih1 _ _ _ _ _)
   | (with_reducible exact ih2 _ _ _ _ _)
   | (with_reducible exact impl_FourDescent.mono _ _)
   | (with_reducible exact impl_FourStart.mono _ _)
   | (with_reducible exact laws_vSame.mono _ _ _)
   | (with_reducible exact laws_vSameLists.mono _ _ _)
   | (with_reducible exact laws_vSquares.mono _ _)
   | (with_reducible exact spec_DrawFourDescent.mono _ _)
   | (with_reducible exact spec_DrawMultiplyFour.mono _ _)
   | (with_reducible exact spec_FourDescent.mono _ _)
   | (with_reducible exact spec_FourStart.mono _ _)
   | (with_reducible exact spec_MultiplyFour.mono _ _ _)
   | (with_reducible exact LeO.refl _)
   | (with_reducible exact LeO.none _)
   | (with_reducible refine LeO.ite ?_ ?_)
   | (with_reducible refine LeO.bind ?_ (fun _ => ?_))
   | exact ih0 _ _ _ _ _ _
   | exact ih1 _ _ _ _ _
   | exact ih2 _ _ _ _ _
   | exact impl_FourDescent.mono _ _
   | exact impl_FourStart.mono _ _
   | exact laws_vSame.mono _ _ _
   | exact laws_vSameLists.mono _ _ _
   | exact laws_vSquares.mono _ _
   | exact spec_DrawFourDescent.mono _ _
   | exact spec_DrawMultiplyFour.mono _ _
   | exact spec_FourDescent.mono _ _
   | exact spec_FourStart.mono _ _
   | exact spec_MultiplyFour.mono _ _ _
   | exact LeO.none _
   | refine LeO.ite ?_ ?_
   | refine LeO.bind ?_ (fun _ => ?_)
  ·
   intro y0 y1 y2 y3 y4
   unfold laws_FnFourSquaresDescend.l0
   repeat' first
   | (with_reducible exact ih0 _ _ _ _ _ _)
   | (with_reducible exact ih1 _ _ _ _ _)
   | (with_reducible exact ih2 _ _ _ _ _)
   | (with_reducible exact impl_FourDescent.mono _ _)
   | (with_reducible exact impl_FourStart.mono _ _)
   | (with_reducible exact laws_vSame.mono _ _ _)
   | (with_reducible exact laws_vSameLists.mono _ _ _)
   | (with_reducible exact laws_vSquares.mono _ _)
   | (with_reducible exact spec_DrawFourDescent.mono _ _)
   | (with_reducible exact spec_DrawMultiplyFour.mono _ _)
   | (with_reducible exact spec_FourDescent.mono _ _)
   | (with_reducible exact spec_FourStart.mono _ _)
   | (with_reducible exact spec_MultiplyFour.mono _ _ _)
   | (with_reducible exact LeO.refl _)
   | (with_reducible exact LeO.none _)
   | (with_reducible refine LeO.ite ?_ ?_)
   | (with_reducible refine LeO.bind ?_ (fun _ => ?_))
   | exact ih0 _ _ _ _ _ _
   | exact ih1 _ _ _ _ _
   | exact ih2 _ _ _ _ _
   | exact impl_FourDescent.mono _ _
   | exact impl_FourStart.mono _ _
   | exact laws_vSame.mono _ _ _
   | exact laws_vSameLists.mono _ _ _
   | exact laws_vSquares.mono _ _
   | exact spec_DrawFourDescent.mono _ _
   | exact spec_DrawMultiplyFour.mono _ _
   | exact spec_FourDescent.mono _ _
   | exact spec_FourStart.mono _ _
   | exact spec_MultiplyFour.mono _ _ _
   | exact LeO.none _
   | refine LeO.ite ?_ ?_
   | refine LeO.bind ?_ (fun _ => ?_)
theorem laws_FnFourSquaresDescend.mono : ∀ a0 a1 k, LeO (laws_FnFourSquaresDescend.f k a0 a1) (laws_FnFourSquaresDescend.f (k + 1) a0 a1) := by
 intro a0 a1 k
 obtain ⟨ih0, ih1, ih2⟩ := laws_FnFourSquaresDescend.mono_l k
 unfold laws_FnFourSquaresDescend.f
 repeat' first
  | (with_reducible exact ih0 _ _ _ _ _ _)
  | (with_reducible exact ih1 _ _ _ _ _)
  | (with_reducible exact ih2 _ _ _ _ _)
  | (with_reducible exact impl_FourDescent.mono _ _)
  | (with_reducible exact impl_FourStart.mono _ _)
  | (with_reducible exact laws_vSame.mono _ _ _)
  | (with_reducible exact laws_vSameLists.mono _ _ _)
  | (with_reducible exact laws_vSquares.mono _ _)
  | (with_reducible exact spec_DrawFourDescent.mono _ _)
  | (with_reducible exact spec_DrawMultiplyFour.mono _ _)
  | (with_reducible exact spec_FourDescent.mono _ _)
  | (with_reducible exact spec_FourStart.mono _ _)
  | (with_reducible exact spec_MultiplyFour.mono _ _ _)
  | (with_reducible exact LeO.refl _)
  | (with_reducible exact LeO.none _)
  | (with_reducible refine LeO.ite ?_ ?_)
  | (with_reducible refine LeO.bind ?_ (fun _ => ?_))
  | exact ih0 _ _ _ _ _ _
  | exact ih1 _ _ _ _ _
  | exact ih2 _ _ _ _ _
  | exact impl_FourDescent.mono _ _
  | exact impl_FourStart.mono _ _
  | exact laws_vSame.mono _ _ _
  | exact laws_vSameLists.mono _ _ _
  | exact laws_vSquares.mono _ _
  | exact spec_DrawFourDescent.mono _ _
  | exact spec_DrawMultiplyFour.mono _ _
  | exact spec_FourDescent.mono _ _
  | exact spec_FourStart.mono _ _
  | exact spec_MultiplyFour.mono _ _ _
  | exact LeO.none _
  | refine LeO.ite ?_ ?_
  | refine LeO.bind ?_ (fun _ => ?_)
theorem laws_FnFourSquaresDescend.j0_no : ∀ {k y0 y1 y2 y3 y4}, laws_FnFourSquaresDescend.j0 k y0 y1 y2 y3 y4 true = some true → False := by
 intro k y0 y1 y2 y3 y4 h
 cases k <;> simp [laws_FnFourSquaresDescend.j0] at h
theorem laws_FnFourSquaresDescend.j1_no : ∀ {k y0 y1 y2 y3}, laws_FnFourSquaresDescend.j1 k y0 y1 y2 y3 true = some true → False := by
 intro k y0 y1 y2 y3 h
 cases k <;> simp [laws_FnFourSquaresDescend.j1] at h
set_option maxHeartbeats 8000000 in
set_option maxRecDepth 100000 in
theorem laws_FnFourSquaresDescend.calls (k : Nat) (A0 : Option Addr) (c0 : Nat) (l0 : List Int) (A1 : Option Addr) (c1 : Nat) (l1 : List Int) (r : Bool) (w : World) (hr0 : Kd.C (Kd.int .u8) w A0 l0.length l0) (hc0 : l0.length ≤ c0) (hr1 : Kd.C (Kd.int .u8) w A1 l1.length l1) (hc1 : l1.length ≤ c1) (h : laws_FnFourSquaresDescend.f k l0 l1 = some r) (hrT : r = true) :
 Calls Try.prog 5 #[.slice A0 l0.length c0, .slice A1 l1.length c1] w fun e w' => e = .returned (.bool r) ∧ Below w.heap.size w w' := by
 have HR0 := Aside0.mk hr0
 have HC0 := Aside0.mk hc0
 clear hr0 hc0
 have HR1 := Aside0.mk hr1
 have HC1 := Aside0.mk hc1
 clear hr1 hc1
 have HB := Aside0.mk (Below.refl w.heap.size w)
 have H : ((laws_big.f l0 l1).bind fun t357 => (if t357 = true then (some true) else ((spec_DrawFourDescent.f k l0).bind fun t358 => ((impl_FourDescent.f k t358).bind fun bt359 => ((spec_FourDescent.f k t358).bind fun bt363 => ((impl_FourStart.f k t358).bind fun bt367 => ((spec_FourStart.f k t358).bind fun bt371 => (if (bt359.2 != bt363.2) = true then (laws_FnFourSquaresDescend.j0 k l1 t358 bt359.1 bt363.2 bt367.1 true) else ((laws_vSameLists.f k bt359.1 bt363.1).bind fun t375 => (if t375 = true then (if (bt367.2 != bt371.2) = true then (laws_FnFourSquaresDescend.j0 k l1 t358 bt359.1 bt363.2 bt367.1 true) else ((laws_vSame.f k bt367.1 bt371.1).bind fun t376 => (if t376 = true then (laws_FnFourSquaresDescend.j0 k l1 t358 bt359.1 bt363.2 bt367.1 (bt367.2 != bt359.2)) else (laws_FnFourSquaresDescend.j0 k l1 t358 bt359.1 bt363.2 bt367.1 true)))) else (laws_FnFourSquaresDescend.j0 k l1 t358 bt359.1 bt363.2 bt367.1 true))))))))))) = some r := h
 clear h
 replace H := Option.bind_eq_some_iff.mp H
 obtain ⟨t357, A30, H⟩ := H
 replace H : (if t357 = true then (some true) else ((spec_DrawFourDescent.f k l0).bind fun t358 => ((impl_FourDescent.f k t358).bind fun bt359 => ((spec_FourDescent.f k t358).bind fun bt363 => ((impl_FourStart.f k t358).bind fun bt367 => ((spec_FourStart.f k t358).bind fun bt371 => (if (bt359.2 != bt363.2) = true then (laws_FnFourSquaresDescend.j0 k l1 t358 bt359.1 bt363.2 bt367.1 true) else ((laws_vSameLists.f k bt359.1 bt363.1).bind fun t375 => (if t375 = true then (if (bt367.2 != bt371.2) = true then (laws_FnFourSquaresDescend.j0 k l1 t358 bt359.1 bt363.2 bt367.1 true) else ((laws_vSame.f k bt367.1 bt371.1).bind fun t376 => (if t376 = true then (laws_FnFourSquaresDescend.j0 k l1 t358 bt359.1 bt363.2 bt367.1 (bt367.2 != bt359.2)) else (laws_FnFourSquaresDescend.j0 k l1 t358 bt359.1 bt363.2 bt367.1 true)))) else (laws_FnFourSquaresDescend.j0 k l1 t358 bt359.1 bt363.2 bt367.1 true)))))))))) = some r := H
 have A3 := Aside0.mk A30
 clear A30
 by_cases c4 : t357 = true
 ·
  subst c4
  have H1 : (some true) = some r := by rw [if_pos rfl] at H; exact H
  clear H
  have H := H1
  clear H1
  obtain rfl := Option.some.inj H
  go_enter Try.func5, Try.ntmps5
  go_wp2_with (first | ((with_reducible refine gate_callee (f := 13) rfl ?_); refine goesL_ (some 25) rfl rfl Try.func13 (by kernel_rfl) rfl #[.slice A0 l0.length c0, .slice A1 l1.length c1] rfl (by (try simp only [List.map_toArray, List.map_cons, List.map_nil]); first | done | rfl | (simp only [List.length_drop, List.length_take]; rfl)) ?_; (with_reducible refine (laws_big.calls _ _ l0 _ _ l1 true _ ?side1 ?side2 ?side3 ?side4 A3.out).mono ?_); (case side1 => repeat (first | exact HR0.out | (with_reducible refine Kd.C_alloc ?_ _) | (with_reducible refine Kd.C_drewN ?_ _) | (with_reducible refine Kd.C_drew ?_))); (case side2 => exact HC0.out); (case side3 => repeat (first | exact HR1.out | (with_reducible refine Kd.C_alloc ?_ _) | (with_reducible refine Kd.C_drewN ?_ _) | (with_reducible refine Kd.C_drew ?_))); (case side4 => exact HC1.out); rintro e w' ⟨rfl, ⟨nd, rfl⟩⟩; refine ⟨_, rfl, ?_⟩))
  go_ret
  exact ⟨by first | rfl | (simp [errW_none, errW_some] <;> rfl) | (simp [*, errW_none, errW_some] <;> rfl), by repeat (first | (with_reducible first | exact HB.out | apply below_alloc | apply pw_below_drewN | apply below_drew1) | exact HB.out | exact Below.refl _ _)⟩
 ·
  replace c4 := Bool.eq_false_iff.mpr c4
  subst c4
  have H1 : ((spec_DrawFourDescent.f k l0).bind fun t358 => ((impl_FourDescent.f k t358).bind fun bt359 => ((spec_FourDescent.f k t358).bind fun bt363 => ((impl_FourStart.f k t358).bind fun bt367 => ((spec_FourStart.f k t358).bind fun bt371 => (if (bt359.2 != bt363.2) = true then (laws_FnFourSquaresDescend.j0 k l1 t358 bt359.1 bt363.2 bt367.1 true) else ((laws_vSameLists.f k bt359.1 bt363.1).bind fun t375 => (if t375 = true then (if (bt367.2 != bt371.2) = true then (laws_FnFourSquaresDescend.j0 k l1 t358 bt359.1 bt363.2 bt367.1 true) else ((laws_vSame.f k bt367.1 bt371.1).bind fun t376 => (if t376 = true then (laws_FnFourSquaresDescend.j0 k l1 t358 bt359.1 bt363.2 bt367.1 (bt367.2 != bt359.2)) else (laws_FnFourSquaresDescend.j0 k l1 t358 bt359.1 bt363.2 bt367.1 true)))) else (laws_FnFourSquaresDescend.j0 k l1 t358 bt359.1 bt363.2 bt367.1 true))))))))) = some r := by rw [if_neg (show ¬ (false = true) by decide)] at H; exact H
  clear H
  have H := H1
  clear H1
  replace H := Option.bind_eq_some_iff.mp H
  obtain ⟨t358, A50, H⟩ := H
  replace H : ((impl_FourDescent.f k t358).bind fun bt359 => ((spec_FourDescent.f k t358).bind fun bt363 => ((impl_FourStart.f k t358).bind fun bt367 => ((spec_FourStart.f k t358).bind fun bt371 => (if (bt359.2 != bt363.2) = true then (laws_FnFourSquaresDescend.j0 k l1 t358 bt359.1 bt363.2 bt367.1 true) else ((laws_vSameLists.f k bt359.1 bt363.1).bind fun t375 => (if t375 = true then (if (bt367.2 != bt371.2) = true then (laws_FnFourSquaresDescend.j0 k l1 t358 bt359.1 bt363.2 bt367.1 true) else ((laws_vSame.f k bt367.1 bt371.1).bind fun t376 => (if t376 = true then (laws_FnFourSquaresDescend.j0 k l1 t358 bt359.1 bt363.2 bt367.1 (bt367.2 != bt359.2)) else (laws_FnFourSquaresDescend.j0 k l1 t358 bt359.1 bt363.2 bt367.1 true)))) else (laws_FnFourSquaresDescend.j0 k l1 t358 bt359.1 bt363.2 bt367.1 true)))))))) = some r := H
  have A5 := Aside0.mk A50
  clear A50
  replace H := Option.bind_eq_some_iff.mp H
  obtain ⟨⟨t359, t360⟩, A60, H⟩ := H
  replace H : ((spec_FourDescent.f k t358).bind fun bt363 => ((impl_FourStart.f k t358).bind fun bt367 => ((spec_FourStart.f k t358).bind fun bt371 => (if (t360 != bt363.2) = true then (laws_FnFourSquaresDescend.j0 k l1 t358 t359 bt363.2 bt367.1 true) else ((laws_vSameLists.f k t359 bt363.1).bind fun t375 => (if t375 = true then (if (bt367.2 != bt371.2) = true then (laws_FnFourSquaresDescend.j0 k l1 t358 t359 bt363.2 bt367.1 true) else ((laws_vSame.f k bt367.1 bt371.1).bind fun t376 => (if t376 = true then (laws_FnFourSquaresDescend.j0 k l1 t358 t359 bt363.2 bt367.1 (bt367.2 != t360)) else (laws_FnFourSquaresDescend.j0 k l1 t358 t359 bt363.2 bt367.1 true)))) else (laws_FnFourSquaresDescend.j0 k l1 t358 t359 bt363.2 bt367.1 true))))))) = some r := H
  have A6 := Aside0.mk A60
  clear A60
  replace H := Option.bind_eq_some_iff.mp H
  obtain ⟨⟨t363, t366⟩, A70, H⟩ := H
  replace H : ((impl_FourStart.f k t358).bind fun bt367 => ((spec_FourStart.f k t358).bind fun bt371 => (if (t360 != t366) = true then (laws_FnFourSquaresDescend.j0 k l1 t358 t359 t366 bt367.1 true) else ((laws_vSameLists.f k t359 t363).bind fun t375 => (if t375 = true then (if (bt367.2 != bt371.2) = true then (laws_FnFourSquaresDescend.j0 k l1 t358 t359 t366 bt367.1 true) else ((laws_vSame.f k bt367.1 bt371.1).bind fun t376 => (if t376 = true then (laws_FnFourSquaresDescend.j0 k l1 t358 t359 t366 bt367.1 (bt367.2 != t360)) else (laws_FnFourSquaresDescend.j0 k l1 t358 t359 t366 bt367.1 true)))) else (laws_FnFourSquaresDescend.j0 k l1 t358 t359 t366 bt367.1 true)))))) = some r := H
  have A7 := Aside0.mk A70
  clear A70
  replace H := Option.bind_eq_some_iff.mp H
  obtain ⟨⟨t367, t368⟩, A80, H⟩ := H
  replace H : ((spec_FourStart.f k t358).bind fun bt371 => (if (t360 != t366) = true then (laws_FnFourSquaresDescend.j0 k l1 t358 t359 t366 t367 true) else ((laws_vSameLists.f k t359 t363).bind fun t375 => (if t375 = true then (if (t368 != bt371.2) = true then (laws_FnFourSquaresDescend.j0 k l1 t358 t359 t366 t367 true) else ((laws_vSame.f k t367 bt371.1).bind fun t376 => (if t376 = true then (laws_FnFourSquaresDescend.j0 k l1 t358 t359 t366 t367 (t368 != t360)) else (laws_FnFourSquaresDescend.j0 k l1 t358 t359 t366 t367 true)))) else (laws_FnFourSquaresDescend.j0 k l1 t358 t359 t366 t367 true))))) = some r := H
  have A8 := Aside0.mk A80
  clear A80
  replace H := Option.bind_eq_some_iff.mp H
  obtain ⟨⟨t371, t372⟩, A90, H⟩ := H
  replace H : (if (t360 != t366) = true then (laws_FnFourSquaresDescend.j0 k l1 t358 t359 t366 t367 true) else ((laws_vSameLists.f k t359 t363).bind fun t375 => (if t375 = true then (if (t368 != t372) = true then (laws_FnFourSquaresDescend.j0 k l1 t358 t359 t366 t367 true) else ((laws_vSame.f k t367 t371).bind fun t376 => (if t376 = true then (laws_FnFourSquaresDescend.j0 k l1 t358 t359 t366 t367 (t368 != t360)) else (laws_FnFourSquaresDescend.j0 k l1 t358 t359 t366 t367 true)))) else (laws_FnFourSquaresDescend.j0 k l1 t358 t359 t366 t367 true)))) = some r := H
  have A9 := Aside0.mk A90
  clear A90
  have HC10 := Aside0.mk H
  clear H
  go_enter Try.func5, Try.ntmps5
  go_upto_region 8 with (first | ((with_reducible refine gate_callee (f := 13) rfl ?_); refine goesL_ (some 25) rfl rfl Try.func13 (by kernel_rfl) rfl #[.slice A0 l0.length c0, .slice A1 l1.length c1] rfl (by (try simp only [List.map_toArray, List.map_cons, List.map_nil]); first | done | rfl | (simp only [List.length_drop, List.length_take]; rfl)) ?_; (with_reducible refine (laws_big.calls _ _ l0 _ _ l1 false _ ?side1 ?side2 ?side3 ?side4 A3.out).mono ?_); (case side1 => repeat (first | exact HR0.out | (with_reducible refine Kd.C_alloc ?_ _) | (with_reducible refine Kd.C_drewN ?_ _) | (with_reducible refine Kd.C_drew ?_))); (case side2 => exact HC0.out); (case side3 => repeat (first | exact HR1.out | (with_reducible refine Kd.C_alloc ?_ _) | (with_reducible refine Kd.C_drewN ?_ _) | (with_reducible refine Kd.C_drew ?_))); (case side4 => exact HC1.out); rintro e w' ⟨rfl, ⟨nd, rfl⟩⟩; refine ⟨_, rfl, ?_⟩) | ((with_reducible refine gate_callee (f := 26) rfl ?_); refine goesL_ (some 27) rfl rfl Try.func26 (by kernel_rfl) rfl #[.slice A0 l0.length c0] rfl (by (try simp only [List.map_toArray, List.map_cons, List.map_nil]); first | done | rfl | (simp only [List.length_drop, List.length_take]; rfl)) ?_; (with_reducible refine (spec_DrawFourDescent.calls k _ _ l0 t358 _ ?side1 ?side2 A5.out).mono ?_); (case side1 => repeat (first | exact HR0.out | (with_reducible refine Kd.C_alloc ?_ _) | (with_reducible refine Kd.C_drewN ?_ _) | (with_reducible refine Kd.C_drew ?_))); (case side2 => exact HC0.out); rintro e w11 ⟨rfl, hb⟩; refine ⟨_, rfl, ?_⟩; have n0_ := Aside0.mk (below_step (by repeat (first | (with_reducible first | exact HB.out | apply below_alloc | apply pw_below_drewN | apply below_drew1) | exact HB.out | exact Below.refl _ _)) hb); clear HB; have HB := n0_; clear n0_; (try clear hb); (try clear hb2); (try clear hk); (try clear hi)) | ((with_reducible refine gate_callee (f := 9) rfl ?_); refine goesL_ (some 30) rfl rfl Try.func9 (by kernel_rfl) rfl #[.int .i64 t358] rfl (by (try simp only [List.map_toArray, List.map_cons, List.map_nil]); first | done | rfl | (simp only [List.length_drop, List.length_take]; rfl)) ?_; (with_reducible refine (impl_FourDescent.calls k t358 t359 t360 _ A6.out).mono ?_); rintro e w12 ⟨v361, rfl, ho0, hb⟩; refine ⟨_, rfl, ?_⟩; have n0_ := Aside0.mk (Kd.N_lower (Kd.N_mono (ok' := fun k_ => True) (Kd.S_N (Kd.S_bound ho0)) (fun k_ hk_ => trivial)) (below_size (by repeat (first | (with_reducible first | exact HB.out | apply below_alloc | apply pw_below_drewN | apply below_drew1) | exact HB.out | exact Below.refl _ _)))); have n1_ := Aside0.mk (below_step (by repeat (first | (with_reducible first | exact HB.out | apply below_alloc | apply pw_below_drewN | apply below_drew1) | exact HB.out | exact Below.refl _ _)) hb); clear HB; have HO362 := n0_; have HB := n1_; clear n0_ n1_; (try clear hb); (try clear hb2); (try clear hk); (try clear hi); (try clear ho0)) | ((with_reducible refine gate_callee (f := 8) rfl ?_); refine goesL_ (some 35) rfl rfl Try.func8 (by kernel_rfl) rfl #[.int .i64 t358] rfl (by (try simp only [List.map_toArray, List.map_cons, List.map_nil]); first | done | rfl | (simp only [List.length_drop, List.length_take]; rfl)) ?_; (with_reducible refine (spec_FourDescent.calls k t358 t363 t366 _ A7.out).mono ?_); rintro e w13 ⟨v364, rfl, ho0, hb⟩; refine ⟨_, rfl, ?_⟩; have n0_ := Aside0.mk (Kd.N_elder' (by (with_reducible repeat (first | apply Kd.N_alloc | apply Kd.N_drewN | apply Kd.N_drew)); exact HO362.out) (Kd.N_base ho0) hb); have n1_ := Aside0.mk (Kd.N_lower (Kd.N_mono (ok' := fun k_ => some k_ ≠ (v361 : Value).ownBlock) ho0 (fun k_ hk_ => (Kd.fresh' (Kd.N_lt (by (with_reducible repeat (first | apply Kd.N_alloc | apply Kd.N_drewN | apply Kd.N_drew)); exact HO362.out)) k_ hk_))) (below_size (by repeat (first | (with_reducible first | exact HB.out | apply below_alloc | apply pw_below_drewN | apply below_drew1) | exact HB.out | exact Below.refl _ _)))); have n2_ := Aside0.mk (below_step (by repeat (first | (with_reducible first | exact HB.out | apply below_alloc | apply pw_below_drewN | apply below_drew1) | exact HB.out | exact Below.refl _ _)) hb); clear HO362; clear HB; have HO362 := n0_; have HO365 := n1_; have HB := n2_; clear n0_ n1_ n2_; (try clear hb); (try clear hb2); (try clear hk); (try clear hi); (try clear ho0)) | ((with_reducible refine gate_callee (f := 27) rfl ?_); refine goesL_ (some 40) rfl rfl Try.func27 (by kernel_rfl) rfl #[.int .i64 t358] rfl (by (try simp only [List.map_toArray, List.map_cons, List.map_nil]); first | done | rfl | (simp only [List.length_drop, List.length_take]; rfl)) ?_; (with_reducible refine (impl_FourStart.calls k t358 t367 t368 _ A8.out).mono ?_); rintro e w14 ⟨v369, rfl, ho0, hb⟩; refine ⟨_, rfl, ?_⟩; have n0_ := Aside0.mk (Kd.N_elder' (by (with_reducible repeat (first | apply Kd.N_alloc | apply Kd.N_drewN | apply Kd.N_drew)); exact HO362.out) (Kd.R_base ho0) hb); have n1_ := Aside0.mk (Kd.N_elder' (by (with_reducible repeat (first | apply Kd.N_alloc | apply Kd.N_drewN | apply Kd.N_drew)); exact HO365.out) (Kd.R_base ho0) hb); have n2_ := Aside0.mk (Kd.R_lower ho0 (below_size (by repeat (first | (with_reducible first | exact HB.out | apply below_alloc | apply pw_below_drewN | apply below_drew1) | exact HB.out | exact Below.refl _ _)))); have n3_ := Aside0.mk (below_step (by repeat (first | (with_reducible first | exact HB.out | apply below_alloc | apply pw_below_drewN | apply below_drew1) | exact HB.out | exact Below.refl _ _)) hb); clear HO362; clear HO365; clear HB; have HO362 := n0_; have HO365 := n1_; have HO370 := n2_; have HB := n3_; clear n0_ n1_ n2_ n3_; (try clear hb); (try clear hb2); (try clear hk); (try clear hi); (try clear ho0)) | ((with_reducible refine gate_callee (f := 28) rfl ?_); refine goesL_ (some 45) rfl rfl Try.func28 (by kernel_rfl) rfl #[.int .i64 t358] rfl (by (try simp only [List.map_toArray, List.map_cons, List.map_nil]); first | done | rfl | (simp only [List.length_drop, List.length_take]; rfl)) ?_; (with_reducible refine (spec_FourStart.calls k t358 t371 t372 _ A9.out).mono ?_); rintro e w15 ⟨v373, rfl, ho0, hb⟩; refine ⟨_, rfl, ?_⟩; have n0_ := Aside0.mk (Kd.N_elder' (by (with_reducible repeat (first | apply Kd.N_alloc | apply Kd.N_drewN | apply Kd.N_drew)); exact HO362.out) (Kd.R_base ho0) hb); have n1_ := Aside0.mk (Kd.N_elder' (by (with_reducible repeat (first | apply Kd.N_alloc | apply Kd.N_drewN | apply Kd.N_drew)); exact HO365.out) (Kd.R_base ho0) hb); have n2_ := Aside0.mk (Kd.R_elder' (by (with_reducible repeat (first | apply Kd.R_alloc | apply Kd.R_drewN | apply Kd.R_drew)); exact HO370.out) (Kd.R_base ho0) hb); have n3_ := Aside0.mk (Kd.R_lower (Kd.R_new' ho0 (Kd.R_lt (by (with_reducible repeat (first | apply Kd.R_alloc | apply Kd.R_drewN | apply Kd.R_drew)); exact HO370.out))) (below_size (by repeat (first | (with_reducible first | exact HB.out | apply below_alloc | apply pw_below_drewN | apply below_drew1) | exact HB.out | exact Below.refl _ _)))); have n4_ := Aside0.mk (below_step (by repeat (first | (with_reducible first | exact HB.out | apply below_alloc | apply pw_below_drewN | apply below_drew1) | exact HB.out | exact Below.refl _ _)) hb); clear HO362; clear HO365; clear HO370; clear HB; have HO362 := n0_; have HO365 := n1_; have HO370 := n2_; have HO374 := n3_; have HB := n4_; clear n0_ n1_ n2_ n3_ n4_; (try clear hb); (try clear hb2); (try clear hk); (try clear hi); (try clear ho0)))
  (try simp only [Act.put, List.setIfInBounds_toArray, List.set_cons_zero, List.set_cons_succ])
  go_cut [72] (fun v72 wc => ∃ (kq : Nat) (x72_9 : Bool), v72 = .bool x72_9 ∧ Aside0 (laws_FnFourSquaresDescend.j0 kq l1 t358 t359 t366 t367 x72_9 = some r) ∧ Aside0 (kq ≤ k) ∧ Aside0 (Kd.N (Kd.slice 3 (Kd.int .i64)) 35 wc w.heap.size (fun k_ => some k_ ≠ (v369 : Value).ownBlock) v361 t359) ∧ Aside0 (Kd.R (Kd.int .i64) 3 wc w.heap.size (fun _ => True) v369 t367) ∧ Aside0 (Below w.heap.size w wc))
  case first =>
   have H := HC10.out
   clear HC10
   by_cases c16 : (t360 != t366) = true
   ·
    rw [if_pos c16] at H
    exact absurd (H.trans (congrArg some hrT)) (fun h_ => laws_FnFourSquaresDescend.j0_no h_)
   ·
    rw [if_neg c16] at H
    have c16b0 : (t360 != t366) = false := by simpa using c16
    (try (have c16b1 : decide (t360 = t366) = true := by simpa using c16))
    (try (have c16b2 : (t360 == t366) = true := by simpa using c16))
    clear c16
    (first | rw [c16b0] | (simp only [i64_w, i32_w]; rw [c16b0]) | skip)
    replace H := Option.bind_eq_some_iff.mp H
    obtain ⟨t375, A170, H⟩ := H
    replace H : (if t375 = true then (if (t368 != t372) = true then (laws_FnFourSquaresDescend.j0 k l1 t358 t359 t366 t367 true) else ((laws_vSame.f k t367 t371).bind fun t376 => (if t376 = true then (laws_FnFourSquaresDescend.j0 k l1 t358 t359 t366 t367 (t368 != t360)) else (laws_FnFourSquaresDescend.j0 k l1 t358 t359 t366 t367 true)))) else (laws_FnFourSquaresDescend.j0 k l1 t358 t359 t366 t367 true)) = some r := H
    have A17 := Aside0.mk A170
    clear A170
    by_cases c18 : t375 = true
    ·
     subst c18
     have H1 : (if (t368 != t372) = true then (laws_FnFourSquaresDescend.j0 k l1 t358 t359 t366 t367 true) else ((laws_vSame.f k t367 t371).bind fun t376 => (if t376 = true then (laws_FnFourSquaresDescend.j0 k l1 t358 t359 t366 t367 (t368 != t360)) else (laws_FnFourSquaresDescend.j0 k l1 t358 t359 t366 t367 true)))) = some r := by rw [if_pos rfl] at H; exact H
     clear H
     have H := H1
     clear H1
     by_cases c19 : (t368 != t372) = true
     ·
      rw [if_pos c19] at H
      exact absurd (H.trans (congrArg some hrT)) (fun h_ => laws_FnFourSquaresDescend.j0_no h_)
     ·
      rw [if_neg c19] at H
      have c19b0 : (t368 != t372) = false := by simpa using c19
      (try (have c19b1 : decide (t368 = t372) = true := by simpa using c19))
      (try (have c19b2 : (t368 == t372) = true := by simpa using c19))
      clear c19
      replace H := Option.bind_eq_some_iff.mp H
      obtain ⟨t376, A220, H⟩ := H
      replace H : (if t376 = true then (laws_FnFourSquaresDescend.j0 k l1 t358 t359 t366 t367 (t368 != t360)) else (laws_FnFourSquaresDescend.j0 k l1 t358 t359 t366 t367 true)) = some r := H
      have A22 := Aside0.mk A220
      clear A220
      by_cases c23 : t376 = true
      ·
       subst c23
       have H1 : (laws_FnFourSquaresDescend.j0 k l1 t358 t359 t366 t367 (t368 != t360)) = some r := by rw [if_pos rfl] at H; exact H
       clear H
       have H := H1
       clear H1
       have H' := Aside0.mk H
       clear H
       obtain ⟨Ao24, co24, eo24⟩ := Kd.N_slice HO362.out
       subst eo24
       obtain ⟨Ao25, co25, eo25⟩ := Kd.N_slice HO365.out
       subst eo25
       go_wp2_with (first | (go_at_call 19; (with_reducible refine (laws_vSameLists.calls k _ _ t359 _ _ t363 true _ ?side1 ?side2 ?side3 ?side4 A17.out).mono ?_); (case side1 => repeat (first | exact (Kd.N_reads' HO362.out).2.2 | (with_reducible refine Kd.C_alloc ?_ _) | (with_reducible refine Kd.C_drewN ?_ _) | (with_reducible refine Kd.C_drew ?_))); (case side2 => exact (Kd.N_reads' HO362.out).2.1); (case side3 => repeat (first | exact (Kd.N_reads' HO365.out).2.2 | (with_reducible refine Kd.C_alloc ?_ _) | (with_reducible refine Kd.C_drewN ?_ _) | (with_reducible refine Kd.C_drew ?_))); (case side4 => exact (Kd.N_reads' HO365.out).2.1); rintro e w' ⟨rfl, ⟨nd, rfl⟩⟩; obtain ⟨Ao26, co26, eo26⟩ := Kd.R_slice HO370.out; subst eo26; obtain ⟨Ao27, co27, eo27⟩ := Kd.R_slice HO374.out; subst eo27) | (go_at_call 25; (with_reducible refine (laws_vSame.calls k _ _ t367 _ _ t371 true _ ?side1 ?side2 ?side3 ?side4 A22.out).mono ?_); (case side1 => repeat (first | exact (Kd.R_reads' HO370.out).2.2 | (with_reducible refine Kd.C_alloc ?_ _) | (with_reducible refine Kd.C_drewN ?_ _) | (with_reducible refine Kd.C_drew ?_))); (case side2 => exact (Kd.R_reads' HO370.out).2.1); (case side3 => repeat (first | exact (Kd.R_reads' HO374.out).2.2 | (with_reducible refine Kd.C_alloc ?_ _) | (with_reducible refine Kd.C_drewN ?_ _) | (with_reducible refine Kd.C_drew ?_))); (case side4 => exact (Kd.R_reads' HO374.out).2.1); rintro e w' ⟨rfl, ⟨nd, rfl⟩⟩))
       go_meet
       case rel => exact ⟨_, ((t368 != t360)), (by first | rfl | (simp; done) | (simp [*]; done)), H', ⟨by first | omega | exact Nat.le_refl _⟩, ⟨by (with_reducible repeat (first | apply Kd.N_alloc | apply Kd.N_drewN | apply Kd.N_drew)); exact Kd.N_mono HO362.out (fun _ hk => hk.1.2)⟩, ⟨by (with_reducible repeat (first | apply Kd.R_alloc | apply Kd.R_drewN | apply Kd.R_drew)); exact Kd.R_mono HO370.out (fun _ hk => trivial)⟩, ⟨by repeat (first | (with_reducible first | exact HB.out | apply below_alloc | apply pw_below_drewN | apply below_drew1) | exact HB.out | exact Below.refl _ _)⟩⟩
      ·
       replace c23 := Bool.eq_false_iff.mpr c23
       subst c23
       have H1 : (laws_FnFourSquaresDescend.j0 k l1 t358 t359 t366 t367 true) = some r := by rw [if_neg (show ¬ (false = true) by decide)] at H; exact H
       exact absurd (H1.trans (congrArg some hrT)) (fun h_ => laws_FnFourSquaresDescend.j0_no h_)
    ·
     replace c18 := Bool.eq_false_iff.mpr c18
     subst c18
     have H1 : (laws_FnFourSquaresDescend.j0 k l1 t358 t359 t366 t367 true) = some r := by rw [if_neg (show ¬ (false = true) by decide)] at H; exact H
     exact absurd (H1.trans (congrArg some hrT)) (fun h_ => laws_FnFourSquaresDescend.j0_no h_)
  case rest =>
   clear HC10
   try clear c1
   try clear c2
   try clear p2
   try clear c4
   try clear c5
   try clear c8
   try clear c9
   try clear c13
   try clear c16
   try clear c16b0
   try clear c16b1
   try clear c16b2
   try clear c18
   try clear c19
   try clear c19b0
   try clear c19b1
   try clear c19b2
   try clear c23
   try clear c26
   try clear c27
   try clear c28
   obtain ⟨kq, x72_9, rfl, HA, HJ9, HO_6, HO_10, HB⟩ := hcut
   cases kq with
   | zero => exact absurd HA.out (by simp [laws_FnFourSquaresDescend.j0])
   | succ kj9 =>
    have H := HA.out
    clear HA
    simp only [laws_FnFourSquaresDescend.j0] at H
    by_cases c34 : x72_9 = true
    ·
     subst c34
     have H1 : (some false) = some r := by rw [if_pos rfl] at H; exact H
     exact absurd (H1.trans (congrArg some hrT)) (by simp)
    ·
     replace c34 := Bool.eq_false_iff.mpr c34
     subst c34
     have H1 : ((spec_DrawMultiplyFour.f kj9 l1).bind fun bt377 => ((impl_MultiplyFour.f bt377.1 bt377.2).bind fun bt383 => ((spec_MultiplyFour.f kj9 bt377.1 bt377.2).bind fun bt387 => (if (bt383.2 != bt387.2) = true then (laws_FnFourSquaresDescend.j1 kj9 t358 t359 t366 t367 true) else ((laws_vSame.f kj9 bt383.1 bt387.1).bind fun t391 => (if t391 = true then (if bt383.2 = true then ((laws_vSquares.f kj9 bt383.1).bind fun t392 => ((laws_vSquares.f kj9 bt377.1).bind fun t393 => ((laws_vSquares.f kj9 bt377.2).bind fun t394 => (laws_FnFourSquaresDescend.j1 kj9 t358 t359 t366 t367 (t392 != (wrap64 (t393 * t394))))))) else (laws_FnFourSquaresDescend.j1 kj9 t358 t359 t366 t367 false)) else (laws_FnFourSquaresDescend.j1 kj9 t358 t359 t366 t367 true))))))) = some r := by rw [if_neg (show ¬ (false = true) by decide)] at H; exact H
     clear H
     have H := H1
     clear H1
     replace H := Option.bind_eq_some_iff.mp H
     obtain ⟨⟨t377, t378⟩, A350, H⟩ := H
     replace H : ((impl_MultiplyFour.f t377 t378).bind fun bt383 => ((spec_MultiplyFour.f kj9 t377 t378).bind fun bt387 => (if (bt383.2 != bt387.2) = true then (laws_FnFourSquaresDescend.j1 kj9 t358 t359 t366 t367 true) else ((laws_vSame.f kj9 bt383.1 bt387.1).bind fun t391 => (if t391 = true then (if bt383.2 = true then ((laws_vSquares.f kj9 bt383.1).bind fun t392 => ((laws_vSquares.f kj9 t377).bind fun t393 => ((laws_vSquares.f kj9 t378).bind fun t394 => (laws_FnFourSquaresDescend.j1 kj9 t358 t359 t366 t367 (t392 != (wrap64 (t393 * t394))))))) else (laws_FnFourSquaresDescend.j1 kj9 t358 t359 t366 t367 false)) else (laws_FnFourSquaresDescend.j1 kj9 t358 t359 t366 t367 true)))))) = some r := H
     have A35 := Aside0.mk A350
     clear A350
     replace H := Option.bind_eq_some_iff.mp H
     obtain ⟨⟨t383, t384⟩, A360, H⟩ := H
     replace H : ((spec_MultiplyFour.f kj9 t377 t378).bind fun bt387 => (if (t384 != bt387.2) = true then (laws_FnFourSquaresDescend.j1 kj9 t358 t359 t366 t367 true) else ((laws_vSame.f kj9 t383 bt387.1).bind fun t391 => (if t391 = true then (if t384 = true then ((laws_vSquares.f kj9 t383).bind fun t392 => ((laws_vSquares.f kj9 t377).bind fun t393 => ((laws_vSquares.f kj9 t378).bind fun t394 => (laws_FnFourSquaresDescend.j1 kj9 t358 t359 t366 t367 (t392 != (wrap64 (t393 * t394))))))) else (laws_FnFourSquaresDescend.j1 kj9 t358 t359 t366 t367 false)) else (laws_FnFourSquaresDescend.j1 kj9 t358 t359 t366 t367 true))))) = some r := H
     have A36 := Aside0.mk A360
     clear A360
     replace H := Option.bind_eq_some_iff.mp H
     obtain ⟨⟨t387, t388⟩, A370, H⟩ := H
     replace H : (if (t384 != t388) = true then (laws_FnFourSquaresDescend.j1 kj9 t358 t359 t366 t367 true) else ((laws_vSame.f kj9 t383 t387).bind fun t391 => (if t391 = true then (if t384 = true then ((laws_vSquares.f kj9 t383).bind fun t392 => ((laws_vSquares.f kj9 t377).bind fun t393 => ((laws_vSquares.f kj9 t378).bind fun t394 => (laws_FnFourSquaresDescend.j1 kj9 t358 t359 t366 t367 (t392 != (wrap64 (t393 * t394))))))) else (laws_FnFourSquaresDescend.j1 kj9 t358 t359 t366 t367 false)) else (laws_FnFourSquaresDescend.j1 kj9 t358 t359 t366 t367 true)))) = some r := H
     have A37 := Aside0.mk A370
     clear A370
     have HC38 := Aside0.mk H
     clear H
     go_upto_region 13 with (first | ((with_reducible refine gate_callee (f := 29) rfl ?_); refine goesL_ (some 75) rfl rfl Try.func29 (by kernel_rfl) rfl #[.slice A1 l1.length c1] rfl (by (try simp only [List.map_toArray, List.map_cons, List.map_nil]); first | done | rfl | (simp only [List.length_drop, List.length_take]; rfl)) ?_; (with_reducible refine (spec_DrawMultiplyFour.calls kj9 _ _ l1 t377 t378 _ ?side1 ?side2 A35.out).mono ?_); (case side1 => repeat (first | exact (Kd.C_below HR1.out HB.out) | (with_reducible refine Kd.C_alloc ?_ _) | (with_reducible refine Kd.C_drewN ?_ _) | (with_reducible refine Kd.C_drew ?_))); (case side2 => exact HC1.out); rintro e w39 ⟨v379, v381, rfl, ho0, ho1, hb⟩; refine ⟨_, rfl, ?_⟩; have n0_ := Aside0.mk (Kd.N_mono (Kd.N_told (Kd.N_told (Kd.N_old (by (with_reducible repeat (first | apply Kd.N_alloc | apply Kd.N_drewN | apply Kd.N_drew)); exact HO_6.out) hb) (Kd.R_base ho0)) (Kd.R_base ho1)) (fun _ h_ => h_.1)); have n1_ := Aside0.mk (Kd.R_mono (Kd.R_told (Kd.R_told (Kd.R_old (by (with_reducible repeat (first | apply Kd.R_alloc | apply Kd.R_drewN | apply Kd.R_drew)); exact HO_10.out) hb) (Kd.R_base ho0)) (Kd.R_base ho1)) (fun _ h_ => h_.1)); have n2_ := Aside0.mk (Kd.R_lower (Kd.R_new' ho0 (Kd.R_lt (by (with_reducible repeat (first | apply Kd.R_alloc | apply Kd.R_drewN | apply Kd.R_drew)); exact HO_10.out))) (below_size (by repeat (first | (with_reducible first | exact HB.out | apply below_alloc | apply pw_below_drewN | apply below_drew1) | exact HB.out | exact Below.refl _ _)))); have n3_ := Aside0.mk (Kd.R_lower (Kd.R_new' ho1 (Kd.R_lt (by (with_reducible repeat (first | apply Kd.R_alloc | apply Kd.R_drewN | apply Kd.R_drew)); exact HO_10.out))) (below_size (by repeat (first | (with_reducible first | exact HB.out | apply below_alloc | apply pw_below_drewN | apply below_drew1) | exact HB.out | exact Below.refl _ _)))); have n4_ := Aside0.mk (below_step (by repeat (first | (with_reducible first | exact HB.out | apply below_alloc | apply pw_below_drewN | apply below_drew1) | exact HB.out | exact Below.refl _ _)) hb); clear HO_6; clear HO_10; clear HB; have HO_6 := n0_; have HO_10 := n1_; have HO380 := n2_; have HO382 := n3_; have HB := n4_; clear n0_ n1_ n2_ n3_ n4_; (try clear hb); (try clear hb2); (try clear hk); (try clear hi); (try clear ho0); (try clear ho1); obtain ⟨Ao40, co40, eo40⟩ := Kd.R_slice HO380.out; subst eo40; obtain ⟨Ao41, co41, eo41⟩ := Kd.R_slice HO382.out; subst eo41) | ((with_reducible refine gate_callee (f := 30) rfl ?_); refine goesL_ (some 81) rfl rfl Try.func30 (by kernel_rfl) rfl #[.slice Ao40 t377.length co40, .slice Ao41 t378.length co41] rfl (by (try simp only [List.map_toArray, List.map_cons, List.map_nil]); first | done | rfl | (simp only [List.length_drop, List.length_take]; rfl)) ?_; (with_reducible refine (impl_MultiplyFour.calls _ _ t377 _ _ t378 t383 t384 _ ?side1 ?side2 ?side3 ?side4 A36.out).mono ?_); (case side1 => repeat (first | exact (Kd.R_reads' HO380.out).2.2 | (with_reducible refine Kd.C_alloc ?_ _) | (with_reducible refine Kd.C_drewN ?_ _) | (with_reducible refine Kd.C_drew ?_))); (case side2 => exact (Kd.R_reads' HO380.out).2.1); (case side3 => repeat (first | exact (Kd.R_reads' HO382.out).2.2 | (with_reducible refine Kd.C_alloc ?_ _) | (with_reducible refine Kd.C_drewN ?_ _) | (with_reducible refine Kd.C_drew ?_))); (case side4 => exact (Kd.R_reads' HO382.out).2.1); rintro e w42 ⟨v385, rfl, ho0, hb⟩; refine ⟨_, rfl, ?_⟩; have n0_ := Aside0.mk (Kd.N_elder' (by (with_reducible repeat (first | apply Kd.N_alloc | apply Kd.N_drewN | apply Kd.N_drew)); exact HO_6.out) (Kd.R_base ho0) hb); have n1_ := Aside0.mk (Kd.R_elder' (by (with_reducible repeat (first | apply Kd.R_alloc | apply Kd.R_drewN | apply Kd.R_drew)); exact HO_10.out) (Kd.R_base ho0) hb); have n2_ := Aside0.mk (Kd.R_elder' (by (with_reducible repeat (first | apply Kd.R_alloc | apply Kd.R_drewN | apply Kd.R_drew)); exact HO380.out) (Kd.R_base ho0) hb); have n3_ := Aside0.mk (Kd.R_elder' (by (with_reducible repeat (first | apply Kd.R_alloc | apply Kd.R_drewN | apply Kd.R_drew)); exact HO382.out) (Kd.R_base ho0) hb); have n4_ := Aside0.mk (Kd.R_lower (Kd.R_new' (Kd.R_new' (Kd.R_new' ho0 (Kd.R_lt (by (with_reducible repeat (first | apply Kd.R_alloc | apply Kd.R_drewN | apply Kd.R_drew)); exact HO_10.out))) (Kd.R_lt (by (with_reducible repeat (first | apply Kd.R_alloc | apply Kd.R_drewN | apply Kd.R_drew)); exact HO380.out))) (Kd.R_lt (by (with_reducible repeat (first | apply Kd.R_alloc | apply Kd.R_drewN | apply Kd.R_drew)); exact HO382.out))) (below_size (by repeat (first | (with_reducible first | exact HB.out | apply below_alloc | apply pw_below_drewN | apply below_drew1) | exact HB.out | exact Below.refl _ _)))); have n5_ := Aside0.mk (below_step (by repeat (first | (with_reducible first | exact HB.out | apply below_alloc | apply pw_below_drewN | apply below_drew1) | exact HB.out | exact Below.refl _ _)) hb); clear HO_6; clear HO_10; clear HO380; clear HO382; clear HB; have HO_6 := n0_; have HO_10 := n1_; have HO380 := n2_; have HO382 := n3_; have HO386 := n4_; have HB := n5_; clear n0_ n1_ n2_ n3_ n4_ n5_; (try clear hb); (try clear hb2); (try clear hk); (try clear hi); (try clear ho0)) | ((with_reducible refine gate_callee (f := 31) rfl ?_); refine goesL_ (some 87) rfl rfl Try.func31 (by kernel_rfl) rfl #[.slice Ao40 t377.length co40, .slice Ao41 t378.length co41] rfl (by (try simp only [List.map_toArray, List.map_cons, List.map_nil]); first | done | rfl | (simp only [List.length_drop, List.length_take]; rfl)) ?_; (with_reducible refine (spec_MultiplyFour.calls kj9 _ _ t377 _ _ t378 t387 t388 _ ?side1 ?side2 ?side3 ?side4 A37.out).mono ?_); (case side1 => repeat (first | exact (Kd.R_reads' HO380.out).2.2 | (with_reducible refine Kd.C_alloc ?_ _) | (with_reducible refine Kd.C_drewN ?_ _) | (with_reducible refine Kd.C_drew ?_))); (case side2 => exact (Kd.R_reads' HO380.out).2.1); (case side3 => repeat (first | exact (Kd.R_reads' HO382.out).2.2 | (with_reducible refine Kd.C_alloc ?_ _) | (with_reducible refine Kd.C_drewN ?_ _) | (with_reducible refine Kd.C_drew ?_))); (case side4 => exact (Kd.R_reads' HO382.out).2.1); rintro e w43 ⟨v389, rfl, ho0, hb⟩; refine ⟨_, rfl, ?_⟩; have n0_ := Aside0.mk (Kd.N_elder' (by (with_reducible repeat (first | apply Kd.N_alloc | apply Kd.N_drewN | apply Kd.N_drew)); exact HO_6.out) (Kd.R_base ho0) hb); have n1_ := Aside0.mk (Kd.R_elder' (by (with_reducible repeat (first | apply Kd.R_alloc | apply Kd.R_drewN | apply Kd.R_drew)); exact HO_10.out) (Kd.R_base ho0) hb); have n2_ := Aside0.mk (Kd.R_elder' (by (with_reducible repeat (first | apply Kd.R_alloc | apply Kd.R_drewN | apply Kd.R_drew)); exact HO380.out) (Kd.R_base ho0) hb); have n3_ := Aside0.mk (Kd.R_elder' (by (with_reducible repeat (first | apply Kd.R_alloc | apply Kd.R_drewN | apply Kd.R_drew)); exact HO382.out) (Kd.R_base ho0) hb); have n4_ := Aside0.mk (Kd.R_elder' (by (with_reducible repeat (first | apply Kd.R_alloc | apply Kd.R_drewN | apply Kd.R_drew)); exact HO386.out) (Kd.R_base ho0) hb); have n5_ := Aside0.mk (Kd.R_lower (Kd.R_new' (Kd.R_new' (Kd.R_new' (Kd.R_new' ho0 (Kd.R_lt (by (with_reducible repeat (first | apply Kd.R_alloc | apply Kd.R_drewN | apply Kd.R_drew)); exact HO_10.out))) (Kd.R_lt (by (with_reducible repeat (first | apply Kd.R_alloc | apply Kd.R_drewN | apply Kd.R_drew)); exact HO380.out))) (Kd.R_lt (by (with_reducible repeat (first | apply Kd.R_alloc | apply Kd.R_drewN | apply Kd.R_drew)); exact HO382.out))) (Kd.R_lt (by (with_reducible repeat (first | apply Kd.R_alloc | apply Kd.R_drewN | apply Kd.R_drew)); exact HO386.out))) (below_size (by repeat (first | (with_reducible first | exact HB.out | apply below_alloc | apply pw_below_drewN | apply below_drew1) | exact HB.out | exact Below.refl _ _)))); have n6_ := Aside0.mk (below_step (by repeat (first | (with_reducible first | exact HB.out | apply below_alloc | apply pw_below_drewN | apply below_drew1) | exact HB.out | exact Below.refl _ _)) hb); clear HO_6; clear HO_10; clear HO380; clear HO382; clear HO386; clear HB; have HO_6 := n0_; have HO_10 := n1_; have HO380 := n2_; have HO382 := n3_; have HO386 := n4_; have HO390 := n5_; have HB := n6_; clear n0_ n1_ n2_ n3_ n4_ n5_ n6_; (try clear hb); (try clear hb2); (try clear hk); (try clear hi); (try clear ho0)))
     (try simp only [Act.put, List.setIfInBounds_toArray, List.set_cons_zero, List.set_cons_succ])
     go_cut [111] (fun v111 wc => ∃ (kq : Nat) (x111_37 : Bool), v111 = .bool x111_37 ∧ Aside0 (laws_FnFourSquaresDescend.j1 kq t358 t359 t366 t367 x111_37 = some r) ∧ Aside0 (kq ≤ kj9) ∧ Aside0 (Kd.N (Kd.slice 3 (Kd.int .i64)) 35 wc w.heap.size (fun k_ => some k_ ≠ (v369 : Value).ownBlock) v361 t359) ∧ Aside0 (Kd.R (Kd.int .i64) 3 wc w.heap.size (fun _ => True) v369 t367) ∧ Aside0 (Below w.heap.size w wc))
     case first =>
      have H := HC38.out
      clear HC38
      by_cases c44 : (t384 != t388) = true
      ·
       rw [if_pos c44] at H
       exact absurd (H.trans (congrArg some hrT)) (fun h_ => laws_FnFourSquaresDescend.j1_no h_)
      ·
       rw [if_neg c44] at H
       have c44b0 : (t384 != t388) = false := by simpa using c44
       (try (have c44b1 : decide (t384 = t388) = true := by simpa using c44))
       (try (have c44b2 : (t384 == t388) = true := by simpa using c44))
       clear c44
       (first | rw [c44b0] | (simp only [i64_w, i32_w]; rw [c44b0]) | skip)
       replace H := Option.bind_eq_some_iff.mp H
       obtain ⟨t391, A450, H⟩ := H
       replace H : (if t391 = true then (if t384 = true then ((laws_vSquares.f kj9 t383).bind fun t392 => ((laws_vSquares.f kj9 t377).bind fun t393 => ((laws_vSquares.f kj9 t378).bind fun t394 => (laws_FnFourSquaresDescend.j1 kj9 t358 t359 t366 t367 (t392 != (wrap64 (t393 * t394))))))) else (laws_FnFourSquaresDescend.j1 kj9 t358 t359 t366 t367 false)) else (laws_FnFourSquaresDescend.j1 kj9 t358 t359 t366 t367 true)) = some r := H
       have A45 := Aside0.mk A450
       clear A450
       by_cases c46 : t391 = true
       ·
        subst c46
        have H1 : (if t384 = true then ((laws_vSquares.f kj9 t383).bind fun t392 => ((laws_vSquares.f kj9 t377).bind fun t393 => ((laws_vSquares.f kj9 t378).bind fun t394 => (laws_FnFourSquaresDescend.j1 kj9 t358 t359 t366 t367 (t392 != (wrap64 (t393 * t394))))))) else (laws_FnFourSquaresDescend.j1 kj9 t358 t359 t366 t367 false)) = some r := by rw [if_pos rfl] at H; exact H
        clear H
        have H := H1
        clear H1
        by_cases c47 : t384 = true
        ·
         subst c47
         have H1 : ((laws_vSquares.f kj9 t383).bind fun t392 => ((laws_vSquares.f kj9 t377).bind fun t393 => ((laws_vSquares.f kj9 t378).bind fun t394 => (laws_FnFourSquaresDescend.j1 kj9 t358 t359 t366 t367 (t392 != (wrap64 (t393 * t394))))))) = some r := by rw [if_pos rfl] at H; exact H
         clear H
         have H := H1
         clear H1
         replace H := Option.bind_eq_some_iff.mp H
         obtain ⟨t392, A480, H⟩ := H
         replace H : ((laws_vSquares.f kj9 t377).bind fun t393 => ((laws_vSquares.f kj9 t378).bind fun t394 => (laws_FnFourSquaresDescend.j1 kj9 t358 t359 t366 t367 (t392 != (wrap64 (t393 * t394)))))) = some r := H
         have A48 := Aside0.mk A480
         clear A480
         replace H := Option.bind_eq_some_iff.mp H
         obtain ⟨t393, A490, H⟩ := H
         replace H : ((laws_vSquares.f kj9 t378).bind fun t394 => (laws_FnFourSquaresDescend.j1 kj9 t358 t359 t366 t367 (t392 != (wrap64 (t393 * t394))))) = some r := H
         have A49 := Aside0.mk A490
         clear A490
         replace H := Option.bind_eq_some_iff.mp H
         obtain ⟨t394, A500, H⟩ := H
         replace H : (laws_FnFourSquaresDescend.j1 kj9 t358 t359 t366 t367 (t392 != (wrap64 (t393 * t394)))) = some r := H
         have A50 := Aside0.mk A500
         clear A500
         have H' := Aside0.mk H
         clear H
         obtain ⟨Ao51, co51, eo51⟩ := Kd.R_slice HO386.out
         subst eo51
         obtain ⟨Ao52, co52, eo52⟩ := Kd.R_slice HO390.out
         subst eo52
         go_wp2_with (first | (go_at_call 25; (with_reducible refine (laws_vSame.calls kj9 _ _ t383 _ _ t387 true _ ?side1 ?side2 ?side3 ?side4 A45.out).mono ?_); (case side1 => repeat (first | exact (Kd.R_reads' HO386.out).2.2 | (with_reducible refine Kd.C_alloc ?_ _) | (with_reducible refine Kd.C_drewN ?_ _) | (with_reducible refine Kd.C_drew ?_))); (case side2 => exact (Kd.R_reads' HO386.out).2.1); (case side3 => repeat (first | exact (Kd.R_reads' HO390.out).2.2 | (with_reducible refine Kd.C_alloc ?_ _) | (with_reducible refine Kd.C_drewN ?_ _) | (with_reducible refine Kd.C_drew ?_))); (case side4 => exact (Kd.R_reads' HO390.out).2.1); rintro e w' ⟨rfl, ⟨nd, rfl⟩⟩) | (go_at_call 32; (with_reducible refine (laws_vSquares.calls kj9 _ _ t383 t392 _ ?side1 ?side2 A48.out).mono ?_); (case side1 => repeat (first | exact (Kd.R_reads' HO386.out).2.2 | (with_reducible refine Kd.C_alloc ?_ _) | (with_reducible refine Kd.C_drewN ?_ _) | (with_reducible refine Kd.C_drew ?_))); (case side2 => exact (Kd.R_reads' HO386.out).2.1); rintro e w' ⟨rfl, ⟨nd, rfl⟩⟩) | (go_at_call 32; (with_reducible refine (laws_vSquares.calls kj9 _ _ t377 t393 _ ?side1 ?side2 A49.out).mono ?_); (case side1 => repeat (first | exact (Kd.R_reads' HO380.out).2.2 | (with_reducible refine Kd.C_alloc ?_ _) | (with_reducible refine Kd.C_drewN ?_ _) | (with_reducible refine Kd.C_drew ?_))); (case side2 => exact (Kd.R_reads' HO380.out).2.1); rintro e w' ⟨rfl, ⟨nd, rfl⟩⟩) | (go_at_call 32; (with_reducible refine (laws_vSquares.calls kj9 _ _ t378 t394 _ ?side1 ?side2 A50.out).mono ?_); (case side1 => repeat (first | exact (Kd.R_reads' HO382.out).2.2 | (with_reducible refine Kd.C_alloc ?_ _) | (with_reducible refine Kd.C_drewN ?_ _) | (with_reducible refine Kd.C_drew ?_))); (case side2 => exact (Kd.R_reads' HO382.out).2.1); rintro e w' ⟨rfl, ⟨nd, rfl⟩⟩))
         go_meet
         case rel => exact ⟨_, ((t392 != (wrap64 (t393 * t394)))), (by first | rfl | (simp; done) | (simp [*]; done)), H', ⟨by have := HJ9.out; first | omega | exact Nat.le_refl _⟩, ⟨by (with_reducible repeat (first | apply Kd.N_alloc | apply Kd.N_drewN | apply Kd.N_drew)); exact Kd.N_mono HO_6.out (fun _ hk => hk.1.1.1.1)⟩, ⟨by (with_reducible repeat (first | apply Kd.R_alloc | apply Kd.R_drewN | apply Kd.R_drew)); exact Kd.R_mono HO_10.out (fun _ hk => trivial)⟩, ⟨by repeat (first | (with_reducible first | exact HB.out | apply below_alloc | apply pw_below_drewN | apply below_drew1) | exact HB.out | exact Below.refl _ _)⟩⟩
        ·
         replace c47 := Bool.eq_false_iff.mpr c47
         subst c47
         have H1 : (laws_FnFourSquaresDescend.j1 kj9 t358 t359 t366 t367 false) = some r := by rw [if_neg (show ¬ (false = true) by decide)] at H; exact H
         clear H
         have H := H1
         clear H1
         have H' := Aside0.mk H
         clear H
         obtain ⟨Ao53, co53, eo53⟩ := Kd.R_slice HO386.out
         subst eo53
         obtain ⟨Ao54, co54, eo54⟩ := Kd.R_slice HO390.out
         subst eo54
         go_wp2_with (first | (go_at_call 25; (with_reducible refine (laws_vSame.calls kj9 _ _ t383 _ _ t387 true _ ?side1 ?side2 ?side3 ?side4 A45.out).mono ?_); (case side1 => repeat (first | exact (Kd.R_reads' HO386.out).2.2 | (with_reducible refine Kd.C_alloc ?_ _) | (with_reducible refine Kd.C_drewN ?_ _) | (with_reducible refine Kd.C_drew ?_))); (case side2 => exact (Kd.R_reads' HO386.out).2.1); (case side3 => repeat (first | exact (Kd.R_reads' HO390.out).2.2 | (with_reducible refine Kd.C_alloc ?_ _) | (with_reducible refine Kd.C_drewN ?_ _) | (with_reducible refine Kd.C_drew ?_))); (case side4 => exact (Kd.R_reads' HO390.out).2.1); rintro e w' ⟨rfl, ⟨nd, rfl⟩⟩))
         go_meet
         case rel => exact ⟨_, (false), (by first | rfl | (simp; done) | (simp [*]; done)), H', ⟨by have := HJ9.out; first | omega | exact Nat.le_refl _⟩, ⟨by (with_reducible repeat (first | apply Kd.N_alloc | apply Kd.N_drewN | apply Kd.N_drew)); exact Kd.N_mono HO_6.out (fun _ hk => hk.1.1.1.1)⟩, ⟨by (with_reducible repeat (first | apply Kd.R_alloc | apply Kd.R_drewN | apply Kd.R_drew)); exact Kd.R_mono HO_10.out (fun _ hk => trivial)⟩, ⟨by repeat (first | (with_reducible first | exact HB.out | apply below_alloc | apply pw_below_drewN | apply below_drew1) | exact HB.out | exact Below.refl _ _)⟩⟩
       ·
        replace c46 := Bool.eq_false_iff.mpr c46
        subst c46
        have H1 : (laws_FnFourSquaresDescend.j1 kj9 t358 t359 t366 t367 true) = some r := by rw [if_neg (show ¬ (false = true) by decide)] at H; exact H
        exact absurd (H1.trans (congrArg some hrT)) (fun h_ => laws_FnFourSquaresDescend.j1_no h_)
     case rest =>
      clear HC38
      try clear c1
      try clear c2
      try clear p2
      try clear c3
      try clear c4
      try clear c5
      try clear p6
      try clear c8
      try clear c9
      try clear c13
      try clear c16
      try clear c16b0
      try clear c16b1
      try clear c16b2
      try clear c18
      try clear c19
      try clear c19b0
      try clear c19b1
      try clear c19b2
      try clear c23
      try clear c26
      try clear c27
      try clear c28
      try clear c29
      try clear c30
      try clear c31
      try clear c34
      try clear c44
      try clear c44b0
      try clear c44b1
      try clear c44b2
      try clear c46
      try clear c47
      try clear p2
      obtain ⟨kq, x111_37, rfl, HA, HJ37, HO_6, HO_10, HB⟩ := hcut
      cases kq with
      | zero => exact absurd HA.out (by simp [laws_FnFourSquaresDescend.j1])
      | succ kj37 =>
       have H := HA.out
       clear HA
       simp only [laws_FnFourSquaresDescend.j1] at H
       by_cases c57 : x111_37 = true
       ·
        subst c57
        have H1 : (some false) = some r := by rw [if_pos rfl] at H; exact H
        exact absurd (H1.trans (congrArg some hrT)) (by simp)
       ·
        replace c57 := Bool.eq_false_iff.mpr c57
        subst c57
        have H1 : (if t366 = true then (if 0 < (t359.length : Int) then (if 4 ≤ ((rd_L1 t359 0).length : Int) then ((laws_vSame.f kj37 ((rd_L1 t359 0).take 4) t367).bind fun t401 => (if t401 = true then (laws_FnFourSquaresDescend.l0 kj37 t358 t359 t359 (t359.length : Int) 0) else (some false))) else (none)) else (none)) else (some true)) = some r := by rw [if_neg (show ¬ (false = true) by decide)] at H; exact H
        clear H
        have H := H1
        clear H1
        by_cases c58 : t366 = true
        ·
         subst c58
         have H1 : (if 0 < (t359.length : Int) then (if 4 ≤ ((rd_L1 t359 0).length : Int) then ((laws_vSame.f kj37 ((rd_L1 t359 0).take 4) t367).bind fun t401 => (if t401 = true then (laws_FnFourSquaresDescend.l0 kj37 t358 t359 t359 (t359.length : Int) 0) else (some false))) else (none)) else (none)) = some r := by rw [if_pos rfl] at H; exact H
         clear H
         have H := H1
         clear H1
         by_cases c59 : 0 < (t359.length : Int)
         ·
          rw [if_pos c59] at H
          have c59b0 : decide (0 < (t359.length : Int)) = true := decide_eq_true c59
          have c59b1 : decide (0 < t359.length) = true := decide_eq_true (by omega)
          clear c59
          by_cases c60 : 4 ≤ ((rd_L1 t359 0).length : Int)
          ·
           rw [if_pos c60] at H
           have c60b0 := eq_true c60
           have c60b1 : decide (4 ≤ ((rd_L1 t359 0).length : Int)) = true := decide_eq_true c60
           clear c60
           obtain ⟨y396, hy396⟩ : ∃ y_ : List Int, y_ = ((rd_L1 t359 0).take 4) := ⟨_, rfl⟩
           replace H : ((laws_vSame.f kj37 y396 t367).bind fun t401 => (if t401 = true then (laws_FnFourSquaresDescend.l0 kj37 t358 t359 t359 (t359.length : Int) 0) else (some false))) = some r := by first | (rw [hy396]; with_reducible exact H) | (have H2_ := (Option.bind_some _ _).symm.trans H; rw [hy396]; with_reducible exact H2_) | (have H2_ := (Option.bind_some _ _).symm.trans H; with_reducible exact H2_) | with_reducible exact H | (rw [hy396]; exact H) | exact H
           have Ny396 := Aside0.mk hy396
           clear hy396
           replace H := Option.bind_eq_some_iff.mp H
           obtain ⟨t401, A610, H⟩ := H
           replace H : (if t401 = true then (laws_FnFourSquaresDescend.l0 kj37 t358 t359 t359 (t359.length : Int) 0) else (some false)) = some r := H
           have A61 := Aside0.mk A610
           clear A610
           by_cases c62 : t401 = true
           ·
            subst c62
            have H1 : (laws_FnFourSquaresDescend.l0 kj37 t358 t359 t359 (t359.length : Int) 0) = some r := by rw [if_pos rfl] at H; exact H
            clear H
            have H := H1
            clear H1
            have H' := Aside0.mk H
            clear H
            obtain ⟨Ao63, co63, eo63⟩ := Kd.N_slice HO_6.out
            subst eo63
            have p395 : 0 ≤ (0 : Int) := (by omega)
            have q395 : 0 < (t359.length : Int) := of_decide_eq_true (by first | (with_reducible assumption) | assumption)
            obtain ⟨ad395, A395_0, c395_0, e395, hx395_0, hl395_0, hi395_0⟩ := at_L1 (Kd.N_reads' HO_6.out).2.2 0 p395 q395
            cases e395
            obtain ⟨ce395, hce395, hMe395, hcc395⟩ := Kd.N_get HO_6.out [] 0 p395 (by first | exact q395 | exact of_decide_eq_true (by first | (with_reducible assumption) | assumption) | (have e_ := (Kd.N_reads' HO_6.out).1; omega))
            obtain ⟨ua395_0, uc395_0, rfl, ul395_0, ge395_0⟩ := Kd.FK_slice_open hMe395
            have hv395_0 := hcc395 0 _ rfl
            rw [Nat.add_zero, show ((Kd.slice 3 (Kd.int .i64))).sz = 1 from rfl, Nat.mul_one] at hv395_0
            replace hv395_0 := Option.some.inj (hv395_0.symm.trans hx395_0)
            injection hv395_0 with hva_ hvn_ hvc_
            rw [hva_] at ge395_0
            rw [hvc_] at ul395_0
            have HL395_0 := Aside0.mk (show Kd.V (Kd.int .i64) 3 _ w.heap.size _ _ (rd_L1 t359 0) from Kd.V_mk ul395_0 ge395_0)
            clear hva_ hvn_ hvc_ ge395_0 ul395_0
            clear hcc395 hce395
            have qi395 : (0 < t359.length) = True := eq_true (by omega)
            (try rw [show ((0 : Int)).toNat = 0 from rfl] at hx395_0)
            (try rw [Addr.add_zero'] at hx395_0)
            have HR395_0 := Aside0.mk hi395_0
            have HC395_0 := Aside0.mk hl395_0
            clear hi395_0 hl395_0
            replace p395 := eq_true p395
            replace q395 := eq_true q395
            have q64 : (4 : Int) ≤ (((rd_L1 t359 0).length : Int) : Int) := of_decide_eq_true (by first | (with_reducible assumption) | assumption)
            obtain ⟨i064, hi064, _, hsz64, _⟩ := info_parts info3
            have hroom64 : (rd_L1 t359 0).length ≤ c395_0 := HC395_0.out
            have hC64 : Kd.F (Kd.int .i64) _ _ A395_0 (rd_L1 t359 0).length (rd_L1 t359 0) := (Kd.V_at (base := w.heap.size) HL395_0.out).2.2
            have hcut64 := cut_to (P := Try.prog) 35 3 .i64 Try.underlying35 hi064 A395_0 (rd_L1 t359 0).length c395_0 4 (by omega) q64 hroom64
            have hr64 := Kd.F_take (m := 4) hC64 (by omega)
            have hy64 : y396.length = (4 : Int).toNat := (by rw [Ny396.out, List.length_take]; omega)
            rw [← Ny396.out] at hr64
            rw [← hy64] at hcut64
            have HO400 := Aside0.mk (show Kd.V (Kd.int .i64) 3 _ w.heap.size _ (.slice A395_0 y396.length c395_0) y396 from Kd.V_mk (by omega) hr64)
            have HC400 := Aside0.mk (show y396.length ≤ c395_0 from by omega)
            clear hr64 hC64 hroom64 hi064 hsz64
            have KY64 := Aside0.mk hy64
            clear hy64
            replace q64 := eq_true q64
            obtain ⟨Ao65, co65, eo65⟩ := Kd.R_slice HO_10.out
            subst eo65
            go_wp2_with (first | ((with_reducible refine gate_callee (f := 25) rfl ?_); refine goesL_ (some 119) rfl rfl Try.func25 (by kernel_rfl) rfl #[.slice A395_0 y396.length c395_0, .slice Ao65 t367.length co65] rfl (by (try simp only [List.map_toArray, List.map_cons, List.map_nil]); first | done | rfl | (simp only [List.length_drop, List.length_take]; rfl)) ?_; (with_reducible refine (laws_vSame.calls kj37 _ _ y396 _ _ t367 true _ ?side1 ?side2 ?side3 ?side4 A61.out).mono ?_); (case side1 => repeat (first | exact (Kd.V_reads' HO400.out).2.2 | (with_reducible refine Kd.C_alloc ?_ _) | (with_reducible refine Kd.C_drewN ?_ _) | (with_reducible refine Kd.C_drew ?_))); (case side2 => exact (Kd.V_reads' HO400.out).2.1); (case side3 => repeat (first | exact (Kd.R_reads' HO_10.out).2.2 | (with_reducible refine Kd.C_alloc ?_ _) | (with_reducible refine Kd.C_drewN ?_ _) | (with_reducible refine Kd.C_drew ?_))); (case side4 => exact (Kd.R_reads' HO_10.out).2.1); rintro e w' ⟨rfl, ⟨nd, rfl⟩⟩; refine ⟨_, rfl, ?_⟩))
            go_loopg [123] kj37 (fun kq v123 w' => ∃ (x123_3 : Int), v123 = .int .i64 x123_3 ∧ Aside0 (laws_FnFourSquaresDescend.l0 kq t358 t359 t359 (t359.length : Int) x123_3 = some r) ∧ Aside0 (kq ≤ kj37) ∧ Aside0 (Kd.N (Kd.slice 3 (Kd.int .i64)) 35 w' w.heap.size (fun _ => True) (.slice (some ad395) t359.length co63) t359) ∧ Aside0 (Kd.N (Kd.slice 3 (Kd.int .i64)) 35 w' w.heap.size (fun _ => True) (.slice (some ad395) t359.length co63) t359) ∧ Aside0 (Kd.C (Kd.int .i64) w' A395_0 (rd_L1 t359 0).length (rd_L1 t359 0)) ∧ Aside0 (Below w.heap.size w w'))
            case atStart => exact ⟨(0), (by first | rfl | (simp; done) | (simp [*]; done)), H', ⟨Nat.le_refl _⟩, ⟨by (with_reducible repeat (first | apply Kd.N_alloc | apply Kd.N_drewN | apply Kd.N_drew)); exact Kd.N_mono HO_6.out (fun _ hk => trivial)⟩, ⟨by (with_reducible repeat (first | apply Kd.N_alloc | apply Kd.N_drewN | apply Kd.N_drew)); exact Kd.N_mono HO_6.out (fun _ hk => trivial)⟩, ⟨by repeat (first | (with_reducible exact HR395_0.out) | (with_reducible refine Kd.C_alloc ?_ _) | (with_reducible refine Kd.C_drewN ?_ _) | (with_reducible refine Kd.C_drew ?_) | exact HR395_0.out)⟩, ⟨by repeat (first | (with_reducible first | exact HB.out | apply below_alloc | apply pw_below_drewN | apply below_drew1) | exact HB.out | exact Below.refl _ _)⟩⟩
            case round =>
             clear H'
             try clear c1
             try clear c2
             try clear p2
             try clear c3
             try clear p3
             try clear q3
             try clear hx3
             try clear qi3
             try clear c4
             try clear c5
             try clear c6
             try clear p6
             try clear q6
             try clear c8
             try clear c9
             try clear c13
             try clear c16
             try clear c16b0
             try clear c16b1
             try clear c16b2
             try clear c18
             try clear c19
             try clear c19b0
             try clear c19b1
             try clear c19b2
             try clear c23
             try clear c25
             try clear c26
             try clear c27
             try clear c28
             try clear c29
             try clear c30
             try clear c31
             try clear c34
             try clear c39
             try clear p39
             try clear q39
             try clear hx39
             try clear qi39
             try clear c44
             try clear c44b0
             try clear c44b1
             try clear c44b2
             try clear c46
             try clear c47
             try clear c57
             try clear c58
             try clear c59
             try clear c59b0
             try clear c59b1
             try clear c60
             try clear c60b0
             try clear c60b1
             try clear c62
             try clear p64
             try clear q64
             try clear hx395_0
             try clear p2
             try clear p395
             try clear p6
             try clear q395
             try clear q64
             obtain ⟨x123_3, rfl, HA, HK3, HO_6, HO_121, HR395_0, HB⟩ := hrel
             cases gk with
             | zero => exact absurd HA.out (by simp [laws_FnFourSquaresDescend.l0])
             | succ k3 =>
              have H := HA.out
              clear HA
              simp only [laws_FnFourSquaresDescend.l0] at H
              by_cases c66 : x123_3 < (t359.length : Int)
              ·
               rw [if_pos c66] at H
               have c66b0 : decide (x123_3 < (t359.length : Int)) = true := decide_eq_true c66
               clear c66
               by_cases c67 : 0 ≤ x123_3
               ·
                rw [if_pos c67] at H
                have c67b0 : decide (0 ≤ x123_3) = true := decide_eq_true c67
                clear c67
                by_cases c68 : x123_3 < (t359.length : Int)
                ·
                 rw [if_pos c68] at H
                 have c68b0 : decide (x123_3 < (t359.length : Int)) = true := decide_eq_true c68
                 clear c68
                 by_cases c69 : 4 < ((rd_L1 t359 x123_3).length : Int)
                 ·
                  rw [if_pos c69] at H
                  have c69b0 : decide (4 < ((rd_L1 t359 x123_3).length : Int)) = true := decide_eq_true c69
                  have c69b1 : decide (4 < (rd_L1 t359 x123_3).length) = true := decide_eq_true (by omega)
                  clear c69
                  by_cases c70 : ((rd_L1 t359 x123_3).length : Int) = 5
                  ·
                   rw [if_pos c70] at H
                   have c70b0 : (((rd_L1 t359 x123_3).length : Int) == 5) = true := beq_iff_eq.mpr c70
                   have c70b1 : (((rd_L1 t359 x123_3).length : Int) != 5) = false := bne_eq_false_iff_eq.mpr c70
                   clear c70
                   by_cases c71 : 4 ≤ ((rd_L1 t359 x123_3).length : Int)
                   ·
                    rw [if_pos c71] at H
                    have c71b0 := eq_true c71
                    have c71b1 : decide (4 ≤ ((rd_L1 t359 x123_3).length : Int)) = true := decide_eq_true c71
                    clear c71
                    obtain ⟨y404, hy404⟩ : ∃ y_ : List Int, y_ = ((rd_L1 t359 x123_3).take 4) := ⟨_, rfl⟩
                    replace H : ((laws_vSquares.f k3 y404).bind fun t409 => (if t409 = (wrap64 ((rd (rd_L1 t359 x123_3) 4) * t358)) then (if x123_3 > 0 then (if 0 ≤ (wrap64 (x123_3 - 1)) then (if (wrap64 (x123_3 - 1)) < (t359.length : Int) then (if 4 < ((rd_L1 t359 (wrap64 (x123_3 - 1))).length : Int) then (if (rd (rd_L1 t359 x123_3) 4) ≥ (rd (rd_L1 t359 (wrap64 (x123_3 - 1))) 4) then (some false) else (if (((rd (rd_L1 t359 x123_3) 4) == 1) != (x123_3 == (wrap64 ((t359.length : Int) - 1)))) = true then (some false) else (laws_FnFourSquaresDescend.l0 k3 t358 t359 t359 (t359.length : Int) (wrap64 (x123_3 + 1))))) else (none)) else (none)) else (none)) else (if (((rd (rd_L1 t359 x123_3) 4) == 1) != (x123_3 == (wrap64 ((t359.length : Int) - 1)))) = true then (some false) else (laws_FnFourSquaresDescend.l0 k3 t358 t359 t359 (t359.length : Int) (wrap64 (x123_3 + 1))))) else (some false))) = some r := by first | (rw [hy404]; with_reducible exact H) | (have H2_ := (Option.bind_some _ _).symm.trans H; rw [hy404]; with_reducible exact H2_) | (have H2_ := (Option.bind_some _ _).symm.trans H; with_reducible exact H2_) | with_reducible exact H | (rw [hy404]; exact H) | exact H
                    have Ny404 := Aside0.mk hy404
                    clear hy404
                    replace H := Option.bind_eq_some_iff.mp H
                    obtain ⟨t409, A720, H⟩ := H
                    replace H : (if t409 = (wrap64 ((rd (rd_L1 t359 x123_3) 4) * t358)) then (if x123_3 > 0 then (if 0 ≤ (wrap64 (x123_3 - 1)) then (if (wrap64 (x123_3 - 1)) < (t359.length : Int) then (if 4 < ((rd_L1 t359 (wrap64 (x123_3 - 1))).length : Int) then (if (rd (rd_L1 t359 x123_3) 4) ≥ (rd (rd_L1 t359 (wrap64 (x123_3 - 1))) 4) then (some false) else (if (((rd (rd_L1 t359 x123_3) 4) == 1) != (x123_3 == (wrap64 ((t359.length : Int) - 1)))) = true then (some false) else (laws_FnFourSquaresDescend.l0 k3 t358 t359 t359 (t359.length : Int) (wrap64 (x123_3 + 1))))) else (none)) else (none)) else (none)) else (if (((rd (rd_L1 t359 x123_3) 4) == 1) != (x123_3 == (wrap64 ((t359.length : Int) - 1)))) = true then (some false) else (laws_FnFourSquaresDescend.l0 k3 t358 t359 t359 (t359.length : Int) (wrap64 (x123_3 + 1))))) else (some false)) = some r := H
                    have A72 := Aside0.mk A720
                    clear A720
                    by_cases c73 : t409 = (wrap64 ((rd (rd_L1 t359 x123_3) 4) * t358))
                    ·
                     rw [if_pos c73] at H
                     have c73b0 : (t409 == (wrap64 ((rd (rd_L1 t359 x123_3) 4) * t358))) = true := beq_iff_eq.mpr c73
                     have c73b1 : (t409 != (wrap64 ((rd (rd_L1 t359 x123_3) 4) * t358))) = false := bne_eq_false_iff_eq.mpr c73
                     clear c73
                     by_cases c74 : x123_3 > 0
                     ·
                      rw [if_pos c74] at H
                      have c74b0 : decide (0 < x123_3) = true := decide_eq_true c74
                      clear c74
                      obtain ⟨ji75, hji75⟩ : ∃ j_ : Int, (wrap64 (x123_3 - 1)) = j_ := ⟨_, rfl⟩
                      replace H : (if 0 ≤ (ji75) then (if (ji75) < (t359.length : Int) then (if 4 < ((rd_L1 t359 (ji75)).length : Int) then (if (rd (rd_L1 t359 x123_3) 4) ≥ (rd (rd_L1 t359 (ji75)) 4) then (some false) else (if (((rd (rd_L1 t359 x123_3) 4) == 1) != (x123_3 == (wrap64 ((t359.length : Int) - 1)))) = true then (some false) else (laws_FnFourSquaresDescend.l0 k3 t358 t359 t359 (t359.length : Int) (wrap64 (x123_3 + 1))))) else (none)) else (none)) else (none)) = some r := by first | (rw [hji75] at H; exact H) | (simp only [hji75] at H ⊢; exact H)
                      (try rw [hji75] at A72)
                      have hji75w : (IntKind.i64.wrap (x123_3 - 1)) = ji75 := (i64_w _).trans hji75
                      by_cases c76 : 0 ≤ (ji75)
                      ·
                       rw [if_pos c76] at H
                       have c76b0 : decide (0 ≤ (ji75)) = true := decide_eq_true c76
                       clear c76
                       by_cases c77 : (ji75) < (t359.length : Int)
                       ·
                        rw [if_pos c77] at H
                        have c77b0 : decide ((ji75) < (t359.length : Int)) = true := decide_eq_true c77
                        clear c77
                        by_cases c78 : 4 < ((rd_L1 t359 (ji75)).length : Int)
                        ·
                         rw [if_pos c78] at H
                         have c78b0 : decide (4 < ((rd_L1 t359 (ji75)).length : Int)) = true := decide_eq_true c78
                         have c78b1 : decide (4 < (rd_L1 t359 (ji75)).length) = true := decide_eq_true (by omega)
                         clear c78
                         by_cases c79 : (rd (rd_L1 t359 x123_3) 4) ≥ (rd (rd_L1 t359 (ji75)) 4)
                         ·
                          rw [if_pos c79] at H
                          exact absurd (H.trans (congrArg some hrT)) (by simp)
                         ·
                          rw [if_neg c79] at H
                          have c79b0 : decide ((rd (rd_L1 t359 (ji75)) 4) ≤ (rd (rd_L1 t359 x123_3) 4)) = false := decide_eq_false c79
                          clear c79
                          by_cases c81 : (((rd (rd_L1 t359 x123_3) 4) == 1) != (x123_3 == (wrap64 ((t359.length : Int) - 1)))) = true
                          ·
                           rw [if_pos c81] at H
                           exact absurd (H.trans (congrArg some hrT)) (by simp)
                          ·
                           rw [if_neg c81] at H
                           have c81b0 : (((rd (rd_L1 t359 x123_3) 4) == 1) != (x123_3 == (wrap64 ((t359.length : Int) - 1)))) = false := by simpa using c81
                           (try (have c81b1 : decide (((rd (rd_L1 t359 x123_3) 4) == 1) = (x123_3 == (wrap64 ((t359.length : Int) - 1)))) = true := by simpa using c81))
                           (try (have c81b2 : (((rd (rd_L1 t359 x123_3) 4) == 1) == (x123_3 == (wrap64 ((t359.length : Int) - 1)))) = true := by simpa using c81))
                           clear c81
                           have H' := Aside0.mk H
                           clear H
                           have p402 : 0 ≤ (x123_3 : Int) := of_decide_eq_true (by first | (with_reducible assumption) | assumption)
                           have q402 : x123_3 < (t359.length : Int) := of_decide_eq_true (by first | (with_reducible assumption) | assumption)
                           obtain ⟨ad402, A402_0, c402_0, e402, hx402_0, hl402_0, hi402_0⟩ := at_L1 (Kd.N_reads' HO_121.out).2.2 x123_3 p402 q402
                           obtain rfl : ad395 = ad402 := (by injection e402)
                           obtain ⟨ce402, hce402, hMe402, hcc402⟩ := Kd.N_get HO_121.out [] x123_3 p402 (by first | exact q402 | exact of_decide_eq_true (by first | (with_reducible assumption) | assumption) | (have e_ := (Kd.N_reads' HO_121.out).1; omega))
                           obtain ⟨ua402_0, uc402_0, rfl, ul402_0, ge402_0⟩ := Kd.FK_slice_open hMe402
                           have hv402_0 := hcc402 0 _ rfl
                           rw [Nat.add_zero, show ((Kd.slice 3 (Kd.int .i64))).sz = 1 from rfl, Nat.mul_one] at hv402_0
                           replace hv402_0 := Option.some.inj (hv402_0.symm.trans hx402_0)
                           injection hv402_0 with hva_ hvn_ hvc_
                           rw [hva_] at ge402_0
                           rw [hvc_] at ul402_0
                           have HL402_0 := Aside0.mk (show Kd.V (Kd.int .i64) 3 _ w.heap.size _ _ (rd_L1 t359 x123_3) from Kd.V_mk ul402_0 ge402_0)
                           clear hva_ hvn_ hvc_ ge402_0 ul402_0
                           clear hcc402 hce402
                           have HR402_0 := Aside0.mk hi402_0
                           have HC402_0 := Aside0.mk hl402_0
                           clear hi402_0 hl402_0
                           replace p402 := eq_true p402
                           replace q402 := eq_true q402
                           have p403 : 0 ≤ (4 : Int) := (by omega)
                           have q403 : 4 < ((rd_L1 t359 x123_3).length : Int) := of_decide_eq_true (by first | (with_reducible assumption) | assumption)
                           obtain ⟨ad403, e403, hx403_0⟩ := Kd.at_int (by repeat (first | (with_reducible exact HR402_0.out) | (with_reducible refine Kd.C_alloc ?_ _) | (with_reducible refine Kd.C_drewN ?_ _) | (with_reducible refine Kd.C_drew ?_) | exact HR402_0.out)) 4 p403 q403
                           cases e403
                           (try simp only [show (4 : Int).toNat = 4 from rfl, Nat.reduceMul, Nat.reduceEqDiff, Go.Addr.add, ↓reduceIte] at hx403_0)
                           have qi403 : (4 < (rd_L1 t359 x123_3).length) = True := eq_true (by omega)
                           (try rw [show ((4 : Int)).toNat = 4 from rfl] at hx403_0)
                           replace p403 := eq_true p403
                           replace q403 := eq_true q403
                           have q83 : (4 : Int) ≤ (((rd_L1 t359 x123_3).length : Int) : Int) := of_decide_eq_true (by first | (with_reducible assumption) | assumption)
                           obtain ⟨i083, hi083, _, hsz83, _⟩ := info_parts info3
                           have hroom83 : (rd_L1 t359 x123_3).length ≤ c402_0 := HC402_0.out
                           have hC83 : Kd.F (Kd.int .i64) _ _ (some ad403) (rd_L1 t359 x123_3).length (rd_L1 t359 x123_3) := (Kd.V_at (base := w.heap.size) HL402_0.out).2.2
                           have hcut83 := cut_to (P := Try.prog) 35 3 .i64 Try.underlying35 hi083 (some ad403) (rd_L1 t359 x123_3).length c402_0 4 (by omega) q83 hroom83
                           have hr83 := Kd.F_take (m := 4) hC83 (by omega)
                           have hy83 : y404.length = (4 : Int).toNat := (by rw [Ny404.out, List.length_take]; omega)
                           rw [← Ny404.out] at hr83
                           rw [← hy83] at hcut83
                           have HO408 := Aside0.mk (show Kd.V (Kd.int .i64) 3 _ w.heap.size _ (.slice (some ad403) y404.length c402_0) y404 from Kd.V_mk (by omega) hr83)
                           have HC408 := Aside0.mk (show y404.length ≤ c402_0 from by omega)
                           clear hr83 hC83 hroom83 hi083 hsz83
                           have KY83 := Aside0.mk hy83
                           clear hy83
                           replace q83 := eq_true q83
                           go_wp2_with (first | (go_at_call 32; (with_reducible refine (laws_vSquares.calls k3 _ _ y404 t409 _ ?side1 ?side2 A72.out).mono ?_); (case side1 => repeat (first | exact (Kd.V_reads' HO408.out).2.2 | (with_reducible refine Kd.C_alloc ?_ _) | (with_reducible refine Kd.C_drewN ?_ _) | (with_reducible refine Kd.C_drew ?_))); (case side2 => exact (Kd.V_reads' HO408.out).2.1); rintro e w' ⟨rfl, ⟨nd, rfl⟩⟩; have p410 : 0 ≤ ((ji75) : Int) := of_decide_eq_true (by first | (with_reducible assumption) | assumption); have q410 : (ji75) < (t359.length : Int) := of_decide_eq_true (by first | (with_reducible assumption) | assumption); obtain ⟨ad410, A410_0, c410_0, e410, hx410_0, hl410_0, hi410_0⟩ := at_L1 (Kd.N_reads' HO_6.out).2.2 (ji75) p410 q410; obtain rfl : ad395 = ad410 := (by injection e410); obtain ⟨ce410, hce410, hMe410, hcc410⟩ := Kd.N_get HO_6.out [] (ji75) p410 (by first | exact q410 | exact of_decide_eq_true (by first | (with_reducible assumption) | assumption) | (have e_ := (Kd.N_reads' HO_6.out).1; omega)); obtain ⟨ua410_0, uc410_0, rfl, ul410_0, ge410_0⟩ := Kd.FK_slice_open hMe410; have hv410_0 := hcc410 0 _ rfl; rw [Nat.add_zero, show ((Kd.slice 3 (Kd.int .i64))).sz = 1 from rfl, Nat.mul_one] at hv410_0; replace hv410_0 := Option.some.inj (hv410_0.symm.trans hx410_0); injection hv410_0 with hva_ hvn_ hvc_; rw [hva_] at ge410_0; rw [hvc_] at ul410_0; have HL410_0 := Aside0.mk (show Kd.V (Kd.int .i64) 3 _ w.heap.size _ _ (rd_L1 t359 (ji75)) from Kd.V_mk ul410_0 ge410_0); clear hva_ hvn_ hvc_ ge410_0 ul410_0; clear hcc410 hce410; have HR410_0 := Aside0.mk hi410_0; have HC410_0 := Aside0.mk hl410_0; clear hi410_0 hl410_0; replace p410 := eq_true p410; replace q410 := eq_true q410; have p411 : 0 ≤ (4 : Int) := (by omega); have q411 : 4 < ((rd_L1 t359 (ji75)).length : Int) := of_decide_eq_true (by first | (with_reducible assumption) | assumption); obtain ⟨ad411, e411, hx411_0⟩ := Kd.at_int (by repeat (first | (with_reducible exact HR410_0.out) | (with_reducible refine Kd.C_alloc ?_ _) | (with_reducible refine Kd.C_drewN ?_ _) | (with_reducible refine Kd.C_drew ?_) | exact HR410_0.out)) 4 p411 q411; cases e411; (try simp only [show (4 : Int).toNat = 4 from rfl, Nat.reduceMul, Nat.reduceEqDiff, Go.Addr.add, ↓reduceIte] at hx411_0); have qi411 : (4 < (rd_L1 t359 (ji75)).length) = True := eq_true (by omega); (try rw [show ((4 : Int)).toNat = 4 from rfl] at hx411_0); replace p411 := eq_true p411; replace q411 := eq_true q411))
                           go_roundg k3
                           case measure => have := HJ9.out; have := HJ37.out; have := HK3.out; omega
                           case rel => exact ⟨(wrap64 (x123_3 + 1)), (by first | rfl | (simp; done) | (simp [*]; done)), H', ⟨by have := HJ9.out; have := HJ37.out; have := HK3.out; omega⟩, ⟨by (with_reducible repeat (first | apply Kd.N_alloc | apply Kd.N_drewN | apply Kd.N_drew)); exact HO_6.out⟩, ⟨by (with_reducible repeat (first | apply Kd.N_alloc | apply Kd.N_drewN | apply Kd.N_drew)); exact HO_121.out⟩, ⟨by repeat (first | (with_reducible exact HR395_0.out) | (with_reducible refine Kd.C_alloc ?_ _) | (with_reducible refine Kd.C_drewN ?_ _) | (with_reducible refine Kd.C_drew ?_) | exact HR395_0.out)⟩, ⟨by repeat (first | (with_reducible first | exact HB.out | apply below_alloc | apply pw_below_drewN | apply below_drew1) | exact HB.out | exact Below.refl _ _)⟩⟩
                        ·
                         rw [if_neg c78] at H
                         exact absurd H (by simp)
                       ·
                        rw [if_neg c77] at H
                        exact absurd H (by simp)
                      ·
                       rw [if_neg c76] at H
                       exact absurd H (by simp)
                     ·
                      rw [if_neg c74] at H
                      have c74b0 : decide (0 < x123_3) = false := decide_eq_false c74
                      clear c74
                      by_cases c84 : (((rd (rd_L1 t359 x123_3) 4) == 1) != (x123_3 == (wrap64 ((t359.length : Int) - 1)))) = true
                      ·
                       rw [if_pos c84] at H
                       exact absurd (H.trans (congrArg some hrT)) (by simp)
                      ·
                       rw [if_neg c84] at H
                       have c84b0 : (((rd (rd_L1 t359 x123_3) 4) == 1) != (x123_3 == (wrap64 ((t359.length : Int) - 1)))) = false := by simpa using c84
                       (try (have c84b1 : decide (((rd (rd_L1 t359 x123_3) 4) == 1) = (x123_3 == (wrap64 ((t359.length : Int) - 1)))) = true := by simpa using c84))
                       (try (have c84b2 : (((rd (rd_L1 t359 x123_3) 4) == 1) == (x123_3 == (wrap64 ((t359.length : Int) - 1)))) = true := by simpa using c84))
                       clear c84
                       have H' := Aside0.mk H
                       clear H
                       have p402 : 0 ≤ (x123_3 : Int) := of_decide_eq_true (by first | (with_reducible assumption) | assumption)
                       have q402 : x123_3 < (t359.length : Int) := of_decide_eq_true (by first | (with_reducible assumption) | assumption)
                       obtain ⟨ad402, A402_0, c402_0, e402, hx402_0, hl402_0, hi402_0⟩ := at_L1 (Kd.N_reads' HO_121.out).2.2 x123_3 p402 q402
                       obtain rfl : ad395 = ad402 := (by injection e402)
                       obtain ⟨ce402, hce402, hMe402, hcc402⟩ := Kd.N_get HO_121.out [] x123_3 p402 (by first | exact q402 | exact of_decide_eq_true (by first | (with_reducible assumption) | assumption) | (have e_ := (Kd.N_reads' HO_121.out).1; omega))
                       obtain ⟨ua402_0, uc402_0, rfl, ul402_0, ge402_0⟩ := Kd.FK_slice_open hMe402
                       have hv402_0 := hcc402 0 _ rfl
                       rw [Nat.add_zero, show ((Kd.slice 3 (Kd.int .i64))).sz = 1 from rfl, Nat.mul_one] at hv402_0
                       replace hv402_0 := Option.some.inj (hv402_0.symm.trans hx402_0)
                       injection hv402_0 with hva_ hvn_ hvc_
                       rw [hva_] at ge402_0
                       rw [hvc_] at ul402_0
                       have HL402_0 := Aside0.mk (show Kd.V (Kd.int .i64) 3 _ w.heap.size _ _ (rd_L1 t359 x123_3) from Kd.V_mk ul402_0 ge402_0)
                       clear hva_ hvn_ hvc_ ge402_0 ul402_0
                       clear hcc402 hce402
                       have HR402_0 := Aside0.mk hi402_0
                       have HC402_0 := Aside0.mk hl402_0
                       clear hi402_0 hl402_0
                       replace p402 := eq_true p402
                       replace q402 := eq_true q402
                       have p403 : 0 ≤ (4 : Int) := (by omega)
                       have q403 : 4 < ((rd_L1 t359 x123_3).length : Int) := of_decide_eq_true (by first | (with_reducible assumption) | assumption)
                       obtain ⟨ad403, e403, hx403_0⟩ := Kd.at_int (by repeat (first | (with_reducible exact HR402_0.out) | (with_reducible refine Kd.C_alloc ?_ _) | (with_reducible refine Kd.C_drewN ?_ _) | (with_reducible refine Kd.C_drew ?_) | exact HR402_0.out)) 4 p403 q403
                       cases e403
                       (try simp only [show (4 : Int).toNat = 4 from rfl, Nat.reduceMul, Nat.reduceEqDiff, Go.Addr.add, ↓reduceIte] at hx403_0)
                       have qi403 : (4 < (rd_L1 t359 x123_3).length) = True := eq_true (by omega)
                       (try rw [show ((4 : Int)).toNat = 4 from rfl] at hx403_0)
                       replace p403 := eq_true p403
                       replace q403 := eq_true q403
                       have q86 : (4 : Int) ≤ (((rd_L1 t359 x123_3).length : Int) : Int) := of_decide_eq_true (by first | (with_reducible assumption) | assumption)
                       obtain ⟨i086, hi086, _, hsz86, _⟩ := info_parts info3
                       have hroom86 : (rd_L1 t359 x123_3).length ≤ c402_0 := HC402_0.out
                       have hC86 : Kd.F (Kd.int .i64) _ _ (some ad403) (rd_L1 t359 x123_3).length (rd_L1 t359 x123_3) := (Kd.V_at (base := w.heap.size) HL402_0.out).2.2
                       have hcut86 := cut_to (P := Try.prog) 35 3 .i64 Try.underlying35 hi086 (some ad403) (rd_L1 t359 x123_3).length c402_0 4 (by omega) q86 hroom86
                       have hr86 := Kd.F_take (m := 4) hC86 (by omega)
                       have hy86 : y404.length = (4 : Int).toNat := (by rw [Ny404.out, List.length_take]; omega)
                       rw [← Ny404.out] at hr86
                       rw [← hy86] at hcut86
                       have HO408 := Aside0.mk (show Kd.V (Kd.int .i64) 3 _ w.heap.size _ (.slice (some ad403) y404.length c402_0) y404 from Kd.V_mk (by omega) hr86)
                       have HC408 := Aside0.mk (show y404.length ≤ c402_0 from by omega)
                       clear hr86 hC86 hroom86 hi086 hsz86
                       have KY86 := Aside0.mk hy86
                       clear hy86
                       replace q86 := eq_true q86
                       go_wp2_with (first | (go_at_call 32; (with_reducible refine (laws_vSquares.calls k3 _ _ y404 t409 _ ?side1 ?side2 A72.out).mono ?_); (case side1 => repeat (first | exact (Kd.V_reads' HO408.out).2.2 | (with_reducible refine Kd.C_alloc ?_ _) | (with_reducible refine Kd.C_drewN ?_ _) | (with_reducible refine Kd.C_drew ?_))); (case side2 => exact (Kd.V_reads' HO408.out).2.1); rintro e w' ⟨rfl, ⟨nd, rfl⟩⟩))
                       go_roundg k3
                       case measure => have := HJ9.out; have := HJ37.out; have := HK3.out; omega
                       case rel => exact ⟨(wrap64 (x123_3 + 1)), (by first | rfl | (simp; done) | (simp [*]; done)), H', ⟨by have := HJ9.out; have := HJ37.out; have := HK3.out; omega⟩, ⟨by (with_reducible repeat (first | apply Kd.N_alloc | apply Kd.N_drewN | apply Kd.N_drew)); exact HO_6.out⟩, ⟨by (with_reducible repeat (first | apply Kd.N_alloc | apply Kd.N_drewN | apply Kd.N_drew)); exact HO_121.out⟩, ⟨by repeat (first | (with_reducible exact HR395_0.out) | (with_reducible refine Kd.C_alloc ?_ _) | (with_reducible refine Kd.C_drewN ?_ _) | (with_reducible refine Kd.C_drew ?_) | exact HR395_0.out)⟩, ⟨by repeat (first | (with_reducible first | exact HB.out | apply below_alloc | apply pw_below_drewN | apply below_drew1) | exact HB.out | exact Below.refl _ _)⟩⟩
                    ·
                     rw [if_neg c73] at H
                     exact absurd (H.trans (congrArg some hrT)) (by simp)
                   ·
                    rw [if_neg c71] at H
                    exact absurd H (by simp)
                  ·
                   rw [if_neg c70] at H
                   exact absurd (H.trans (congrArg some hrT)) (by simp)
                 ·
                  rw [if_neg c69] at H
                  exact absurd H (by simp)
                ·
                 rw [if_neg c68] at H
                 exact absurd H (by simp)
               ·
                rw [if_neg c67] at H
                exact absurd H (by simp)
              ·
               rw [if_neg c66] at H
               have c66b0 : decide (x123_3 < (t359.length : Int)) = false := decide_eq_false c66
               clear c66
               obtain rfl := Option.some.inj H
               go_wp2
               go_ret
               exact ⟨by first | rfl | (simp [errW_none, errW_some] <;> rfl) | (simp [*, errW_none, errW_some] <;> rfl), by repeat (first | (with_reducible first | exact HB.out | apply below_alloc | apply pw_below_drewN | apply below_drew1) | exact HB.out | exact Below.refl _ _)⟩
           ·
            replace c62 := Bool.eq_false_iff.mpr c62
            subst c62
            have H1 : (some false) = some r := by rw [if_neg (show ¬ (false = true) by decide)] at H; exact H
            exact absurd (H1.trans (congrArg some hrT)) (by simp)
          ·
           rw [if_neg c60] at H
           exact absurd H (by simp)
         ·
          rw [if_neg c59] at H
          exact absurd H (by simp)
        ·
         replace c58 := Bool.eq_false_iff.mpr c58
         subst c58
         have H1 : (some true) = some r := by rw [if_neg (show ¬ (false = true) by decide)] at H; exact H
         clear H
         have H := H1
         clear H1
         obtain rfl := Option.some.inj H
         go_wp2
         go_ret
         exact ⟨by first | rfl | (simp [errW_none, errW_some] <;> rfl) | (simp [*, errW_none, errW_some] <;> rfl), by repeat (first | (with_reducible first | exact HB.out | apply below_alloc | apply pw_below_drewN | apply below_drew1) | exact HB.out | exact Below.refl _ _)⟩

/-- THE ONE PURE STATEMENT of laws_FnFourSquaresDescend: yours. -/
def laws_FnFourSquaresDescend.Pure : Prop := ∀ (l0 : List Int) (l1 : List Int), l0.length ≤ maxLen → l0.length * 1 ≤ 140737488351232 → (∀ x ∈ l0, (Lit.int .u8 x).wf = true) → l1.length ≤ maxLen → l1.length * 1 ≤ 140737488351232 → (∀ x ∈ l1, (Lit.int .u8 x).wf = true) → ∃ k, laws_FnFourSquaresDescend.f k l0 l1 = some true
theorem laws_FnFourSquaresDescend.walk (P : laws_FnFourSquaresDescend.Pure) (a0 : Option Addr) (len0 cap0 : Nat) (z0 : List Int) (a1 : Option Addr) (len1 cap1 : Nat) (z1 : List Int) (w : World) (w0 : (a0 = none ∧ len0 = 0 ∧ cap0 = 0 ∧ z0 = []) ∨ ∃ x, a0 = some x ∧ len0 ≤ cap0 ∧ cap0 ≤ maxLen ∧ z0.length = cap0 ∧ (∀ i, i < z0.length → w.cell? (x.add i) = some (.int .u8 (z0.getD i 0))) ∧ ∀ n ∈ z0, (Lit.int .u8 n).wf = true) (y0 : len0 * 1 ≤ 140737488351232) (w1 : (a1 = none ∧ len1 = 0 ∧ cap1 = 0 ∧ z1 = []) ∨ ∃ x, a1 = some x ∧ len1 ≤ cap1 ∧ cap1 ≤ maxLen ∧ z1.length = cap1 ∧ (∀ i, i < z1.length → w.cell? (x.add i) = some (.int .u8 (z1.getD i 0))) ∧ ∀ n ∈ z1, (Lit.int .u8 n).wf = true) (y1 : len1 * 1 ≤ 140737488351232) :
 Calls Try.prog 5 #[.slice a0 len0 cap0, .slice a1 len1 cap1] w fun e w' => e = .returned (.bool true) ∧ Below w.heap.size w w' := by
 obtain ⟨l0, rfl, hr0, hm0, hw0, hc0⟩ := ReadsInt.ofRowC w0
 obtain ⟨l1, rfl, hr1, hm1, hw1, hc1⟩ := ReadsInt.ofRowC w1
 obtain ⟨k, h⟩ := P l0 l1 hm0 y0 hw0 hm1 y1 hw1
 refine (laws_FnFourSquaresDescend.calls k _ _ l0 _ _ l1 true w (Kd.C_of_reads (d := (0 : Int)) (h1 := fun _ => rfl) hr0) hc0 (Kd.C_of_reads (d := (0 : Int)) (h1 := fun _ => rfl) hr1) hc1 h rfl).mono ?_
 rintro e w' ⟨rfl, hd⟩
 exact ⟨rfl, hd⟩

end Go.Proofs.Ytpmbffchkcemoaa.P
