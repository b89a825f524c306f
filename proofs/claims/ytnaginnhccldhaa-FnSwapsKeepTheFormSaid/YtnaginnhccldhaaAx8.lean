-- Written by a program of this session (wip/mkprint.py over the kit's print), out of the translation. Not trusted: Lean checks it.
import Derived.Test.YtnaginnhccldhaaAx0
import Derived.Test.YtnaginnhccldhaaAx2
import Derived.Test.YtnaginnhccldhaaAx6
import Derived.Test.YtnaginnhccldhaaAx7
namespace Go.Proofs.Ytnaginnhccldhaa.P
open Go.RowKit Go.Proofs.YtnaginnhccldhaaW.PrintWords Go.Proofs.YtnaginnhccldhaaW.PrintLast Go.Proofs.YtnaginnhccldhaaW.PrintMore
attribute [local go_sem] max2_int min2_int max_two min_two max_three min_three max_four min_four   -- for this text's walks alone
set_option linter.unusedVariables false
set_option linter.unusedSimpArgs false

/-! ### spec_l1Cur_quad: function 66 -/
def spec_l1Cur_quad.l0 : Nat → List Int → Int → List Int → Int → Int → Option (List Int × Int × Int)
 | 0, _, _, _, _, _ => none
 | k + 1, x3, x4, x1000, x1001, x1002 => if x4 > 0 then ((spec_l1Cur_pick.f x1000 x1001 x1002 4).bind fun bt303 => ((spec_apSwap.f x3 bt303.1).bind fun t306 => ((spec_apGood.f k t306).bind fun t309 => (if t309 = true then (spec_l1Cur_quad.l0 k t306 (wrap64 (x4 - 1)) x1000 bt303.2.1 bt303.2.2) else (spec_l1Cur_quad.l0 k x3 (wrap64 (x4 - 1)) x1000 bt303.2.1 bt303.2.2))))) else ((spec_l1Cur_pick.f x1000 x1001 x1002 20).bind fun bt310 => (if bt310.1 = 0 then ((spec_l1Cur_pick.f x1000 bt310.2.1 bt310.2.2 4).bind fun bt313 => (if 0 ≤ bt313.1 then (if bt313.1 < (x3.length : Int) then ((spec_l1Cur_among.f x1000 bt313.2.1 bt313.2.2 (([1, (-1), 2, 100000] : List Int))).bind fun bt320 => (some ((x3.set (bt313.1 : Int).toNat (wrap64 ((rd x3 bt313.1) + bt320.1))), bt320.2.1, bt320.2.2))) else (none)) else (none))) else (if bt310.1 = 1 then (if x3.length < 17592186044416 then (some ((x3 ++ [0]), bt310.2.1, bt310.2.2)) else (none)) else (if bt310.1 = 2 then ((some (([(([0, 0, 0, 0] : List Int)), (([1, (-2), (-2), (-3)] : List Int)), (([(-9223372036854775808), 0, 1, 1] : List Int)), (([0, 0, 100000, 100000] : List Int))] : List (List Int)) : List (List Int))).bind fun y339 => ((spec_l1Cur_pick.f x1000 bt310.2.1 bt310.2.2 4).bind fun bt342 => (if 0 ≤ bt342.1 then (if bt342.1 < (y339.length : Int) then (some (rd_L2 y339 bt342.1, bt342.2.1, bt342.2.2)) else (none)) else (none)))) else (some (x3, bt310.2.1, bt310.2.2))))))
def spec_l1Cur_quad.f (k : Nat) (s0_0 : List Int) (s0_1 : Int) (s0_2 : Int) : Option (List Int × Int × Int) := (some (([(([(-1), 2, 2, 3] : List Int)), (([(-2), 3, 6, 7] : List Int)), (([(-3), 4, 12, 13] : List Int)), (([(-3), 5, 8, 8] : List Int)), (([(-6), 11, 14, 15] : List Int)), (([0, 0, 1, 1] : List Int)), (([0, 1, 1, 4] : List Int)), (([(-2), 4, 4, 6] : List Int))] : List (List Int)) : List (List Int))).bind fun y287 => ((spec_l1Cur_pick.f s0_0 s0_1 s0_2 8).bind fun bt290 => (if 0 ≤ bt290.1 then (if bt290.1 < (y287.length : Int) then ((spec_l1Own.f (rd_L2 y287 bt290.1)).bind fun t294 => ((spec_l1Cur_among.f s0_0 bt290.2.1 bt290.2.2 (([0, 1, 2, 3, 5, 7] : List Int))).bind fun bt300 => (spec_l1Cur_quad.l0 k t294 bt300.1 s0_0 bt300.2.1 bt300.2.2))) else (none)) else (none)))
theorem spec_l1Cur_quad.mono_l : ∀ k, (∀ y0 y1 y2 y3 y4, LeO (spec_l1Cur_quad.l0 k y0 y1 y2 y3 y4) (spec_l1Cur_quad.l0 (k + 1) y0 y1 y2 y3 y4))
 | 0 => fun _ _ _ _ _ r h => by simp [spec_l1Cur_quad.l0] at h
 | k + 1 => by
  have ih0 := spec_l1Cur_quad.mono_l k
  ·
   intro y0 y1 y2 y3 y4
   unfold spec_l1Cur_quad.l0
   repeat' first
   | (with_reducible exact ih0 _ _ _ _ _)
   | (with_reducible exact spec_apGood.mono _ _)
   | (with_reducible exact LeO.refl _)
   | (with_reducible exact LeO.none _)
   | (with_reducible refine LeO.ite ?_ ?_)
   | (with_reducible refine LeO.bind ?_ (fun _ => ?_))
   | exact ih0 _ _ _ _ _
   | exact spec_apGood.mono _ _
   | exact LeO.none _
   | refine LeO.ite ?_ ?_
   | refine LeO.bind ?_ (fun _ => ?_)
theorem spec_l1Cur_quad.mono : ∀ a0 a1 a2 k, LeO (spec_l1Cur_quad.f k a0 a1 a2) (spec_l1Cur_quad.f (k + 1) a0 a1 a2) := by
 intro a0 a1 a2 k
 have ih0 := spec_l1Cur_quad.mono_l k
 unfold spec_l1Cur_quad.f
 repeat' first
  | (with_reducible exact ih0 _ _ _ _ _)
  | (with_reducible exact spec_apGood.mono _ _)
  | (with_reducible exact LeO.refl _)
  | (with_reducible exact LeO.none _)
  | (with_reducible refine LeO.ite ?_ ?_)
  | (with_reducible refine LeO.bind ?_ (fun _ => ?_))
  | exact ih0 _ _ _ _ _
  | exact spec_apGood.mono _ _
  | exact LeO.none _
  | refine LeO.ite ?_ ?_
  | refine LeO.bind ?_ (fun _ => ?_)
def spec_l1Cur_quad.T10 : Bool × List (List Nat × List Nat) := (true, [([], []), ([], []), ([1], [1]), ([0, 2], [0, 2]), ([3], [3]), ([], []), ([], []), ([5, 6, 2], [5, 6]), ([4, 7], [4, 7]), ([0, 2, 0, 1, 2, 3, 4, 5, 6, 7, 8], [0, 2]), ([9, 8, 7, 0, 1, 2, 3, 4, 5, 6, 7, 8], [8, 9])])
def spec_l1Cur_quad.B10 : List Nat := [0, 0, 2, 7, 15, 0, 0, 102, 255, 511, 1023]
theorem spec_l1Cur_quad.tab10 : rtab .any (opsOf Try.f66 10) = spec_l1Cur_quad.T10 := by kernel_rfl
theorem spec_l1Cur_quad.bits10 : waitsOk spec_l1Cur_quad.T10.2 spec_l1Cur_quad.B10 = true := by kernel_rfl
set_option maxHeartbeats 8000000 in
set_option maxRecDepth 100000 in
theorem spec_l1Cur_quad.calls (k : Nat) (g : Nat) (s0_0 : List Int) (s0_1 : Int) (s0_2 : Int) (r1 : List Int) (r2 : Int) (r3 : Int) (w0 w : World) (hI : IsS64 w0 w g s0_0 s0_1 s0_2) (hB : Below w0.heap.size w0 w) (h : spec_l1Cur_quad.f k s0_0 s0_1 s0_2 = some (r1, r2, r3)) :
 Calls Try.prog 66 #[.pointer (some ⟨g, 0, none⟩)] w fun e w' => ∃ v0_ : Value, e = .returned (v0_) ∧ Kd.V (Kd.int .i64) 3 w' w.heap.size (fun k_ => (w.heap.size ≤ k_)) v0_ r1 ∧ IsS64 w0 w' g s0_0 r2 r3 ∧ Below w0.heap.size w0 w' ∧ KeepBut w w' g none := by
 have HI0 := Aside0.mk hI
 have HK := Aside0.mk (KeepBut.refl w g none)
 have HL := Aside0.mk hB.size
 clear hI
 have HW0 := Aside0.mk hB.size
 have HB := Aside0.mk hB
 clear hB
 have H : ((some (([(([(-1), 2, 2, 3] : List Int)), (([(-2), 3, 6, 7] : List Int)), (([(-3), 4, 12, 13] : List Int)), (([(-3), 5, 8, 8] : List Int)), (([(-6), 11, 14, 15] : List Int)), (([0, 0, 1, 1] : List Int)), (([0, 1, 1, 4] : List Int)), (([(-2), 4, 4, 6] : List Int))] : List (List Int)) : List (List Int))).bind fun y287 => ((spec_l1Cur_pick.f s0_0 s0_1 s0_2 8).bind fun bt290 => (if 0 ≤ bt290.1 then (if bt290.1 < (y287.length : Int) then ((spec_l1Own.f (rd_L2 y287 bt290.1)).bind fun t294 => ((spec_l1Cur_among.f s0_0 bt290.2.1 bt290.2.2 (([0, 1, 2, 3, 5, 7] : List Int))).bind fun bt300 => (spec_l1Cur_quad.l0 k t294 bt300.1 s0_0 bt300.2.1 bt300.2.2))) else (none)) else (none)))) = some (r1, r2, r3) := h
 clear h
 obtain ⟨y263, hy263⟩ : ∃ y_ : List Int, y_ = (([(-1), 2, 2, 3] : List Int)) := ⟨_, rfl⟩
 replace H : ((some (([y263, (([(-2), 3, 6, 7] : List Int)), (([(-3), 4, 12, 13] : List Int)), (([(-3), 5, 8, 8] : List Int)), (([(-6), 11, 14, 15] : List Int)), (([0, 0, 1, 1] : List Int)), (([0, 1, 1, 4] : List Int)), (([(-2), 4, 4, 6] : List Int))] : List (List Int)) : List (List Int))).bind fun y287 => ((spec_l1Cur_pick.f s0_0 s0_1 s0_2 8).bind fun bt290 => (if 0 ≤ bt290.1 then (if bt290.1 < (y287.length : Int) then ((spec_l1Own.f (rd_L2 y287 bt290.1)).bind fun t294 => ((spec_l1Cur_among.f s0_0 bt290.2.1 bt290.2.2 (([0, 1, 2, 3, 5, 7] : List Int))).bind fun bt300 => (spec_l1Cur_quad.l0 k t294 bt300.1 s0_0 bt300.2.1 bt300.2.2))) else (none)) else (none)))) = some (r1, r2, r3) := by first | (rw [hy263]; with_reducible exact H) | (have H2_ := (Option.bind_some _ _).symm.trans H; rw [hy263]; with_reducible exact H2_) | (have H2_ := (Option.bind_some _ _).symm.trans H; with_reducible exact H2_) | with_reducible exact H | (rw [hy263]; exact H) | exact H
 have Ny263 := Aside0.mk hy263
 clear hy263
 obtain ⟨y266, hy266⟩ : ∃ y_ : List Int, y_ = (([(-2), 3, 6, 7] : List Int)) := ⟨_, rfl⟩
 replace H : ((some (([y263, y266, (([(-3), 4, 12, 13] : List Int)), (([(-3), 5, 8, 8] : List Int)), (([(-6), 11, 14, 15] : List Int)), (([0, 0, 1, 1] : List Int)), (([0, 1, 1, 4] : List Int)), (([(-2), 4, 4, 6] : List Int))] : List (List Int)) : List (List Int))).bind fun y287 => ((spec_l1Cur_pick.f s0_0 s0_1 s0_2 8).bind fun bt290 => (if 0 ≤ bt290.1 then (if bt290.1 < (y287.length : Int) then ((spec_l1Own.f (rd_L2 y287 bt290.1)).bind fun t294 => ((spec_l1Cur_among.f s0_0 bt290.2.1 bt290.2.2 (([0, 1, 2, 3, 5, 7] : List Int))).bind fun bt300 => (spec_l1Cur_quad.l0 k t294 bt300.1 s0_0 bt300.2.1 bt300.2.2))) else (none)) else (none)))) = some (r1, r2, r3) := by first | (rw [hy266]; with_reducible exact H) | (have H2_ := (Option.bind_some _ _).symm.trans H; rw [hy266]; with_reducible exact H2_) | (have H2_ := (Option.bind_some _ _).symm.trans H; with_reducible exact H2_) | with_reducible exact H | (rw [hy266]; exact H) | exact H
 have Ny266 := Aside0.mk hy266
 clear hy266
 obtain ⟨y269, hy269⟩ : ∃ y_ : List Int, y_ = (([(-3), 4, 12, 13] : List Int)) := ⟨_, rfl⟩
 replace H : ((some (([y263, y266, y269, (([(-3), 5, 8, 8] : List Int)), (([(-6), 11, 14, 15] : List Int)), (([0, 0, 1, 1] : List Int)), (([0, 1, 1, 4] : List Int)), (([(-2), 4, 4, 6] : List Int))] : List (List Int)) : List (List Int))).bind fun y287 => ((spec_l1Cur_pick.f s0_0 s0_1 s0_2 8).bind fun bt290 => (if 0 ≤ bt290.1 then (if bt290.1 < (y287.length : Int) then ((spec_l1Own.f (rd_L2 y287 bt290.1)).bind fun t294 => ((spec_l1Cur_among.f s0_0 bt290.2.1 bt290.2.2 (([0, 1, 2, 3, 5, 7] : List Int))).bind fun bt300 => (spec_l1Cur_quad.l0 k t294 bt300.1 s0_0 bt300.2.1 bt300.2.2))) else (none)) else (none)))) = some (r1, r2, r3) := by first | (rw [hy269]; with_reducible exact H) | (have H2_ := (Option.bind_some _ _).symm.trans H; rw [hy269]; with_reducible exact H2_) | (have H2_ := (Option.bind_some _ _).symm.trans H; with_reducible exact H2_) | with_reducible exact H | (rw [hy269]; exact H) | exact H
 have Ny269 := Aside0.mk hy269
 clear hy269
 obtain ⟨y272, hy272⟩ : ∃ y_ : List Int, y_ = (([(-3), 5, 8, 8] : List Int)) := ⟨_, rfl⟩
 replace H : ((some (([y263, y266, y269, y272, (([(-6), 11, 14, 15] : List Int)), (([0, 0, 1, 1] : List Int)), (([0, 1, 1, 4] : List Int)), (([(-2), 4, 4, 6] : List Int))] : List (List Int)) : List (List Int))).bind fun y287 => ((spec_l1Cur_pick.f s0_0 s0_1 s0_2 8).bind fun bt290 => (if 0 ≤ bt290.1 then (if bt290.1 < (y287.length : Int) then ((spec_l1Own.f (rd_L2 y287 bt290.1)).bind fun t294 => ((spec_l1Cur_among.f s0_0 bt290.2.1 bt290.2.2 (([0, 1, 2, 3, 5, 7] : List Int))).bind fun bt300 => (spec_l1Cur_quad.l0 k t294 bt300.1 s0_0 bt300.2.1 bt300.2.2))) else (none)) else (none)))) = some (r1, r2, r3) := by first | (rw [hy272]; with_reducible exact H) | (have H2_ := (Option.bind_some _ _).symm.trans H; rw [hy272]; with_reducible exact H2_) | (have H2_ := (Option.bind_some _ _).symm.trans H; with_reducible exact H2_) | with_reducible exact H | (rw [hy272]; exact H) | exact H
 have Ny272 := Aside0.mk hy272
 clear hy272
 obtain ⟨y275, hy275⟩ : ∃ y_ : List Int, y_ = (([(-6), 11, 14, 15] : List Int)) := ⟨_, rfl⟩
 replace H : ((some (([y263, y266, y269, y272, y275, (([0, 0, 1, 1] : List Int)), (([0, 1, 1, 4] : List Int)), (([(-2), 4, 4, 6] : List Int))] : List (List Int)) : List (List Int))).bind fun y287 => ((spec_l1Cur_pick.f s0_0 s0_1 s0_2 8).bind fun bt290 => (if 0 ≤ bt290.1 then (if bt290.1 < (y287.length : Int) then ((spec_l1Own.f (rd_L2 y287 bt290.1)).bind fun t294 => ((spec_l1Cur_among.f s0_0 bt290.2.1 bt290.2.2 (([0, 1, 2, 3, 5, 7] : List Int))).bind fun bt300 => (spec_l1Cur_quad.l0 k t294 bt300.1 s0_0 bt300.2.1 bt300.2.2))) else (none)) else (none)))) = some (r1, r2, r3) := by first | (rw [hy275]; with_reducible exact H) | (have H2_ := (Option.bind_some _ _).symm.trans H; rw [hy275]; with_reducible exact H2_) | (have H2_ := (Option.bind_some _ _).symm.trans H; with_reducible exact H2_) | with_reducible exact H | (rw [hy275]; exact H) | exact H
 have Ny275 := Aside0.mk hy275
 clear hy275
 obtain ⟨y278, hy278⟩ : ∃ y_ : List Int, y_ = (([0, 0, 1, 1] : List Int)) := ⟨_, rfl⟩
 replace H : ((some (([y263, y266, y269, y272, y275, y278, (([0, 1, 1, 4] : List Int)), (([(-2), 4, 4, 6] : List Int))] : List (List Int)) : List (List Int))).bind fun y287 => ((spec_l1Cur_pick.f s0_0 s0_1 s0_2 8).bind fun bt290 => (if 0 ≤ bt290.1 then (if bt290.1 < (y287.length : Int) then ((spec_l1Own.f (rd_L2 y287 bt290.1)).bind fun t294 => ((spec_l1Cur_among.f s0_0 bt290.2.1 bt290.2.2 (([0, 1, 2, 3, 5, 7] : List Int))).bind fun bt300 => (spec_l1Cur_quad.l0 k t294 bt300.1 s0_0 bt300.2.1 bt300.2.2))) else (none)) else (none)))) = some (r1, r2, r3) := by first | (rw [hy278]; with_reducible exact H) | (have H2_ := (Option.bind_some _ _).symm.trans H; rw [hy278]; with_reducible exact H2_) | (have H2_ := (Option.bind_some _ _).symm.trans H; with_reducible exact H2_) | with_reducible exact H | (rw [hy278]; exact H) | exact H
 have Ny278 := Aside0.mk hy278
 clear hy278
 obtain ⟨y281, hy281⟩ : ∃ y_ : List Int, y_ = (([0, 1, 1, 4] : List Int)) := ⟨_, rfl⟩
 replace H : ((some (([y263, y266, y269, y272, y275, y278, y281, (([(-2), 4, 4, 6] : List Int))] : List (List Int)) : List (List Int))).bind fun y287 => ((spec_l1Cur_pick.f s0_0 s0_1 s0_2 8).bind fun bt290 => (if 0 ≤ bt290.1 then (if bt290.1 < (y287.length : Int) then ((spec_l1Own.f (rd_L2 y287 bt290.1)).bind fun t294 => ((spec_l1Cur_among.f s0_0 bt290.2.1 bt290.2.2 (([0, 1, 2, 3, 5, 7] : List Int))).bind fun bt300 => (spec_l1Cur_quad.l0 k t294 bt300.1 s0_0 bt300.2.1 bt300.2.2))) else (none)) else (none)))) = some (r1, r2, r3) := by first | (rw [hy281]; with_reducible exact H) | (have H2_ := (Option.bind_some _ _).symm.trans H; rw [hy281]; with_reducible exact H2_) | (have H2_ := (Option.bind_some _ _).symm.trans H; with_reducible exact H2_) | with_reducible exact H | (rw [hy281]; exact H) | exact H
 have Ny281 := Aside0.mk hy281
 clear hy281
 obtain ⟨y284, hy284⟩ : ∃ y_ : List Int, y_ = (([(-2), 4, 4, 6] : List Int)) := ⟨_, rfl⟩
 replace H : ((some (([y263, y266, y269, y272, y275, y278, y281, y284] : List (List Int)) : List (List Int))).bind fun y287 => ((spec_l1Cur_pick.f s0_0 s0_1 s0_2 8).bind fun bt290 => (if 0 ≤ bt290.1 then (if bt290.1 < (y287.length : Int) then ((spec_l1Own.f (rd_L2 y287 bt290.1)).bind fun t294 => ((spec_l1Cur_among.f s0_0 bt290.2.1 bt290.2.2 (([0, 1, 2, 3, 5, 7] : List Int))).bind fun bt300 => (spec_l1Cur_quad.l0 k t294 bt300.1 s0_0 bt300.2.1 bt300.2.2))) else (none)) else (none)))) = some (r1, r2, r3) := by first | (rw [hy284]; with_reducible exact H) | (have H2_ := (Option.bind_some _ _).symm.trans H; rw [hy284]; with_reducible exact H2_) | (have H2_ := (Option.bind_some _ _).symm.trans H; with_reducible exact H2_) | with_reducible exact H | (rw [hy284]; exact H) | exact H
 have Ny284 := Aside0.mk hy284
 clear hy284
 obtain ⟨y287, hy287⟩ : ∃ y_ : List (List Int), y_ = (([y263, y266, y269, y272, y275, y278, y281, y284] : List (List Int))) := ⟨_, rfl⟩
 replace H : ((spec_l1Cur_pick.f s0_0 s0_1 s0_2 8).bind fun bt290 => (if 0 ≤ bt290.1 then (if bt290.1 < (y287.length : Int) then ((spec_l1Own.f (rd_L2 y287 bt290.1)).bind fun t294 => ((spec_l1Cur_among.f s0_0 bt290.2.1 bt290.2.2 (([0, 1, 2, 3, 5, 7] : List Int))).bind fun bt300 => (spec_l1Cur_quad.l0 k t294 bt300.1 s0_0 bt300.2.1 bt300.2.2))) else (none)) else (none))) = some (r1, r2, r3) := by first | (rw [hy287]; with_reducible exact H) | (have H2_ := (Option.bind_some _ _).symm.trans H; rw [hy287]; with_reducible exact H2_) | (have H2_ := (Option.bind_some _ _).symm.trans H; with_reducible exact H2_) | with_reducible exact H | (rw [hy287]; exact H) | exact H
 have Ny287 := Aside0.mk hy287
 clear hy287
 replace H := Option.bind_eq_some_iff.mp H
 obtain ⟨⟨t290, t291, t292⟩, A20, H⟩ := H
 replace H : (if 0 ≤ t290 then (if t290 < (y287.length : Int) then ((spec_l1Own.f (rd_L2 y287 t290)).bind fun t294 => ((spec_l1Cur_among.f s0_0 t291 t292 (([0, 1, 2, 3, 5, 7] : List Int))).bind fun bt300 => (spec_l1Cur_quad.l0 k t294 bt300.1 s0_0 bt300.2.1 bt300.2.2))) else (none)) else (none)) = some (r1, r2, r3) := H
 have A2 := Aside0.mk A20
 clear A20
 by_cases c3 : 0 ≤ t290
 ·
  rw [if_pos c3] at H
  have c3b0 : decide (0 ≤ t290) = true := decide_eq_true c3
  clear c3
  by_cases c4 : t290 < (y287.length : Int)
  ·
   rw [if_pos c4] at H
   have c4b0 : decide (t290 < (y287.length : Int)) = true := decide_eq_true c4
   clear c4
   replace H := Option.bind_eq_some_iff.mp H
   obtain ⟨t294, A50, H⟩ := H
   replace H : ((spec_l1Cur_among.f s0_0 t291 t292 (([0, 1, 2, 3, 5, 7] : List Int))).bind fun bt300 => (spec_l1Cur_quad.l0 k t294 bt300.1 s0_0 bt300.2.1 bt300.2.2)) = some (r1, r2, r3) := H
   have A5 := Aside0.mk A50
   clear A50
   obtain ⟨y297, hy297⟩ : ∃ y_ : List Int, y_ = (([0, 1, 2, 3, 5, 7] : List Int)) := ⟨_, rfl⟩
   replace H : ((spec_l1Cur_among.f s0_0 t291 t292 y297).bind fun bt300 => (spec_l1Cur_quad.l0 k t294 bt300.1 s0_0 bt300.2.1 bt300.2.2)) = some (r1, r2, r3) := by first | (rw [hy297]; with_reducible exact H) | (have H2_ := (Option.bind_some _ _).symm.trans H; rw [hy297]; with_reducible exact H2_) | (have H2_ := (Option.bind_some _ _).symm.trans H; with_reducible exact H2_) | with_reducible exact H | (rw [hy297]; exact H) | exact H
   have Ny297 := Aside0.mk hy297
   clear hy297
   replace H := Option.bind_eq_some_iff.mp H
   obtain ⟨⟨t300, t301, t302⟩, A60, H⟩ := H
   replace H : (spec_l1Cur_quad.l0 k t294 t300 s0_0 t301 t302) = some (r1, r2, r3) := H
   have A6 := Aside0.mk A60
   clear A60
   have H' := Aside0.mk H
   clear H
   go_enter Try.func66, Try.ntmps66
   go_wp2_with (first | ((with_reducible refine gate_dst (N := 6) rfl ?_); refine Kd.R_lit (Kd.int .i64) _ 3 ?hg (N := 6) ?hd (xs := ([(-1), 2, 2, 3] : List Int)) (inner := [.int .i64 (-1), .int .i64 2, .int .i64 2, .int .i64 3]) (ok := fun _ => True) (okp := fun _ => True) ?hr ?hp (fun _ hk => hk) trivial (Below.refl _ _) (Nat.le_refl _) (by simp) ?_; (case hd => rfl); (case hg => rfl); (case hr => first | (go_simp; done) | (go_simp; rfl)); (case hp => exact (Reps.one (show Kd.M (Kd.int .i64) _ _ _ (-1) [.int .i64 (-1)] from rfl) (Reps.one (show Kd.M (Kd.int .i64) _ _ _ 2 [.int .i64 2] from rfl) (Reps.one (show Kd.M (Kd.int .i64) _ _ _ 2 [.int .i64 2] from rfl) (Reps.one (show Kd.M (Kd.int .i64) _ _ _ 3 [.int .i64 3] from rfl) (Reps.none _ _)))))); intro v264 w7 ho8 hb hg_ hnew_; clear hg_ hnew_; (first | rw [← Ny263.out] at ho8 | (simp only [Int.reduceToNat] at ho8; rw [← Ny263.out] at ho8)); have n0_ := Aside0.mk (Kd.R_lower (Kd.R_newM (M := fun k_ => (w.heap.size ≤ k_)) ho8 (keep_size (w := w) (g := g) (row := none) (kH HK)) (fun k_ h_ => h_)) (keep_size (w := w) (g := g) (row := none) (kH HK))); have n1_ := Aside0.mk (IsS64.below (by repeat (first | (with_reducible first | exact HI0.out | apply IsS64.alloc | apply IsS64.drewN | apply IsS64.drew | apply IsS64.set_1 | apply IsS64.set_2) | exact HI0.out)) hb); have n2_ := Aside0.mk (KeepBut.trans (kH HK) (KeepBut.of_below hb g none) (.inl rfl)); have n3_ := Aside0.mk (below_step (by repeat (first | (with_reducible first | exact HB.out | apply below_alloc | apply pw_below_drewN | apply below_drew1 | refine below_set ?_ (IsS64.ge HI0.out)) | exact HB.out | exact Below.refl _ _)) hb); clear HI0; clear HK; clear HB; have HO265 := n0_; have HI0 := n1_; have HK := n2_; have HB := n3_; clear n0_ n1_ n2_ n3_; clear hb ho8) | ((with_reducible refine gate_dst (N := 7) rfl ?_); refine Kd.R_lit (Kd.int .i64) _ 3 ?hg (N := 7) ?hd (xs := ([(-2), 3, 6, 7] : List Int)) (inner := [.int .i64 (-2), .int .i64 3, .int .i64 6, .int .i64 7]) (ok := fun _ => True) (okp := fun _ => True) ?hr ?hp (fun _ hk => hk) trivial (Below.refl _ _) (Nat.le_refl _) (by simp) ?_; (case hd => rfl); (case hg => rfl); (case hr => first | (go_simp; done) | (go_simp; rfl)); (case hp => exact (Reps.one (show Kd.M (Kd.int .i64) _ _ _ (-2) [.int .i64 (-2)] from rfl) (Reps.one (show Kd.M (Kd.int .i64) _ _ _ 3 [.int .i64 3] from rfl) (Reps.one (show Kd.M (Kd.int .i64) _ _ _ 6 [.int .i64 6] from rfl) (Reps.one (show Kd.M (Kd.int .i64) _ _ _ 7 [.int .i64 7] from rfl) (Reps.none _ _)))))); intro v267 w9 ho10 hb hg_ hnew_; clear hg_ hnew_; (first | rw [← Ny266.out] at ho10 | (simp only [Int.reduceToNat] at ho10; rw [← Ny266.out] at ho10)); have n0_ := Aside0.mk (Kd.R_elder' (rA HO265) (Kd.R_base ho10) hb); have n1_ := Aside0.mk (Kd.R_lower (Kd.R_new' (Kd.R_newM (M := fun k_ => (w.heap.size ≤ k_)) ho10 (keep_size (w := w) (g := g) (row := none) (kH HK)) (fun k_ h_ => h_)) (Kd.R_lt (rA HO265))) (keep_size (w := w) (g := g) (row := none) (kH HK))); have n2_ := Aside0.mk (IsS64.below (by repeat (first | (with_reducible first | exact HI0.out | apply IsS64.alloc | apply IsS64.drewN | apply IsS64.drew | apply IsS64.set_1 | apply IsS64.set_2) | exact HI0.out)) hb); have n3_ := Aside0.mk (KeepBut.trans (kH HK) (KeepBut.of_below hb g none) (.inl rfl)); have n4_ := Aside0.mk (below_step (by repeat (first | (with_reducible first | exact HB.out | apply below_alloc | apply pw_below_drewN | apply below_drew1 | refine below_set ?_ (IsS64.ge HI0.out)) | exact HB.out | exact Below.refl _ _)) hb); clear HO265; clear HI0; clear HK; clear HB; have HO265 := n0_; have HO268 := n1_; have HI0 := n2_; have HK := n3_; have HB := n4_; clear n0_ n1_ n2_ n3_ n4_; clear hb ho10) | ((with_reducible refine gate_dst (N := 8) rfl ?_); refine Kd.R_lit (Kd.int .i64) _ 3 ?hg (N := 8) ?hd (xs := ([(-3), 4, 12, 13] : List Int)) (inner := [.int .i64 (-3), .int .i64 4, .int .i64 12, .int .i64 13]) (ok := fun _ => True) (okp := fun _ => True) ?hr ?hp (fun _ hk => hk) trivial (Below.refl _ _) (Nat.le_refl _) (by simp) ?_; (case hd => rfl); (case hg => rfl); (case hr => first | (go_simp; done) | (go_simp; rfl)); (case hp => exact (Reps.one (show Kd.M (Kd.int .i64) _ _ _ (-3) [.int .i64 (-3)] from rfl) (Reps.one (show Kd.M (Kd.int .i64) _ _ _ 4 [.int .i64 4] from rfl) (Reps.one (show Kd.M (Kd.int .i64) _ _ _ 12 [.int .i64 12] from rfl) (Reps.one (show Kd.M (Kd.int .i64) _ _ _ 13 [.int .i64 13] from rfl) (Reps.none _ _)))))); intro v270 w11 ho12 hb hg_ hnew_; clear hg_ hnew_; (first | rw [← Ny269.out] at ho12 | (simp only [Int.reduceToNat] at ho12; rw [← Ny269.out] at ho12)); have n0_ := Aside0.mk (Kd.R_elder' (rA HO265) (Kd.R_base ho12) hb); have n1_ := Aside0.mk (Kd.R_elder' (rA HO268) (Kd.R_base ho12) hb); have n2_ := Aside0.mk (Kd.R_lower (Kd.R_new' (Kd.R_new' (Kd.R_newM (M := fun k_ => (w.heap.size ≤ k_)) ho12 (keep_size (w := w) (g := g) (row := none) (kH HK)) (fun k_ h_ => h_)) (Kd.R_lt (rA HO265))) (Kd.R_lt (rA HO268))) (keep_size (w := w) (g := g) (row := none) (kH HK))); have n3_ := Aside0.mk (IsS64.below (by repeat (first | (with_reducible first | exact HI0.out | apply IsS64.alloc | apply IsS64.drewN | apply IsS64.drew | apply IsS64.set_1 | apply IsS64.set_2) | exact HI0.out)) hb); have n4_ := Aside0.mk (KeepBut.trans (kH HK) (KeepBut.of_below hb g none) (.inl rfl)); have n5_ := Aside0.mk (below_step (by repeat (first | (with_reducible first | exact HB.out | apply below_alloc | apply pw_below_drewN | apply below_drew1 | refine below_set ?_ (IsS64.ge HI0.out)) | exact HB.out | exact Below.refl _ _)) hb); clear HO265; clear HO268; clear HI0; clear HK; clear HB; have HO265 := n0_; have HO268 := n1_; have HO271 := n2_; have HI0 := n3_; have HK := n4_; have HB := n5_; clear n0_ n1_ n2_ n3_ n4_ n5_; clear hb ho12) | ((with_reducible refine gate_dst (N := 9) rfl ?_); refine Kd.R_lit (Kd.int .i64) _ 3 ?hg (N := 9) ?hd (xs := ([(-3), 5, 8, 8] : List Int)) (inner := [.int .i64 (-3), .int .i64 5, .int .i64 8, .int .i64 8]) (ok := fun _ => True) (okp := fun _ => True) ?hr ?hp (fun _ hk => hk) trivial (Below.refl _ _) (Nat.le_refl _) (by simp) ?_; (case hd => rfl); (case hg => rfl); (case hr => first | (go_simp; done) | (go_simp; rfl)); (case hp => exact (Reps.one (show Kd.M (Kd.int .i64) _ _ _ (-3) [.int .i64 (-3)] from rfl) (Reps.one (show Kd.M (Kd.int .i64) _ _ _ 5 [.int .i64 5] from rfl) (Reps.one (show Kd.M (Kd.int .i64) _ _ _ 8 [.int .i64 8] from rfl) (Reps.one (show Kd.M (Kd.int .i64) _ _ _ 8 [.int .i64 8] from rfl) (Reps.none _ _)))))); intro v273 w13 ho14 hb hg_ hnew_; clear hg_ hnew_; (first | rw [← Ny272.out] at ho14 | (simp only [Int.reduceToNat] at ho14; rw [← Ny272.out] at ho14)); have n0_ := Aside0.mk (Kd.R_elder' (rA HO265) (Kd.R_base ho14) hb); have n1_ := Aside0.mk (Kd.R_elder' (rA HO268) (Kd.R_base ho14) hb); have n2_ := Aside0.mk (Kd.R_elder' (rA HO271) (Kd.R_base ho14) hb); have n3_ := Aside0.mk (Kd.R_lower (Kd.R_new' (Kd.R_new' (Kd.R_new' (Kd.R_newM (M := fun k_ => (w.heap.size ≤ k_)) ho14 (keep_size (w := w) (g := g) (row := none) (kH HK)) (fun k_ h_ => h_)) (Kd.R_lt (rA HO265))) (Kd.R_lt (rA HO268))) (Kd.R_lt (rA HO271))) (keep_size (w := w) (g := g) (row := none) (kH HK))); have n4_ := Aside0.mk (IsS64.below (by repeat (first | (with_reducible first | exact HI0.out | apply IsS64.alloc | apply IsS64.drewN | apply IsS64.drew | apply IsS64.set_1 | apply IsS64.set_2) | exact HI0.out)) hb); have n5_ := Aside0.mk (KeepBut.trans (kH HK) (KeepBut.of_below hb g none) (.inl rfl)); have n6_ := Aside0.mk (below_step (by repeat (first | (with_reducible first | exact HB.out | apply below_alloc | apply pw_below_drewN | apply below_drew1 | refine below_set ?_ (IsS64.ge HI0.out)) | exact HB.out | exact Below.refl _ _)) hb); clear HO265; clear HO268; clear HO271; clear HI0; clear HK; clear HB; have HO265 := n0_; have HO268 := n1_; have HO271 := n2_; have HO274 := n3_; have HI0 := n4_; have HK := n5_; have HB := n6_; clear n0_ n1_ n2_ n3_ n4_ n5_ n6_; clear hb ho14) | ((with_reducible refine gate_dst (N := 10) rfl ?_); refine Kd.R_lit (Kd.int .i64) _ 3 ?hg (N := 10) ?hd (xs := ([(-6), 11, 14, 15] : List Int)) (inner := [.int .i64 (-6), .int .i64 11, .int .i64 14, .int .i64 15]) (ok := fun _ => True) (okp := fun _ => True) ?hr ?hp (fun _ hk => hk) trivial (Below.refl _ _) (Nat.le_refl _) (by simp) ?_; (case hd => rfl); (case hg => rfl); (case hr => first | (go_simp; done) | (go_simp; rfl)); (case hp => exact (Reps.one (show Kd.M (Kd.int .i64) _ _ _ (-6) [.int .i64 (-6)] from rfl) (Reps.one (show Kd.M (Kd.int .i64) _ _ _ 11 [.int .i64 11] from rfl) (Reps.one (show Kd.M (Kd.int .i64) _ _ _ 14 [.int .i64 14] from rfl) (Reps.one (show Kd.M (Kd.int .i64) _ _ _ 15 [.int .i64 15] from rfl) (Reps.none _ _)))))); intro v276 w15 ho16 hb hg_ hnew_; clear hg_ hnew_; (first | rw [← Ny275.out] at ho16 | (simp only [Int.reduceToNat] at ho16; rw [← Ny275.out] at ho16)); have n0_ := Aside0.mk (Kd.R_elder' (rA HO265) (Kd.R_base ho16) hb); have n1_ := Aside0.mk (Kd.R_elder' (rA HO268) (Kd.R_base ho16) hb); have n2_ := Aside0.mk (Kd.R_elder' (rA HO271) (Kd.R_base ho16) hb); have n3_ := Aside0.mk (Kd.R_elder' (rA HO274) (Kd.R_base ho16) hb); have n4_ := Aside0.mk (Kd.R_lower (Kd.R_new' (Kd.R_new' (Kd.R_new' (Kd.R_new' (Kd.R_newM (M := fun k_ => (w.heap.size ≤ k_)) ho16 (keep_size (w := w) (g := g) (row := none) (kH HK)) (fun k_ h_ => h_)) (Kd.R_lt (rA HO265))) (Kd.R_lt (rA HO268))) (Kd.R_lt (rA HO271))) (Kd.R_lt (rA HO274))) (keep_size (w := w) (g := g) (row := none) (kH HK))); have n5_ := Aside0.mk (IsS64.below (by repeat (first | (with_reducible first | exact HI0.out | apply IsS64.alloc | apply IsS64.drewN | apply IsS64.drew | apply IsS64.set_1 | apply IsS64.set_2) | exact HI0.out)) hb); have n6_ := Aside0.mk (KeepBut.trans (kH HK) (KeepBut.of_below hb g none) (.inl rfl)); have n7_ := Aside0.mk (below_step (by repeat (first | (with_reducible first | exact HB.out | apply below_alloc | apply pw_below_drewN | apply below_drew1 | refine below_set ?_ (IsS64.ge HI0.out)) | exact HB.out | exact Below.refl _ _)) hb); clear HO265; clear HO268; clear HO271; clear HO274; clear HI0; clear HK; clear HB; have HO265 := n0_; have HO268 := n1_; have HO271 := n2_; have HO274 := n3_; have HO277 := n4_; have HI0 := n5_; have HK := n6_; have HB := n7_; clear n0_ n1_ n2_ n3_ n4_ n5_ n6_ n7_; clear hb ho16) | ((with_reducible refine gate_dst (N := 11) rfl ?_); refine Kd.R_lit (Kd.int .i64) _ 3 ?hg (N := 11) ?hd (xs := ([0, 0, 1, 1] : List Int)) (inner := [.int .i64 0, .int .i64 0, .int .i64 1, .int .i64 1]) (ok := fun _ => True) (okp := fun _ => True) ?hr ?hp (fun _ hk => hk) trivial (Below.refl _ _) (Nat.le_refl _) (by simp) ?_; (case hd => rfl); (case hg => rfl); (case hr => first | (go_simp; done) | (go_simp; rfl)); (case hp => exact (Reps.one (show Kd.M (Kd.int .i64) _ _ _ 0 [.int .i64 0] from rfl) (Reps.one (show Kd.M (Kd.int .i64) _ _ _ 0 [.int .i64 0] from rfl) (Reps.one (show Kd.M (Kd.int .i64) _ _ _ 1 [.int .i64 1] from rfl) (Reps.one (show Kd.M (Kd.int .i64) _ _ _ 1 [.int .i64 1] from rfl) (Reps.none _ _)))))); intro v279 w17 ho18 hb hg_ hnew_; clear hg_ hnew_; (first | rw [← Ny278.out] at ho18 | (simp only [Int.reduceToNat] at ho18; rw [← Ny278.out] at ho18)); have n0_ := Aside0.mk (Kd.R_elder' (rA HO265) (Kd.R_base ho18) hb); have n1_ := Aside0.mk (Kd.R_elder' (rA HO268) (Kd.R_base ho18) hb); have n2_ := Aside0.mk (Kd.R_elder' (rA HO271) (Kd.R_base ho18) hb); have n3_ := Aside0.mk (Kd.R_elder' (rA HO274) (Kd.R_base ho18) hb); have n4_ := Aside0.mk (Kd.R_elder' (rA HO277) (Kd.R_base ho18) hb); have n5_ := Aside0.mk (Kd.R_lower (Kd.R_new' (Kd.R_new' (Kd.R_new' (Kd.R_new' (Kd.R_new' (Kd.R_newM (M := fun k_ => (w.heap.size ≤ k_)) ho18 (keep_size (w := w) (g := g) (row := none) (kH HK)) (fun k_ h_ => h_)) (Kd.R_lt (rA HO265))) (Kd.R_lt (rA HO268))) (Kd.R_lt (rA HO271))) (Kd.R_lt (rA HO274))) (Kd.R_lt (rA HO277))) (keep_size (w := w) (g := g) (row := none) (kH HK))); have n6_ := Aside0.mk (IsS64.below (by repeat (first | (with_reducible first | exact HI0.out | apply IsS64.alloc | apply IsS64.drewN | apply IsS64.drew | apply IsS64.set_1 | apply IsS64.set_2) | exact HI0.out)) hb); have n7_ := Aside0.mk (KeepBut.trans (kH HK) (KeepBut.of_below hb g none) (.inl rfl)); have n8_ := Aside0.mk (below_step (by repeat (first | (with_reducible first | exact HB.out | apply below_alloc | apply pw_below_drewN | apply below_drew1 | refine below_set ?_ (IsS64.ge HI0.out)) | exact HB.out | exact Below.refl _ _)) hb); clear HO265; clear HO268; clear HO271; clear HO274; clear HO277; clear HI0; clear HK; clear HB; have HO265 := n0_; have HO268 := n1_; have HO271 := n2_; have HO274 := n3_; have HO277 := n4_; have HO280 := n5_; have HI0 := n6_; have HK := n7_; have HB := n8_; clear n0_ n1_ n2_ n3_ n4_ n5_ n6_ n7_ n8_; clear hb ho18) | ((with_reducible refine gate_dst (N := 12) rfl ?_); refine Kd.R_lit (Kd.int .i64) _ 3 ?hg (N := 12) ?hd (xs := ([0, 1, 1, 4] : List Int)) (inner := [.int .i64 0, .int .i64 1, .int .i64 1, .int .i64 4]) (ok := fun _ => True) (okp := fun _ => True) ?hr ?hp (fun _ hk => hk) trivial (Below.refl _ _) (Nat.le_refl _) (by simp) ?_; (case hd => rfl); (case hg => rfl); (case hr => first | (go_simp; done) | (go_simp; rfl)); (case hp => exact (Reps.one (show Kd.M (Kd.int .i64) _ _ _ 0 [.int .i64 0] from rfl) (Reps.one (show Kd.M (Kd.int .i64) _ _ _ 1 [.int .i64 1] from rfl) (Reps.one (show Kd.M (Kd.int .i64) _ _ _ 1 [.int .i64 1] from rfl) (Reps.one (show Kd.M (Kd.int .i64) _ _ _ 4 [.int .i64 4] from rfl) (Reps.none _ _)))))); intro v282 w19 ho20 hb hg_ hnew_; clear hg_ hnew_; (first | rw [← Ny281.out] at ho20 | (simp only [Int.reduceToNat] at ho20; rw [← Ny281.out] at ho20)); have n0_ := Aside0.mk (Kd.R_elder' (rA HO265) (Kd.R_base ho20) hb); have n1_ := Aside0.mk (Kd.R_elder' (rA HO268) (Kd.R_base ho20) hb); have n2_ := Aside0.mk (Kd.R_elder' (rA HO271) (Kd.R_base ho20) hb); have n3_ := Aside0.mk (Kd.R_elder' (rA HO274) (Kd.R_base ho20) hb); have n4_ := Aside0.mk (Kd.R_elder' (rA HO277) (Kd.R_base ho20) hb); have n5_ := Aside0.mk (Kd.R_elder' (rA HO280) (Kd.R_base ho20) hb); have n6_ := Aside0.mk (Kd.R_lower (Kd.R_new' (Kd.R_new' (Kd.R_new' (Kd.R_new' (Kd.R_new' (Kd.R_new' (Kd.R_newM (M := fun k_ => (w.heap.size ≤ k_)) ho20 (keep_size (w := w) (g := g) (row := none) (kH HK)) (fun k_ h_ => h_)) (Kd.R_lt (rA HO265))) (Kd.R_lt (rA HO268))) (Kd.R_lt (rA HO271))) (Kd.R_lt (rA HO274))) (Kd.R_lt (rA HO277))) (Kd.R_lt (rA HO280))) (keep_size (w := w) (g := g) (row := none) (kH HK))); have n7_ := Aside0.mk (IsS64.below (by repeat (first | (with_reducible first | exact HI0.out | apply IsS64.alloc | apply IsS64.drewN | apply IsS64.drew | apply IsS64.set_1 | apply IsS64.set_2) | exact HI0.out)) hb); have n8_ := Aside0.mk (KeepBut.trans (kH HK) (KeepBut.of_below hb g none) (.inl rfl)); have n9_ := Aside0.mk (below_step (by repeat (first | (with_reducible first | exact HB.out | apply below_alloc | apply pw_below_drewN | apply below_drew1 | refine below_set ?_ (IsS64.ge HI0.out)) | exact HB.out | exact Below.refl _ _)) hb); clear HO265; clear HO268; clear HO271; clear HO274; clear HO277; clear HO280; clear HI0; clear HK; clear HB; have HO265 := n0_; have HO268 := n1_; have HO271 := n2_; have HO274 := n3_; have HO277 := n4_; have HO280 := n5_; have HO283 := n6_; have HI0 := n7_; have HK := n8_; have HB := n9_; clear n0_ n1_ n2_ n3_ n4_ n5_ n6_ n7_ n8_ n9_; clear hb ho20) | ((with_reducible refine gate_dst (N := 13) rfl ?_); refine Kd.R_lit (Kd.int .i64) _ 3 ?hg (N := 13) ?hd (xs := ([(-2), 4, 4, 6] : List Int)) (inner := [.int .i64 (-2), .int .i64 4, .int .i64 4, .int .i64 6]) (ok := fun _ => True) (okp := fun _ => True) ?hr ?hp (fun _ hk => hk) trivial (Below.refl _ _) (Nat.le_refl _) (by simp) ?_; (case hd => rfl); (case hg => rfl); (case hr => first | (go_simp; done) | (go_simp; rfl)); (case hp => exact (Reps.one (show Kd.M (Kd.int .i64) _ _ _ (-2) [.int .i64 (-2)] from rfl) (Reps.one (show Kd.M (Kd.int .i64) _ _ _ 4 [.int .i64 4] from rfl) (Reps.one (show Kd.M (Kd.int .i64) _ _ _ 4 [.int .i64 4] from rfl) (Reps.one (show Kd.M (Kd.int .i64) _ _ _ 6 [.int .i64 6] from rfl) (Reps.none _ _)))))); intro v285 w21 ho22 hb hg_ hnew_; clear hg_ hnew_; (first | rw [← Ny284.out] at ho22 | (simp only [Int.reduceToNat] at ho22; rw [← Ny284.out] at ho22)); have n0_ := Aside0.mk (Kd.R_elder' (rA HO265) (Kd.R_base ho22) hb); have n1_ := Aside0.mk (Kd.R_elder' (rA HO268) (Kd.R_base ho22) hb); have n2_ := Aside0.mk (Kd.R_elder' (rA HO271) (Kd.R_base ho22) hb); have n3_ := Aside0.mk (Kd.R_elder' (rA HO274) (Kd.R_base ho22) hb); have n4_ := Aside0.mk (Kd.R_elder' (rA HO277) (Kd.R_base ho22) hb); have n5_ := Aside0.mk (Kd.R_elder' (rA HO280) (Kd.R_base ho22) hb); have n6_ := Aside0.mk (Kd.R_elder' (rA HO283) (Kd.R_base ho22) hb); have n7_ := Aside0.mk (Kd.R_lower (Kd.R_new' (Kd.R_new' (Kd.R_new' (Kd.R_new' (Kd.R_new' (Kd.R_new' (Kd.R_new' (Kd.R_newM (M := fun k_ => (w.heap.size ≤ k_)) ho22 (keep_size (w := w) (g := g) (row := none) (kH HK)) (fun k_ h_ => h_)) (Kd.R_lt (rA HO265))) (Kd.R_lt (rA HO268))) (Kd.R_lt (rA HO271))) (Kd.R_lt (rA HO274))) (Kd.R_lt (rA HO277))) (Kd.R_lt (rA HO280))) (Kd.R_lt (rA HO283))) (keep_size (w := w) (g := g) (row := none) (kH HK))); have n8_ := Aside0.mk (IsS64.below (by repeat (first | (with_reducible first | exact HI0.out | apply IsS64.alloc | apply IsS64.drewN | apply IsS64.drew | apply IsS64.set_1 | apply IsS64.set_2) | exact HI0.out)) hb); have n9_ := Aside0.mk (KeepBut.trans (kH HK) (KeepBut.of_below hb g none) (.inl rfl)); have n10_ := Aside0.mk (below_step (by repeat (first | (with_reducible first | exact HB.out | apply below_alloc | apply pw_below_drewN | apply below_drew1 | refine below_set ?_ (IsS64.ge HI0.out)) | exact HB.out | exact Below.refl _ _)) hb); clear HO265; clear HO268; clear HO271; clear HO274; clear HO277; clear HO280; clear HO283; clear HI0; clear HK; clear HB; have HO265 := n0_; have HO268 := n1_; have HO271 := n2_; have HO274 := n3_; have HO277 := n4_; have HO280 := n5_; have HO283 := n6_; have HO286 := n7_; have HI0 := n8_; have HK := n9_; have HB := n10_; clear n0_ n1_ n2_ n3_ n4_ n5_ n6_ n7_ n8_ n9_ n10_; clear hb ho22; obtain ⟨Ao23, co23, eo23⟩ := Kd.R_slice HO265.out; subst eo23; obtain ⟨Ao24, co24, eo24⟩ := Kd.R_slice HO268.out; subst eo24; obtain ⟨Ao25, co25, eo25⟩ := Kd.R_slice HO271.out; subst eo25; obtain ⟨Ao26, co26, eo26⟩ := Kd.R_slice HO274.out; subst eo26; obtain ⟨Ao27, co27, eo27⟩ := Kd.R_slice HO277.out; subst eo27; obtain ⟨Ao28, co28, eo28⟩ := Kd.R_slice HO280.out; subst eo28; obtain ⟨Ao29, co29, eo29⟩ := Kd.R_slice HO283.out; subst eo29; obtain ⟨Ao30, co30, eo30⟩ := Kd.R_slice HO286.out; subst eo30) | ((with_reducible refine gate_dst (N := 14) rfl ?_); refine Kd.N_lit (Kd.slice 3 (Kd.int .i64)) _ 35 ?hg (N' := 14) ?hd (xs := ([y263, y266, y269, y272, y275, y278, y281, y284] : List (List Int))) (inner := [.slice Ao23 y263.length co23, .slice Ao24 y266.length co24, .slice Ao25 y269.length co25, .slice Ao26 y272.length co26, .slice Ao27 y275.length co27, .slice Ao28 y278.length co28, .slice Ao29 y281.length co29, .slice Ao30 y284.length co30]) (ok := (fun k_ => (w.heap.size ≤ k_) ∧ k_ ≠ g)) (okp := (fun k_ => (w.heap.size ≤ k_) ∧ k_ ≠ g)) ?hr ?hp (fun _ hk => hk) ((show ∀ k_, w21.heap.size ≤ k_ → (fun k_ => (w.heap.size ≤ k_) ∧ k_ ≠ g) k_ from fun k_ hk => ⟨(Nat.le_trans (keep_size (w := w) (g := g) (row := none) (kH HK)) hk), IsS64.fresh (by repeat (first | (with_reducible first | exact HI0.out | apply IsS64.alloc | apply IsS64.drewN | apply IsS64.drew | apply IsS64.set_1 | apply IsS64.set_2) | exact HI0.out)) k_ hk⟩) _ (Nat.le_refl _)) (Below.refl _ _) (Nat.le_refl _) (by simp) ?_; (case hd => rfl); (case hg => rfl); (case hr => first | (go_simp; done) | (go_simp; rfl)); (case hp => exact (Reps.one (show Kd.FK (Kd.slice 3 (Kd.int .i64)) _ _ y263 [.slice Ao23 y263.length co23] from (Kd.FK_slice_mk (Kd.R_reads' (Kd.R_mono (ok' := (fun k_ => (w.heap.size ≤ k_) ∧ k_ ≠ g)) (IsS64.apart HI0.out (HO265.out) (by decide)) (fun k_ hk => ⟨hk.1.1.1.1.1.1.1.1.1, hk.2⟩))).2.1 (Kd.R_F (Kd.R_mono (ok' := (fun k_ => (w.heap.size ≤ k_) ∧ k_ ≠ g)) (IsS64.apart HI0.out (HO265.out) (by decide)) (fun k_ hk => ⟨hk.1.1.1.1.1.1.1.1.1, hk.2⟩))))) (Reps.one (show Kd.FK (Kd.slice 3 (Kd.int .i64)) _ _ y266 [.slice Ao24 y266.length co24] from (Kd.FK_slice_mk (Kd.R_reads' (Kd.R_mono (ok' := (fun k_ => (w.heap.size ≤ k_) ∧ k_ ≠ g)) (IsS64.apart HI0.out (HO268.out) (by decide)) (fun k_ hk => ⟨hk.1.1.1.1.1.1.1.1.1, hk.2⟩))).2.1 (Kd.R_F (Kd.R_mono (ok' := (fun k_ => (w.heap.size ≤ k_) ∧ k_ ≠ g)) (IsS64.apart HI0.out (HO268.out) (by decide)) (fun k_ hk => ⟨hk.1.1.1.1.1.1.1.1.1, hk.2⟩))))) (Reps.one (show Kd.FK (Kd.slice 3 (Kd.int .i64)) _ _ y269 [.slice Ao25 y269.length co25] from (Kd.FK_slice_mk (Kd.R_reads' (Kd.R_mono (ok' := (fun k_ => (w.heap.size ≤ k_) ∧ k_ ≠ g)) (IsS64.apart HI0.out (HO271.out) (by decide)) (fun k_ hk => ⟨hk.1.1.1.1.1.1.1.1.1, hk.2⟩))).2.1 (Kd.R_F (Kd.R_mono (ok' := (fun k_ => (w.heap.size ≤ k_) ∧ k_ ≠ g)) (IsS64.apart HI0.out (HO271.out) (by decide)) (fun k_ hk => ⟨hk.1.1.1.1.1.1.1.1.1, hk.2⟩))))) (Reps.one (show Kd.FK (Kd.slice 3 (Kd.int .i64)) _ _ y272 [.slice Ao26 y272.length co26] from (Kd.FK_slice_mk (Kd.R_reads' (Kd.R_mono (ok' := (fun k_ => (w.heap.size ≤ k_) ∧ k_ ≠ g)) (IsS64.apart HI0.out (HO274.out) (by decide)) (fun k_ hk => ⟨hk.1.1.1.1.1.1.1.1.1, hk.2⟩))).2.1 (Kd.R_F (Kd.R_mono (ok' := (fun k_ => (w.heap.size ≤ k_) ∧ k_ ≠ g)) (IsS64.apart HI0.out (HO274.out) (by decide)) (fun k_ hk => ⟨hk.1.1.1.1.1.1.1.1.1, hk.2⟩))))) (Reps.one (show Kd.FK (Kd.slice 3 (Kd.int .i64)) _ _ y275 [.slice Ao27 y275.length co27] from (Kd.FK_slice_mk (Kd.R_reads' (Kd.R_mono (ok' := (fun k_ => (w.heap.size ≤ k_) ∧ k_ ≠ g)) (IsS64.apart HI0.out (HO277.out) (by decide)) (fun k_ hk => ⟨hk.1.1.1.1.1.1.1.1.1, hk.2⟩))).2.1 (Kd.R_F (Kd.R_mono (ok' := (fun k_ => (w.heap.size ≤ k_) ∧ k_ ≠ g)) (IsS64.apart HI0.out (HO277.out) (by decide)) (fun k_ hk => ⟨hk.1.1.1.1.1.1.1.1.1, hk.2⟩))))) (Reps.one (show Kd.FK (Kd.slice 3 (Kd.int .i64)) _ _ y278 [.slice Ao28 y278.length co28] from (Kd.FK_slice_mk (Kd.R_reads' (Kd.R_mono (ok' := (fun k_ => (w.heap.size ≤ k_) ∧ k_ ≠ g)) (IsS64.apart HI0.out (HO280.out) (by decide)) (fun k_ hk => ⟨hk.1.1.1.1.1.1.1.1.1, hk.2⟩))).2.1 (Kd.R_F (Kd.R_mono (ok' := (fun k_ => (w.heap.size ≤ k_) ∧ k_ ≠ g)) (IsS64.apart HI0.out (HO280.out) (by decide)) (fun k_ hk => ⟨hk.1.1.1.1.1.1.1.1.1, hk.2⟩))))) (Reps.one (show Kd.FK (Kd.slice 3 (Kd.int .i64)) _ _ y281 [.slice Ao29 y281.length co29] from (Kd.FK_slice_mk (Kd.R_reads' (Kd.R_mono (ok' := (fun k_ => (w.heap.size ≤ k_) ∧ k_ ≠ g)) (IsS64.apart HI0.out (HO283.out) (by decide)) (fun k_ hk => ⟨hk.1.1.1.1.1.1.1.1.1, hk.2⟩))).2.1 (Kd.R_F (Kd.R_mono (ok' := (fun k_ => (w.heap.size ≤ k_) ∧ k_ ≠ g)) (IsS64.apart HI0.out (HO283.out) (by decide)) (fun k_ hk => ⟨hk.1.1.1.1.1.1.1.1.1, hk.2⟩))))) (Reps.one (show Kd.FK (Kd.slice 3 (Kd.int .i64)) _ _ y284 [.slice Ao30 y284.length co30] from (Kd.FK_slice_mk (Kd.R_reads' (Kd.R_mono (ok' := (fun k_ => (w.heap.size ≤ k_) ∧ k_ ≠ g)) (IsS64.apart HI0.out (HO286.out) (by decide)) (fun k_ hk => ⟨hk.1.1.1.1.1.1.1.1.1, hk.2⟩))).2.1 (Kd.R_F (Kd.R_mono (ok' := (fun k_ => (w.heap.size ≤ k_) ∧ k_ ≠ g)) (IsS64.apart HI0.out (HO286.out) (by decide)) (fun k_ hk => ⟨hk.1.1.1.1.1.1.1.1.1, hk.2⟩))))) (Reps.none _ _)))))))))); intro v288 w31 ho32 hb hg_ hnew_; clear hg_ hnew_; (first | rw [← Ny287.out] at ho32 | (simp only [Int.reduceToNat] at ho32; rw [← Ny287.out] at ho32)); have n0_ := Aside0.mk (Kd.N_lower ho32 (keep_size (w := w) (g := g) (row := none) (kH HK))); have n1_ := Aside0.mk (IsS64.below (by repeat (first | (with_reducible first | exact HI0.out | apply IsS64.alloc | apply IsS64.drewN | apply IsS64.drew | apply IsS64.set_1 | apply IsS64.set_2) | exact HI0.out)) hb); have n2_ := Aside0.mk (KeepBut.trans (kH HK) (KeepBut.of_below hb g none) (.inl rfl)); have n3_ := Aside0.mk (below_step (by repeat (first | (with_reducible first | exact HB.out | apply below_alloc | apply pw_below_drewN | apply below_drew1 | refine below_set ?_ (IsS64.ge HI0.out)) | exact HB.out | exact Below.refl _ _)) hb); clear HI0; clear HK; clear HB; clear HO265; clear HO268; clear HO271; clear HO274; clear HO277; clear HO280; clear HO283; clear HO286; have HO289 := n0_; have HI0 := n1_; have HK := n2_; have HB := n3_; clear n0_ n1_ n2_ n3_; clear hb ho32) | ((with_reducible refine gate_callee (f := 67) rfl ?_); refine gL (some 16) rfl rfl Try.func67 (by kernel_rfl) rfl #[.pointer (some ⟨g, 0, none⟩), .int .i64 8] rfl ?_; (with_reducible refine (spec_l1Cur_pick.calls g s0_0 s0_1 s0_2 8 t290 t291 t292 w0 _ ?side1 ?side2 A2.out).mono ?_); (case side1 => repeat (first | (with_reducible first | exact HI0.out | apply IsS64.alloc | apply IsS64.drewN | apply IsS64.drew | apply IsS64.set_1 | apply IsS64.set_2) | exact HI0.out)); (case side2 => repeat (first | (with_reducible first | exact HB.out | apply below_alloc | apply pw_below_drewN | apply below_drew1 | refine below_set ?_ (IsS64.ge HI0.out)) | exact HB.out | exact Below.refl _ _)); rintro e w33 ⟨rfl, hi, hb, hk⟩; refine ⟨_, rfl, ?_⟩; have n0_ := Aside0.mk (Kd.N_mono (Kd.N_keep (Kd.N_mono (ok := fun k_ => (((w.heap.size ≤ k_)) ∧ k_ ≠ g)) (nA HO289) (fun k_ hk_ => (⟨hk_, hk_.2⟩ : _ ∧ k_ ≠ g))) hk (fun _ h => h.2)) (fun _ h => h.1)); have n1_ := Aside0.mk (KeepBut.trans (kH HK) hk (.inl rfl)); have n2_ := Aside0.mk (hb); have n3_ := Aside0.mk (hi); clear HO289; clear HK; clear HB; clear HI0; have HO289 := n0_; have HK := n1_; have HB := n2_; have HI0 := n3_; clear n0_ n1_ n2_ n3_; (try clear hb); (try clear hb2); (try clear hk); (try clear hi); obtain ⟨Ao34, co34, eo34⟩ := Kd.N_slice HO289.out; subst eo34; have p293 : 0 ≤ (t290 : Int) := od; have q293 : t290 < (y287.length : Int) := od; obtain ⟨ad293, A293_0, c293_0, e293, hx293_0, hl293_0, hi293_0⟩ := at_L2 (Kd.N_reads' HO289.out).2.2 t290 p293 q293; cases e293; obtain ⟨ce293, hce293, hMe293, hcc293⟩ := Kd.N_get HO289.out [] t290 p293 (by first | exact q293 | exact od | (have e_ := (Kd.N_reads' HO289.out).1; omega)); obtain ⟨ua293_0, uc293_0, rfl, ul293_0, ge293_0⟩ := Kd.FK_slice_open hMe293; have hv293_0 := hcc293 0 _ rfl; rw [Nat.add_zero, show ((Kd.slice 3 (Kd.int .i64))).sz = 1 from rfl, Nat.mul_one] at hv293_0; replace hv293_0 := Option.some.inj (hv293_0.symm.trans hx293_0); injection hv293_0 with hva_ hvn_ hvc_; rw [hva_] at ge293_0; rw [hvc_] at ul293_0; have HL293_0 := Aside0.mk (show Kd.V (Kd.int .i64) 3 _ w.heap.size _ _ (rd_L2 y287 t290) from Kd.V_mk ul293_0 ge293_0); clear hva_ hvn_ hvc_ ge293_0 ul293_0; clear hcc293 hce293; have HR293_0 := Aside0.mk hi293_0; have HC293_0 := Aside0.mk hl293_0; clear hi293_0 hl293_0; replace p293 := eq_true p293; replace q293 := eq_true q293) | ((with_reducible refine gate_callee (f := 74) rfl ?_); refine gL (some 19) rfl rfl Try.func74 (by kernel_rfl) rfl #[.slice A293_0 (rd_L2 y287 t290).length c293_0] rfl ?_; (with_reducible refine (spec_l1Own.calls _ _ (rd_L2 y287 t290) t294 _ ?side1 ?side2 A5.out).mono ?_); (case side1 => repeat (first | exact (by repeat (first | (with_reducible exact HR293_0.out) | (with_reducible refine Kd.C_alloc ?_ _) | (with_reducible refine Kd.C_drewN ?_ _) | (with_reducible refine Kd.C_drew ?_) | exact HR293_0.out)) | (with_reducible refine Kd.C_alloc ?_ _) | (with_reducible refine Kd.C_drewN ?_ _) | (with_reducible refine Kd.C_drew ?_))); (case side2 => exact HC293_0.out); rintro e w35 ⟨v295, rfl, ho0, hb⟩; refine ⟨_, rfl, ?_⟩; have n0_ := Aside0.mk (Kd.N_elder' (nA HO289) (Kd.R_base ho0) hb); have n1_ := Aside0.mk (Kd.V_elder' (by (with_reducible repeat (first | apply Kd.V_alloc | apply Kd.V_drewN | apply Kd.V_drew)); exact HL293_0.out) (Kd.R_base ho0) hb); have n2_ := Aside0.mk (Kd.R_lower (Kd.R_newM (M := fun k_ => (w.heap.size ≤ k_)) ho0 (keep_size (w := w) (g := g) (row := none) (kH HK)) (fun k_ h_ => h_)) (keep_size (w := w) (g := g) (row := none) (kH HK))); have n3_ := Aside0.mk (IsS64.below (by repeat (first | (with_reducible first | exact HI0.out | apply IsS64.alloc | apply IsS64.drewN | apply IsS64.drew | apply IsS64.set_1 | apply IsS64.set_2) | exact HI0.out)) hb); have n4_ := Aside0.mk ((by with_reducible first | exact Kd.C_below HR293_0.out hb | exact Kd.C_below (Kd.C_drewN HR293_0.out _) hb | exact Kd.C_below (Kd.C_alloc HR293_0.out _) hb | exact Kd.C_below (Kd.C_drewN (Kd.C_drewN HR293_0.out _) _) hb)); have n5_ := Aside0.mk (KeepBut.trans (kH HK) (KeepBut.of_below hb g none) (.inl rfl)); have n6_ := Aside0.mk (below_step (by repeat (first | (with_reducible first | exact HB.out | apply below_alloc | apply pw_below_drewN | apply below_drew1 | refine below_set ?_ (IsS64.ge HI0.out)) | exact HB.out | exact Below.refl _ _)) hb); clear HO289; clear HL293_0; clear HI0; clear HR293_0; clear HK; clear HB; have HO289 := n0_; have HL293_0 := n1_; have HO296 := n2_; have HI0 := n3_; have HR293_0 := n4_; have HK := n5_; have HB := n6_; clear n0_ n1_ n2_ n3_ n4_ n5_ n6_; (try clear hb); (try clear hb2); (try clear hk); (try clear hi); (try clear ho0)) | ((with_reducible refine gate_dst (N := 21) rfl ?_); refine Kd.R_lit (Kd.int .i64) _ 3 ?hg (N := 21) ?hd (xs := ([0, 1, 2, 3, 5, 7] : List Int)) (inner := [.int .i64 0, .int .i64 1, .int .i64 2, .int .i64 3, .int .i64 5, .int .i64 7]) (ok := fun _ => True) (okp := fun _ => True) ?hr ?hp (fun _ hk => hk) trivial (Below.refl _ _) (Nat.le_refl _) (by simp) ?_; (case hd => rfl); (case hg => rfl); (case hr => first | (go_simp; done) | (go_simp; rfl)); (case hp => exact (Reps.one (show Kd.M (Kd.int .i64) _ _ _ 0 [.int .i64 0] from rfl) (Reps.one (show Kd.M (Kd.int .i64) _ _ _ 1 [.int .i64 1] from rfl) (Reps.one (show Kd.M (Kd.int .i64) _ _ _ 2 [.int .i64 2] from rfl) (Reps.one (show Kd.M (Kd.int .i64) _ _ _ 3 [.int .i64 3] from rfl) (Reps.one (show Kd.M (Kd.int .i64) _ _ _ 5 [.int .i64 5] from rfl) (Reps.one (show Kd.M (Kd.int .i64) _ _ _ 7 [.int .i64 7] from rfl) (Reps.none _ _)))))))); intro v298 w36 ho37 hb hg_ hnew_; clear hg_ hnew_; (first | rw [← Ny297.out] at ho37 | (simp only [Int.reduceToNat] at ho37; rw [← Ny297.out] at ho37)); have n0_ := Aside0.mk (Kd.N_elder' (nA HO289) (Kd.R_base ho37) hb); have n1_ := Aside0.mk (Kd.V_elder' (by (with_reducible repeat (first | apply Kd.V_alloc | apply Kd.V_drewN | apply Kd.V_drew)); exact HL293_0.out) (Kd.R_base ho37) hb); have n2_ := Aside0.mk (Kd.R_elder' (rA HO296) (Kd.R_base ho37) hb); have n3_ := Aside0.mk (Kd.R_lower (Kd.R_new' (Kd.R_newM (M := fun k_ => (w.heap.size ≤ k_)) ho37 (keep_size (w := w) (g := g) (row := none) (kH HK)) (fun k_ h_ => h_)) (Kd.R_lt (rA HO296))) (keep_size (w := w) (g := g) (row := none) (kH HK))); have n4_ := Aside0.mk (IsS64.below (by repeat (first | (with_reducible first | exact HI0.out | apply IsS64.alloc | apply IsS64.drewN | apply IsS64.drew | apply IsS64.set_1 | apply IsS64.set_2) | exact HI0.out)) hb); have n5_ := Aside0.mk ((by with_reducible first | exact Kd.C_below HR293_0.out hb | exact Kd.C_below (Kd.C_drewN HR293_0.out _) hb | exact Kd.C_below (Kd.C_alloc HR293_0.out _) hb | exact Kd.C_below (Kd.C_drewN (Kd.C_drewN HR293_0.out _) _) hb)); have n6_ := Aside0.mk (KeepBut.trans (kH HK) (KeepBut.of_below hb g none) (.inl rfl)); have n7_ := Aside0.mk (below_step (by repeat (first | (with_reducible first | exact HB.out | apply below_alloc | apply pw_below_drewN | apply below_drew1 | refine below_set ?_ (IsS64.ge HI0.out)) | exact HB.out | exact Below.refl _ _)) hb); clear HO289; clear HL293_0; clear HO296; clear HI0; clear HR293_0; clear HK; clear HB; have HO289 := n0_; have HL293_0 := n1_; have HO296 := n2_; have HO299 := n3_; have HI0 := n4_; have HR293_0 := n5_; have HK := n6_; have HB := n7_; clear n0_ n1_ n2_ n3_ n4_ n5_ n6_ n7_; clear hb ho37; obtain ⟨Ao38, co38, eo38⟩ := Kd.R_slice HO299.out; subst eo38) | ((with_reducible refine gate_callee (f := 53) rfl ?_); refine gL (some 22) rfl rfl Try.func53 (by kernel_rfl) rfl #[.pointer (some ⟨g, 0, none⟩), .slice Ao38 y297.length co38] rfl ?_; (with_reducible refine (spec_l1Cur_among.calls g s0_0 t291 t292 _ _ y297 t300 t301 t302 w0 _ ?side1 ?side2 ?side3 ?side4 ?side5 A6.out).mono ?_); (case side1 => repeat (first | (with_reducible first | exact HI0.out | apply IsS64.alloc | apply IsS64.drewN | apply IsS64.drew | apply IsS64.set_1 | apply IsS64.set_2) | exact HI0.out)); (case side2 => repeat (first | (with_reducible first | exact HB.out | apply below_alloc | apply pw_below_drewN | apply below_drew1 | refine below_set ?_ (IsS64.ge HI0.out)) | exact HB.out | exact Below.refl _ _)); (case side3 => exact cC (Kd.R_reads' HO299.out).2.2); (case side4 => exact (Kd.R_reads' HO299.out).2.1); (case side5 => exact far_slice (IsS64.own_ne HI0.out HO299.out (by decide))); rintro e w39 ⟨rfl, hi, hb, hk⟩; refine ⟨_, rfl, ?_⟩; have n0_ := Aside0.mk (Kd.N_mono (Kd.N_keep (Kd.N_mono (ok := fun k_ => (((((w.heap.size ≤ k_)) ∧ k_ ≠ g) ∧ some k_ ≠ (v295 : Value).ownBlock) ∧ some k_ ≠ (.slice Ao38 y297.length co38 : Value).ownBlock)) (nA HO289) (fun k_ hk_ => (⟨hk_, hk_.1.1.2⟩ : _ ∧ k_ ≠ g))) hk (fun _ h => h.2)) (fun _ h => h.1)); have n1_ := Aside0.mk (Kd.V_mono (Kd.V_keep (Kd.V_mono (ok := fun k_ => ((((((w.heap.size ≤ k_)) ∧ k_ ≠ g) ∧ some k_ ≠ (.slice (some ad293) y287.length co34 : Value).ownBlock) ∧ some k_ ≠ (v295 : Value).ownBlock) ∧ some k_ ≠ (.slice Ao38 y297.length co38 : Value).ownBlock)) (by (with_reducible repeat (first | apply Kd.V_alloc | apply Kd.V_drewN | apply Kd.V_drew)); exact HL293_0.out) (fun k_ hk_ => (⟨hk_, hk_.1.1.1.2⟩ : _ ∧ k_ ≠ g))) hk (fun _ h => h.2)) (fun _ h => h.1)); have n2_ := Aside0.mk (Kd.R_mono (Kd.R_keep (IsS64.apart (show IsS64 w0 _ g s0_0 t291 t292 from by repeat (first | (with_reducible first | exact HI0.out | apply IsS64.alloc | apply IsS64.drewN | apply IsS64.drew | apply IsS64.set_1 | apply IsS64.set_2) | exact HI0.out)) (rA HO296) (by decide)) hk (fun _ h => h.2)) (fun _ h => h.1)); have n3_ := Aside0.mk (Kd.R_mono (Kd.R_keep (IsS64.apart (show IsS64 w0 _ g s0_0 t291 t292 from by repeat (first | (with_reducible first | exact HI0.out | apply IsS64.alloc | apply IsS64.drewN | apply IsS64.drew | apply IsS64.set_1 | apply IsS64.set_2) | exact HI0.out)) (rA HO299) (by decide)) hk (fun _ h => h.2)) (fun _ h => h.1)); have n4_ := Aside0.mk (KeepBut.trans (kH HK) hk (.inl rfl)); have n5_ := Aside0.mk (hb); have n6_ := Aside0.mk (hi); clear HO289; clear HL293_0; clear HO296; clear HO299; clear HK; clear HB; clear HI0; have HO289 := n0_; have HL293_0 := n1_; have HO296 := n2_; have HO299 := n3_; have HK := n4_; have HB := n5_; have HI0 := n6_; clear n0_ n1_ n2_ n3_ n4_ n5_ n6_; (try clear hb); (try clear hb2); (try clear hk); (try clear hi)))
   go_loopg [3, 4] k (fun kq v3 v4 w' => ∃ (x3_1 : List Int) (x4_1 : Int) (x1001_1 : Int) (x1002_1 : Int), v4 = .int .i64 x4_1 ∧ Aside0 (spec_l1Cur_quad.l0 kq x3_1 x4_1 s0_0 x1001_1 x1002_1 = some (r1, r2, r3)) ∧ Aside0 (kq ≤ k) ∧ Aside0 (Kd.R (Kd.int .i64) 3 w' w.heap.size (fun k_ => (w.heap.size ≤ k_)) v3 x3_1) ∧ Aside0 (IsS64 w0 w' g s0_0 x1001_1 x1002_1) ∧ Aside0 (KeepBut w w' g none) ∧ Aside0 (Below w0.heap.size w0 w'))
   case atStart => exact ⟨(t294), (t300), (t301), (t302), e2, H', ⟨Nat.le_refl _⟩, ⟨by (with_reducible repeat (first | apply Kd.R_alloc | apply Kd.R_drewN | apply Kd.R_drew)); exact Kd.R_mono HO296.out (fun _ hk => hk.1.1)⟩, ⟨by repeat (first | (with_reducible first | exact HI0.out | apply IsS64.alloc | apply IsS64.drewN | apply IsS64.drew | apply IsS64.set_1 | apply IsS64.set_2) | exact HI0.out)⟩, ⟨kH HK⟩, ⟨by repeat (first | (with_reducible first | exact HB.out | apply below_alloc | apply pw_below_drewN | apply below_drew1 | refine below_set ?_ (IsS64.ge HI0.out)) | exact HB.out | exact Below.refl _ _)⟩⟩
   case round =>
    clear H'; (try clear c2); (try clear p2); (try clear q2); (try clear hx2); (try clear c3); (try clear c3b0); (try clear c4); (try clear c4b0); (try clear c5); (try clear c6); (try clear c7); (try clear c29); (try clear p29); (try clear q29); (try clear hx29); (try clear hx293_0); (try clear p293); (try clear q293)
    obtain ⟨x3_1, x4_1, x1001_1, x1002_1, rfl, HA, HK1, HO_3, HI0, HK, HB⟩ := hrel
    cases gk with
    | zero => exact absurd HA.out (by simp [spec_l1Cur_quad.l0])
    | succ k1 =>
     have H := HA.out
     clear HA
     simp only [spec_l1Cur_quad.l0] at H
     by_cases c40 : x4_1 > 0
     ·
      rw [if_pos c40] at H
      have c40b0 : decide (0 < x4_1) = true := decide_eq_true c40
      clear c40
      replace H := Option.bind_eq_some_iff.mp H
      obtain ⟨⟨t303, t304, t305⟩, A410, H⟩ := H
      replace H : ((spec_apSwap.f x3_1 t303).bind fun t306 => ((spec_apGood.f k1 t306).bind fun t309 => (if t309 = true then (spec_l1Cur_quad.l0 k1 t306 (wrap64 (x4_1 - 1)) s0_0 t304 t305) else (spec_l1Cur_quad.l0 k1 x3_1 (wrap64 (x4_1 - 1)) s0_0 t304 t305)))) = some (r1, r2, r3) := H
      have A41 := Aside0.mk A410
      clear A410
      replace H := Option.bind_eq_some_iff.mp H
      obtain ⟨t306, A420, H⟩ := H
      replace H : ((spec_apGood.f k1 t306).bind fun t309 => (if t309 = true then (spec_l1Cur_quad.l0 k1 t306 (wrap64 (x4_1 - 1)) s0_0 t304 t305) else (spec_l1Cur_quad.l0 k1 x3_1 (wrap64 (x4_1 - 1)) s0_0 t304 t305))) = some (r1, r2, r3) := H
      have A42 := Aside0.mk A420
      clear A420
      replace H := Option.bind_eq_some_iff.mp H
      obtain ⟨t309, A430, H⟩ := H
      replace H : (if t309 = true then (spec_l1Cur_quad.l0 k1 t306 (wrap64 (x4_1 - 1)) s0_0 t304 t305) else (spec_l1Cur_quad.l0 k1 x3_1 (wrap64 (x4_1 - 1)) s0_0 t304 t305)) = some (r1, r2, r3) := H
      have A43 := Aside0.mk A430
      clear A430
      by_cases c44 : t309 = true
      ·
       subst c44
       have H1 : (spec_l1Cur_quad.l0 k1 t306 (wrap64 (x4_1 - 1)) s0_0 t304 t305) = some (r1, r2, r3) := by rw [if_pos rfl] at H; exact H
       clear H
       have H := H1
       clear H1
       have H' := Aside0.mk H
       clear H
       go_wp2_with (first | ((with_reducible refine gate_callee (f := 67) rfl ?_); refine gL (some 29) rfl rfl Try.func67 (by kernel_rfl) rfl #[.pointer (some ⟨g, 0, none⟩), .int .i64 4] rfl ?_; (with_reducible refine (spec_l1Cur_pick.calls g s0_0 x1001_1 x1002_1 4 t303 t304 t305 w0 _ ?side1 ?side2 A41.out).mono ?_); (case side1 => repeat (first | (with_reducible first | exact HI0.out | apply IsS64.alloc | apply IsS64.drewN | apply IsS64.drew | apply IsS64.set_1 | apply IsS64.set_2) | exact HI0.out)); (case side2 => repeat (first | (with_reducible first | exact HB.out | apply below_alloc | apply pw_below_drewN | apply below_drew1 | refine below_set ?_ (IsS64.ge HI0.out)) | exact HB.out | exact Below.refl _ _)); rintro e w45 ⟨rfl, hi, hb, hk⟩; refine ⟨_, rfl, ?_⟩; have n0_ := Aside0.mk (Kd.R_mono (Kd.R_keep (IsS64.apart (show IsS64 w0 _ g s0_0 x1001_1 x1002_1 from by repeat (first | (with_reducible first | exact HI0.out | apply IsS64.alloc | apply IsS64.drewN | apply IsS64.drew | apply IsS64.set_1 | apply IsS64.set_2) | exact HI0.out)) (rA HO_3) (by decide)) hk (fun _ h => h.2)) (fun _ h => h.1)); have n1_ := Aside0.mk (KeepBut.trans (kH HK) hk (.inl rfl)); have n2_ := Aside0.mk (hb); have n3_ := Aside0.mk (hi); clear HO_3; clear HK; clear HB; clear HI0; have HO_3 := n0_; have HK := n1_; have HB := n2_; have HI0 := n3_; clear n0_ n1_ n2_ n3_; (try clear hb); (try clear hb2); (try clear hk); (try clear hi); obtain ⟨Ao46, co46, eo46⟩ := Kd.R_slice HO_3.out; subst eo46) | ((with_reducible refine gate_callee (f := 75) rfl ?_); refine gL (some 30) rfl rfl Try.func75 (by kernel_rfl) rfl #[.slice Ao46 x3_1.length co46, .int .i64 t303] rfl ?_; (with_reducible refine (spec_apSwap.calls _ _ x3_1 t303 t306 _ ?side1 ?side2 A42.out).mono ?_); (case side1 => exact cC (Kd.R_reads' HO_3.out).2.2); (case side2 => exact (Kd.R_reads' HO_3.out).2.1); rintro e w47 ⟨v307, rfl, ho0, hb⟩; refine ⟨_, rfl, ?_⟩; have n0_ := Aside0.mk (Kd.R_elder' (rA HO_3) (Kd.R_base ho0) hb); have n1_ := Aside0.mk (Kd.R_lower (Kd.R_new' (Kd.R_newM (M := fun k_ => (w.heap.size ≤ k_)) ho0 (keep_size (w := w) (g := g) (row := none) (kH HK)) (fun k_ h_ => h_)) (Kd.R_lt (rA HO_3))) (keep_size (w := w) (g := g) (row := none) (kH HK))); have n2_ := Aside0.mk (IsS64.below (by repeat (first | (with_reducible first | exact HI0.out | apply IsS64.alloc | apply IsS64.drewN | apply IsS64.drew | apply IsS64.set_1 | apply IsS64.set_2) | exact HI0.out)) hb); have n3_ := Aside0.mk (KeepBut.trans (kH HK) (KeepBut.of_below hb g none) (.inl rfl)); have n4_ := Aside0.mk (below_step (by repeat (first | (with_reducible first | exact HB.out | apply below_alloc | apply pw_below_drewN | apply below_drew1 | refine below_set ?_ (IsS64.ge HI0.out)) | exact HB.out | exact Below.refl _ _)) hb); clear HO_3; clear HI0; clear HK; clear HB; have HO_3 := n0_; have HO308 := n1_; have HI0 := n2_; have HK := n3_; have HB := n4_; clear n0_ n1_ n2_ n3_ n4_; (try clear hb); (try clear hb2); (try clear hk); (try clear hi); (try clear ho0); obtain ⟨Ao48, co48, eo48⟩ := Kd.R_slice HO308.out; subst eo48) | ((with_reducible refine gate_callee (f := 72) rfl ?_); refine gL (some 32) rfl rfl Try.func72 (by kernel_rfl) rfl #[.slice Ao48 t306.length co48] rfl ?_; (with_reducible refine (spec_apGood.calls k1 _ _ t306 true _ ?side1 ?side2 A43.out).mono ?_); (case side1 => exact cC (Kd.R_reads' HO308.out).2.2); (case side2 => exact (Kd.R_reads' HO308.out).2.1); rintro e w' ⟨rfl, ⟨nd, rfl⟩⟩; refine ⟨_, rfl, ?_⟩))
       go_roundg k1
       case measure => have := HK1.out; omega
       case rel => exact ⟨(t306), (wrap64 (x4_1 - 1)), (t304), (t305), e2, H', ⟨by have := HK1.out; omega⟩, ⟨by (with_reducible repeat (first | apply Kd.R_alloc | apply Kd.R_drewN | apply Kd.R_drew)); exact Kd.R_mono HO308.out (fun _ hk => hk.1.1)⟩, ⟨by repeat (first | (with_reducible first | exact HI0.out | apply IsS64.alloc | apply IsS64.drewN | apply IsS64.drew | apply IsS64.set_1 | apply IsS64.set_2) | exact HI0.out)⟩, ⟨kH HK⟩, ⟨by repeat (first | (with_reducible first | exact HB.out | apply below_alloc | apply pw_below_drewN | apply below_drew1 | refine below_set ?_ (IsS64.ge HI0.out)) | exact HB.out | exact Below.refl _ _)⟩⟩
      ·
       replace c44 := Bool.eq_false_iff.mpr c44
       subst c44
       have H1 : (spec_l1Cur_quad.l0 k1 x3_1 (wrap64 (x4_1 - 1)) s0_0 t304 t305) = some (r1, r2, r3) := by rw [if_neg (show ¬ (false = true) by decide)] at H; exact H
       clear H
       have H := H1
       clear H1
       have H' := Aside0.mk H
       clear H
       go_wp2_with (first | ((with_reducible refine gate_callee (f := 67) rfl ?_); refine gL (some 29) rfl rfl Try.func67 (by kernel_rfl) rfl #[.pointer (some ⟨g, 0, none⟩), .int .i64 4] rfl ?_; (with_reducible refine (spec_l1Cur_pick.calls g s0_0 x1001_1 x1002_1 4 t303 t304 t305 w0 _ ?side1 ?side2 A41.out).mono ?_); (case side1 => repeat (first | (with_reducible first | exact HI0.out | apply IsS64.alloc | apply IsS64.drewN | apply IsS64.drew | apply IsS64.set_1 | apply IsS64.set_2) | exact HI0.out)); (case side2 => repeat (first | (with_reducible first | exact HB.out | apply below_alloc | apply pw_below_drewN | apply below_drew1 | refine below_set ?_ (IsS64.ge HI0.out)) | exact HB.out | exact Below.refl _ _)); rintro e w49 ⟨rfl, hi, hb, hk⟩; refine ⟨_, rfl, ?_⟩; have n0_ := Aside0.mk (Kd.R_mono (Kd.R_keep (IsS64.apart (show IsS64 w0 _ g s0_0 x1001_1 x1002_1 from by repeat (first | (with_reducible first | exact HI0.out | apply IsS64.alloc | apply IsS64.drewN | apply IsS64.drew | apply IsS64.set_1 | apply IsS64.set_2) | exact HI0.out)) (rA HO_3) (by decide)) hk (fun _ h => h.2)) (fun _ h => h.1)); have n1_ := Aside0.mk (KeepBut.trans (kH HK) hk (.inl rfl)); have n2_ := Aside0.mk (hb); have n3_ := Aside0.mk (hi); clear HO_3; clear HK; clear HB; clear HI0; have HO_3 := n0_; have HK := n1_; have HB := n2_; have HI0 := n3_; clear n0_ n1_ n2_ n3_; (try clear hb); (try clear hb2); (try clear hk); (try clear hi); obtain ⟨Ao50, co50, eo50⟩ := Kd.R_slice HO_3.out; subst eo50) | ((with_reducible refine gate_callee (f := 75) rfl ?_); refine gL (some 30) rfl rfl Try.func75 (by kernel_rfl) rfl #[.slice Ao50 x3_1.length co50, .int .i64 t303] rfl ?_; (with_reducible refine (spec_apSwap.calls _ _ x3_1 t303 t306 _ ?side1 ?side2 A42.out).mono ?_); (case side1 => exact cC (Kd.R_reads' HO_3.out).2.2); (case side2 => exact (Kd.R_reads' HO_3.out).2.1); rintro e w51 ⟨v307, rfl, ho0, hb⟩; refine ⟨_, rfl, ?_⟩; have n0_ := Aside0.mk (Kd.R_elder' (rA HO_3) (Kd.R_base ho0) hb); have n1_ := Aside0.mk (Kd.R_lower (Kd.R_new' (Kd.R_newM (M := fun k_ => (w.heap.size ≤ k_)) ho0 (keep_size (w := w) (g := g) (row := none) (kH HK)) (fun k_ h_ => h_)) (Kd.R_lt (rA HO_3))) (keep_size (w := w) (g := g) (row := none) (kH HK))); have n2_ := Aside0.mk (IsS64.below (by repeat (first | (with_reducible first | exact HI0.out | apply IsS64.alloc | apply IsS64.drewN | apply IsS64.drew | apply IsS64.set_1 | apply IsS64.set_2) | exact HI0.out)) hb); have n3_ := Aside0.mk (KeepBut.trans (kH HK) (KeepBut.of_below hb g none) (.inl rfl)); have n4_ := Aside0.mk (below_step (by repeat (first | (with_reducible first | exact HB.out | apply below_alloc | apply pw_below_drewN | apply below_drew1 | refine below_set ?_ (IsS64.ge HI0.out)) | exact HB.out | exact Below.refl _ _)) hb); clear HO_3; clear HI0; clear HK; clear HB; have HO_3 := n0_; have HO308 := n1_; have HI0 := n2_; have HK := n3_; have HB := n4_; clear n0_ n1_ n2_ n3_ n4_; (try clear hb); (try clear hb2); (try clear hk); (try clear hi); (try clear ho0); obtain ⟨Ao52, co52, eo52⟩ := Kd.R_slice HO308.out; subst eo52) | ((with_reducible refine gate_callee (f := 72) rfl ?_); refine gL (some 32) rfl rfl Try.func72 (by kernel_rfl) rfl #[.slice Ao52 t306.length co52] rfl ?_; (with_reducible refine (spec_apGood.calls k1 _ _ t306 false _ ?side1 ?side2 A43.out).mono ?_); (case side1 => exact cC (Kd.R_reads' HO308.out).2.2); (case side2 => exact (Kd.R_reads' HO308.out).2.1); rintro e w' ⟨rfl, ⟨nd, rfl⟩⟩; refine ⟨_, rfl, ?_⟩))
       go_roundg k1
       case measure => have := HK1.out; omega
       case rel => exact ⟨(x3_1), (wrap64 (x4_1 - 1)), (t304), (t305), e2, H', ⟨by have := HK1.out; omega⟩, ⟨by (with_reducible repeat (first | apply Kd.R_alloc | apply Kd.R_drewN | apply Kd.R_drew)); exact Kd.R_mono HO_3.out (fun _ hk => hk.1)⟩, ⟨by repeat (first | (with_reducible first | exact HI0.out | apply IsS64.alloc | apply IsS64.drewN | apply IsS64.drew | apply IsS64.set_1 | apply IsS64.set_2) | exact HI0.out)⟩, ⟨kH HK⟩, ⟨by repeat (first | (with_reducible first | exact HB.out | apply below_alloc | apply pw_below_drewN | apply below_drew1 | refine below_set ?_ (IsS64.ge HI0.out)) | exact HB.out | exact Below.refl _ _)⟩⟩
     ·
      rw [if_neg c40] at H
      have c40b0 : decide (0 < x4_1) = false := decide_eq_false c40
      clear c40
      replace H := Option.bind_eq_some_iff.mp H
      obtain ⟨⟨t310, t311, t312⟩, A530, H⟩ := H
      replace H : (if t310 = 0 then ((spec_l1Cur_pick.f s0_0 t311 t312 4).bind fun bt313 => (if 0 ≤ bt313.1 then (if bt313.1 < (x3_1.length : Int) then ((spec_l1Cur_among.f s0_0 bt313.2.1 bt313.2.2 (([1, (-1), 2, 100000] : List Int))).bind fun bt320 => (some ((x3_1.set (bt313.1 : Int).toNat (wrap64 ((rd x3_1 bt313.1) + bt320.1))), bt320.2.1, bt320.2.2))) else (none)) else (none))) else (if t310 = 1 then (if x3_1.length < 17592186044416 then (some ((x3_1 ++ [0]), t311, t312)) else (none)) else (if t310 = 2 then ((some (([(([0, 0, 0, 0] : List Int)), (([1, (-2), (-2), (-3)] : List Int)), (([(-9223372036854775808), 0, 1, 1] : List Int)), (([0, 0, 100000, 100000] : List Int))] : List (List Int)) : List (List Int))).bind fun y339 => ((spec_l1Cur_pick.f s0_0 t311 t312 4).bind fun bt342 => (if 0 ≤ bt342.1 then (if bt342.1 < (y339.length : Int) then (some (rd_L2 y339 bt342.1, bt342.2.1, bt342.2.2)) else (none)) else (none)))) else (some (x3_1, t311, t312))))) = some (r1, r2, r3) := H
      have A53 := Aside0.mk A530
      clear A530
      by_cases c54 : t310 = 0
      ·
       rw [if_pos c54] at H
       have c54b0 : (t310 == 0) = true := beq_iff_eq.mpr c54
       have c54b1 : (t310 != 0) = false := bne_eq_false_iff_eq.mpr c54
       clear c54
       replace H := Option.bind_eq_some_iff.mp H
       obtain ⟨⟨t313, t314, t315⟩, A550, H⟩ := H
       replace H : (if 0 ≤ t313 then (if t313 < (x3_1.length : Int) then ((spec_l1Cur_among.f s0_0 t314 t315 (([1, (-1), 2, 100000] : List Int))).bind fun bt320 => (some ((x3_1.set (t313 : Int).toNat (wrap64 ((rd x3_1 t313) + bt320.1))), bt320.2.1, bt320.2.2))) else (none)) else (none)) = some (r1, r2, r3) := H
       have A55 := Aside0.mk A550
       clear A550
       by_cases c56 : 0 ≤ t313
       ·
        rw [if_pos c56] at H
        have c56b0 : decide (0 ≤ t313) = true := decide_eq_true c56
        clear c56
        by_cases c57 : t313 < (x3_1.length : Int)
        ·
         rw [if_pos c57] at H
         have c57b0 : decide (t313 < (x3_1.length : Int)) = true := decide_eq_true c57
         clear c57
         obtain ⟨y317, hy317⟩ : ∃ y_ : List Int, y_ = (([1, (-1), 2, 100000] : List Int)) := ⟨_, rfl⟩
         replace H : ((spec_l1Cur_among.f s0_0 t314 t315 y317).bind fun bt320 => (some ((x3_1.set (t313 : Int).toNat (wrap64 ((rd x3_1 t313) + bt320.1))), bt320.2.1, bt320.2.2))) = some (r1, r2, r3) := by first | (rw [hy317]; with_reducible exact H) | (have H2_ := (Option.bind_some _ _).symm.trans H; rw [hy317]; with_reducible exact H2_) | (have H2_ := (Option.bind_some _ _).symm.trans H; with_reducible exact H2_) | with_reducible exact H | (rw [hy317]; exact H) | exact H
         have Ny317 := Aside0.mk hy317
         clear hy317
         replace H := Option.bind_eq_some_iff.mp H
         obtain ⟨⟨t320, t321, t322⟩, A580, H⟩ := H
         replace H : (some ((x3_1.set (t313 : Int).toNat (wrap64 ((rd x3_1 t313) + t320))), t321, t322)) = some (r1, r2, r3) := H
         have A58 := Aside0.mk A580
         clear A580
         obtain ⟨y323, hy323⟩ : ∃ y_ : List Int, y_ = (x3_1.set (t313 : Int).toNat (wrap64 ((rd x3_1 t313) + t320))) := ⟨_, rfl⟩
         replace H : (some (y323, t321, t322)) = some (r1, r2, r3) := by first | (rw [hy323]; with_reducible exact H) | (have H2_ := (Option.bind_some _ _).symm.trans H; rw [hy323]; with_reducible exact H2_) | (have H2_ := (Option.bind_some _ _).symm.trans H; with_reducible exact H2_) | with_reducible exact H | (rw [hy323]; exact H) | exact H
         have Ny323 := Aside0.mk hy323
         clear hy323
         simp only [Option.some.injEq, Prod.mk.injEq] at H
         obtain ⟨rfl, rfl, rfl⟩ := H
         try go_wp2_with (first | ((with_reducible refine gate_callee (f := 67) rfl ?_); refine gL (some 35) rfl rfl Try.func67 (by kernel_rfl) rfl #[.pointer (some ⟨g, 0, none⟩), .int .i64 20] rfl ?_; (with_reducible refine (spec_l1Cur_pick.calls g s0_0 x1001_1 x1002_1 20 t310 t311 t312 w0 _ ?side1 ?side2 A53.out).mono ?_); (case side1 => repeat (first | (with_reducible first | exact HI0.out | apply IsS64.alloc | apply IsS64.drewN | apply IsS64.drew | apply IsS64.set_1 | apply IsS64.set_2) | exact HI0.out)); (case side2 => repeat (first | (with_reducible first | exact HB.out | apply below_alloc | apply pw_below_drewN | apply below_drew1 | refine below_set ?_ (IsS64.ge HI0.out)) | exact HB.out | exact Below.refl _ _)); rintro e w60 ⟨rfl, hi, hb, hk⟩; refine ⟨_, rfl, ?_⟩; have n0_ := Aside0.mk (Kd.R_mono (Kd.R_keep (IsS64.apart (show IsS64 w0 _ g s0_0 x1001_1 x1002_1 from by repeat (first | (with_reducible first | exact HI0.out | apply IsS64.alloc | apply IsS64.drewN | apply IsS64.drew | apply IsS64.set_1 | apply IsS64.set_2) | exact HI0.out)) (rA HO_3) (by decide)) hk (fun _ h => h.2)) (fun _ h => h.1)); have n1_ := Aside0.mk (KeepBut.trans (kH HK) hk (.inl rfl)); have n2_ := Aside0.mk (hb); have n3_ := Aside0.mk (hi); clear HO_3; clear HK; clear HB; clear HI0; have HO_3 := n0_; have HK := n1_; have HB := n2_; have HI0 := n3_; clear n0_ n1_ n2_ n3_; (try clear hb); (try clear hb2); (try clear hk); (try clear hi)))
         have n0_ := Aside0.mk (Kd.R_drew HO_3.out)
         have n1_ := Aside0.mk (IsS64.drew HI0.out)
         have n2_ := Aside0.mk (keep_drew HK.out)
         have n3_ := Aside0.mk (below_drew1 HB.out)
         clear HO_3; clear HI0; clear HK; clear HB
         have HO_3 := n0_
         have HI0 := n1_
         have HK := n2_
         have HB := n3_
         clear n0_ n1_ n2_ n3_
         obtain ⟨Ao_316, co_316, eo_316⟩ := Kd.R_slice HO_3.out
         subst eo_316
         have p316 : 0 ≤ (t313 : Int) := od
         have q316 : t313 < (x3_1.length : Int) := od
         obtain ⟨ad316, e316, hx316_0⟩ := Kd.at_int (Kd.R_reads' HO_3.out).2.2 t313 p316 q316
         cases e316
         replace p316 := eq_true p316
         replace q316 := eq_true q316
         refine start_ (n := 11) (S := fun w' => w'.cell? (ad316.add (t313).toNat) = some (.int .i64 (rd x3_1 t313))) (ds := [10]) #[O,O,O,O,O,O,O,O,O,O,O] (by kernel_rfl) rfl rfl (hx316_0) (fun hHeld => ?_); refine with_tabW spec_l1Cur_quad.tab10 spec_l1Cur_quad.bits10 (fun HT_ HW_ => ?_)
         generalize w60.drew = w61 at HO_3 HI0 HK HB hx316_0 hHeld ⊢
         refine pS 0 38 (BM 11 1) ?_
         refine pS 1 39 (BM 11 3) ?_
         refine pS 5 43 (BM 11 35) ?_
         refine join_ (σ := Value) 4 #[Y,Y,Y,Y,Y,Y,Y,O,O,O,O] (fun s_ => [(40, .int .i64 t313), (44, s_), (41, .pointer (some (ad316.add (t313).toNat))), (42, .int .i64 (rd x3_1 t313))]) (fun s_ w' => (w'.cell? (ad316.add (t313).toNat) = some (.int .i64 (rd x3_1 t313))) ∧ (Kd.R (Kd.int .i64) 3 w' w.heap.size (fun k_ => (w.heap.size ≤ k_) ∧ some k_ ≠ (.slice (some ad316) x3_1.length co_316 : Value).ownBlock) s_ y317) ∧ (Kd.R (Kd.int .i64) 3 w' w.heap.size (fun k_ => (w.heap.size ≤ k_) ∧ some k_ ≠ (s_ : Value).ownBlock) (.slice (some ad316) x3_1.length co_316 : Value) x3_1) ∧ (IsS64 w0 w' g s0_0 t314 t315) ∧ (KeepBut w w' g none) ∧ (Below w0.heap.size w0 w')) ?_ ?_
         rotate_left
         ·
          intro hCont
          refine two_ (i := 2) (j := 6) (Ni := some 40) (Nj := some 44) (BM 11 39) (BM 11 99) rfl rfl rfl rfl (two_of HT_.out (by kernel_rfl)) (by decide) (by decide) (fun K hK => ?_) (fun K hK => ?_)
          ·
           skip
           refine goes_ Try.func67 (by kernel_rfl) rfl #[.pointer (some ⟨g, 0, none⟩), .int .i64 4] (by rfl) rfl rfl (by (try simp only [List.map_toArray, List.map_cons, List.map_nil]); first | done | rfl | (simp only [List.length_drop, List.length_take]; rfl)) ?_
           with_reducible refine (spec_l1Cur_pick.calls g s0_0 t311 t312 4 t313 t314 t315 w0 _ ?side1 ?side2 A55.out).mono ?_
           (case side1 => repeat (first | (with_reducible first | exact HI0.out | apply IsS64.alloc | apply IsS64.drewN | apply IsS64.drew | apply IsS64.set_1 | apply IsS64.set_2) | exact HI0.out))
           (case side2 => repeat (first | (with_reducible first | exact HB.out | apply below_alloc | apply pw_below_drewN | apply below_drew1 | refine below_set ?_ (IsS64.ge HI0.out)) | exact HB.out | exact Below.refl _ _))
           rintro e w62 ⟨rfl, hi, hb, hk⟩
           have HS0_ := keep_cell hk (hHeld) (by first | (rw [add_block]; exact Kd.own_blk (IsS64.own_ne HI0.out HO_3.out (by decide))) | (show (Addr.add _ _).block ≠ _; rw [add_block]; exact Kd.own_blk (IsS64.own_ne HI0.out HO_3.out (by decide))) | exact Kd.own_blk (IsS64.own_ne HI0.out HO_3.out (by decide)))
           refine ⟨_, rfl, ?_⟩
           have n0_ := Aside0.mk (Kd.R_mono (Kd.R_keep (IsS64.apart (show IsS64 w0 _ g s0_0 t311 t312 from by repeat (first | (with_reducible first | exact HI0.out | apply IsS64.alloc | apply IsS64.drewN | apply IsS64.drew | apply IsS64.set_1 | apply IsS64.set_2) | exact HI0.out)) (rA HO_3) (by decide)) hk (fun _ h => h.2)) (fun _ h => h.1))
           have n1_ := Aside0.mk (KeepBut.trans (kH HK) hk (.inl rfl))
           have n2_ := Aside0.mk (hb)
           have n3_ := Aside0.mk (hi)
           clear HO_3; clear HK; clear HB; clear HI0
           have HO_3 := n0_
           have HK := n1_
           have HB := n2_
           have HI0 := n3_
           clear n0_ n1_ n2_ n3_
           (try clear hb)
           (try clear hb2)
           (try clear hk)
           (try clear hi)
           refine hK.out _ _ (HS0_) (fun hHeld => ?_)
           clear hK K
           refine norm_ (a' := ?_) ?_ ?_
           rotate_left
           ·
            show Act.put _ (some 40) _ = _
            simp only [AP]
            rfl
           refine pS 3 41 (BM 11 47) ?_
           refine take_ (i := 4) (N := some 42) (v := ?_) (a' := ?_) (BM 11 63) rfl rfl (take_ofW HT_.out HW_.out (by kernel_rfl)) (fun _ _ _ h => h) (Or.inl ⟨by rfl, ?_⟩) hHeld ?_ ?_
           rotate_left
           ·
            intro w' s0
            go_simp
            with_reducible rfl
           rotate_left
           ·
            simp only [AP]
            rfl
           refine one_ (i := 6) (N := some 44) (BM 11 127) rfl rfl (one_of HT_.out (by kernel_rfl)) (by decide) (fun K hK => ?_)
           refine Kd.R_lit_step (Kd.int .i64) _ 3 ?hg (N := 44) ?hd (xs := ([1, (-1), 2, 100000] : List Int)) (inner := [.int .i64 1, .int .i64 (-1), .int .i64 2, .int .i64 100000]) (ok := fun _ => True) (okp := fun _ => True) ?hr ?hp (fun _ hk => hk) trivial (Below.refl _ _) (Nat.le_refl _) (by simp) ?_; (case hd => rfl); (case hg => rfl); (case hr => first | (go_simp; done) | (go_simp; rfl)); (case hp => exact (Reps.one (show Kd.M (Kd.int .i64) _ _ _ 1 [.int .i64 1] from rfl) (Reps.one (show Kd.M (Kd.int .i64) _ _ _ (-1) [.int .i64 (-1)] from rfl) (Reps.one (show Kd.M (Kd.int .i64) _ _ _ 2 [.int .i64 2] from rfl) (Reps.one (show Kd.M (Kd.int .i64) _ _ _ 100000 [.int .i64 100000] from rfl) (Reps.none _ _))))))
           intro v318 w63 ho64 hb hg_ hnew_
           have HS0_ := (hb.cell (World.block_lt_of_cell? _ _ (hHeld))).trans (hHeld)
           clear hg_ hnew_
           (first | rw [← Ny317.out] at ho64 | (simp only [Int.reduceToNat] at ho64; rw [← Ny317.out] at ho64))
           have n0_ := Aside0.mk (Kd.R_elder' (rA HO_3) (Kd.R_base ho64) hb)
           have n1_ := Aside0.mk (Kd.R_lower (Kd.R_new' (Kd.R_newM (M := fun k_ => (w.heap.size ≤ k_)) ho64 (keep_size (w := w) (g := g) (row := none) (kH HK)) (fun k_ h_ => h_)) (Kd.R_lt (rA HO_3))) (keep_size (w := w) (g := g) (row := none) (kH HK)))
           have n2_ := Aside0.mk (IsS64.below (by repeat (first | (with_reducible first | exact HI0.out | apply IsS64.alloc | apply IsS64.drewN | apply IsS64.drew | apply IsS64.set_1 | apply IsS64.set_2) | exact HI0.out)) hb)
           have n3_ := Aside0.mk (KeepBut.trans (kH HK) (KeepBut.of_below hb g none) (.inl rfl))
           have n4_ := Aside0.mk (below_step (by repeat (first | (with_reducible first | exact HB.out | apply below_alloc | apply pw_below_drewN | apply below_drew1 | refine below_set ?_ (IsS64.ge HI0.out)) | exact HB.out | exact Below.refl _ _)) hb)
           clear HO_3; clear HI0; clear HK; clear HB
           have HO_3 := n0_
           have HO319 := n1_
           have HI0 := n2_
           have HK := n3_
           have HB := n4_
           clear n0_ n1_ n2_ n3_ n4_
           clear hb ho64
           refine hK.out _ _ (HS0_) (fun hHeld => ?_)
           clear hK K
           refine norm_ (a' := ?_) ?_ ?_
           rotate_left
           ·
            show Act.put _ (some 44) _ = _
            simp only [AP]
            rfl
           exact norm_ (by simp only [putAll, Act.put, List.setIfInBounds_toArray, List.set_cons_zero, List.set_cons_succ]) (hCont (v318) _ ⟨hHeld, (by (with_reducible repeat (first | apply Kd.R_alloc | apply Kd.R_drewN | apply Kd.R_drew)); exact Kd.R_mono HO319.out (fun _ hk => ⟨hk.1.1, hk.2⟩)), (rA HO_3), (by repeat (first | (with_reducible first | exact HI0.out | apply IsS64.alloc | apply IsS64.drewN | apply IsS64.drew | apply IsS64.set_1 | apply IsS64.set_2) | exact HI0.out)), (kH HK), (by repeat (first | (with_reducible first | exact HB.out | apply below_alloc | apply pw_below_drewN | apply below_drew1 | refine below_set ?_ (IsS64.ge HI0.out)) | exact HB.out | exact Below.refl _ _))⟩)
          ·
           skip
           refine Kd.R_lit_step (Kd.int .i64) _ 3 ?hg (N := 44) ?hd (xs := ([1, (-1), 2, 100000] : List Int)) (inner := [.int .i64 1, .int .i64 (-1), .int .i64 2, .int .i64 100000]) (ok := fun _ => True) (okp := fun _ => True) ?hr ?hp (fun _ hk => hk) trivial (Below.refl _ _) (Nat.le_refl _) (by simp) ?_; (case hd => rfl); (case hg => rfl); (case hr => first | (go_simp; done) | (go_simp; rfl)); (case hp => exact (Reps.one (show Kd.M (Kd.int .i64) _ _ _ 1 [.int .i64 1] from rfl) (Reps.one (show Kd.M (Kd.int .i64) _ _ _ (-1) [.int .i64 (-1)] from rfl) (Reps.one (show Kd.M (Kd.int .i64) _ _ _ 2 [.int .i64 2] from rfl) (Reps.one (show Kd.M (Kd.int .i64) _ _ _ 100000 [.int .i64 100000] from rfl) (Reps.none _ _))))))
           intro v318 w62 ho63 hb hg_ hnew_
           have HS0_ := (hb.cell (World.block_lt_of_cell? _ _ (hHeld))).trans (hHeld)
           clear hg_ hnew_
           (first | rw [← Ny317.out] at ho63 | (simp only [Int.reduceToNat] at ho63; rw [← Ny317.out] at ho63))
           have n0_ := Aside0.mk (Kd.R_elder' (rA HO_3) (Kd.R_base ho63) hb)
           have n1_ := Aside0.mk (Kd.R_lower (Kd.R_new' (Kd.R_newM (M := fun k_ => (w.heap.size ≤ k_)) ho63 (keep_size (w := w) (g := g) (row := none) (kH HK)) (fun k_ h_ => h_)) (Kd.R_lt (rA HO_3))) (keep_size (w := w) (g := g) (row := none) (kH HK)))
           have n2_ := Aside0.mk (IsS64.below (by repeat (first | (with_reducible first | exact HI0.out | apply IsS64.alloc | apply IsS64.drewN | apply IsS64.drew | apply IsS64.set_1 | apply IsS64.set_2) | exact HI0.out)) hb)
           have n3_ := Aside0.mk (KeepBut.trans (kH HK) (KeepBut.of_below hb g none) (.inl rfl))
           have n4_ := Aside0.mk (below_step (by repeat (first | (with_reducible first | exact HB.out | apply below_alloc | apply pw_below_drewN | apply below_drew1 | refine below_set ?_ (IsS64.ge HI0.out)) | exact HB.out | exact Below.refl _ _)) hb)
           clear HO_3; clear HI0; clear HK; clear HB
           have HO_3 := n0_
           have HO319 := n1_
           have HI0 := n2_
           have HK := n3_
           have HB := n4_
           clear n0_ n1_ n2_ n3_ n4_
           clear hb ho63
           refine hK.out _ _ (HS0_) (fun hHeld => ?_)
           clear hK K
           refine norm_ (a' := ?_) ?_ ?_
           rotate_left
           ·
            show Act.put _ (some 44) _ = _
            simp only [AP]
            rfl
           refine one_ (i := 2) (N := some 40) (BM 11 103) rfl rfl (one_of HT_.out (by kernel_rfl)) (by decide) (fun K hK => ?_)
           refine goes_ Try.func67 (by kernel_rfl) rfl #[.pointer (some ⟨g, 0, none⟩), .int .i64 4] (by rfl) rfl rfl (by (try simp only [List.map_toArray, List.map_cons, List.map_nil]); first | done | rfl | (simp only [List.length_drop, List.length_take]; rfl)) ?_
           with_reducible refine (spec_l1Cur_pick.calls g s0_0 t311 t312 4 t313 t314 t315 w0 _ ?side1 ?side2 A55.out).mono ?_
           (case side1 => repeat (first | (with_reducible first | exact HI0.out | apply IsS64.alloc | apply IsS64.drewN | apply IsS64.drew | apply IsS64.set_1 | apply IsS64.set_2) | exact HI0.out))
           (case side2 => repeat (first | (with_reducible first | exact HB.out | apply below_alloc | apply pw_below_drewN | apply below_drew1 | refine below_set ?_ (IsS64.ge HI0.out)) | exact HB.out | exact Below.refl _ _))
           rintro e w64 ⟨rfl, hi, hb, hk⟩
           have HS0_ := keep_cell hk (hHeld) (by first | (rw [add_block]; exact Kd.own_blk (IsS64.own_ne HI0.out HO_3.out (by decide))) | (show (Addr.add _ _).block ≠ _; rw [add_block]; exact Kd.own_blk (IsS64.own_ne HI0.out HO_3.out (by decide))) | exact Kd.own_blk (IsS64.own_ne HI0.out HO_3.out (by decide)))
           refine ⟨_, rfl, ?_⟩
           have n0_ := Aside0.mk (Kd.R_mono (Kd.R_keep (IsS64.apart (show IsS64 w0 _ g s0_0 t311 t312 from by repeat (first | (with_reducible first | exact HI0.out | apply IsS64.alloc | apply IsS64.drewN | apply IsS64.drew | apply IsS64.set_1 | apply IsS64.set_2) | exact HI0.out)) (rA HO_3) (by decide)) hk (fun _ h => h.2)) (fun _ h => h.1))
           have n1_ := Aside0.mk (Kd.R_mono (Kd.R_keep (IsS64.apart (show IsS64 w0 _ g s0_0 t311 t312 from by repeat (first | (with_reducible first | exact HI0.out | apply IsS64.alloc | apply IsS64.drewN | apply IsS64.drew | apply IsS64.set_1 | apply IsS64.set_2) | exact HI0.out)) (rA HO319) (by decide)) hk (fun _ h => h.2)) (fun _ h => h.1))
           have n2_ := Aside0.mk (KeepBut.trans (kH HK) hk (.inl rfl))
           have n3_ := Aside0.mk (hb)
           have n4_ := Aside0.mk (hi)
           clear HO_3; clear HO319; clear HK; clear HB; clear HI0
           have HO_3 := n0_
           have HO319 := n1_
           have HK := n2_
           have HB := n3_
           have HI0 := n4_
           clear n0_ n1_ n2_ n3_ n4_
           (try clear hb)
           (try clear hb2)
           (try clear hk)
           (try clear hi)
           refine hK.out _ _ (HS0_) (fun hHeld => ?_)
           clear hK K
           refine norm_ (a' := ?_) ?_ ?_
           rotate_left
           ·
            show Act.put _ (some 40) _ = _
            simp only [AP]
            rfl
           refine pS 3 41 (BM 11 111) ?_
           refine take_ (i := 4) (N := some 42) (v := ?_) (a' := ?_) (BM 11 127) rfl rfl (take_ofW HT_.out HW_.out (by kernel_rfl)) (fun _ _ _ h => h) (Or.inl ⟨by rfl, ?_⟩) hHeld ?_ ?_
           rotate_left
           ·
            intro w' s0
            go_simp
            with_reducible rfl
           rotate_left
           ·
            simp only [AP]
            rfl
           exact norm_ (by simp only [putAll, Act.put, List.setIfInBounds_toArray, List.set_cons_zero, List.set_cons_succ]) (hCont (v318) _ ⟨hHeld, (by (with_reducible repeat (first | apply Kd.R_alloc | apply Kd.R_drewN | apply Kd.R_drew)); exact Kd.R_mono HO319.out (fun _ hk => ⟨hk.1.1, hk.2⟩)), (rA HO_3), (by repeat (first | (with_reducible first | exact HI0.out | apply IsS64.alloc | apply IsS64.drewN | apply IsS64.drew | apply IsS64.set_1 | apply IsS64.set_2) | exact HI0.out)), (kH HK), (by repeat (first | (with_reducible first | exact HB.out | apply below_alloc | apply pw_below_drewN | apply below_drew1 | refine below_set ?_ (IsS64.ge HI0.out)) | exact HB.out | exact Below.refl _ _))⟩)
         rintro v318 w65 ⟨hS_, h0_, h1_, h2_, h3_, h4_⟩
         have n0_ : Aside0 (Kd.R (Kd.int .i64) 3 w65 w.heap.size (fun k_ => (w.heap.size ≤ k_) ∧ some k_ ≠ (.slice (some ad316) x3_1.length co_316 : Value).ownBlock) v318 y317) := ⟨h0_⟩
         have n1_ : Aside0 (Kd.R (Kd.int .i64) 3 w65 w.heap.size (fun k_ => (w.heap.size ≤ k_) ∧ some k_ ≠ (v318 : Value).ownBlock) (.slice (some ad316) x3_1.length co_316 : Value) x3_1) := ⟨h1_⟩
         have n2_ : Aside0 (IsS64 w0 w65 g s0_0 t314 t315) := ⟨h2_⟩
         have n3_ : Aside0 (KeepBut w w65 g none) := ⟨h3_⟩
         have n4_ : Aside0 (Below w0.heap.size w0 w65) := ⟨h4_⟩
         clear HO_3; clear HI0; clear HK; clear HB
         clear h0_ h1_ h2_ h3_ h4_
         have HO319 := n0_
         have HO_3 := n1_
         have HI0 := n2_
         have HK := n3_
         have HB := n4_
         clear n0_ n1_ n2_ n3_ n4_
         have hHeld : w65.cell? (ad316.add (t313).toNat) = some (.int .i64 (rd x3_1 t313)) := hS_
         obtain ⟨Ao66, co66, eo66⟩ := Kd.R_slice HO_3.out
         (first | subst eo66 | (injection eo66 with f1_ f2_ f3_; have f4_ := f1_.symm; have f5_ := f3_.symm; clear f1_ f2_ f3_; subst f4_; subst f5_))
         obtain ⟨Ao67, co67, eo67⟩ := Kd.R_slice HO319.out
         (first | subst eo67 | (injection eo67 with f1_ f2_ f3_; have f4_ := f1_.symm; have f5_ := f3_.symm; clear f1_ f2_ f3_; subst f4_; subst f5_))
         refine norm_ (a' := ?_) ?_ ?_
         rotate_left
         ·
          simp only [putAll, Act.put, List.setIfInBounds_toArray, List.set_cons_zero, List.set_cons_succ]
          rfl
         refine one_ (i := 7) (N := some 45) (BM 11 255) rfl rfl (one_of HT_.out (by kernel_rfl)) (by decide) (fun K hK => ?_)
         refine goes_ Try.func53 (by kernel_rfl) rfl #[.pointer (some ⟨g, 0, none⟩), .slice Ao67 y317.length co67] (by rfl) rfl rfl (by (try simp only [List.map_toArray, List.map_cons, List.map_nil]); first | done | rfl | (simp only [List.length_drop, List.length_take]; rfl)) ?_
         with_reducible refine (spec_l1Cur_among.calls g s0_0 t314 t315 _ _ y317 t320 t321 t322 w0 _ ?side1 ?side2 ?side3 ?side4 ?side5 A58.out).mono ?_
         (case side1 => repeat (first | (with_reducible first | exact HI0.out | apply IsS64.alloc | apply IsS64.drewN | apply IsS64.drew | apply IsS64.set_1 | apply IsS64.set_2) | exact HI0.out))
         (case side2 => repeat (first | (with_reducible first | exact HB.out | apply below_alloc | apply pw_below_drewN | apply below_drew1 | refine below_set ?_ (IsS64.ge HI0.out)) | exact HB.out | exact Below.refl _ _))
         (case side3 => exact cC (Kd.R_reads' HO319.out).2.2)
         (case side4 => exact (Kd.R_reads' HO319.out).2.1)
         (case side5 => exact far_slice (IsS64.own_ne HI0.out HO319.out (by decide)))
         rintro e w68 ⟨rfl, hi, hb, hk⟩
         have HS0_ := keep_cell hk (hHeld) (by first | (rw [add_block]; exact Kd.own_blk (IsS64.own_ne HI0.out HO_3.out (by decide))) | (show (Addr.add _ _).block ≠ _; rw [add_block]; exact Kd.own_blk (IsS64.own_ne HI0.out HO_3.out (by decide))) | exact Kd.own_blk (IsS64.own_ne HI0.out HO_3.out (by decide)))
         refine ⟨_, rfl, ?_⟩
         have n0_ := Aside0.mk (Kd.R_mono (Kd.R_keep (IsS64.apart (show IsS64 w0 _ g s0_0 t314 t315 from by repeat (first | (with_reducible first | exact HI0.out | apply IsS64.alloc | apply IsS64.drewN | apply IsS64.drew | apply IsS64.set_1 | apply IsS64.set_2) | exact HI0.out)) (rA HO_3) (by decide)) hk (fun _ h => h.2)) (fun _ h => h.1))
         have n1_ := Aside0.mk (Kd.R_mono (Kd.R_keep (IsS64.apart (show IsS64 w0 _ g s0_0 t314 t315 from by repeat (first | (with_reducible first | exact HI0.out | apply IsS64.alloc | apply IsS64.drewN | apply IsS64.drew | apply IsS64.set_1 | apply IsS64.set_2) | exact HI0.out)) (rA HO319) (by decide)) hk (fun _ h => h.2)) (fun _ h => h.1))
         have n2_ := Aside0.mk (KeepBut.trans (kH HK) hk (.inl rfl))
         have n3_ := Aside0.mk (hb)
         have n4_ := Aside0.mk (hi)
         clear HO_3; clear HO319; clear HK; clear HB; clear HI0
         have HO_3 := n0_
         have HO319 := n1_
         have HK := n2_
         have HB := n3_
         have HI0 := n4_
         clear n0_ n1_ n2_ n3_ n4_
         (try clear hb)
         (try clear hb2)
         (try clear hk)
         (try clear hi)
         have p59 : 0 ≤ (t313 : Int) := od
         have q59 : (t313 : Int) < ((x3_1.length : Int) : Int) := od
         obtain ⟨go59, co59, eo59, gb59, gl59, cl59, HG59⟩ := Kd.R_form HO_3.out (by omega)
         (first | cases eo59 | (injection eo59 with ea_ en_ ec_; (first | subst ea_ | (injection ea_ with ea_; subst ea_)); subst ec_; clear en_))
         have GB59 := Aside0.mk gb59
         have GG59 := Aside0.mk HG59
         clear gb59 gl59 HG59
         (first | simp only [add_plain] at hx316_0 | skip)
         obtain ⟨hx59_0, hf59_0⟩ := Kd.R_celln 0 HO_3.out (t313 : Int) p59 q59
         replace p59 := eq_true p59
         replace q59 := eq_true q59
         have HN0_go59 := Aside0.mk (show g ≠ go59 from by have h_ := IsS64.own_ne HI0.out HO_3.out (by decide); intro e_; exact h_ (by rw [e_]; rfl))
         have HP69 := Kd.R_putn HO_3.out (t313 : Int) (wrap64 ((rd x3_1 t313) + t320))
         rw [← Ny323.out] at HP69
         have HQ69 := Aside0.mk HP69
         clear HP69
         refine hK.out _ _ (HS0_) (fun hHeld => ?_)
         clear hK K
         refine norm_ (a' := ?_) ?_ ?_
         rotate_left
         ·
          show Act.put _ (some 45) _ = _
          simp only [AP]
          rfl
         refine pS 8 46 (BM 11 511) ?_
         refine pS 9 47 (BM 11 1023) ?_
         refine last_ (i := 10) (N := none) (BM 11 2047) rfl rfl (one_of HT_.out (by kernel_rfl)) (by decide) (fun K hK => ?_)
         refine skip_ (w1 := ?_) (by rfl) rfl ?_ ?_
         rotate_left
         ·
          go_simp
          rfl
         refine hK.out _ _ ?_
         clear hK K
         refine done_ (done_of HT_.out (by kernel_rfl)) ?_
         try go_wp2
         go_ret
         exact ⟨_, e1, Kd.R_V (by (with_reducible repeat (first | apply Kd.R_alloc | apply Kd.R_drewN | apply Kd.R_drew)); exact Kd.R_mono HQ69.out (fun _ hk => hk.1)), by repeat (first | (with_reducible first | exact HI0.out | apply IsS64.alloc | apply IsS64.drewN | apply IsS64.drew | apply IsS64.set_1 | apply IsS64.set_2 | refine IsS64.far ?_ HN0_go59.out _) | exact HI0.out), by repeat (first | (with_reducible first | exact HB.out | apply below_alloc | apply pw_below_drewN | apply below_drew1 | refine below_set ?_ (Nat.le_trans HL.out GB59.out) | refine below_set ?_ (IsS64.ge HI0.out)) | exact HB.out | exact Below.refl _ _), by repeat (first | (with_reducible first | exact HK.out | apply KeepBut.set_ | apply keep_drewN | apply keep_drew | apply keep_alloc | refine keep_far ?_ GB59.out _) | exact HK.out)⟩
        ·
         rw [if_neg c57] at H
         exact absurd H (by simp)
       ·
        rw [if_neg c56] at H
        exact absurd H (by simp)
      ·
       rw [if_neg c54] at H
       have c54b0 : (t310 == 0) = false := beq_eq_false_iff_ne.mpr c54
       have c54b1 : (t310 != 0) = true := bne_iff_ne.mpr c54
       by_cases c70 : t310 = 1
       ·
        rw [if_pos c70] at H
        have c70b0 : (t310 == 1) = true := beq_iff_eq.mpr c70
        have c70b1 : (t310 != 1) = false := bne_eq_false_iff_eq.mpr c70
        clear c70
        by_cases c71 : x3_1.length < 17592186044416
        ·
         rw [if_pos c71] at H
         have LMc71 := Aside0.mk c71
         clear c71
         obtain ⟨y324, hy324⟩ : ∃ y_ : List Int, y_ = (x3_1 ++ [0]) := ⟨_, rfl⟩
         replace H : (some (y324, t311, t312)) = some (r1, r2, r3) := by first | (rw [hy324]; with_reducible exact H) | (have H2_ := (Option.bind_some _ _).symm.trans H; rw [hy324]; with_reducible exact H2_) | (have H2_ := (Option.bind_some _ _).symm.trans H; with_reducible exact H2_) | with_reducible exact H | (rw [hy324]; exact H) | exact H
         have Ny324 := Aside0.mk hy324
         clear hy324
         simp only [Option.some.injEq, Prod.mk.injEq] at H
         obtain ⟨rfl, rfl, rfl⟩ := H
         go_wp2_with (first | ((with_reducible refine gate_callee (f := 67) rfl ?_); refine gL (some 35) rfl rfl Try.func67 (by kernel_rfl) rfl #[.pointer (some ⟨g, 0, none⟩), .int .i64 20] rfl ?_; (with_reducible refine (spec_l1Cur_pick.calls g s0_0 x1001_1 x1002_1 20 t310 t311 t312 w0 _ ?side1 ?side2 A53.out).mono ?_); (case side1 => repeat (first | (with_reducible first | exact HI0.out | apply IsS64.alloc | apply IsS64.drewN | apply IsS64.drew | apply IsS64.set_1 | apply IsS64.set_2) | exact HI0.out)); (case side2 => repeat (first | (with_reducible first | exact HB.out | apply below_alloc | apply pw_below_drewN | apply below_drew1 | refine below_set ?_ (IsS64.ge HI0.out)) | exact HB.out | exact Below.refl _ _)); rintro e w72 ⟨rfl, hi, hb, hk⟩; refine ⟨_, rfl, ?_⟩; have n0_ := Aside0.mk (Kd.R_mono (Kd.R_keep (IsS64.apart (show IsS64 w0 _ g s0_0 x1001_1 x1002_1 from by repeat (first | (with_reducible first | exact HI0.out | apply IsS64.alloc | apply IsS64.drewN | apply IsS64.drew | apply IsS64.set_1 | apply IsS64.set_2) | exact HI0.out)) (rA HO_3) (by decide)) hk (fun _ h => h.2)) (fun _ h => h.1)); have n1_ := Aside0.mk (KeepBut.trans (kH HK) hk (.inl rfl)); have n2_ := Aside0.mk (hb); have n3_ := Aside0.mk (hi); clear HO_3; clear HK; clear HB; clear HI0; have HO_3 := n0_; have HK := n1_; have HB := n2_; have HI0 := n3_; clear n0_ n1_ n2_ n3_; (try clear hb); (try clear hb2); (try clear hk); (try clear hi)) | ((with_reducible refine gate_builtin (b := .append) (xs := #[.tmp 50, .tmp 51]) rfl ?_); at_builtin; refine Kd.R_append (Kd.int .i64) w.heap.size rfl (.tmp 50) (.tmp 51) 35 3 (.int .i64 0) 8 rfl Try.underlying35 info3 rfl (by decide) (by omega) u3 x3_1 0 [.int .i64 0] (fun k_ => (w.heap.size ≤ k_)) (fun _ => False) rfl rfl ?aP (fun _ hk => hk.elim) ?aF ?aO (Below.refl _ _) ?aS ?aL ?_; (case aP => exact rfl); (case aF => exact (fun k_ hk => (Nat.le_trans (keep_size (w := w) (g := g) (row := none) (kH HK)) hk))); (case aO => exact (rA HO_3)); (case aS => exact (keep_size (w := w) (g := g) (row := none) (kH HK))); (case aL => have := LMc71.out; omega); intro v325 w73 ho hb hg hat; rw [← Ny324.out] at ho; have n0_ := Aside0.mk (IsS64.grown (by repeat (first | (with_reducible first | exact HI0.out | apply IsS64.alloc | apply IsS64.drewN | apply IsS64.drew | apply IsS64.set_1 | apply IsS64.set_2) | exact HI0.out)) hg (IsS64.own_ne HI0.out HO_3.out (by decide))); have n1_ := Aside0.mk (below_weaken (by repeat (first | (with_reducible first | exact HB.out | apply below_alloc | apply pw_below_drewN | apply below_drew1 | refine below_set ?_ (IsS64.ge HI0.out)) | exact HB.out | exact Below.refl _ _)) HL.out hb); have n2_ := Aside0.mk (KeepBut.trans (kH HK) (KeepBut.of_grown hg g) (Kd.R_base2 HO_3.out)); have n3_ := Aside0.mk (ho); clear HI0; clear HB; clear HK; clear HO_3; have HI0 := n0_; have HB := n1_; have HK := n2_; have HO326 := n3_; clear n0_ n1_ n2_ n3_; clear ho hb hg hat))
         go_ret
         exact ⟨_, e1, Kd.R_V (rA HO326), by repeat (first | (with_reducible first | exact HI0.out | apply IsS64.alloc | apply IsS64.drewN | apply IsS64.drew | apply IsS64.set_1 | apply IsS64.set_2) | exact HI0.out), by repeat (first | (with_reducible first | exact HB.out | apply below_alloc | apply pw_below_drewN | apply below_drew1 | refine below_set ?_ (IsS64.ge HI0.out)) | exact HB.out | exact Below.refl _ _), kH HK⟩
        ·
         rw [if_neg c71] at H
         exact absurd H (by simp)
       ·
        rw [if_neg c70] at H
        have c70b0 : (t310 == 1) = false := beq_eq_false_iff_ne.mpr c70
        have c70b1 : (t310 != 1) = true := bne_iff_ne.mpr c70
        by_cases c74 : t310 = 2
        ·
         rw [if_pos c74] at H
         have c74b0 : (t310 == 2) = true := beq_iff_eq.mpr c74
         have c74b1 : (t310 != 2) = false := bne_eq_false_iff_eq.mpr c74
         clear c74
         obtain ⟨y327, hy327⟩ : ∃ y_ : List Int, y_ = (([0, 0, 0, 0] : List Int)) := ⟨_, rfl⟩
         replace H : ((some (([y327, (([1, (-2), (-2), (-3)] : List Int)), (([(-9223372036854775808), 0, 1, 1] : List Int)), (([0, 0, 100000, 100000] : List Int))] : List (List Int)) : List (List Int))).bind fun y339 => ((spec_l1Cur_pick.f s0_0 t311 t312 4).bind fun bt342 => (if 0 ≤ bt342.1 then (if bt342.1 < (y339.length : Int) then (some (rd_L2 y339 bt342.1, bt342.2.1, bt342.2.2)) else (none)) else (none)))) = some (r1, r2, r3) := by first | (rw [hy327]; with_reducible exact H) | (have H2_ := (Option.bind_some _ _).symm.trans H; rw [hy327]; with_reducible exact H2_) | (have H2_ := (Option.bind_some _ _).symm.trans H; with_reducible exact H2_) | with_reducible exact H | (rw [hy327]; exact H) | exact H
         have Ny327 := Aside0.mk hy327
         clear hy327
         obtain ⟨y330, hy330⟩ : ∃ y_ : List Int, y_ = (([1, (-2), (-2), (-3)] : List Int)) := ⟨_, rfl⟩
         replace H : ((some (([y327, y330, (([(-9223372036854775808), 0, 1, 1] : List Int)), (([0, 0, 100000, 100000] : List Int))] : List (List Int)) : List (List Int))).bind fun y339 => ((spec_l1Cur_pick.f s0_0 t311 t312 4).bind fun bt342 => (if 0 ≤ bt342.1 then (if bt342.1 < (y339.length : Int) then (some (rd_L2 y339 bt342.1, bt342.2.1, bt342.2.2)) else (none)) else (none)))) = some (r1, r2, r3) := by first | (rw [hy330]; with_reducible exact H) | (have H2_ := (Option.bind_some _ _).symm.trans H; rw [hy330]; with_reducible exact H2_) | (have H2_ := (Option.bind_some _ _).symm.trans H; with_reducible exact H2_) | with_reducible exact H | (rw [hy330]; exact H) | exact H
         have Ny330 := Aside0.mk hy330
         clear hy330
         obtain ⟨y333, hy333⟩ : ∃ y_ : List Int, y_ = (([(-9223372036854775808), 0, 1, 1] : List Int)) := ⟨_, rfl⟩
         replace H : ((some (([y327, y330, y333, (([0, 0, 100000, 100000] : List Int))] : List (List Int)) : List (List Int))).bind fun y339 => ((spec_l1Cur_pick.f s0_0 t311 t312 4).bind fun bt342 => (if 0 ≤ bt342.1 then (if bt342.1 < (y339.length : Int) then (some (rd_L2 y339 bt342.1, bt342.2.1, bt342.2.2)) else (none)) else (none)))) = some (r1, r2, r3) := by first | (rw [hy333]; with_reducible exact H) | (have H2_ := (Option.bind_some _ _).symm.trans H; rw [hy333]; with_reducible exact H2_) | (have H2_ := (Option.bind_some _ _).symm.trans H; with_reducible exact H2_) | with_reducible exact H | (rw [hy333]; exact H) | exact H
         have Ny333 := Aside0.mk hy333
         clear hy333
         obtain ⟨y336, hy336⟩ : ∃ y_ : List Int, y_ = (([0, 0, 100000, 100000] : List Int)) := ⟨_, rfl⟩
         replace H : ((some (([y327, y330, y333, y336] : List (List Int)) : List (List Int))).bind fun y339 => ((spec_l1Cur_pick.f s0_0 t311 t312 4).bind fun bt342 => (if 0 ≤ bt342.1 then (if bt342.1 < (y339.length : Int) then (some (rd_L2 y339 bt342.1, bt342.2.1, bt342.2.2)) else (none)) else (none)))) = some (r1, r2, r3) := by first | (rw [hy336]; with_reducible exact H) | (have H2_ := (Option.bind_some _ _).symm.trans H; rw [hy336]; with_reducible exact H2_) | (have H2_ := (Option.bind_some _ _).symm.trans H; with_reducible exact H2_) | with_reducible exact H | (rw [hy336]; exact H) | exact H
         have Ny336 := Aside0.mk hy336
         clear hy336
         obtain ⟨y339, hy339⟩ : ∃ y_ : List (List Int), y_ = (([y327, y330, y333, y336] : List (List Int))) := ⟨_, rfl⟩
         replace H : ((spec_l1Cur_pick.f s0_0 t311 t312 4).bind fun bt342 => (if 0 ≤ bt342.1 then (if bt342.1 < (y339.length : Int) then (some (rd_L2 y339 bt342.1, bt342.2.1, bt342.2.2)) else (none)) else (none))) = some (r1, r2, r3) := by first | (rw [hy339]; with_reducible exact H) | (have H2_ := (Option.bind_some _ _).symm.trans H; rw [hy339]; with_reducible exact H2_) | (have H2_ := (Option.bind_some _ _).symm.trans H; with_reducible exact H2_) | with_reducible exact H | (rw [hy339]; exact H) | exact H
         have Ny339 := Aside0.mk hy339
         clear hy339
         replace H := Option.bind_eq_some_iff.mp H
         obtain ⟨⟨t342, t343, t344⟩, A750, H⟩ := H
         replace H : (if 0 ≤ t342 then (if t342 < (y339.length : Int) then (some (rd_L2 y339 t342, t343, t344)) else (none)) else (none)) = some (r1, r2, r3) := H
         have A75 := Aside0.mk A750
         clear A750
         by_cases c76 : 0 ≤ t342
         ·
          rw [if_pos c76] at H
          have c76b0 : decide (0 ≤ t342) = true := decide_eq_true c76
          clear c76
          by_cases c77 : t342 < (y339.length : Int)
          ·
           rw [if_pos c77] at H
           have c77b0 : decide (t342 < (y339.length : Int)) = true := decide_eq_true c77
           clear c77
           simp only [Option.some.injEq, Prod.mk.injEq] at H
           obtain ⟨rfl, rfl, rfl⟩ := H
           go_wp2_with (first | ((with_reducible refine gate_callee (f := 67) rfl ?_); refine gL (some 35) rfl rfl Try.func67 (by kernel_rfl) rfl #[.pointer (some ⟨g, 0, none⟩), .int .i64 20] rfl ?_; (with_reducible refine (spec_l1Cur_pick.calls g s0_0 x1001_1 x1002_1 20 t310 t311 t312 w0 _ ?side1 ?side2 A53.out).mono ?_); (case side1 => repeat (first | (with_reducible first | exact HI0.out | apply IsS64.alloc | apply IsS64.drewN | apply IsS64.drew | apply IsS64.set_1 | apply IsS64.set_2) | exact HI0.out)); (case side2 => repeat (first | (with_reducible first | exact HB.out | apply below_alloc | apply pw_below_drewN | apply below_drew1 | refine below_set ?_ (IsS64.ge HI0.out)) | exact HB.out | exact Below.refl _ _)); rintro e w78 ⟨rfl, hi, hb, hk⟩; refine ⟨_, rfl, ?_⟩; have n0_ := Aside0.mk (Kd.R_mono (Kd.R_keep (IsS64.apart (show IsS64 w0 _ g s0_0 x1001_1 x1002_1 from by repeat (first | (with_reducible first | exact HI0.out | apply IsS64.alloc | apply IsS64.drewN | apply IsS64.drew | apply IsS64.set_1 | apply IsS64.set_2) | exact HI0.out)) (rA HO_3) (by decide)) hk (fun _ h => h.2)) (fun _ h => h.1)); have n1_ := Aside0.mk (KeepBut.trans (kH HK) hk (.inl rfl)); have n2_ := Aside0.mk (hb); have n3_ := Aside0.mk (hi); clear HO_3; clear HK; clear HB; clear HI0; have HO_3 := n0_; have HK := n1_; have HB := n2_; have HI0 := n3_; clear n0_ n1_ n2_ n3_; (try clear hb); (try clear hb2); (try clear hk); (try clear hi)) | ((with_reducible refine gate_dst (N := 55) rfl ?_); refine Kd.R_lit (Kd.int .i64) _ 3 ?hg (N := 55) ?hd (xs := ([0, 0, 0, 0] : List Int)) (inner := [.int .i64 0, .int .i64 0, .int .i64 0, .int .i64 0]) (ok := fun _ => True) (okp := fun _ => True) ?hr ?hp (fun _ hk => hk) trivial (Below.refl _ _) (Nat.le_refl _) (by simp) ?_; (case hd => rfl); (case hg => rfl); (case hr => first | (go_simp; done) | (go_simp; rfl)); (case hp => exact (Reps.one (show Kd.M (Kd.int .i64) _ _ _ 0 [.int .i64 0] from rfl) (Reps.one (show Kd.M (Kd.int .i64) _ _ _ 0 [.int .i64 0] from rfl) (Reps.one (show Kd.M (Kd.int .i64) _ _ _ 0 [.int .i64 0] from rfl) (Reps.one (show Kd.M (Kd.int .i64) _ _ _ 0 [.int .i64 0] from rfl) (Reps.none _ _)))))); intro v328 w79 ho80 hb hg_ hnew_; clear hg_ hnew_; (first | rw [← Ny327.out] at ho80 | (simp only [Int.reduceToNat] at ho80; rw [← Ny327.out] at ho80)); have n0_ := Aside0.mk (Kd.R_elder' (rA HO_3) (Kd.R_base ho80) hb); have n1_ := Aside0.mk (Kd.R_lower (Kd.R_new' (Kd.R_newM (M := fun k_ => (w.heap.size ≤ k_)) ho80 (keep_size (w := w) (g := g) (row := none) (kH HK)) (fun k_ h_ => h_)) (Kd.R_lt (rA HO_3))) (keep_size (w := w) (g := g) (row := none) (kH HK))); have n2_ := Aside0.mk (IsS64.below (by repeat (first | (with_reducible first | exact HI0.out | apply IsS64.alloc | apply IsS64.drewN | apply IsS64.drew | apply IsS64.set_1 | apply IsS64.set_2) | exact HI0.out)) hb); have n3_ := Aside0.mk (KeepBut.trans (kH HK) (KeepBut.of_below hb g none) (.inl rfl)); have n4_ := Aside0.mk (below_step (by repeat (first | (with_reducible first | exact HB.out | apply below_alloc | apply pw_below_drewN | apply below_drew1 | refine below_set ?_ (IsS64.ge HI0.out)) | exact HB.out | exact Below.refl _ _)) hb); clear HO_3; clear HI0; clear HK; clear HB; have HO_3 := n0_; have HO329 := n1_; have HI0 := n2_; have HK := n3_; have HB := n4_; clear n0_ n1_ n2_ n3_ n4_; clear hb ho80) | ((with_reducible refine gate_dst (N := 56) rfl ?_); refine Kd.R_lit (Kd.int .i64) _ 3 ?hg (N := 56) ?hd (xs := ([1, (-2), (-2), (-3)] : List Int)) (inner := [.int .i64 1, .int .i64 (-2), .int .i64 (-2), .int .i64 (-3)]) (ok := fun _ => True) (okp := fun _ => True) ?hr ?hp (fun _ hk => hk) trivial (Below.refl _ _) (Nat.le_refl _) (by simp) ?_; (case hd => rfl); (case hg => rfl); (case hr => first | (go_simp; done) | (go_simp; rfl)); (case hp => exact (Reps.one (show Kd.M (Kd.int .i64) _ _ _ 1 [.int .i64 1] from rfl) (Reps.one (show Kd.M (Kd.int .i64) _ _ _ (-2) [.int .i64 (-2)] from rfl) (Reps.one (show Kd.M (Kd.int .i64) _ _ _ (-2) [.int .i64 (-2)] from rfl) (Reps.one (show Kd.M (Kd.int .i64) _ _ _ (-3) [.int .i64 (-3)] from rfl) (Reps.none _ _)))))); intro v331 w81 ho82 hb hg_ hnew_; clear hg_ hnew_; (first | rw [← Ny330.out] at ho82 | (simp only [Int.reduceToNat] at ho82; rw [← Ny330.out] at ho82)); have n0_ := Aside0.mk (Kd.R_elder' (rA HO_3) (Kd.R_base ho82) hb); have n1_ := Aside0.mk (Kd.R_elder' (rA HO329) (Kd.R_base ho82) hb); have n2_ := Aside0.mk (Kd.R_lower (Kd.R_new' (Kd.R_new' (Kd.R_newM (M := fun k_ => (w.heap.size ≤ k_)) ho82 (keep_size (w := w) (g := g) (row := none) (kH HK)) (fun k_ h_ => h_)) (Kd.R_lt (rA HO_3))) (Kd.R_lt (rA HO329))) (keep_size (w := w) (g := g) (row := none) (kH HK))); have n3_ := Aside0.mk (IsS64.below (by repeat (first | (with_reducible first | exact HI0.out | apply IsS64.alloc | apply IsS64.drewN | apply IsS64.drew | apply IsS64.set_1 | apply IsS64.set_2) | exact HI0.out)) hb); have n4_ := Aside0.mk (KeepBut.trans (kH HK) (KeepBut.of_below hb g none) (.inl rfl)); have n5_ := Aside0.mk (below_step (by repeat (first | (with_reducible first | exact HB.out | apply below_alloc | apply pw_below_drewN | apply below_drew1 | refine below_set ?_ (IsS64.ge HI0.out)) | exact HB.out | exact Below.refl _ _)) hb); clear HO_3; clear HO329; clear HI0; clear HK; clear HB; have HO_3 := n0_; have HO329 := n1_; have HO332 := n2_; have HI0 := n3_; have HK := n4_; have HB := n5_; clear n0_ n1_ n2_ n3_ n4_ n5_; clear hb ho82) | ((with_reducible refine gate_dst (N := 57) rfl ?_); refine Kd.R_lit (Kd.int .i64) _ 3 ?hg (N := 57) ?hd (xs := ([(-9223372036854775808), 0, 1, 1] : List Int)) (inner := [.int .i64 (-9223372036854775808), .int .i64 0, .int .i64 1, .int .i64 1]) (ok := fun _ => True) (okp := fun _ => True) ?hr ?hp (fun _ hk => hk) trivial (Below.refl _ _) (Nat.le_refl _) (by simp) ?_; (case hd => rfl); (case hg => rfl); (case hr => first | (go_simp; done) | (go_simp; rfl)); (case hp => exact (Reps.one (show Kd.M (Kd.int .i64) _ _ _ (-9223372036854775808) [.int .i64 (-9223372036854775808)] from rfl) (Reps.one (show Kd.M (Kd.int .i64) _ _ _ 0 [.int .i64 0] from rfl) (Reps.one (show Kd.M (Kd.int .i64) _ _ _ 1 [.int .i64 1] from rfl) (Reps.one (show Kd.M (Kd.int .i64) _ _ _ 1 [.int .i64 1] from rfl) (Reps.none _ _)))))); intro v334 w83 ho84 hb hg_ hnew_; clear hg_ hnew_; (first | rw [← Ny333.out] at ho84 | (simp only [Int.reduceToNat] at ho84; rw [← Ny333.out] at ho84)); have n0_ := Aside0.mk (Kd.R_elder' (rA HO_3) (Kd.R_base ho84) hb); have n1_ := Aside0.mk (Kd.R_elder' (rA HO329) (Kd.R_base ho84) hb); have n2_ := Aside0.mk (Kd.R_elder' (rA HO332) (Kd.R_base ho84) hb); have n3_ := Aside0.mk (Kd.R_lower (Kd.R_new' (Kd.R_new' (Kd.R_new' (Kd.R_newM (M := fun k_ => (w.heap.size ≤ k_)) ho84 (keep_size (w := w) (g := g) (row := none) (kH HK)) (fun k_ h_ => h_)) (Kd.R_lt (rA HO_3))) (Kd.R_lt (rA HO329))) (Kd.R_lt (rA HO332))) (keep_size (w := w) (g := g) (row := none) (kH HK))); have n4_ := Aside0.mk (IsS64.below (by repeat (first | (with_reducible first | exact HI0.out | apply IsS64.alloc | apply IsS64.drewN | apply IsS64.drew | apply IsS64.set_1 | apply IsS64.set_2) | exact HI0.out)) hb); have n5_ := Aside0.mk (KeepBut.trans (kH HK) (KeepBut.of_below hb g none) (.inl rfl)); have n6_ := Aside0.mk (below_step (by repeat (first | (with_reducible first | exact HB.out | apply below_alloc | apply pw_below_drewN | apply below_drew1 | refine below_set ?_ (IsS64.ge HI0.out)) | exact HB.out | exact Below.refl _ _)) hb); clear HO_3; clear HO329; clear HO332; clear HI0; clear HK; clear HB; have HO_3 := n0_; have HO329 := n1_; have HO332 := n2_; have HO335 := n3_; have HI0 := n4_; have HK := n5_; have HB := n6_; clear n0_ n1_ n2_ n3_ n4_ n5_ n6_; clear hb ho84) | ((with_reducible refine gate_dst (N := 58) rfl ?_); refine Kd.R_lit (Kd.int .i64) _ 3 ?hg (N := 58) ?hd (xs := ([0, 0, 100000, 100000] : List Int)) (inner := [.int .i64 0, .int .i64 0, .int .i64 100000, .int .i64 100000]) (ok := fun _ => True) (okp := fun _ => True) ?hr ?hp (fun _ hk => hk) trivial (Below.refl _ _) (Nat.le_refl _) (by simp) ?_; (case hd => rfl); (case hg => rfl); (case hr => first | (go_simp; done) | (go_simp; rfl)); (case hp => exact (Reps.one (show Kd.M (Kd.int .i64) _ _ _ 0 [.int .i64 0] from rfl) (Reps.one (show Kd.M (Kd.int .i64) _ _ _ 0 [.int .i64 0] from rfl) (Reps.one (show Kd.M (Kd.int .i64) _ _ _ 100000 [.int .i64 100000] from rfl) (Reps.one (show Kd.M (Kd.int .i64) _ _ _ 100000 [.int .i64 100000] from rfl) (Reps.none _ _)))))); intro v337 w85 ho86 hb hg_ hnew_; clear hg_ hnew_; (first | rw [← Ny336.out] at ho86 | (simp only [Int.reduceToNat] at ho86; rw [← Ny336.out] at ho86)); have n0_ := Aside0.mk (Kd.R_elder' (rA HO_3) (Kd.R_base ho86) hb); have n1_ := Aside0.mk (Kd.R_elder' (rA HO329) (Kd.R_base ho86) hb); have n2_ := Aside0.mk (Kd.R_elder' (rA HO332) (Kd.R_base ho86) hb); have n3_ := Aside0.mk (Kd.R_elder' (rA HO335) (Kd.R_base ho86) hb); have n4_ := Aside0.mk (Kd.R_lower (Kd.R_new' (Kd.R_new' (Kd.R_new' (Kd.R_new' (Kd.R_newM (M := fun k_ => (w.heap.size ≤ k_)) ho86 (keep_size (w := w) (g := g) (row := none) (kH HK)) (fun k_ h_ => h_)) (Kd.R_lt (rA HO_3))) (Kd.R_lt (rA HO329))) (Kd.R_lt (rA HO332))) (Kd.R_lt (rA HO335))) (keep_size (w := w) (g := g) (row := none) (kH HK))); have n5_ := Aside0.mk (IsS64.below (by repeat (first | (with_reducible first | exact HI0.out | apply IsS64.alloc | apply IsS64.drewN | apply IsS64.drew | apply IsS64.set_1 | apply IsS64.set_2) | exact HI0.out)) hb); have n6_ := Aside0.mk (KeepBut.trans (kH HK) (KeepBut.of_below hb g none) (.inl rfl)); have n7_ := Aside0.mk (below_step (by repeat (first | (with_reducible first | exact HB.out | apply below_alloc | apply pw_below_drewN | apply below_drew1 | refine below_set ?_ (IsS64.ge HI0.out)) | exact HB.out | exact Below.refl _ _)) hb); clear HO_3; clear HO329; clear HO332; clear HO335; clear HI0; clear HK; clear HB; have HO_3 := n0_; have HO329 := n1_; have HO332 := n2_; have HO335 := n3_; have HO338 := n4_; have HI0 := n5_; have HK := n6_; have HB := n7_; clear n0_ n1_ n2_ n3_ n4_ n5_ n6_ n7_; clear hb ho86; obtain ⟨Ao87, co87, eo87⟩ := Kd.R_slice HO329.out; subst eo87; obtain ⟨Ao88, co88, eo88⟩ := Kd.R_slice HO332.out; subst eo88; obtain ⟨Ao89, co89, eo89⟩ := Kd.R_slice HO335.out; subst eo89; obtain ⟨Ao90, co90, eo90⟩ := Kd.R_slice HO338.out; subst eo90) | ((with_reducible refine gate_dst (N := 59) rfl ?_); refine Kd.N_lit (Kd.slice 3 (Kd.int .i64)) _ 35 ?hg (N' := 59) ?hd (xs := ([y327, y330, y333, y336] : List (List Int))) (inner := [.slice Ao87 y327.length co87, .slice Ao88 y330.length co88, .slice Ao89 y333.length co89, .slice Ao90 y336.length co90]) (ok := (fun k_ => (w.heap.size ≤ k_) ∧ some k_ ≠ (u3 : Value).ownBlock ∧ k_ ≠ g)) (okp := (fun k_ => (w.heap.size ≤ k_) ∧ some k_ ≠ (u3 : Value).ownBlock ∧ k_ ≠ g)) ?hr ?hp (fun _ hk => hk) ((show ∀ k_, w85.heap.size ≤ k_ → (fun k_ => (w.heap.size ≤ k_) ∧ some k_ ≠ (u3 : Value).ownBlock ∧ k_ ≠ g) k_ from fun k_ hk => ⟨(Nat.le_trans (keep_size (w := w) (g := g) (row := none) (kH HK)) hk), Kd.fresh' (Kd.R_lt (rA HO_3)) k_ hk, IsS64.fresh (by repeat (first | (with_reducible first | exact HI0.out | apply IsS64.alloc | apply IsS64.drewN | apply IsS64.drew | apply IsS64.set_1 | apply IsS64.set_2) | exact HI0.out)) k_ hk⟩) _ (Nat.le_refl _)) (Below.refl _ _) (Nat.le_refl _) (by simp) ?_; (case hd => rfl); (case hg => rfl); (case hr => first | (go_simp; done) | (go_simp; rfl)); (case hp => exact (Reps.one (show Kd.FK (Kd.slice 3 (Kd.int .i64)) _ _ y327 [.slice Ao87 y327.length co87] from (Kd.FK_slice_mk (Kd.R_reads' (Kd.R_mono (ok' := (fun k_ => (w.heap.size ≤ k_) ∧ some k_ ≠ (u3 : Value).ownBlock ∧ k_ ≠ g)) (IsS64.apart HI0.out (HO329.out) (by decide)) (fun k_ hk => ⟨hk.1.1.1.1.1.1, ⟨hk.1.1.1.1.2, hk.2⟩⟩))).2.1 (Kd.R_F (Kd.R_mono (ok' := (fun k_ => (w.heap.size ≤ k_) ∧ some k_ ≠ (u3 : Value).ownBlock ∧ k_ ≠ g)) (IsS64.apart HI0.out (HO329.out) (by decide)) (fun k_ hk => ⟨hk.1.1.1.1.1.1, ⟨hk.1.1.1.1.2, hk.2⟩⟩))))) (Reps.one (show Kd.FK (Kd.slice 3 (Kd.int .i64)) _ _ y330 [.slice Ao88 y330.length co88] from (Kd.FK_slice_mk (Kd.R_reads' (Kd.R_mono (ok' := (fun k_ => (w.heap.size ≤ k_) ∧ some k_ ≠ (u3 : Value).ownBlock ∧ k_ ≠ g)) (IsS64.apart HI0.out (HO332.out) (by decide)) (fun k_ hk => ⟨hk.1.1.1.1.1.1, ⟨hk.1.1.1.1.2, hk.2⟩⟩))).2.1 (Kd.R_F (Kd.R_mono (ok' := (fun k_ => (w.heap.size ≤ k_) ∧ some k_ ≠ (u3 : Value).ownBlock ∧ k_ ≠ g)) (IsS64.apart HI0.out (HO332.out) (by decide)) (fun k_ hk => ⟨hk.1.1.1.1.1.1, ⟨hk.1.1.1.1.2, hk.2⟩⟩))))) (Reps.one (show Kd.FK (Kd.slice 3 (Kd.int .i64)) _ _ y333 [.slice Ao89 y333.length co89] from (Kd.FK_slice_mk (Kd.R_reads' (Kd.R_mono (ok' := (fun k_ => (w.heap.size ≤ k_) ∧ some k_ ≠ (u3 : Value).ownBlock ∧ k_ ≠ g)) (IsS64.apart HI0.out (HO335.out) (by decide)) (fun k_ hk => ⟨hk.1.1.1.1.1.1, ⟨hk.1.1.1.1.2, hk.2⟩⟩))).2.1 (Kd.R_F (Kd.R_mono (ok' := (fun k_ => (w.heap.size ≤ k_) ∧ some k_ ≠ (u3 : Value).ownBlock ∧ k_ ≠ g)) (IsS64.apart HI0.out (HO335.out) (by decide)) (fun k_ hk => ⟨hk.1.1.1.1.1.1, ⟨hk.1.1.1.1.2, hk.2⟩⟩))))) (Reps.one (show Kd.FK (Kd.slice 3 (Kd.int .i64)) _ _ y336 [.slice Ao90 y336.length co90] from (Kd.FK_slice_mk (Kd.R_reads' (Kd.R_mono (ok' := (fun k_ => (w.heap.size ≤ k_) ∧ some k_ ≠ (u3 : Value).ownBlock ∧ k_ ≠ g)) (IsS64.apart HI0.out (HO338.out) (by decide)) (fun k_ hk => ⟨hk.1.1.1.1.1.1, ⟨hk.1.1.1.1.2, hk.2⟩⟩))).2.1 (Kd.R_F (Kd.R_mono (ok' := (fun k_ => (w.heap.size ≤ k_) ∧ some k_ ≠ (u3 : Value).ownBlock ∧ k_ ≠ g)) (IsS64.apart HI0.out (HO338.out) (by decide)) (fun k_ hk => ⟨hk.1.1.1.1.1.1, ⟨hk.1.1.1.1.2, hk.2⟩⟩))))) (Reps.none _ _)))))); intro v340 w91 ho92 hb hg_ hnew_; clear hg_ hnew_; (first | rw [← Ny339.out] at ho92 | (simp only [Int.reduceToNat] at ho92; rw [← Ny339.out] at ho92)); have n0_ := Aside0.mk (Kd.R_below (rA HO_3) hb); have n1_ := Aside0.mk (Kd.N_lower ho92 (keep_size (w := w) (g := g) (row := none) (kH HK))); have n2_ := Aside0.mk (IsS64.below (by repeat (first | (with_reducible first | exact HI0.out | apply IsS64.alloc | apply IsS64.drewN | apply IsS64.drew | apply IsS64.set_1 | apply IsS64.set_2) | exact HI0.out)) hb); have n3_ := Aside0.mk (KeepBut.trans (kH HK) (KeepBut.of_below hb g none) (.inl rfl)); have n4_ := Aside0.mk (below_step (by repeat (first | (with_reducible first | exact HB.out | apply below_alloc | apply pw_below_drewN | apply below_drew1 | refine below_set ?_ (IsS64.ge HI0.out)) | exact HB.out | exact Below.refl _ _)) hb); clear HO_3; clear HI0; clear HK; clear HB; clear HO329; clear HO332; clear HO335; clear HO338; have HO_3 := n0_; have HO341 := n1_; have HI0 := n2_; have HK := n3_; have HB := n4_; clear n0_ n1_ n2_ n3_ n4_; clear hb ho92) | ((with_reducible refine gate_callee (f := 67) rfl ?_); refine gL (some 61) rfl rfl Try.func67 (by kernel_rfl) rfl #[.pointer (some ⟨g, 0, none⟩), .int .i64 4] rfl ?_; (with_reducible refine (spec_l1Cur_pick.calls g s0_0 t311 t312 4 t342 t343 t344 w0 _ ?side1 ?side2 A75.out).mono ?_); (case side1 => repeat (first | (with_reducible first | exact HI0.out | apply IsS64.alloc | apply IsS64.drewN | apply IsS64.drew | apply IsS64.set_1 | apply IsS64.set_2) | exact HI0.out)); (case side2 => repeat (first | (with_reducible first | exact HB.out | apply below_alloc | apply pw_below_drewN | apply below_drew1 | refine below_set ?_ (IsS64.ge HI0.out)) | exact HB.out | exact Below.refl _ _)); rintro e w93 ⟨rfl, hi, hb, hk⟩; refine ⟨_, rfl, ?_⟩; have n0_ := Aside0.mk (Kd.R_mono (Kd.R_keep (IsS64.apart (show IsS64 w0 _ g s0_0 t311 t312 from by repeat (first | (with_reducible first | exact HI0.out | apply IsS64.alloc | apply IsS64.drewN | apply IsS64.drew | apply IsS64.set_1 | apply IsS64.set_2) | exact HI0.out)) (rA HO_3) (by decide)) hk (fun _ h => h.2)) (fun _ h => h.1)); have n1_ := Aside0.mk (Kd.N_mono (Kd.N_keep (Kd.N_mono (ok := fun k_ => (((w.heap.size ≤ k_)) ∧ (some k_ ≠ (u3 : Value).ownBlock ∧ k_ ≠ g))) (nA HO341) (fun k_ hk_ => (⟨hk_, hk_.2.2⟩ : _ ∧ k_ ≠ g))) hk (fun _ h => h.2)) (fun _ h => h.1)); have n2_ := Aside0.mk (KeepBut.trans (kH HK) hk (.inl rfl)); have n3_ := Aside0.mk (hb); have n4_ := Aside0.mk (hi); clear HO_3; clear HO341; clear HK; clear HB; clear HI0; have HO_3 := n0_; have HO341 := n1_; have HK := n2_; have HB := n3_; have HI0 := n4_; clear n0_ n1_ n2_ n3_ n4_; (try clear hb); (try clear hb2); (try clear hk); (try clear hi); obtain ⟨Ao94, co94, eo94⟩ := Kd.N_slice HO341.out; subst eo94; have p345 : 0 ≤ (t342 : Int) := od; have q345 : t342 < (y339.length : Int) := od; obtain ⟨ad345, A345_0, c345_0, e345, hx345_0, hl345_0, hi345_0⟩ := at_L2 (Kd.N_reads' HO341.out).2.2 t342 p345 q345; cases e345; obtain ⟨ce345, hce345, hMe345, hcc345⟩ := Kd.N_get HO341.out [] t342 p345 (by first | exact q345 | exact od | (have e_ := (Kd.N_reads' HO341.out).1; omega)); obtain ⟨ua345_0, uc345_0, rfl, ul345_0, ge345_0⟩ := Kd.FK_slice_open hMe345; have hv345_0 := hcc345 0 _ rfl; rw [Nat.add_zero, show ((Kd.slice 3 (Kd.int .i64))).sz = 1 from rfl, Nat.mul_one] at hv345_0; replace hv345_0 := Option.some.inj (hv345_0.symm.trans hx345_0); injection hv345_0 with hva_ hvn_ hvc_; rw [hva_] at ge345_0; rw [hvc_] at ul345_0; have HL345_0 := Aside0.mk (show Kd.V (Kd.int .i64) 3 _ w.heap.size _ _ (rd_L2 y339 t342) from Kd.V_mk ul345_0 ge345_0); clear hva_ hvn_ hvc_ ge345_0 ul345_0; clear hcc345 hce345; have HR345_0 := Aside0.mk hi345_0; have HC345_0 := Aside0.mk hl345_0; clear hi345_0 hl345_0; replace p345 := eq_true p345; replace q345 := eq_true q345))
           go_ret
           exact ⟨_, e1, by (with_reducible repeat (first | apply Kd.V_alloc | apply Kd.V_drewN | apply Kd.V_drew)); exact Kd.V_mono HL345_0.out (fun _ hk => hk.1.1), by repeat (first | (with_reducible first | exact HI0.out | apply IsS64.alloc | apply IsS64.drewN | apply IsS64.drew | apply IsS64.set_1 | apply IsS64.set_2) | exact HI0.out), by repeat (first | (with_reducible first | exact HB.out | apply below_alloc | apply pw_below_drewN | apply below_drew1 | refine below_set ?_ (IsS64.ge HI0.out)) | exact HB.out | exact Below.refl _ _), kH HK⟩
          ·
           rw [if_neg c77] at H
           exact absurd H (by simp)
         ·
          rw [if_neg c76] at H
          exact absurd H (by simp)
        ·
         rw [if_neg c74] at H
         have c74b0 : (t310 == 2) = false := beq_eq_false_iff_ne.mpr c74
         have c74b1 : (t310 != 2) = true := bne_iff_ne.mpr c74
         simp only [Option.some.injEq, Prod.mk.injEq] at H
         obtain ⟨rfl, rfl, rfl⟩ := H
         go_wp2_with (first | ((with_reducible refine gate_callee (f := 67) rfl ?_); refine gL (some 35) rfl rfl Try.func67 (by kernel_rfl) rfl #[.pointer (some ⟨g, 0, none⟩), .int .i64 20] rfl ?_; (with_reducible refine (spec_l1Cur_pick.calls g s0_0 x1001_1 x1002_1 20 t310 t311 t312 w0 _ ?side1 ?side2 A53.out).mono ?_); (case side1 => repeat (first | (with_reducible first | exact HI0.out | apply IsS64.alloc | apply IsS64.drewN | apply IsS64.drew | apply IsS64.set_1 | apply IsS64.set_2) | exact HI0.out)); (case side2 => repeat (first | (with_reducible first | exact HB.out | apply below_alloc | apply pw_below_drewN | apply below_drew1 | refine below_set ?_ (IsS64.ge HI0.out)) | exact HB.out | exact Below.refl _ _)); rintro e w95 ⟨rfl, hi, hb, hk⟩; refine ⟨_, rfl, ?_⟩; have n0_ := Aside0.mk (Kd.R_mono (Kd.R_keep (IsS64.apart (show IsS64 w0 _ g s0_0 x1001_1 x1002_1 from by repeat (first | (with_reducible first | exact HI0.out | apply IsS64.alloc | apply IsS64.drewN | apply IsS64.drew | apply IsS64.set_1 | apply IsS64.set_2) | exact HI0.out)) (rA HO_3) (by decide)) hk (fun _ h => h.2)) (fun _ h => h.1)); have n1_ := Aside0.mk (KeepBut.trans (kH HK) hk (.inl rfl)); have n2_ := Aside0.mk (hb); have n3_ := Aside0.mk (hi); clear HO_3; clear HK; clear HB; clear HI0; have HO_3 := n0_; have HK := n1_; have HB := n2_; have HI0 := n3_; clear n0_ n1_ n2_ n3_; (try clear hb); (try clear hb2); (try clear hk); (try clear hi)))
         go_ret
         exact ⟨_, e1, Kd.R_V (rA HO_3), by repeat (first | (with_reducible first | exact HI0.out | apply IsS64.alloc | apply IsS64.drewN | apply IsS64.drew | apply IsS64.set_1 | apply IsS64.set_2) | exact HI0.out), by repeat (first | (with_reducible first | exact HB.out | apply below_alloc | apply pw_below_drewN | apply below_drew1 | refine below_set ?_ (IsS64.ge HI0.out)) | exact HB.out | exact Below.refl _ _), kH HK⟩
  ·
   rw [if_neg c4] at H
   exact absurd H (by simp)
 ·
  rw [if_neg c3] at H
  exact absurd H (by simp)

/-! ### spec_l1Cur_one: function 68 -/
def spec_l1Cur_one.f (s0_0 : List Int) (s0_1 : Int) (s0_2 : Int) (a1 : Int) : Option (Bool × Int × Int) := (spec_l1Cur_pick.f s0_0 s0_1 s0_2 a1).bind fun bt346 => (some ((bt346.1 == 0), bt346.2.1, bt346.2.2))
set_option maxHeartbeats 8000000 in
set_option maxRecDepth 100000 in
theorem spec_l1Cur_one.calls (g : Nat) (s0_0 : List Int) (s0_1 : Int) (s0_2 : Int) (a1 : Int) (r1 : Bool) (r2 : Int) (r3 : Int) (w0 w : World) (hI : IsS64 w0 w g s0_0 s0_1 s0_2) (hB : Below w0.heap.size w0 w) (h : spec_l1Cur_one.f s0_0 s0_1 s0_2 a1 = some (r1, r2, r3)) :
 Calls Try.prog 68 #[.pointer (some ⟨g, 0, none⟩), .int .i64 a1] w fun e w' => e = .returned (.bool r1) ∧ IsS64 w0 w' g s0_0 r2 r3 ∧ Below w0.heap.size w0 w' ∧ KeepBut w w' g none := by
 have HI0 := Aside0.mk hI
 have HK := Aside0.mk (KeepBut.refl w g none)
 have HL := Aside0.mk hB.size
 clear hI
 have HW0 := Aside0.mk hB.size
 have HB := Aside0.mk hB
 clear hB
 have H : ((spec_l1Cur_pick.f s0_0 s0_1 s0_2 a1).bind fun bt346 => (some ((bt346.1 == 0), bt346.2.1, bt346.2.2))) = some (r1, r2, r3) := h
 clear h
 replace H := Option.bind_eq_some_iff.mp H
 obtain ⟨⟨t346, t347, t348⟩, A30, H⟩ := H
 replace H : (some ((t346 == 0), t347, t348)) = some (r1, r2, r3) := H
 have A3 := Aside0.mk A30
 clear A30
 simp only [Option.some.injEq, Prod.mk.injEq] at H
 obtain ⟨rfl, rfl, rfl⟩ := H
 go_enter Try.func68, Try.ntmps68
 go_wp2_with (first | ((with_reducible refine gate_callee (f := 67) rfl ?_); refine gL (some 7) rfl rfl Try.func67 (by kernel_rfl) rfl #[.pointer (some ⟨g, 0, none⟩), .int .i64 a1] rfl ?_; (with_reducible refine (spec_l1Cur_pick.calls g s0_0 s0_1 s0_2 a1 t346 t347 t348 w0 _ ?side1 ?side2 A3.out).mono ?_); (case side1 => repeat (first | (with_reducible first | exact HI0.out | apply IsS64.alloc | apply IsS64.drewN | apply IsS64.drew | apply IsS64.set_1 | apply IsS64.set_2) | exact HI0.out)); (case side2 => repeat (first | (with_reducible first | exact HB.out | apply below_alloc | apply pw_below_drewN | apply below_drew1 | refine below_set ?_ (IsS64.ge HI0.out)) | exact HB.out | exact Below.refl _ _)); rintro e w4 ⟨rfl, hi, hb, hk⟩; refine ⟨_, rfl, ?_⟩; have n0_ := Aside0.mk (KeepBut.trans (kH HK) hk (.inl rfl)); have n1_ := Aside0.mk (hb); have n2_ := Aside0.mk (hi); clear HK; clear HB; clear HI0; have HK := n0_; have HB := n1_; have HI0 := n2_; clear n0_ n1_ n2_; (try clear hb); (try clear hb2); (try clear hk); (try clear hi)))
 go_ret
 exact ⟨e1, by repeat (first | (with_reducible first | exact HI0.out | apply IsS64.alloc | apply IsS64.drewN | apply IsS64.drew | apply IsS64.set_1 | apply IsS64.set_2) | exact HI0.out), by repeat (first | (with_reducible first | exact HB.out | apply below_alloc | apply pw_below_drewN | apply below_drew1 | refine below_set ?_ (IsS64.ge HI0.out)) | exact HB.out | exact Below.refl _ _), kH HK⟩

end Go.Proofs.Ytnaginnhccldhaa.P
