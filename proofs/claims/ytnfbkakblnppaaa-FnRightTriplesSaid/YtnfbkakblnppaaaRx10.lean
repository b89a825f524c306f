-- Written by a program of this session (wip/mkprint.py over the kit's print), out of the translation. Not trusted: Lean checks it.
import Derived.Test.YtnfbkakblnppaaaRx0
import Derived.Test.YtnfbkakblnppaaaRx3
import Derived.Test.YtnfbkakblnppaaaRx9
namespace Go.Proofs.Ytnfbkakblnppaaa.P
open Go.RowKit Go.Proofs.YtnfbkakblnppaaaW.PrintWords Go.Proofs.YtnfbkakblnppaaaW.PrintLast Go.Proofs.YtnfbkakblnppaaaW.PrintMore
attribute [local go_sem] max2_int min2_int max_two min_two max_three min_three max_four min_four   -- for this text's walks alone
set_option linter.unusedVariables false
set_option linter.unusedSimpArgs false

/-! ### spec_riUpTo: function 108 -/
mutual
def spec_riUpTo.l0 : Nat → Int → List (List Int) → Int → Option ((List (List Int)))
 | 0, _, _, _ => none
 | k + 1, x0, x3, x4 => if (wrap64 (x4 * x4)) < x0 then (spec_riUpTo.l1 k x0 x3 x4 1) else (some x3)
def spec_riUpTo.l1 : Nat → Int → List (List Int) → Int → Int → Option ((List (List Int)))
 | 0, _, _, _, _ => none
 | k + 1, x0, x3, x4, x5 => if x5 < x4 then ((spec_riPair.f k x4 x5).bind fun t314 => (if t314 = true then (spec_riUpTo.j2 k x0 x3 x4 x5 (decide ((wrap64 ((wrap64 (x4 * x4)) + (wrap64 (x5 * x5)))) > x0))) else (spec_riUpTo.j2 k x0 x3 x4 x5 true))) else (spec_riUpTo.l0 k x0 x3 (wrap64 (x4 + 1)))
def spec_riUpTo.j2 : Nat → Int → List (List Int) → Int → Int → Bool → Option ((List (List Int)))
 | 0, _, _, _, _, _ => none
 | k + 1, x0, x3, x4, x5, x35 => if x35 = true then (spec_riUpTo.l1 k x0 x3 x4 (wrap64 (x5 + 1))) else ((spec_riOf.f x4 x5).bind fun t315 => (spec_riUpTo.l2 k x0 x3 x4 x5 t315 (x3.length : Int)))
def spec_riUpTo.l2 : Nat → Int → List (List Int) → Int → Int → List Int → Int → Option ((List (List Int)))
 | 0, _, _, _, _, _, _ => none
 | k + 1, x0, x3, x4, x5, x6, x7 => if x7 > 0 then (if 0 ≤ (wrap64 (x7 - 1)) then (if (wrap64 (x7 - 1)) < (x3.length : Int) then ((spec_riBefore.f x6 (rd_L2 x3 (wrap64 (x7 - 1)))).bind fun t319 => (if t319 = true then (spec_riUpTo.l2 k x0 x3 x4 x5 x6 (wrap64 (x7 - 1))) else ((some (([] : List (List Int)) : List (List Int))).bind fun y320 => (if 0 ≤ x7 then (if x7 ≤ (x3.length : Int) then ((some (x3.take (x7 : Int).toNat : List (List Int))).bind fun y323 => (if y320.length + y323.length < 5864062014805 then ((some (y320 ++ y323 : List (List Int))).bind fun y328 => (if y328.length < 5864062014805 then ((some (y328 ++ [x6] : List (List Int))).bind fun y331 => ((some (x3.drop (x7 : Int).toNat : List (List Int))).bind fun y334 => (if y331.length + y334.length < 5864062014805 then (spec_riUpTo.l1 k x0 (y331 ++ y334) x4 (wrap64 (x5 + 1))) else (none)))) else (none))) else (none))) else (none)) else (none))))) else (none)) else (none)) else ((some (([] : List (List Int)) : List (List Int))).bind fun y342 => (if 0 ≤ x7 then (if x7 ≤ (x3.length : Int) then ((some (x3.take (x7 : Int).toNat : List (List Int))).bind fun y345 => (if y342.length + y345.length < 5864062014805 then ((some (y342 ++ y345 : List (List Int))).bind fun y350 => (if y350.length < 5864062014805 then ((some (y350 ++ [x6] : List (List Int))).bind fun y353 => ((some (x3.drop (x7 : Int).toNat : List (List Int))).bind fun y356 => (if y353.length + y356.length < 5864062014805 then (spec_riUpTo.l1 k x0 (y353 ++ y356) x4 (wrap64 (x5 + 1))) else (none)))) else (none))) else (none))) else (none)) else (none)))
end
def spec_riUpTo.f (k : Nat) (a0 : Int) : Option ((List (List Int))) := spec_riUpTo.l0 k a0 ([] : List (List Int)) 2
theorem spec_riUpTo.mono_l : ∀ k, (∀ y0 y1 y2, LeO (spec_riUpTo.l0 k y0 y1 y2) (spec_riUpTo.l0 (k + 1) y0 y1 y2)) ∧ (∀ y0 y1 y2 y3, LeO (spec_riUpTo.l1 k y0 y1 y2 y3) (spec_riUpTo.l1 (k + 1) y0 y1 y2 y3)) ∧ (∀ y0 y1 y2 y3 y4, LeO (spec_riUpTo.j2 k y0 y1 y2 y3 y4) (spec_riUpTo.j2 (k + 1) y0 y1 y2 y3 y4)) ∧ (∀ y0 y1 y2 y3 y4 y5, LeO (spec_riUpTo.l2 k y0 y1 y2 y3 y4 y5) (spec_riUpTo.l2 (k + 1) y0 y1 y2 y3 y4 y5))
 | 0 => ⟨fun _ _ _ r h => by simp [spec_riUpTo.l0] at h, fun _ _ _ _ r h => by simp [spec_riUpTo.l1] at h, fun _ _ _ _ _ r h => by simp [spec_riUpTo.j2] at h, fun _ _ _ _ _ _ r h => by simp [spec_riUpTo.l2] at h⟩
 | k + 1 => by
  obtain ⟨ih0, ih1, ih2, ih3⟩ := spec_riUpTo.mono_l k
  refine ⟨?_, ?_, ?_, ?_⟩
  ·
   intro y0 y1 y2
   unfold spec_riUpTo.l0
   repeat' first
   | (with_reducible exact ih0 _ _ _)
   | (with_reducible exact ih1 _ _ _ _)
   | (with_reducible exact ih2 _ _ _ _ _)
   | (with_reducible exact ih3 _ _ _ _ _ _)
   | (with_reducible exact spec_riPair.mono _ _ _)
   | (with_reducible exact LeO.refl _)
   | (with_reducible exact LeO.none _)
   | (with_reducible refine LeO.ite ?_ ?_)
   | (with_reducible refine LeO.bind ?_ (fun _ => ?_))
   | exact ih0 _ _ _
   | exact ih1 _ _ _ _
   | exact ih2 _ _ _ _ _
   | exact ih3 _ _ _ _ _ _
   | exact spec_riPair.mono _ _ _
   | exact LeO.none _
   | refine LeO.ite ?_ ?_
   | refine LeO.bind ?_ (fun _ => ?_)
  ·
   intro y0 y1 y2 y3
   unfold spec_riUpTo.l1
   repeat' first
   | (with_reducible exact ih0 _ _ _)
   | (with_reducible exact ih1 _ _ _ _)
   | (with_reducible exact ih2 _ _ _ _ _)
   | (with_reducible exact ih3 _ _ _ _ _ _)
   | (with_reducible exact spec_riPair.mono _ _ _)
   | (with_reducible exact LeO.refl _)
   | (with_reducible exact LeO.none _)
   | (with_reducible refine LeO.ite ?_ ?_)
   | (with_reducible refine LeO.bind ?_ (fun _ => ?_))
   | exact ih0 _ _ _
   | exact ih1 _ _ _ _
   | exact ih2 _ _ _ _ _
   | exact ih3 _ _ _ _ _ _
   | exact spec_riPair.mono _ _ _
   | exact LeO.none _
   | refine LeO.ite ?_ ?_
   | refine LeO.bind ?_ (fun _ => ?_)
  ·
   intro y0 y1 y2 y3 y4
   unfold spec_riUpTo.j2
   repeat' first
   | (with_reducible exact ih0 _ _ _)
   | (with_reducible exact ih1 _ _ _ _)
   | (with_reducible exact ih2 _ _ _ _ _)
   | (with_reducible exact ih3 _ _ _ _ _ _)
   | (with_reducible exact spec_riPair.mono _ _ _)
   | (with_reducible exact LeO.refl _)
   | (with_reducible exact LeO.none _)
   | (with_reducible refine LeO.ite ?_ ?_)
   | (with_reducible refine LeO.bind ?_ (fun _ => ?_))
   | exact ih0 _ _ _
   | exact ih1 _ _ _ _
   | exact ih2 _ _ _ _ _
   | exact ih3 _ _ _ _ _ _
   | exact spec_riPair.mono _ _ _
   | exact LeO.none _
   | refine LeO.ite ?_ ?_
   | refine LeO.bind ?_ (fun _ => ?_)
  ·
   intro y0 y1 y2 y3 y4 y5
   unfold spec_riUpTo.l2
   repeat' first
   | (with_reducible exact ih0 _ _ _)
   | (with_reducible exact ih1 _ _ _ _)
   | (with_reducible exact ih2 _ _ _ _ _)
   | (with_reducible exact ih3 _ _ _ _ _ _)
   | (with_reducible exact spec_riPair.mono _ _ _)
   | (with_reducible exact LeO.refl _)
   | (with_reducible exact LeO.none _)
   | (with_reducible refine LeO.ite ?_ ?_)
   | (with_reducible refine LeO.bind ?_ (fun _ => ?_))
   | exact ih0 _ _ _
   | exact ih1 _ _ _ _
   | exact ih2 _ _ _ _ _
   | exact ih3 _ _ _ _ _ _
   | exact spec_riPair.mono _ _ _
   | exact LeO.none _
   | refine LeO.ite ?_ ?_
   | refine LeO.bind ?_ (fun _ => ?_)
theorem spec_riUpTo.mono : ∀ a0 k, LeO (spec_riUpTo.f k a0) (spec_riUpTo.f (k + 1) a0) := by
 intro a0 k
 obtain ⟨ih0, ih1, ih2, ih3⟩ := spec_riUpTo.mono_l k
 unfold spec_riUpTo.f
 repeat' first
  | (with_reducible exact ih0 _ _ _)
  | (with_reducible exact ih1 _ _ _ _)
  | (with_reducible exact ih2 _ _ _ _ _)
  | (with_reducible exact ih3 _ _ _ _ _ _)
  | (with_reducible exact spec_riPair.mono _ _ _)
  | (with_reducible exact LeO.refl _)
  | (with_reducible exact LeO.none _)
  | (with_reducible refine LeO.ite ?_ ?_)
  | (with_reducible refine LeO.bind ?_ (fun _ => ?_))
  | exact ih0 _ _ _
  | exact ih1 _ _ _ _
  | exact ih2 _ _ _ _ _
  | exact ih3 _ _ _ _ _ _
  | exact spec_riPair.mono _ _ _
  | exact LeO.none _
  | refine LeO.ite ?_ ?_
  | refine LeO.bind ?_ (fun _ => ?_)
def spec_riUpTo.T14 : Bool × List (List Nat × List Nat) := (true, [([], []), ([], []), ([1], [1]), ([0, 2], [0, 2]), ([], []), ([], []), ([4, 5], [4, 5]), ([3, 6, 3], [3, 6]), ([7, 7, 0, 1, 2, 3, 4, 5, 6, 7], [4, 7])])
def spec_riUpTo.B14 : List Nat := [0, 0, 2, 7, 0, 0, 48, 127, 255]
theorem spec_riUpTo.tab14 : rtab .any (opsOf Try.f108 14) = spec_riUpTo.T14 := by kernel_rfl
theorem spec_riUpTo.bits14 : waitsOk spec_riUpTo.T14.2 spec_riUpTo.B14 = true := by kernel_rfl
set_option maxHeartbeats 8000000 in
set_option maxRecDepth 100000 in
theorem spec_riUpTo.calls (k : Nat) (a0 : Int) (r : List (List Int)) (w : World) (h : spec_riUpTo.f k a0 = some r) :
 Calls Try.prog 108 #[.int .i64 a0] w fun e w' => ∃ v0_ : Value, e = .returned (v0_) ∧ Kd.N (Kd.slice 3 (Kd.int .i64)) 24 w' w.heap.size (fun k_ => (w.heap.size ≤ k_)) v0_ r ∧ Below w.heap.size w w' := by
 have HB := Aside0.mk (Below.refl w.heap.size w)
 have H : (spec_riUpTo.l0 k a0 ([] : List (List Int)) 2) = some r := h
 clear h
 have H' := Aside0.mk H
 clear H
 go_enter Try.func108, Try.ntmps108
 go_wp2
 go_loopg [3, 4] k (fun kq v3 v4 w' => ∃ (x3_1 : List (List Int)) (x4_1 : Int), v4 = .int .i64 x4_1 ∧ Aside0 (spec_riUpTo.l0 kq a0 x3_1 x4_1 = some r) ∧ Aside0 (kq ≤ k) ∧ Aside0 (Kd.N (Kd.slice 3 (Kd.int .i64)) 24 w' w.heap.size (fun k_ => (w.heap.size ≤ k_)) v3 x3_1) ∧ Aside0 (Below w.heap.size w w'))
 case atStart => exact ⟨(([] : List (List Int))), (2), e2, H', ⟨Nat.le_refl _⟩, ⟨by first | exact Kd.S_nil _ _ _ _ _ | exact Kd.N_nil _ _ _ _ _ | exact Kd.V_nil _ _ _ _ _ | exact Kd.Q_nil _ _ _ _ _ | exact Kd.R_nil _ _ _ _ _⟩, ⟨bq⟩⟩
 case round =>
  clear H'; (try clear c1)
  obtain ⟨x3_1, x4_1, rfl, HA, HK1, HO_3, HB⟩ := hrel
  cases gk with
  | zero => exact absurd HA.out (by simp [spec_riUpTo.l0])
  | succ k1 =>
   have H := HA.out
   clear HA
   simp only [spec_riUpTo.l0] at H
   by_cases c2 : (wrap64 (x4_1 * x4_1)) < a0
   ·
    rw [if_pos c2] at H
    have c2b0 : decide ((wrap64 (x4_1 * x4_1)) < a0) = true := decide_eq_true c2
    clear c2
    have H' := Aside0.mk H
    clear H
    go_wp2
    go_loopg [3, 5] k1 (fun kq v3 v5 w' => ∃ (x3_2 : List (List Int)) (x5_2 : Int), v5 = .int .i64 x5_2 ∧ Aside0 (spec_riUpTo.l1 kq a0 x3_2 x4_1 x5_2 = some r) ∧ Aside0 (kq ≤ k1) ∧ Aside0 (Kd.N (Kd.slice 3 (Kd.int .i64)) 24 w' w.heap.size (fun k_ => (w.heap.size ≤ k_)) v3 x3_2) ∧ Aside0 (Below w.heap.size w w'))
    case atStart => exact ⟨(x3_1), (1), e2, H', ⟨Nat.le_refl _⟩, ⟨by (with_reducible repeat (first | apply Kd.N_alloc | apply Kd.N_drewN | apply Kd.N_drew)); exact HO_3.out⟩, ⟨bq⟩⟩
    case round =>
     clear H'; (try clear c1); (try clear c2); (try clear c2b0); (try clear p2)
     obtain ⟨x3_2, x5_2, rfl, HA, HK2, HO_3, HB⟩ := hrel
     cases gk with
     | zero => exact absurd HA.out (by simp [spec_riUpTo.l1])
     | succ k2 =>
      have H := HA.out
      clear HA
      simp only [spec_riUpTo.l1] at H
      by_cases c3 : x5_2 < x4_1
      ·
       rw [if_pos c3] at H
       have c3b0 : decide (x5_2 < x4_1) = true := decide_eq_true c3
       clear c3
       have HC4 := Aside0.mk H
       clear H
       go_upto_region 8 with (fail)
       go_cut [35] (fun v35 wc => ∃ (kq : Nat) (x35_3 : Bool), v35 = .bool x35_3 ∧ Aside0 (spec_riUpTo.j2 kq a0 x3_2 x4_1 x5_2 x35_3 = some r) ∧ Aside0 (kq ≤ k2) ∧ Aside0 (Kd.N (Kd.slice 3 (Kd.int .i64)) 24 wc w.heap.size (fun k_ => (w.heap.size ≤ k_)) u3 x3_2) ∧ Aside0 (Below w.heap.size w wc))
       case first =>
        have H := HC4.out
        clear HC4
        replace H := Option.bind_eq_some_iff.mp H
        obtain ⟨t314, A50, H⟩ := H
        replace H : (if t314 = true then (spec_riUpTo.j2 k2 a0 x3_2 x4_1 x5_2 (decide ((wrap64 ((wrap64 (x4_1 * x4_1)) + (wrap64 (x5_2 * x5_2)))) > a0))) else (spec_riUpTo.j2 k2 a0 x3_2 x4_1 x5_2 true)) = some r := H
        have A5 := Aside0.mk A50
        clear A50
        by_cases c6 : t314 = true
        ·
         subst c6
         have H1 : (spec_riUpTo.j2 k2 a0 x3_2 x4_1 x5_2 (decide ((wrap64 ((wrap64 (x4_1 * x4_1)) + (wrap64 (x5_2 * x5_2)))) > a0))) = some r := by rw [if_pos rfl] at H; exact H
         clear H
         have H := H1
         clear H1
         have H' := Aside0.mk H
         clear H
         go_wp2_with (first | ((with_reducible refine gate_callee (f := 94) rfl ?_); refine gL (some 23) rfl rfl Try.func94 (by kernel_rfl) rfl #[.int .i64 x4_1, .int .i64 x5_2] rfl ?_; (with_reducible refine (spec_riPair.calls k2 x4_1 x5_2 true _ A5.out).mono ?_); rintro e w' ⟨rfl, ⟨nd, rfl⟩⟩; refine ⟨_, rfl, ?_⟩))
         go_meet
         case rel => exact ⟨_, (decide ((wrap64 ((wrap64 (x4_1 * x4_1)) + (wrap64 (x5_2 * x5_2)))) > a0)), e2, H', ⟨by have := HK1.out; have := HK2.out; first | omega | exact Nat.le_refl _⟩, ⟨by (with_reducible repeat (first | apply Kd.N_alloc | apply Kd.N_drewN | apply Kd.N_drew)); exact HO_3.out⟩, ⟨bq⟩⟩
        ·
         replace c6 := Bool.eq_false_iff.mpr c6
         subst c6
         have H1 : (spec_riUpTo.j2 k2 a0 x3_2 x4_1 x5_2 true) = some r := by rw [if_neg (show ¬ (false = true) by decide)] at H; exact H
         clear H
         have H := H1
         clear H1
         have H' := Aside0.mk H
         clear H
         go_wp2_with (first | ((with_reducible refine gate_callee (f := 94) rfl ?_); refine gL (some 23) rfl rfl Try.func94 (by kernel_rfl) rfl #[.int .i64 x4_1, .int .i64 x5_2] rfl ?_; (with_reducible refine (spec_riPair.calls k2 x4_1 x5_2 false _ A5.out).mono ?_); rintro e w' ⟨rfl, ⟨nd, rfl⟩⟩; refine ⟨_, rfl, ?_⟩))
         go_meet
         case rel => exact ⟨_, (true), e2, H', ⟨by have := HK1.out; have := HK2.out; first | omega | exact Nat.le_refl _⟩, ⟨by (with_reducible repeat (first | apply Kd.N_alloc | apply Kd.N_drewN | apply Kd.N_drew)); exact HO_3.out⟩, ⟨bq⟩⟩
       case rest =>
        clear HC4; (try clear c1); (try clear c2); (try clear c2b0); (try clear p2); (try clear c3); (try clear c3b0); (try clear c6); (try clear p6); (try clear p2)
        obtain ⟨kq, x35_3, rfl, HA, HJ3, HO_3, HB⟩ := hcut
        cases kq with
        | zero => exact absurd HA.out (by simp [spec_riUpTo.j2])
        | succ kj3 =>
         have H := HA.out
         clear HA
         simp only [spec_riUpTo.j2] at H
         by_cases c7 : x35_3 = true
         ·
          subst c7
          have H1 : (spec_riUpTo.l1 kj3 a0 x3_2 x4_1 (wrap64 (x5_2 + 1))) = some r := by rw [if_pos rfl] at H; exact H
          clear H
          have H := H1
          clear H1
          have H' := Aside0.mk H
          clear H
          go_wp2
          go_roundg kj3
          case measure => have := HK1.out; have := HK2.out; have := HJ3.out; omega
          case rel => exact ⟨(x3_2), (wrap64 (x5_2 + 1)), e2, H', ⟨by have := HK1.out; have := HK2.out; have := HJ3.out; omega⟩, ⟨by (with_reducible repeat (first | apply Kd.N_alloc | apply Kd.N_drewN | apply Kd.N_drew)); exact HO_3.out⟩, ⟨bq⟩⟩
         ·
          replace c7 := Bool.eq_false_iff.mpr c7
          subst c7
          have H1 : ((spec_riOf.f x4_1 x5_2).bind fun t315 => (spec_riUpTo.l2 kj3 a0 x3_2 x4_1 x5_2 t315 (x3_2.length : Int))) = some r := by rw [if_neg (show ¬ (false = true) by decide)] at H; exact H
          clear H
          have H := H1
          clear H1
          replace H := Option.bind_eq_some_iff.mp H
          obtain ⟨t315, A80, H⟩ := H
          replace H : (spec_riUpTo.l2 kj3 a0 x3_2 x4_1 x5_2 t315 (x3_2.length : Int)) = some r := H
          have A8 := Aside0.mk A80
          clear A80
          have H' := Aside0.mk H
          clear H
          go_wp2_with (first | ((with_reducible refine gate_callee (f := 75) rfl ?_); refine gL (some 38) rfl rfl Try.func75 (by kernel_rfl) rfl #[.int .i64 x4_1, .int .i64 x5_2] rfl ?_; (with_reducible refine (spec_riOf.calls x4_1 x5_2 t315 _ A8.out).mono ?_); rintro e w9 ⟨v316, rfl, ho0, hb⟩; refine ⟨_, rfl, ?_⟩; have n0_ := Aside0.mk (Kd.N_elder' (nA HO_3) (Kd.R_base ho0) hb); have n1_ := Aside0.mk (Kd.R_lower (Kd.R_newM (M := fun k_ => (w.heap.size ≤ k_)) ho0 (below_size bq) (fun k_ h_ => h_)) (below_size bq)); have n2_ := Aside0.mk (below_step bq hb); clear HO_3; clear HB; have HO_3 := n0_; have HO317 := n1_; have HB := n2_; clear n0_ n1_ n2_; (try clear hb); (try clear hb2); (try clear hk); (try clear hi); (try clear ho0); obtain ⟨Ao10, co10, eo10⟩ := Kd.N_slice HO_3.out; subst eo10))
          go_loopg [7] kj3 (fun kq v7 w' => ∃ (x7_4 : Int), v7 = .int .i64 x7_4 ∧ Aside0 (spec_riUpTo.l2 kq a0 x3_2 x4_1 x5_2 t315 x7_4 = some r) ∧ Aside0 (kq ≤ kj3) ∧ Aside0 (Kd.N (Kd.slice 3 (Kd.int .i64)) 24 w' w.heap.size (fun k_ => (w.heap.size ≤ k_) ∧ some k_ ≠ (v316 : Value).ownBlock) (.slice Ao10 x3_2.length co10) x3_2) ∧ Aside0 (Kd.R (Kd.int .i64) 3 w' w.heap.size (fun k_ => (w.heap.size ≤ k_)) v316 t315) ∧ Aside0 (Below w.heap.size w w'))
          case atStart => exact ⟨((x3_2.length : Int)), e2, H', ⟨Nat.le_refl _⟩, ⟨by (with_reducible repeat (first | apply Kd.N_alloc | apply Kd.N_drewN | apply Kd.N_drew)); exact HO_3.out⟩, ⟨by (with_reducible repeat (first | apply Kd.R_alloc | apply Kd.R_drewN | apply Kd.R_drew)); exact Kd.R_mono HO317.out (fun _ hk => hk.1)⟩, ⟨bq⟩⟩
          case round =>
           clear H'; (try clear c1); (try clear c2); (try clear c2b0); (try clear p2); (try clear c3); (try clear c3b0); (try clear c6); (try clear p6); (try clear c7); (try clear c9); (try clear c10); (try clear p2); (try clear p6)
           obtain ⟨x7_4, rfl, HA, HK4, HO_3, HO_6, HB⟩ := hrel
           cases gk with
           | zero => exact absurd HA.out (by simp [spec_riUpTo.l2])
           | succ k4 =>
            have H := HA.out
            clear HA
            simp only [spec_riUpTo.l2] at H
            by_cases c11 : x7_4 > 0
            ·
             rw [if_pos c11] at H
             have c11b0 : decide (0 < x7_4) = true := decide_eq_true c11
             clear c11
             obtain ⟨ji12, hji12⟩ : ∃ j_ : Int, (wrap64 (x7_4 - 1)) = j_ := ⟨_, rfl⟩
             replace H : (if 0 ≤ (ji12) then (if (ji12) < (x3_2.length : Int) then ((spec_riBefore.f t315 (rd_L2 x3_2 (ji12))).bind fun t319 => (if t319 = true then (spec_riUpTo.l2 k4 a0 x3_2 x4_1 x5_2 t315 ji12) else ((some (([] : List (List Int)) : List (List Int))).bind fun y320 => (if 0 ≤ x7_4 then (if x7_4 ≤ (x3_2.length : Int) then ((some (x3_2.take (x7_4 : Int).toNat : List (List Int))).bind fun y323 => (if y320.length + y323.length < 5864062014805 then ((some (y320 ++ y323 : List (List Int))).bind fun y328 => (if y328.length < 5864062014805 then ((some (y328 ++ [t315] : List (List Int))).bind fun y331 => ((some (x3_2.drop (x7_4 : Int).toNat : List (List Int))).bind fun y334 => (if y331.length + y334.length < 5864062014805 then (spec_riUpTo.l1 k4 a0 (y331 ++ y334) x4_1 (wrap64 (x5_2 + 1))) else (none)))) else (none))) else (none))) else (none)) else (none))))) else (none)) else (none)) = some r := by first | (rw [hji12] at H; exact H) | (simp only [hji12] at H ⊢; exact H)
             have hji12w : (IntKind.i64.wrap (x7_4 - 1)) = ji12 := (i64_w _).trans hji12
             by_cases c13 : 0 ≤ (ji12)
             ·
              rw [if_pos c13] at H
              have c13b0 : decide (0 ≤ (ji12)) = true := decide_eq_true c13
              clear c13
              by_cases c14 : (ji12) < (x3_2.length : Int)
              ·
               rw [if_pos c14] at H
               have c14b0 : decide ((ji12) < (x3_2.length : Int)) = true := decide_eq_true c14
               clear c14
               replace H := Option.bind_eq_some_iff.mp H
               obtain ⟨t319, A150, H⟩ := H
               replace H : (if t319 = true then (spec_riUpTo.l2 k4 a0 x3_2 x4_1 x5_2 t315 ji12) else ((some (([] : List (List Int)) : List (List Int))).bind fun y320 => (if 0 ≤ x7_4 then (if x7_4 ≤ (x3_2.length : Int) then ((some (x3_2.take (x7_4 : Int).toNat : List (List Int))).bind fun y323 => (if y320.length + y323.length < 5864062014805 then ((some (y320 ++ y323 : List (List Int))).bind fun y328 => (if y328.length < 5864062014805 then ((some (y328 ++ [t315] : List (List Int))).bind fun y331 => ((some (x3_2.drop (x7_4 : Int).toNat : List (List Int))).bind fun y334 => (if y331.length + y334.length < 5864062014805 then (spec_riUpTo.l1 k4 a0 (y331 ++ y334) x4_1 (wrap64 (x5_2 + 1))) else (none)))) else (none))) else (none))) else (none)) else (none)))) = some r := H
               have A15 := Aside0.mk A150
               clear A150
               by_cases c16 : t319 = true
               ·
                subst c16
                have H1 : (spec_riUpTo.l2 k4 a0 x3_2 x4_1 x5_2 t315 ji12) = some r := by rw [if_pos rfl] at H; exact H
                clear H
                have H := H1
                clear H1
                have H' := Aside0.mk H
                clear H
                have p318 : 0 ≤ ((ji12) : Int) := od
                have q318 : (ji12) < (x3_2.length : Int) := od
                obtain ⟨ad318, A318_0, c318_0, e318, hx318_0, hl318_0, hi318_0⟩ := at_L2 (Kd.N_reads' HO_3.out).2.2 (ji12) p318 q318
                cases e318
                obtain ⟨ce318, hce318, hMe318, hcc318⟩ := Kd.N_get HO_3.out [] (ji12) p318 (by first | exact q318 | exact od | (have e_ := (Kd.N_reads' HO_3.out).1; omega))
                obtain ⟨ua318_0, uc318_0, rfl, ul318_0, ge318_0⟩ := Kd.FK_slice_open hMe318
                have hv318_0 := hcc318 0 _ rfl
                rw [Nat.add_zero, show ((Kd.slice 3 (Kd.int .i64))).sz = 1 from rfl, Nat.mul_one] at hv318_0
                replace hv318_0 := Option.some.inj (hv318_0.symm.trans hx318_0)
                injection hv318_0 with hva_ hvn_ hvc_
                rw [hva_] at ge318_0
                rw [hvc_] at ul318_0
                have HL318_0 := Aside0.mk (show Kd.V (Kd.int .i64) 3 _ w.heap.size _ _ (rd_L2 x3_2 (ji12)) from Kd.V_mk ul318_0 ge318_0)
                clear hva_ hvn_ hvc_ ge318_0 ul318_0
                clear hcc318 hce318
                have HR318_0 := Aside0.mk hi318_0
                have HC318_0 := Aside0.mk hl318_0
                clear hi318_0 hl318_0
                replace p318 := eq_true p318
                replace q318 := eq_true q318
                obtain ⟨Ao17, co17, eo17⟩ := Kd.R_slice HO_6.out
                subst eo17
                go_wp2_with (first | (go_at_call 134; (with_reducible refine (spec_riBefore.calls _ _ t315 _ _ (rd_L2 x3_2 (ji12)) true _ ?side1 ?side2 ?side3 ?side4 A15.out).mono ?_); (case side1 => exact cC (Kd.R_reads' HO_6.out).2.2); (case side2 => exact (Kd.R_reads' HO_6.out).2.1); (case side3 => repeat (first | exact (by repeat (first | (with_reducible exact HR318_0.out) | (with_reducible refine Kd.C_alloc ?_ _) | (with_reducible refine Kd.C_drewN ?_ _) | (with_reducible refine Kd.C_drew ?_) | exact HR318_0.out)) | (with_reducible refine Kd.C_alloc ?_ _) | (with_reducible refine Kd.C_drewN ?_ _) | (with_reducible refine Kd.C_drew ?_))); (case side4 => exact HC318_0.out); rintro e w' ⟨rfl, ⟨nd, rfl⟩⟩))
                go_roundg k4
                case measure => have := HK1.out; have := HK2.out; have := HJ3.out; have := HK4.out; omega
                case rel => exact ⟨(ji12), (by first | rfl | (simp; done) | (simp only [← hji12] <;> (first | rfl | simp)) | (simp [*]; done)), H', ⟨by have := HK1.out; have := HK2.out; have := HJ3.out; have := HK4.out; omega⟩, ⟨by (with_reducible repeat (first | apply Kd.N_alloc | apply Kd.N_drewN | apply Kd.N_drew)); exact HO_3.out⟩, ⟨by (with_reducible repeat (first | apply Kd.R_alloc | apply Kd.R_drewN | apply Kd.R_drew)); exact HO_6.out⟩, ⟨bq⟩⟩
               ·
                replace c16 := Bool.eq_false_iff.mpr c16
                subst c16
                have H1 : ((some (([] : List (List Int)) : List (List Int))).bind fun y320 => (if 0 ≤ x7_4 then (if x7_4 ≤ (x3_2.length : Int) then ((some (x3_2.take (x7_4 : Int).toNat : List (List Int))).bind fun y323 => (if y320.length + y323.length < 5864062014805 then ((some (y320 ++ y323 : List (List Int))).bind fun y328 => (if y328.length < 5864062014805 then ((some (y328 ++ [t315] : List (List Int))).bind fun y331 => ((some (x3_2.drop (x7_4 : Int).toNat : List (List Int))).bind fun y334 => (if y331.length + y334.length < 5864062014805 then (spec_riUpTo.l1 k4 a0 (y331 ++ y334) x4_1 (wrap64 (x5_2 + 1))) else (none)))) else (none))) else (none))) else (none)) else (none))) = some r := by rw [if_neg (show ¬ (false = true) by decide)] at H; exact H
                clear H
                have H := H1
                clear H1
                obtain ⟨y320, hy320⟩ : ∃ y_ : List (List Int), y_ = (([] : List (List Int))) := ⟨_, rfl⟩
                replace H : (if 0 ≤ x7_4 then (if x7_4 ≤ (x3_2.length : Int) then ((some (x3_2.take (x7_4 : Int).toNat : List (List Int))).bind fun y323 => (if y320.length + y323.length < 5864062014805 then ((some (y320 ++ y323 : List (List Int))).bind fun y328 => (if y328.length < 5864062014805 then ((some (y328 ++ [t315] : List (List Int))).bind fun y331 => ((some (x3_2.drop (x7_4 : Int).toNat : List (List Int))).bind fun y334 => (if y331.length + y334.length < 5864062014805 then (spec_riUpTo.l1 k4 a0 (y331 ++ y334) x4_1 (wrap64 (x5_2 + 1))) else (none)))) else (none))) else (none))) else (none)) else (none)) = some r := by first | (rw [hy320]; with_reducible exact H) | (have H2_ := (Option.bind_some _ _).symm.trans H; rw [hy320]; with_reducible exact H2_) | (have H2_ := (Option.bind_some _ _).symm.trans H; with_reducible exact H2_) | with_reducible exact H | (rw [hy320]; exact H) | exact H
                have Ny320 := Aside0.mk hy320
                clear hy320
                by_cases c18 : 0 ≤ x7_4
                ·
                 rw [if_pos c18] at H
                 have c18b0 := eq_true c18
                 have c18b1 : decide (0 ≤ x7_4) = true := decide_eq_true c18
                 clear c18
                 by_cases c19 : x7_4 ≤ (x3_2.length : Int)
                 ·
                  rw [if_pos c19] at H
                  have c19b0 := eq_true c19
                  have c19b1 : decide (x7_4 ≤ (x3_2.length : Int)) = true := decide_eq_true c19
                  clear c19
                  obtain ⟨y323, hy323⟩ : ∃ y_ : List (List Int), y_ = (x3_2.take (x7_4 : Int).toNat) := ⟨_, rfl⟩
                  replace H : (if y320.length + y323.length < 5864062014805 then ((some (y320 ++ y323 : List (List Int))).bind fun y328 => (if y328.length < 5864062014805 then ((some (y328 ++ [t315] : List (List Int))).bind fun y331 => ((some (x3_2.drop (x7_4 : Int).toNat : List (List Int))).bind fun y334 => (if y331.length + y334.length < 5864062014805 then (spec_riUpTo.l1 k4 a0 (y331 ++ y334) x4_1 (wrap64 (x5_2 + 1))) else (none)))) else (none))) else (none)) = some r := by first | (rw [hy323]; with_reducible exact H) | (have H2_ := (Option.bind_some _ _).symm.trans H; rw [hy323]; with_reducible exact H2_) | (have H2_ := (Option.bind_some _ _).symm.trans H; with_reducible exact H2_) | with_reducible exact H | (rw [hy323]; exact H) | exact H
                  have Ny323 := Aside0.mk hy323
                  clear hy323
                  by_cases c20 : y320.length + y323.length < 5864062014805
                  ·
                   rw [if_pos c20] at H
                   have LMc20 := Aside0.mk c20
                   clear c20
                   obtain ⟨y328, hy328⟩ : ∃ y_ : List (List Int), y_ = (y320 ++ y323) := ⟨_, rfl⟩
                   replace H : (if y328.length < 5864062014805 then ((some (y328 ++ [t315] : List (List Int))).bind fun y331 => ((some (x3_2.drop (x7_4 : Int).toNat : List (List Int))).bind fun y334 => (if y331.length + y334.length < 5864062014805 then (spec_riUpTo.l1 k4 a0 (y331 ++ y334) x4_1 (wrap64 (x5_2 + 1))) else (none)))) else (none)) = some r := by first | (rw [hy328]; with_reducible exact H) | (have H2_ := (Option.bind_some _ _).symm.trans H; rw [hy328]; with_reducible exact H2_) | (have H2_ := (Option.bind_some _ _).symm.trans H; with_reducible exact H2_) | with_reducible exact H | (rw [hy328]; exact H) | exact H
                   have Ny328 := Aside0.mk hy328
                   clear hy328
                   by_cases c21 : y328.length < 5864062014805
                   ·
                    rw [if_pos c21] at H
                    have LMc21 := Aside0.mk c21
                    clear c21
                    obtain ⟨y331, hy331⟩ : ∃ y_ : List (List Int), y_ = (y328 ++ [t315]) := ⟨_, rfl⟩
                    replace H : ((some (x3_2.drop (x7_4 : Int).toNat : List (List Int))).bind fun y334 => (if y331.length + y334.length < 5864062014805 then (spec_riUpTo.l1 k4 a0 (y331 ++ y334) x4_1 (wrap64 (x5_2 + 1))) else (none))) = some r := by first | (rw [hy331]; with_reducible exact H) | (have H2_ := (Option.bind_some _ _).symm.trans H; rw [hy331]; with_reducible exact H2_) | (have H2_ := (Option.bind_some _ _).symm.trans H; with_reducible exact H2_) | with_reducible exact H | (rw [hy331]; exact H) | exact H
                    have Ny331 := Aside0.mk hy331
                    clear hy331
                    have c22b0 := eq_true (od : 0 ≤ x7_4)
                    have c23b0 := eq_true (od : x7_4 ≤ (x3_2.length : Int))
                    obtain ⟨y334, hy334⟩ : ∃ y_ : List (List Int), y_ = (x3_2.drop (x7_4 : Int).toNat) := ⟨_, rfl⟩
                    replace H : (if y331.length + y334.length < 5864062014805 then (spec_riUpTo.l1 k4 a0 (y331 ++ y334) x4_1 (wrap64 (x5_2 + 1))) else (none)) = some r := by first | (rw [hy334]; with_reducible exact H) | (have H2_ := (Option.bind_some _ _).symm.trans H; rw [hy334]; with_reducible exact H2_) | (have H2_ := (Option.bind_some _ _).symm.trans H; with_reducible exact H2_) | with_reducible exact H | (rw [hy334]; exact H) | exact H
                    have Ny334 := Aside0.mk hy334
                    clear hy334
                    by_cases c24 : y331.length + y334.length < 5864062014805
                    ·
                     rw [if_pos c24] at H
                     have LMc24 := Aside0.mk c24
                     clear c24
                     obtain ⟨y339, hy339⟩ : ∃ y_ : List (List Int), y_ = (y331 ++ y334) := ⟨_, rfl⟩
                     replace H : (spec_riUpTo.l1 k4 a0 y339 x4_1 (wrap64 (x5_2 + 1))) = some r := by first | (rw [hy339]; with_reducible exact H) | (have H2_ := (Option.bind_some _ _).symm.trans H; rw [hy339]; with_reducible exact H2_) | (have H2_ := (Option.bind_some _ _).symm.trans H; with_reducible exact H2_) | with_reducible exact H | (rw [hy339]; exact H) | exact H
                     have Ny339 := Aside0.mk hy339
                     clear hy339
                     have H' := Aside0.mk H
                     clear H
                     have p318 : 0 ≤ ((ji12) : Int) := od
                     have q318 : (ji12) < (x3_2.length : Int) := od
                     obtain ⟨ad318, A318_0, c318_0, e318, hx318_0, hl318_0, hi318_0⟩ := at_L2 (Kd.N_reads' HO_3.out).2.2 (ji12) p318 q318
                     cases e318
                     obtain ⟨ce318, hce318, hMe318, hcc318⟩ := Kd.N_get HO_3.out [] (ji12) p318 (by first | exact q318 | exact od | (have e_ := (Kd.N_reads' HO_3.out).1; omega))
                     obtain ⟨ua318_0, uc318_0, rfl, ul318_0, ge318_0⟩ := Kd.FK_slice_open hMe318
                     have hv318_0 := hcc318 0 _ rfl
                     rw [Nat.add_zero, show ((Kd.slice 3 (Kd.int .i64))).sz = 1 from rfl, Nat.mul_one] at hv318_0
                     replace hv318_0 := Option.some.inj (hv318_0.symm.trans hx318_0)
                     injection hv318_0 with hva_ hvn_ hvc_
                     rw [hva_] at ge318_0
                     rw [hvc_] at ul318_0
                     have HL318_0 := Aside0.mk (show Kd.V (Kd.int .i64) 3 _ w.heap.size _ _ (rd_L2 x3_2 (ji12)) from Kd.V_mk ul318_0 ge318_0)
                     clear hva_ hvn_ hvc_ ge318_0 ul318_0
                     clear hcc318 hce318
                     have HR318_0 := Aside0.mk hi318_0
                     have HC318_0 := Aside0.mk hl318_0
                     clear hi318_0 hl318_0
                     replace p318 := eq_true p318
                     replace q318 := eq_true q318
                     obtain ⟨Ao25, co25, eo25⟩ := Kd.R_slice HO_6.out
                     subst eo25
                     try go_wp2_with (first | (go_at_call 134; (with_reducible refine (spec_riBefore.calls _ _ t315 _ _ (rd_L2 x3_2 (ji12)) false _ ?side1 ?side2 ?side3 ?side4 A15.out).mono ?_); (case side1 => exact cC (Kd.R_reads' HO_6.out).2.2); (case side2 => exact (Kd.R_reads' HO_6.out).2.1); (case side3 => repeat (first | exact (by repeat (first | (with_reducible exact HR318_0.out) | (with_reducible refine Kd.C_alloc ?_ _) | (with_reducible refine Kd.C_drewN ?_ _) | (with_reducible refine Kd.C_drew ?_) | exact HR318_0.out)) | (with_reducible refine Kd.C_alloc ?_ _) | (with_reducible refine Kd.C_drewN ?_ _) | (with_reducible refine Kd.C_drew ?_))); (case side4 => exact HC318_0.out); rintro e w' ⟨rfl, ⟨nd, rfl⟩⟩) | ((with_reducible refine gate_dst (N := 54) rfl ?_); refine Kd.N_lit (Kd.slice 3 (Kd.int .i64)) _ 24 ?hg (N' := 54) ?hd (xs := ([] : List (List Int))) (inner := []) (ok := (fun k_ => (w.heap.size ≤ k_) ∧ some k_ ≠ (.slice (some ad318) x3_2.length co10 : Value).ownBlock ∧ some k_ ≠ (.slice Ao25 t315.length co25 : Value).ownBlock)) (okp := (fun k_ => (w.heap.size ≤ k_) ∧ some k_ ≠ (.slice (some ad318) x3_2.length co10 : Value).ownBlock ∧ some k_ ≠ (.slice Ao25 t315.length co25 : Value).ownBlock)) ?hr ?hp (fun _ hk => hk) ((show ∀ k_, wr.heap.size ≤ k_ → (fun k_ => (w.heap.size ≤ k_) ∧ some k_ ≠ (.slice (some ad318) x3_2.length co10 : Value).ownBlock ∧ some k_ ≠ (.slice Ao25 t315.length co25 : Value).ownBlock) k_ from fun k_ hk => ⟨(Nat.le_trans (below_size bq) hk), Kd.fresh' (Kd.N_lt (nA HO_3)) k_ hk, Kd.fresh' (Kd.R_lt (rA HO_6)) k_ hk⟩) _ (Nat.le_refl _)) (Below.refl _ _) (Nat.le_refl _) (by simp) ?_; (case hd => rfl); (case hg => rfl); (case hr => first | (go_simp; done) | (go_simp; rfl)); (case hp => exact (Reps.none _ _)); intro v321 w26 ho27 hb hg_ hnew_; clear hg_ hnew_; (first | rw [← Ny320.out] at ho27 | (simp only [Int.reduceToNat] at ho27; rw [← Ny320.out] at ho27)); have n0_ := Aside0.mk (Kd.N_elder' (nA HO_3) (Kd.N_base ho27) hb); have n1_ := Aside0.mk (Kd.R_below (rA HO_6) hb); have n2_ := Aside0.mk (Kd.V_elder' (by (with_reducible repeat (first | apply Kd.V_alloc | apply Kd.V_drewN | apply Kd.V_drew)); exact HL318_0.out) (Kd.N_base ho27) hb); have n3_ := Aside0.mk (Kd.N_lower ho27 (below_size bq)); have n4_ := Aside0.mk ((by with_reducible first | exact Kd.C_below HR318_0.out hb | exact Kd.C_below (Kd.C_drewN HR318_0.out _) hb | exact Kd.C_below (Kd.C_alloc HR318_0.out _) hb | exact Kd.C_below (Kd.C_drewN (Kd.C_drewN HR318_0.out _) _) hb)); have n5_ := Aside0.mk (below_step bq hb); clear HO_3; clear HO_6; clear HL318_0; clear HR318_0; clear HB; have HO_3 := n0_; have HO_6 := n1_; have HL318_0 := n2_; have HO322 := n3_; have HR318_0 := n4_; have HB := n5_; clear n0_ n1_ n2_ n3_ n4_ n5_; clear hb ho27; have q28 : (x7_4 : Int) ≤ ((x3_2.length : Int) : Int) := od; obtain ⟨i028, hi028, _, hsz28, _⟩ := info_parts info24; have hroom28 : x3_2.length ≤ co10 := (Kd.N_reads' HO_3.out).2.1; have hC28 : Kd.F (Kd.slice 3 (Kd.int .i64)) _ _ (some ad318) x3_2.length x3_2 := (Kd.V_at (base := w.heap.size) (Kd.N_V HO_3.out)).2.2; have hcut28 := cut_to (P := Try.prog) 31 24 .i64 Try.underlying31 hi028 (some ad318) x3_2.length co10 x7_4 (od) q28 hroom28; have hr28 := Kd.F_take (m := (x7_4 : Int).toNat) hC28 (by omega); have hy28 : y323.length = (x7_4 : Int).toNat := (by rw [Ny323.out, List.length_take]; omega); rw [← Ny323.out] at hr28; rw [← hy28] at hcut28; have HO327 := Aside0.mk (show Kd.V (Kd.slice 3 (Kd.int .i64)) 24 _ w.heap.size _ (.slice (some ad318) y323.length co10) y323 from Kd.V_mk (by omega) hr28); have HC327 := Aside0.mk (show y323.length ≤ co10 from by omega); clear hr28 hC28 hroom28 hi028 hsz28; have KY28 := Aside0.mk hy28; clear hy28; replace q28 := eq_true q28) | ((with_reducible refine gate_builtin (b := .append) (xs := #[.tmp 54, .tmp 57]) rfl ?_); at_builtin; refine Kd.N_append_rows (Kd.slice 3 (Kd.int .i64)) (w0 := w) w.heap.size rfl (.tmp 54) (.tmp 57) 31 24 (.slice none 0 0) 24 rfl Try.underlying31 info24 rfl (by decide) (by omega) v321 y320 y323 _ _ _ (fun k_ => (w.heap.size ≤ k_) ∧ some k_ ≠ (.slice Ao25 t315.length co25 : Value).ownBlock) (fun k_ => ((fun k_ => (w.heap.size ≤ k_) ∧ some k_ ≠ (.slice Ao25 t315.length co25 : Value).ownBlock)) k_ ∧ some k_ ≠ (v321 : Value).ownBlock) rfl rfl ?aO ?aR (fun _ hk => hk) ?aF ?aB ?aS ?aL ?_; (case aR => exact (by skip; exact Kd.V_F (Kd.V_mono (ok' := (fun k_ => ((fun k_ => (w.heap.size ≤ k_) ∧ some k_ ≠ (.slice Ao25 t315.length co25 : Value).ownBlock)) k_ ∧ some k_ ≠ (v321 : Value).ownBlock)) (HO327.out) (fun k_ hk => ⟨⟨hk.1.1, hk.1.2⟩, hk.2⟩)))); (case aB => exact bq); (case aF => exact (fun k_ hk => ⟨(Nat.le_trans (below_size bq) hk), Kd.fresh' (Kd.R_lt (rA HO_6)) k_ hk⟩)); (case aO => exact (by (with_reducible repeat (first | apply Kd.N_alloc | apply Kd.N_drewN | apply Kd.N_drew)); exact Kd.N_mono HO322.out (fun _ hk => ⟨hk.1, hk.2.2⟩))); (case aS => exact (below_size bq)); (case aL => have := LMc20.out; omega); intro v329 w29 ho hb hg hat; rw [← Ny328.out] at ho; have n0_ := Aside0.mk (Kd.N_afterv (ok := (fun k_ => (w.heap.size ≤ k_) ∧ some k_ ≠ (.slice Ao25 t315.length co25 : Value).ownBlock)) (nA HO_3) hg hat); have n1_ := Aside0.mk (Kd.R_over' (rA HO_6) (Kd.N_typed (nA HO322)) (by decide) hg); have n2_ := Aside0.mk (Kd.V_afterv (ok := (fun k_ => (w.heap.size ≤ k_) ∧ some k_ ≠ (.slice (some ad318) x3_2.length co10 : Value).ownBlock ∧ some k_ ≠ (.slice Ao25 t315.length co25 : Value).ownBlock)) (by (with_reducible repeat (first | apply Kd.V_alloc | apply Kd.V_drewN | apply Kd.V_drew)); exact Kd.V_mono HL318_0.out (fun _ hk => ⟨⟨hk.1.1.1, ⟨hk.1.2, hk.1.1.2⟩⟩, hk.2⟩)) hg hat); have n3_ := Aside0.mk (Kd.V_afterv (ok := (fun k_ => (w.heap.size ≤ k_) ∧ some k_ ≠ (.slice Ao25 t315.length co25 : Value).ownBlock)) (by (with_reducible repeat (first | apply Kd.V_alloc | apply Kd.V_drewN | apply Kd.V_drew)); exact HO327.out) hg hat); have n4_ := Aside0.mk (hb); have n5_ := Aside0.mk (ho); clear HO_3; clear HO_6; clear HL318_0; clear HO327; clear HB; clear HO322; have HO_3 := n0_; have HO_6 := n1_; have HL318_0 := n2_; have HO327 := n3_; have HB := n4_; have HO330 := n5_; clear n0_ n1_ n2_ n3_ n4_ n5_; clear ho hb hg hat))
                     have n0_ := Aside0.mk (Kd.N_drew HO_3.out)
                     have n1_ := Aside0.mk (Kd.R_drew HO_6.out)
                     have n2_ := Aside0.mk (Kd.V_drew HL318_0.out)
                     have n3_ := Aside0.mk (Kd.V_drew HO327.out)
                     have n4_ := Aside0.mk (Kd.N_drew HO330.out)
                     have n5_ := Aside0.mk (below_drew1 HB.out)
                     clear HO_3; clear HO_6; clear HL318_0; clear HO327; clear HO330; clear HB
                     have HO_3 := n0_
                     have HO_6 := n1_
                     have HL318_0 := n2_
                     have HO327 := n3_
                     have HO330 := n4_
                     have HB := n5_
                     clear n0_ n1_ n2_ n3_ n4_ n5_
                     have q31 : (x7_4 : Int) ≤ ((x3_2.length : Int) : Int) := od
                     obtain ⟨i031, hi031, _, hsz31, _⟩ := info_parts info24
                     have hroom31 : x3_2.length ≤ co10 := (Kd.N_reads' HO_3.out).2.1
                     have hC31 : Kd.F (Kd.slice 3 (Kd.int .i64)) _ _ (some ad318) x3_2.length x3_2 := (Kd.V_at (base := w.heap.size) (Kd.N_V HO_3.out)).2.2
                     have q031 : (0 : Int) ≤ (x7_4 : Int) := od
                     have hcut31 := cut_from (P := Try.prog) 31 24 .i64 Try.underlying31 hi031 1 hsz31 (some ad318) x3_2.length co10 x7_4 q031 q31
                     have hr31 := Kd.F_cut (m := (x7_4 : Int).toNat) (c := co10) hC31 (by omega) hroom31
                     obtain ⟨A31, hA31⟩ : ∃ A1, A1 = (if co10 = (x7_4 : Int).toNat then (some ad318) else ((some ad318) : Option Addr).map (·.add ((x7_4 : Int).toNat * 1))) := ⟨_, rfl⟩
                     obtain ⟨c31, hc31⟩ : ∃ c1, c1 = co10 - (x7_4 : Int).toNat := ⟨_, rfl⟩
                     have hy31 : y334.length = x3_2.length - (x7_4 : Int).toNat := (by rw [Ny334.out, List.length_drop] <;> omega)
                     rw [show (x3_2).drop (x7_4 : Int).toNat = y334 from Ny334.out.symm] at hr31
                     replace hr31 : Kd.F (Kd.slice 3 (Kd.int .i64)) _ _ A31 y334.length y334 := (by rw [hA31]; exact hr31)
                     rw [← hy31, ← hA31, ← hc31] at hcut31
                     have HO338 := Aside0.mk (show Kd.V (Kd.slice 3 (Kd.int .i64)) 24 _ w.heap.size _ (.slice A31 y334.length c31) y334 from Kd.V_mk (by rw [hy31, hc31]; exact Nat.sub_le_sub_right hroom31 _) hr31)
                     have HC338 := Aside0.mk (show y334.length ≤ c31 from by rw [hy31, hc31]; exact Nat.sub_le_sub_right hroom31 _)
                     clear hr31 hC31 hroom31 hi031 hsz31 hc31
                     have KY31 := Aside0.mk hy31
                     have KA31 := Aside0.mk hA31
                     clear hy31 hA31
                     replace q31 := eq_true q31
                     refine start_ (n := 9) (S := fun w' => True) (ds := []) #[O,O,O,O,O,O,O,O,O] (by kernel_rfl) rfl rfl trivial (fun hHeld => ?_); refine with_tabW spec_riUpTo.tab14 spec_riUpTo.bits14 (fun HT_ HW_ => ?_)
                     generalize w29.drew = w30 at HO_3 HO_6 HL318_0 HO327 HO330 HB HO338 hHeld ⊢
                     refine pS 0 59 (BM 9 1) ?_
                     refine pS 1 60 (BM 9 3) ?_
                     refine pS 4 63 (BM 9 19) ?_
                     refine pS 5 64 (BM 9 51) ?_
                     refine pS 6 65 (BM 9 115) ?_
                     refine one_ (i := 2) (N := some 61) (BM 9 119) rfl rfl (one_of HT_.out (by kernel_rfl)) (by decide) (fun K hK => ?_)
                     refine value_ (w1 := ?_) (v := ?_) (by rfl) rfl ?_ ?_
                     rotate_left 2
                     ·
                      go_simp
                      constructor
                      ·
                       rfl
                      ·
                       rfl
                     refine hK.out _ _ trivial (fun hHeld => ?_)
                     clear hK K
                     refine norm_ (a' := ?_) ?_ ?_
                     rotate_left
                     ·
                      show Act.put _ (some 61) _ = _
                      simp only [AP]
                      rfl
                     refine one_ (i := 3) (N := some 62) (BM 9 127) rfl rfl (one_of HT_.out (by kernel_rfl)) (by decide) (fun K hK => ?_)
                     refine Kd.N_append_step (Kd.slice 3 (Kd.int .i64)) (w0 := w) w.heap.size (by rfl) (.tmp 59) (.tmp 61) 31 24 (.slice none 0 0) 24 rfl Try.underlying31 info24 rfl (by decide) (by omega) v329 y328 t315 [.slice Ao25 t315.length co25] (fun k_ => (w.heap.size ≤ k_)) (fun k_ => ((fun k_ => (w.heap.size ≤ k_))) k_ ∧ some k_ ≠ (v329 : Value).ownBlock) rfl rfl ?aP (fun _ hk => hk) ?aF ?aO ?aB ?aS ?aL ?_
                     (case aP => exact (Kd.FK_slice_mk (Kd.R_reads' (Kd.R_mono (ok' := (fun k_ => ((fun k_ => (w.heap.size ≤ k_))) k_ ∧ some k_ ≠ (v329 : Value).ownBlock)) (Kd.R_apart' (HO_6.out) (Kd.N_typed HO330.out) (by decide)) (fun k_ hk => ⟨hk.1, hk.2⟩))).2.1 (Kd.R_F (Kd.R_mono (ok' := (fun k_ => ((fun k_ => (w.heap.size ≤ k_))) k_ ∧ some k_ ≠ (v329 : Value).ownBlock)) (Kd.R_apart' (HO_6.out) (Kd.N_typed HO330.out) (by decide)) (fun k_ hk => ⟨hk.1, hk.2⟩)))))
                     (case aB => exact bq)
                     (case aF => exact (fun k_ hk => (Nat.le_trans (below_size bq) hk)))
                     (case aO => exact (by (with_reducible repeat (first | apply Kd.N_alloc | apply Kd.N_drewN | apply Kd.N_drew)); exact Kd.N_mono HO330.out (fun _ hk => hk.1)))
                     (case aS => exact (below_size bq))
                     (case aL => have := LMc21.out; omega)
                     intro v332 w32 ho hb hg hat
                     rw [← Ny331.out] at ho
                     have n0_ := Aside0.mk (Kd.N_afterv (ok := (fun k_ => (w.heap.size ≤ k_) ∧ some k_ ≠ (.slice Ao25 t315.length co25 : Value).ownBlock)) (nA HO_3) hg hat)
                     have n1_ := Aside0.mk (Kd.V_afterv (ok := (fun k_ => (w.heap.size ≤ k_) ∧ some k_ ≠ (.slice (some ad318) x3_2.length co10 : Value).ownBlock ∧ some k_ ≠ (.slice Ao25 t315.length co25 : Value).ownBlock)) (by (with_reducible repeat (first | apply Kd.V_alloc | apply Kd.V_drewN | apply Kd.V_drew)); exact HL318_0.out) hg hat)
                     have n2_ := Aside0.mk (Kd.V_afterv (ok := (fun k_ => (w.heap.size ≤ k_) ∧ some k_ ≠ (.slice Ao25 t315.length co25 : Value).ownBlock)) (by (with_reducible repeat (first | apply Kd.V_alloc | apply Kd.V_drewN | apply Kd.V_drew)); exact HO327.out) hg hat)
                     have n3_ := Aside0.mk (Kd.V_afterv (ok := (fun k_ => (w.heap.size ≤ k_) ∧ some k_ ≠ (.slice Ao25 t315.length co25 : Value).ownBlock)) (by (with_reducible repeat (first | apply Kd.V_alloc | apply Kd.V_drewN | apply Kd.V_drew)); exact HO338.out) hg hat)
                     have n4_ := Aside0.mk (hb)
                     have n5_ := Aside0.mk (ho)
                     clear HO_3; clear HL318_0; clear HO327; clear HO338; clear HB; clear HO330; clear HO_6
                     have HO_3 := n0_
                     have HL318_0 := n1_
                     have HO327 := n2_
                     have HO338 := n3_
                     have HB := n4_
                     have HO333 := n5_
                     clear n0_ n1_ n2_ n3_ n4_ n5_
                     clear ho hb hg hat
                     refine hK.out _ _ trivial (fun hHeld => ?_)
                     clear hK K
                     refine norm_ (a' := ?_) ?_ ?_
                     rotate_left
                     ·
                      show Act.put _ (some 62) _ = _
                      simp only [AP]
                      rfl
                     refine one_ (i := 7) (N := some 66) (BM 9 255) rfl rfl (one_of HT_.out (by kernel_rfl)) (by decide) (fun K hK => ?_)
                     refine Kd.N_append_rows_step (Kd.slice 3 (Kd.int .i64)) (w0 := w) w.heap.size (by rfl) (.tmp 62) (.tmp 65) 31 24 (.slice none 0 0) 24 rfl Try.underlying31 info24 rfl (by decide) (by omega) v332 y331 y334 _ _ _ (fun k_ => (w.heap.size ≤ k_)) (fun k_ => ((fun k_ => (w.heap.size ≤ k_))) k_ ∧ some k_ ≠ (v332 : Value).ownBlock) rfl rfl ?aO ?aR (fun _ hk => hk) ?aF ?aB ?aS ?aL ?_
                     (case aR => exact (by skip; exact Kd.V_F (Kd.V_mono (ok' := (fun k_ => ((fun k_ => (w.heap.size ≤ k_))) k_ ∧ some k_ ≠ (v332 : Value).ownBlock)) (HO338.out) (fun k_ hk => ⟨hk.1.1, hk.2⟩))))
                     (case aB => exact bq)
                     (case aF => exact (fun k_ hk => (Nat.le_trans (below_size bq) hk)))
                     (case aO => exact (nA HO333))
                     (case aS => exact (below_size bq))
                     (case aL => have := LMc24.out; omega)
                     intro v340 w33 ho hb hg hat
                     rw [← Ny339.out] at ho
                     have n0_ := Aside0.mk (Kd.N_afterv (ok := (fun k_ => (w.heap.size ≤ k_))) (by (with_reducible repeat (first | apply Kd.N_alloc | apply Kd.N_drewN | apply Kd.N_drew)); exact Kd.N_mono HO_3.out (fun _ hk => ⟨hk.1.1, hk.2⟩)) hg hat)
                     have n1_ := Aside0.mk (Kd.V_afterv (ok := (fun k_ => (w.heap.size ≤ k_) ∧ some k_ ≠ (.slice (some ad318) x3_2.length co10 : Value).ownBlock)) (by (with_reducible repeat (first | apply Kd.V_alloc | apply Kd.V_drewN | apply Kd.V_drew)); exact Kd.V_mono HL318_0.out (fun _ hk => ⟨⟨hk.1.1, hk.1.2.1⟩, hk.2⟩)) hg hat)
                     have n2_ := Aside0.mk (Kd.V_afterv (ok := (fun k_ => (w.heap.size ≤ k_))) (by (with_reducible repeat (first | apply Kd.V_alloc | apply Kd.V_drewN | apply Kd.V_drew)); exact Kd.V_mono HO327.out (fun _ hk => ⟨hk.1.1, hk.2⟩)) hg hat)
                     have n3_ := Aside0.mk (Kd.V_afterv (ok := (fun k_ => (w.heap.size ≤ k_))) (by (with_reducible repeat (first | apply Kd.V_alloc | apply Kd.V_drewN | apply Kd.V_drew)); exact Kd.V_mono HO338.out (fun _ hk => ⟨hk.1.1, hk.2⟩)) hg hat)
                     have n4_ := Aside0.mk (hb)
                     have n5_ := Aside0.mk (ho)
                     clear HO_3; clear HL318_0; clear HO327; clear HO338; clear HB; clear HO333
                     have HO_3 := n0_
                     have HL318_0 := n1_
                     have HO327 := n2_
                     have HO338 := n3_
                     have HB := n4_
                     have HO341 := n5_
                     clear n0_ n1_ n2_ n3_ n4_ n5_
                     clear ho hb hg hat
                     refine hK.out _ _ trivial (fun hHeld => ?_)
                     clear hK K
                     refine norm_ (a' := ?_) ?_ ?_
                     rotate_left
                     ·
                      show Act.put _ (some 66) _ = _
                      simp only [AP]
                      rfl
                     refine pS 8 3 (BM 9 511) ?_
                     refine done_ (done_of HT_.out (by kernel_rfl)) ?_
                     try go_wp2
                     go_roundg k4
                     case measure => have := HK1.out; have := HK2.out; have := HJ3.out; have := HK4.out; omega
                     case rel => exact ⟨(y339), (wrap64 (x5_2 + 1)), e2, H', ⟨by have := HK1.out; have := HK2.out; have := HJ3.out; have := HK4.out; omega⟩, ⟨by (with_reducible repeat (first | apply Kd.N_alloc | apply Kd.N_drewN | apply Kd.N_drew)); exact HO341.out⟩, ⟨bq⟩⟩
                    ·
                     rw [if_neg c24] at H
                     exact absurd H (by simp)
                   ·
                    rw [if_neg c21] at H
                    exact absurd H (by simp)
                  ·
                   rw [if_neg c20] at H
                   exact absurd H (by simp)
                 ·
                  rw [if_neg c19] at H
                  exact absurd H (by simp)
                ·
                 rw [if_neg c18] at H
                 exact absurd H (by simp)
              ·
               rw [if_neg c14] at H
               exact absurd H (by simp)
             ·
              rw [if_neg c13] at H
              exact absurd H (by simp)
            ·
             rw [if_neg c11] at H
             have c11b0 : decide (0 < x7_4) = false := decide_eq_false c11
             clear c11
             obtain ⟨y342, hy342⟩ : ∃ y_ : List (List Int), y_ = (([] : List (List Int))) := ⟨_, rfl⟩
             replace H : (if 0 ≤ x7_4 then (if x7_4 ≤ (x3_2.length : Int) then ((some (x3_2.take (x7_4 : Int).toNat : List (List Int))).bind fun y345 => (if y342.length + y345.length < 5864062014805 then ((some (y342 ++ y345 : List (List Int))).bind fun y350 => (if y350.length < 5864062014805 then ((some (y350 ++ [t315] : List (List Int))).bind fun y353 => ((some (x3_2.drop (x7_4 : Int).toNat : List (List Int))).bind fun y356 => (if y353.length + y356.length < 5864062014805 then (spec_riUpTo.l1 k4 a0 (y353 ++ y356) x4_1 (wrap64 (x5_2 + 1))) else (none)))) else (none))) else (none))) else (none)) else (none)) = some r := by first | (rw [hy342]; with_reducible exact H) | (have H2_ := (Option.bind_some _ _).symm.trans H; rw [hy342]; with_reducible exact H2_) | (have H2_ := (Option.bind_some _ _).symm.trans H; with_reducible exact H2_) | with_reducible exact H | (rw [hy342]; exact H) | exact H
             have Ny342 := Aside0.mk hy342
             clear hy342
             by_cases c34 : 0 ≤ x7_4
             ·
              rw [if_pos c34] at H
              have c34b0 := eq_true c34
              have c34b1 : decide (0 ≤ x7_4) = true := decide_eq_true c34
              clear c34
              by_cases c35 : x7_4 ≤ (x3_2.length : Int)
              ·
               rw [if_pos c35] at H
               have c35b0 := eq_true c35
               have c35b1 : decide (x7_4 ≤ (x3_2.length : Int)) = true := decide_eq_true c35
               clear c35
               obtain ⟨y345, hy345⟩ : ∃ y_ : List (List Int), y_ = (x3_2.take (x7_4 : Int).toNat) := ⟨_, rfl⟩
               replace H : (if y342.length + y345.length < 5864062014805 then ((some (y342 ++ y345 : List (List Int))).bind fun y350 => (if y350.length < 5864062014805 then ((some (y350 ++ [t315] : List (List Int))).bind fun y353 => ((some (x3_2.drop (x7_4 : Int).toNat : List (List Int))).bind fun y356 => (if y353.length + y356.length < 5864062014805 then (spec_riUpTo.l1 k4 a0 (y353 ++ y356) x4_1 (wrap64 (x5_2 + 1))) else (none)))) else (none))) else (none)) = some r := by first | (rw [hy345]; with_reducible exact H) | (have H2_ := (Option.bind_some _ _).symm.trans H; rw [hy345]; with_reducible exact H2_) | (have H2_ := (Option.bind_some _ _).symm.trans H; with_reducible exact H2_) | with_reducible exact H | (rw [hy345]; exact H) | exact H
               have Ny345 := Aside0.mk hy345
               clear hy345
               by_cases c36 : y342.length + y345.length < 5864062014805
               ·
                rw [if_pos c36] at H
                have LMc36 := Aside0.mk c36
                clear c36
                obtain ⟨y350, hy350⟩ : ∃ y_ : List (List Int), y_ = (y342 ++ y345) := ⟨_, rfl⟩
                replace H : (if y350.length < 5864062014805 then ((some (y350 ++ [t315] : List (List Int))).bind fun y353 => ((some (x3_2.drop (x7_4 : Int).toNat : List (List Int))).bind fun y356 => (if y353.length + y356.length < 5864062014805 then (spec_riUpTo.l1 k4 a0 (y353 ++ y356) x4_1 (wrap64 (x5_2 + 1))) else (none)))) else (none)) = some r := by first | (rw [hy350]; with_reducible exact H) | (have H2_ := (Option.bind_some _ _).symm.trans H; rw [hy350]; with_reducible exact H2_) | (have H2_ := (Option.bind_some _ _).symm.trans H; with_reducible exact H2_) | with_reducible exact H | (rw [hy350]; exact H) | exact H
                have Ny350 := Aside0.mk hy350
                clear hy350
                by_cases c37 : y350.length < 5864062014805
                ·
                 rw [if_pos c37] at H
                 have LMc37 := Aside0.mk c37
                 clear c37
                 obtain ⟨y353, hy353⟩ : ∃ y_ : List (List Int), y_ = (y350 ++ [t315]) := ⟨_, rfl⟩
                 replace H : ((some (x3_2.drop (x7_4 : Int).toNat : List (List Int))).bind fun y356 => (if y353.length + y356.length < 5864062014805 then (spec_riUpTo.l1 k4 a0 (y353 ++ y356) x4_1 (wrap64 (x5_2 + 1))) else (none))) = some r := by first | (rw [hy353]; with_reducible exact H) | (have H2_ := (Option.bind_some _ _).symm.trans H; rw [hy353]; with_reducible exact H2_) | (have H2_ := (Option.bind_some _ _).symm.trans H; with_reducible exact H2_) | with_reducible exact H | (rw [hy353]; exact H) | exact H
                 have Ny353 := Aside0.mk hy353
                 clear hy353
                 have c38b0 := eq_true (od : 0 ≤ x7_4)
                 have c39b0 := eq_true (od : x7_4 ≤ (x3_2.length : Int))
                 obtain ⟨y356, hy356⟩ : ∃ y_ : List (List Int), y_ = (x3_2.drop (x7_4 : Int).toNat) := ⟨_, rfl⟩
                 replace H : (if y353.length + y356.length < 5864062014805 then (spec_riUpTo.l1 k4 a0 (y353 ++ y356) x4_1 (wrap64 (x5_2 + 1))) else (none)) = some r := by first | (rw [hy356]; with_reducible exact H) | (have H2_ := (Option.bind_some _ _).symm.trans H; rw [hy356]; with_reducible exact H2_) | (have H2_ := (Option.bind_some _ _).symm.trans H; with_reducible exact H2_) | with_reducible exact H | (rw [hy356]; exact H) | exact H
                 have Ny356 := Aside0.mk hy356
                 clear hy356
                 by_cases c40 : y353.length + y356.length < 5864062014805
                 ·
                  rw [if_pos c40] at H
                  have LMc40 := Aside0.mk c40
                  clear c40
                  obtain ⟨y361, hy361⟩ : ∃ y_ : List (List Int), y_ = (y353 ++ y356) := ⟨_, rfl⟩
                  replace H : (spec_riUpTo.l1 k4 a0 y361 x4_1 (wrap64 (x5_2 + 1))) = some r := by first | (rw [hy361]; with_reducible exact H) | (have H2_ := (Option.bind_some _ _).symm.trans H; rw [hy361]; with_reducible exact H2_) | (have H2_ := (Option.bind_some _ _).symm.trans H; with_reducible exact H2_) | with_reducible exact H | (rw [hy361]; exact H) | exact H
                  have Ny361 := Aside0.mk hy361
                  clear hy361
                  have H' := Aside0.mk H
                  clear H
                  try go_wp2_with (first | ((with_reducible refine gate_dst (N := 54) rfl ?_); refine Kd.N_lit (Kd.slice 3 (Kd.int .i64)) _ 24 ?hg (N' := 54) ?hd (xs := ([] : List (List Int))) (inner := []) (ok := (fun k_ => (w.heap.size ≤ k_) ∧ some k_ ≠ (.slice Ao10 x3_2.length co10 : Value).ownBlock ∧ some k_ ≠ (v316 : Value).ownBlock)) (okp := (fun k_ => (w.heap.size ≤ k_) ∧ some k_ ≠ (.slice Ao10 x3_2.length co10 : Value).ownBlock ∧ some k_ ≠ (v316 : Value).ownBlock)) ?hr ?hp (fun _ hk => hk) ((show ∀ k_, wr.heap.size ≤ k_ → (fun k_ => (w.heap.size ≤ k_) ∧ some k_ ≠ (.slice Ao10 x3_2.length co10 : Value).ownBlock ∧ some k_ ≠ (v316 : Value).ownBlock) k_ from fun k_ hk => ⟨(Nat.le_trans (below_size bq) hk), Kd.fresh' (Kd.N_lt (nA HO_3)) k_ hk, Kd.fresh' (Kd.R_lt (rA HO_6)) k_ hk⟩) _ (Nat.le_refl _)) (Below.refl _ _) (Nat.le_refl _) (by simp) ?_; (case hd => rfl); (case hg => rfl); (case hr => first | (go_simp; done) | (go_simp; rfl)); (case hp => exact (Reps.none _ _)); intro v343 w41 ho42 hb hg_ hnew_; clear hg_ hnew_; (first | rw [← Ny342.out] at ho42 | (simp only [Int.reduceToNat] at ho42; rw [← Ny342.out] at ho42)); have n0_ := Aside0.mk (Kd.N_elder' (nA HO_3) (Kd.N_base ho42) hb); have n1_ := Aside0.mk (Kd.R_below (rA HO_6) hb); have n2_ := Aside0.mk (Kd.N_lower ho42 (below_size bq)); have n3_ := Aside0.mk (below_step bq hb); clear HO_3; clear HO_6; clear HB; have HO_3 := n0_; have HO_6 := n1_; have HO344 := n2_; have HB := n3_; clear n0_ n1_ n2_ n3_; clear hb ho42; have q43 : (x7_4 : Int) ≤ ((x3_2.length : Int) : Int) := od; obtain ⟨i043, hi043, _, hsz43, _⟩ := info_parts info24; have hroom43 : x3_2.length ≤ co10 := (Kd.N_reads' HO_3.out).2.1; have hC43 : Kd.F (Kd.slice 3 (Kd.int .i64)) _ _ Ao10 x3_2.length x3_2 := (Kd.V_at (base := w.heap.size) (Kd.N_V HO_3.out)).2.2; have hcut43 := cut_to (P := Try.prog) 31 24 .i64 Try.underlying31 hi043 Ao10 x3_2.length co10 x7_4 (od) q43 hroom43; have hr43 := Kd.F_take (m := (x7_4 : Int).toNat) hC43 (by omega); have hy43 : y345.length = (x7_4 : Int).toNat := (by rw [Ny345.out, List.length_take]; omega); rw [← Ny345.out] at hr43; rw [← hy43] at hcut43; have HO349 := Aside0.mk (show Kd.V (Kd.slice 3 (Kd.int .i64)) 24 _ w.heap.size _ (.slice Ao10 y345.length co10) y345 from Kd.V_mk (by omega) hr43); have HC349 := Aside0.mk (show y345.length ≤ co10 from by omega); clear hr43 hC43 hroom43 hi043 hsz43; have KY43 := Aside0.mk hy43; clear hy43; replace q43 := eq_true q43) | ((with_reducible refine gate_builtin (b := .append) (xs := #[.tmp 54, .tmp 57]) rfl ?_); at_builtin; refine Kd.N_append_rows (Kd.slice 3 (Kd.int .i64)) (w0 := w) w.heap.size rfl (.tmp 54) (.tmp 57) 31 24 (.slice none 0 0) 24 rfl Try.underlying31 info24 rfl (by decide) (by omega) v343 y342 y345 _ _ _ (fun k_ => (w.heap.size ≤ k_) ∧ some k_ ≠ (v316 : Value).ownBlock) (fun k_ => ((fun k_ => (w.heap.size ≤ k_) ∧ some k_ ≠ (v316 : Value).ownBlock)) k_ ∧ some k_ ≠ (v343 : Value).ownBlock) rfl rfl ?aO ?aR (fun _ hk => hk) ?aF ?aB ?aS ?aL ?_; (case aR => exact (by skip; exact Kd.V_F (Kd.V_mono (ok' := (fun k_ => ((fun k_ => (w.heap.size ≤ k_) ∧ some k_ ≠ (v316 : Value).ownBlock)) k_ ∧ some k_ ≠ (v343 : Value).ownBlock)) (HO349.out) (fun k_ hk => ⟨⟨hk.1.1, hk.1.2⟩, hk.2⟩)))); (case aB => exact bq); (case aF => exact (fun k_ hk => ⟨(Nat.le_trans (below_size bq) hk), Kd.fresh' (Kd.R_lt (rA HO_6)) k_ hk⟩)); (case aO => exact (by (with_reducible repeat (first | apply Kd.N_alloc | apply Kd.N_drewN | apply Kd.N_drew)); exact Kd.N_mono HO344.out (fun _ hk => ⟨hk.1, hk.2.2⟩))); (case aS => exact (below_size bq)); (case aL => have := LMc36.out; omega); intro v351 w44 ho hb hg hat; rw [← Ny350.out] at ho; have n0_ := Aside0.mk (Kd.N_afterv (ok := (fun k_ => (w.heap.size ≤ k_) ∧ some k_ ≠ (v316 : Value).ownBlock)) (nA HO_3) hg hat); have n1_ := Aside0.mk (Kd.R_over' (rA HO_6) (Kd.N_typed (nA HO344)) (by decide) hg); have n2_ := Aside0.mk (Kd.V_afterv (ok := (fun k_ => (w.heap.size ≤ k_) ∧ some k_ ≠ (v316 : Value).ownBlock)) (by (with_reducible repeat (first | apply Kd.V_alloc | apply Kd.V_drewN | apply Kd.V_drew)); exact HO349.out) hg hat); have n3_ := Aside0.mk (hb); have n4_ := Aside0.mk (ho); clear HO_3; clear HO_6; clear HO349; clear HB; clear HO344; have HO_3 := n0_; have HO_6 := n1_; have HO349 := n2_; have HB := n3_; have HO352 := n4_; clear n0_ n1_ n2_ n3_ n4_; clear ho hb hg hat))
                  have n0_ := Aside0.mk (Kd.N_drew HO_3.out)
                  have n1_ := Aside0.mk (Kd.R_drew HO_6.out)
                  have n2_ := Aside0.mk (Kd.V_drew HO349.out)
                  have n3_ := Aside0.mk (Kd.N_drew HO352.out)
                  have n4_ := Aside0.mk (below_drew1 HB.out)
                  clear HO_3; clear HO_6; clear HO349; clear HO352; clear HB
                  have HO_3 := n0_
                  have HO_6 := n1_
                  have HO349 := n2_
                  have HO352 := n3_
                  have HB := n4_
                  clear n0_ n1_ n2_ n3_ n4_
                  have q46 : (x7_4 : Int) ≤ ((x3_2.length : Int) : Int) := od
                  obtain ⟨i046, hi046, _, hsz46, _⟩ := info_parts info24
                  have hroom46 : x3_2.length ≤ co10 := (Kd.N_reads' HO_3.out).2.1
                  have hC46 : Kd.F (Kd.slice 3 (Kd.int .i64)) _ _ Ao10 x3_2.length x3_2 := (Kd.V_at (base := w.heap.size) (Kd.N_V HO_3.out)).2.2
                  have q046 : (0 : Int) ≤ (x7_4 : Int) := od
                  have hcut46 := cut_from (P := Try.prog) 31 24 .i64 Try.underlying31 hi046 1 hsz46 Ao10 x3_2.length co10 x7_4 q046 q46
                  have hr46 := Kd.F_cut (m := (x7_4 : Int).toNat) (c := co10) hC46 (by omega) hroom46
                  obtain ⟨A46, hA46⟩ : ∃ A1, A1 = (if co10 = (x7_4 : Int).toNat then Ao10 else (Ao10 : Option Addr).map (·.add ((x7_4 : Int).toNat * 1))) := ⟨_, rfl⟩
                  obtain ⟨c46, hc46⟩ : ∃ c1, c1 = co10 - (x7_4 : Int).toNat := ⟨_, rfl⟩
                  have hy46 : y356.length = x3_2.length - (x7_4 : Int).toNat := (by rw [Ny356.out, List.length_drop] <;> omega)
                  rw [show (x3_2).drop (x7_4 : Int).toNat = y356 from Ny356.out.symm] at hr46
                  replace hr46 : Kd.F (Kd.slice 3 (Kd.int .i64)) _ _ A46 y356.length y356 := (by rw [hA46]; exact hr46)
                  rw [← hy46, ← hA46, ← hc46] at hcut46
                  have HO360 := Aside0.mk (show Kd.V (Kd.slice 3 (Kd.int .i64)) 24 _ w.heap.size _ (.slice A46 y356.length c46) y356 from Kd.V_mk (by rw [hy46, hc46]; exact Nat.sub_le_sub_right hroom46 _) hr46)
                  have HC360 := Aside0.mk (show y356.length ≤ c46 from by rw [hy46, hc46]; exact Nat.sub_le_sub_right hroom46 _)
                  clear hr46 hC46 hroom46 hi046 hsz46 hc46
                  have KY46 := Aside0.mk hy46
                  have KA46 := Aside0.mk hA46
                  clear hy46 hA46
                  replace q46 := eq_true q46
                  obtain ⟨Ao48, co48, eo48⟩ := Kd.R_slice HO_6.out
                  (first | subst eo48 | (injection eo48 with f1_ f2_ f3_; have f4_ := f1_.symm; have f5_ := f3_.symm; clear f1_ f2_ f3_; subst f4_; subst f5_))
                  refine start_ (n := 9) (S := fun w' => True) (ds := []) #[O,O,O,O,O,O,O,O,O] (by kernel_rfl) rfl rfl trivial (fun hHeld => ?_); refine with_tabW spec_riUpTo.tab14 spec_riUpTo.bits14 (fun HT_ HW_ => ?_)
                  generalize w44.drew = w45 at HO_3 HO_6 HO349 HO352 HB HO360 hHeld ⊢
                  refine pS 0 59 (BM 9 1) ?_
                  refine pS 1 60 (BM 9 3) ?_
                  refine pS 4 63 (BM 9 19) ?_
                  refine pS 5 64 (BM 9 51) ?_
                  refine pS 6 65 (BM 9 115) ?_
                  refine one_ (i := 2) (N := some 61) (BM 9 119) rfl rfl (one_of HT_.out (by kernel_rfl)) (by decide) (fun K hK => ?_)
                  refine value_ (w1 := ?_) (v := ?_) (by rfl) rfl ?_ ?_
                  rotate_left 2
                  ·
                   go_simp
                   constructor
                   ·
                    rfl
                   ·
                    rfl
                  refine hK.out _ _ trivial (fun hHeld => ?_)
                  clear hK K
                  refine norm_ (a' := ?_) ?_ ?_
                  rotate_left
                  ·
                   show Act.put _ (some 61) _ = _
                   simp only [AP]
                   rfl
                  refine one_ (i := 3) (N := some 62) (BM 9 127) rfl rfl (one_of HT_.out (by kernel_rfl)) (by decide) (fun K hK => ?_)
                  refine Kd.N_append_step (Kd.slice 3 (Kd.int .i64)) (w0 := w) w.heap.size (by rfl) (.tmp 59) (.tmp 61) 31 24 (.slice none 0 0) 24 rfl Try.underlying31 info24 rfl (by decide) (by omega) v351 y350 t315 [.slice Ao48 t315.length co48] (fun k_ => (w.heap.size ≤ k_)) (fun k_ => ((fun k_ => (w.heap.size ≤ k_))) k_ ∧ some k_ ≠ (v351 : Value).ownBlock) rfl rfl ?aP (fun _ hk => hk) ?aF ?aO ?aB ?aS ?aL ?_
                  (case aP => exact (Kd.FK_slice_mk (Kd.R_reads' (Kd.R_mono (ok' := (fun k_ => ((fun k_ => (w.heap.size ≤ k_))) k_ ∧ some k_ ≠ (v351 : Value).ownBlock)) (Kd.R_apart' (HO_6.out) (Kd.N_typed HO352.out) (by decide)) (fun k_ hk => ⟨hk.1, hk.2⟩))).2.1 (Kd.R_F (Kd.R_mono (ok' := (fun k_ => ((fun k_ => (w.heap.size ≤ k_))) k_ ∧ some k_ ≠ (v351 : Value).ownBlock)) (Kd.R_apart' (HO_6.out) (Kd.N_typed HO352.out) (by decide)) (fun k_ hk => ⟨hk.1, hk.2⟩)))))
                  (case aB => exact bq)
                  (case aF => exact (fun k_ hk => (Nat.le_trans (below_size bq) hk)))
                  (case aO => exact (by (with_reducible repeat (first | apply Kd.N_alloc | apply Kd.N_drewN | apply Kd.N_drew)); exact Kd.N_mono HO352.out (fun _ hk => hk.1)))
                  (case aS => exact (below_size bq))
                  (case aL => have := LMc37.out; omega)
                  intro v354 w47 ho hb hg hat
                  rw [← Ny353.out] at ho
                  have n0_ := Aside0.mk (Kd.N_afterv (ok := (fun k_ => (w.heap.size ≤ k_) ∧ some k_ ≠ (.slice Ao48 t315.length co48 : Value).ownBlock)) (nA HO_3) hg hat)
                  have n1_ := Aside0.mk (Kd.V_afterv (ok := (fun k_ => (w.heap.size ≤ k_) ∧ some k_ ≠ (.slice Ao48 t315.length co48 : Value).ownBlock)) (by (with_reducible repeat (first | apply Kd.V_alloc | apply Kd.V_drewN | apply Kd.V_drew)); exact HO349.out) hg hat)
                  have n2_ := Aside0.mk (Kd.V_afterv (ok := (fun k_ => (w.heap.size ≤ k_) ∧ some k_ ≠ (.slice Ao48 t315.length co48 : Value).ownBlock)) (by (with_reducible repeat (first | apply Kd.V_alloc | apply Kd.V_drewN | apply Kd.V_drew)); exact HO360.out) hg hat)
                  have n3_ := Aside0.mk (hb)
                  have n4_ := Aside0.mk (ho)
                  clear HO_3; clear HO349; clear HO360; clear HB; clear HO352; clear HO_6
                  have HO_3 := n0_
                  have HO349 := n1_
                  have HO360 := n2_
                  have HB := n3_
                  have HO355 := n4_
                  clear n0_ n1_ n2_ n3_ n4_
                  clear ho hb hg hat
                  refine hK.out _ _ trivial (fun hHeld => ?_)
                  clear hK K
                  refine norm_ (a' := ?_) ?_ ?_
                  rotate_left
                  ·
                   show Act.put _ (some 62) _ = _
                   simp only [AP]
                   rfl
                  refine one_ (i := 7) (N := some 66) (BM 9 255) rfl rfl (one_of HT_.out (by kernel_rfl)) (by decide) (fun K hK => ?_)
                  refine Kd.N_append_rows_step (Kd.slice 3 (Kd.int .i64)) (w0 := w) w.heap.size (by rfl) (.tmp 62) (.tmp 65) 31 24 (.slice none 0 0) 24 rfl Try.underlying31 info24 rfl (by decide) (by omega) v354 y353 y356 _ _ _ (fun k_ => (w.heap.size ≤ k_)) (fun k_ => ((fun k_ => (w.heap.size ≤ k_))) k_ ∧ some k_ ≠ (v354 : Value).ownBlock) rfl rfl ?aO ?aR (fun _ hk => hk) ?aF ?aB ?aS ?aL ?_
                  (case aR => exact (by skip; exact Kd.V_F (Kd.V_mono (ok' := (fun k_ => ((fun k_ => (w.heap.size ≤ k_))) k_ ∧ some k_ ≠ (v354 : Value).ownBlock)) (HO360.out) (fun k_ hk => ⟨hk.1.1, hk.2⟩))))
                  (case aB => exact bq)
                  (case aF => exact (fun k_ hk => (Nat.le_trans (below_size bq) hk)))
                  (case aO => exact (nA HO355))
                  (case aS => exact (below_size bq))
                  (case aL => have := LMc40.out; omega)
                  intro v362 w49 ho hb hg hat
                  rw [← Ny361.out] at ho
                  have n0_ := Aside0.mk (Kd.N_afterv (ok := (fun k_ => (w.heap.size ≤ k_))) (by (with_reducible repeat (first | apply Kd.N_alloc | apply Kd.N_drewN | apply Kd.N_drew)); exact Kd.N_mono HO_3.out (fun _ hk => ⟨hk.1.1, hk.2⟩)) hg hat)
                  have n1_ := Aside0.mk (Kd.V_afterv (ok := (fun k_ => (w.heap.size ≤ k_))) (by (with_reducible repeat (first | apply Kd.V_alloc | apply Kd.V_drewN | apply Kd.V_drew)); exact Kd.V_mono HO349.out (fun _ hk => ⟨hk.1.1, hk.2⟩)) hg hat)
                  have n2_ := Aside0.mk (Kd.V_afterv (ok := (fun k_ => (w.heap.size ≤ k_))) (by (with_reducible repeat (first | apply Kd.V_alloc | apply Kd.V_drewN | apply Kd.V_drew)); exact Kd.V_mono HO360.out (fun _ hk => ⟨hk.1.1, hk.2⟩)) hg hat)
                  have n3_ := Aside0.mk (hb)
                  have n4_ := Aside0.mk (ho)
                  clear HO_3; clear HO349; clear HO360; clear HB; clear HO355
                  have HO_3 := n0_
                  have HO349 := n1_
                  have HO360 := n2_
                  have HB := n3_
                  have HO363 := n4_
                  clear n0_ n1_ n2_ n3_ n4_
                  clear ho hb hg hat
                  refine hK.out _ _ trivial (fun hHeld => ?_)
                  clear hK K
                  refine norm_ (a' := ?_) ?_ ?_
                  rotate_left
                  ·
                   show Act.put _ (some 66) _ = _
                   simp only [AP]
                   rfl
                  refine pS 8 3 (BM 9 511) ?_
                  refine done_ (done_of HT_.out (by kernel_rfl)) ?_
                  try go_wp2
                  go_roundg k4
                  case measure => have := HK1.out; have := HK2.out; have := HJ3.out; have := HK4.out; omega
                  case rel => exact ⟨(y361), (wrap64 (x5_2 + 1)), e2, H', ⟨by have := HK1.out; have := HK2.out; have := HJ3.out; have := HK4.out; omega⟩, ⟨by (with_reducible repeat (first | apply Kd.N_alloc | apply Kd.N_drewN | apply Kd.N_drew)); exact HO363.out⟩, ⟨bq⟩⟩
                 ·
                  rw [if_neg c40] at H
                  exact absurd H (by simp)
                ·
                 rw [if_neg c37] at H
                 exact absurd H (by simp)
               ·
                rw [if_neg c36] at H
                exact absurd H (by simp)
              ·
               rw [if_neg c35] at H
               exact absurd H (by simp)
             ·
              rw [if_neg c34] at H
              exact absurd H (by simp)
      ·
       rw [if_neg c3] at H
       have c3b0 : decide (x5_2 < x4_1) = false := decide_eq_false c3
       clear c3
       have H' := Aside0.mk H
       clear H
       go_wp2
       go_roundg k2
       case measure => have := HK1.out; have := HK2.out; omega
       case rel => exact ⟨(x3_2), (wrap64 (x4_1 + 1)), e2, H', ⟨by have := HK1.out; have := HK2.out; omega⟩, ⟨by (with_reducible repeat (first | apply Kd.N_alloc | apply Kd.N_drewN | apply Kd.N_drew)); exact HO_3.out⟩, ⟨bq⟩⟩
   ·
    rw [if_neg c2] at H
    have c2b0 : decide ((wrap64 (x4_1 * x4_1)) < a0) = false := decide_eq_false c2
    clear c2
    obtain rfl := Option.some.inj H
    go_wp2
    go_ret
    exact ⟨_, e1, by (with_reducible repeat (first | apply Kd.N_alloc | apply Kd.N_drewN | apply Kd.N_drew)); exact HO_3.out, bq⟩

end Go.Proofs.Ytnfbkakblnppaaa.P
