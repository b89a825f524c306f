-- Written by a program of this session (wip/mkprint.py over the kit's print), out of the translation. Not trusted: Lean checks it.
import Derived.Test.YtnfbkakblnppaaaRx0
import Derived.Test.YtnfbkakblnppaaaRx3
import Derived.Test.YtnfbkakblnppaaaRx8
import Derived.Test.YtnfbkakblnppaaaRx10
namespace Go.Proofs.Ytnfbkakblnppaaa.P
open Go.RowKit Go.Proofs.YtnfbkakblnppaaaW.PrintWords Go.Proofs.YtnfbkakblnppaaaW.PrintLast Go.Proofs.YtnfbkakblnppaaaW.PrintMore
attribute [local go_sem] max2_int min2_int max_two min_two max_three min_three max_four min_four   -- for this text's walks alone
set_option linter.unusedVariables false
set_option linter.unusedSimpArgs false

/-! ### spec_RightUpTo: function 58 -/
def spec_RightUpTo.f (k : Nat) (a0 : Int) : Option ((List (List Int)) × Bool) := (spec_l1In.f a0 0 5000).bind fun t364 => (if t364 = true then ((spec_riUpTo.f k a0).bind fun t365 => (some (t365, true))) else (some (([] : List (List Int)), false)))
theorem spec_RightUpTo.mono : ∀ a0 k, LeO (spec_RightUpTo.f k a0) (spec_RightUpTo.f (k + 1) a0) := by
 intro a0 k
 unfold spec_RightUpTo.f
 repeat' first
  | (with_reducible exact spec_riUpTo.mono _ _)
  | (with_reducible exact LeO.refl _)
  | (with_reducible exact LeO.none _)
  | (with_reducible refine LeO.ite ?_ ?_)
  | (with_reducible refine LeO.bind ?_ (fun _ => ?_))
  | exact spec_riUpTo.mono _ _
  | exact LeO.none _
  | refine LeO.ite ?_ ?_
  | refine LeO.bind ?_ (fun _ => ?_)
set_option maxHeartbeats 8000000 in
set_option maxRecDepth 100000 in
theorem spec_RightUpTo.calls (k : Nat) (a0 : Int) (r1 : List (List Int)) (r2 : Bool) (w : World) (h : spec_RightUpTo.f k a0 = some (r1, r2)) :
 Calls Try.prog 58 #[.int .i64 a0] w fun e w' => ∃ v0_ : Value, e = .returned (.tuple #[v0_, .bool r2]) ∧ Kd.N (Kd.slice 3 (Kd.int .i64)) 24 w' w.heap.size (fun k_ => (w.heap.size ≤ k_)) v0_ r1 ∧ Below w.heap.size w w' := by
 have HB := Aside0.mk (Below.refl w.heap.size w)
 have H : ((spec_l1In.f a0 0 5000).bind fun t364 => (if t364 = true then ((spec_riUpTo.f k a0).bind fun t365 => (some (t365, true))) else (some (([] : List (List Int)), false)))) = some (r1, r2) := h
 clear h
 replace H := Option.bind_eq_some_iff.mp H
 obtain ⟨t364, A20, H⟩ := H
 replace H : (if t364 = true then ((spec_riUpTo.f k a0).bind fun t365 => (some (t365, true))) else (some (([] : List (List Int)), false))) = some (r1, r2) := H
 have A2 := Aside0.mk A20
 clear A20
 by_cases c3 : t364 = true
 ·
  subst c3
  have H1 : ((spec_riUpTo.f k a0).bind fun t365 => (some (t365, true))) = some (r1, r2) := by rw [if_pos rfl] at H; exact H
  clear H
  have H := H1
  clear H1
  replace H := Option.bind_eq_some_iff.mp H
  obtain ⟨t365, A40, H⟩ := H
  replace H : (some (t365, true)) = some (r1, r2) := H
  have A4 := Aside0.mk A40
  clear A40
  simp only [Option.some.injEq, Prod.mk.injEq] at H
  obtain ⟨rfl, rfl⟩ := H
  go_enter Try.func58, Try.ntmps58
  go_wp2_with (first | ((with_reducible refine gate_callee (f := 63) rfl ?_); refine gL (some 5) rfl rfl Try.func63 (by kernel_rfl) rfl #[.int .i64 a0, .int .i64 0, .int .i64 5000] rfl ?_; (with_reducible refine (spec_l1In.calls a0 0 5000 true _ A2.out).mono ?_); rintro e w' ⟨rfl, ⟨nd, rfl⟩⟩; refine ⟨_, rfl, ?_⟩) | ((with_reducible refine gate_callee (f := 108) rfl ?_); refine gL (some 8) rfl rfl Try.func108 (by kernel_rfl) rfl #[.int .i64 a0] rfl ?_; (with_reducible refine (spec_riUpTo.calls k a0 t365 _ A4.out).mono ?_); rintro e w5 ⟨v366, rfl, ho0, hb⟩; refine ⟨_, rfl, ?_⟩; have n0_ := Aside0.mk (Kd.N_lower (Kd.N_mono (ok' := fun k_ => (w.heap.size ≤ k_)) ho0 (fun k_ hk_ => (Nat.le_trans (below_size bq) hk_))) (below_size bq)); have n1_ := Aside0.mk (below_step bq hb); clear HB; have HO367 := n0_; have HB := n1_; clear n0_ n1_; (try clear hb); (try clear hb2); (try clear hk); (try clear hi); (try clear ho0)))
  go_ret2
  exact ⟨_, e1, by (with_reducible repeat (first | apply Kd.N_alloc | apply Kd.N_drewN | apply Kd.N_drew)); exact HO367.out, bq⟩
 ·
  replace c3 := Bool.eq_false_iff.mpr c3
  subst c3
  have H1 : (some (([] : List (List Int)), false)) = some (r1, r2) := by rw [if_neg (show ¬ (false = true) by decide)] at H; exact H
  clear H
  have H := H1
  clear H1
  simp only [Option.some.injEq, Prod.mk.injEq] at H
  obtain ⟨rfl, rfl⟩ := H
  go_enter Try.func58, Try.ntmps58
  go_wp2_with (first | ((with_reducible refine gate_callee (f := 63) rfl ?_); refine gL (some 5) rfl rfl Try.func63 (by kernel_rfl) rfl #[.int .i64 a0, .int .i64 0, .int .i64 5000] rfl ?_; (with_reducible refine (spec_l1In.calls a0 0 5000 false _ A2.out).mono ?_); rintro e w' ⟨rfl, ⟨nd, rfl⟩⟩; refine ⟨_, rfl, ?_⟩))
  go_ret2
  exact ⟨_, e1, by first | exact Kd.S_nil _ _ _ _ _ | exact Kd.N_nil _ _ _ _ _ | exact Kd.V_nil _ _ _ _ _ | exact Kd.Q_nil _ _ _ _ _ | exact Kd.R_nil _ _ _ _ _, bq⟩

/-! ### impl_CountRight: function 59 -/
def impl_CountRight.f (k : Nat) (a0 : Int) : Option (Int × Bool) := (impl_RightUpTo.f k a0).bind fun bt368 => (some ((bt368.1.length : Int), bt368.2))
theorem impl_CountRight.mono : ∀ a0 k, LeO (impl_CountRight.f k a0) (impl_CountRight.f (k + 1) a0) := by
 intro a0 k
 unfold impl_CountRight.f
 repeat' first
  | (with_reducible exact impl_RightUpTo.mono _ _)
  | (with_reducible exact LeO.refl _)
  | (with_reducible exact LeO.none _)
  | (with_reducible refine LeO.ite ?_ ?_)
  | (with_reducible refine LeO.bind ?_ (fun _ => ?_))
  | exact impl_RightUpTo.mono _ _
  | exact LeO.none _
  | refine LeO.ite ?_ ?_
  | refine LeO.bind ?_ (fun _ => ?_)
set_option maxHeartbeats 8000000 in
set_option maxRecDepth 100000 in
theorem impl_CountRight.calls (k : Nat) (a0 : Int) (r1 : Int) (r2 : Bool) (w : World) (h : impl_CountRight.f k a0 = some (r1, r2)) :
 Calls Try.prog 59 #[.int .i64 a0] w fun e w' => e = .returned (.tuple #[.int .i64 r1, .bool r2]) ∧ Below w.heap.size w w' := by
 have HB := Aside0.mk (Below.refl w.heap.size w)
 have H : ((impl_RightUpTo.f k a0).bind fun bt368 => (some ((bt368.1.length : Int), bt368.2))) = some (r1, r2) := h
 clear h
 replace H := Option.bind_eq_some_iff.mp H
 obtain ⟨⟨t368, t369⟩, A20, H⟩ := H
 replace H : (some ((t368.length : Int), t369)) = some (r1, r2) := H
 have A2 := Aside0.mk A20
 clear A20
 simp only [Option.some.injEq, Prod.mk.injEq] at H
 obtain ⟨rfl, rfl⟩ := H
 go_enter Try.func59, Try.ntmps59
 go_wp2_with (first | ((with_reducible refine gate_callee (f := 57) rfl ?_); refine gL (some 8) rfl rfl Try.func57 (by kernel_rfl) rfl #[.int .i64 a0] rfl ?_; (with_reducible refine (impl_RightUpTo.calls k a0 t368 t369 _ A2.out).mono ?_); rintro e w3 ⟨v370, rfl, ho0, hb⟩; refine ⟨_, rfl, ?_⟩; have n0_ := Aside0.mk (Kd.S_lower ho0 (below_size bq)); have n1_ := Aside0.mk (below_step bq hb); clear HB; have HO371 := n0_; have HB := n1_; clear n0_ n1_; (try clear hb); (try clear hb2); (try clear hk); (try clear hi); (try clear ho0); obtain ⟨Ao4, co4, eo4⟩ := Kd.S_slice HO371.out; subst eo4))
 go_ret2
 exact ⟨e1, bq⟩

end Go.Proofs.Ytnfbkakblnppaaa.P
