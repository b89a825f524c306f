-- Written by a program of this session (wip/mkrow.py). Not trusted: Lean checks it.
import Derived.Test.YtojclcknndpdgaaRows
import Derived.Test.YtojclcknndpdgaaLFnExactProductAt
import Derived.Test.YtojclcknndpdgaaQOpen
import Derived.WalkKit
import Derived.ProofKit
import Derived.OpenShut
import Derived.ShutString
import Derived.ChangeOld
import Derived.Below
import Derived.SizedLaws
namespace Go.Proofs.Ytojclcknndpdgaa.fnExactProductAt
open Go.ChangeShapes Go.WideShapes Go.ChangeAt Go.RowKit Go.Joins
open Go.ChangeMaps (open_string shut_string)
set_option linter.unusedVariables false
theorem own : ownKnob Try.prog.godebug = none := by kernel_rfl
theorem laidOut : laidOutB Try.prog = true := by kernel_rfl
set_option maxRecDepth 100000 in
theorem lifted (os : Os) (started : os.Started) (H : Type) (enc : TypeId × Value → H) :
    ReturnsInHanded {} Try.checked os 4 .any (Rows.fnExactProductAtSpec.pre6 enc Try.prog Try.f4 Rows.fnExactProductAtRow.domain false) (Rows.fnExactProductAtSpec.post enc Try.prog Try.f4 false true false false) := by
  refine returnsInHanded_of_change_sized (C := Try.checked) own started (by kernel_rfl) Try.func4
    (ChangeSpec.witness6 (enc := enc) (C := Try.checked) false ⟨#[], #[.agg #[.slice none 0 0], .slice none 0 0, .slice none 0 0], []⟩ 8 (by kernel_rfl) (by kernel_rfl) (by kernel_rfl) (by kernel_rfl)) ?_
  intro W base args ds gs before hval0 hW hcnd hsz0 _
  have hsz : (DataW.weightsEach Try.prog (Try.f4.params.toList ++ Rows.fnExactProductAtSpec.plain.varTypes Try.prog) (ds ++ gs)).all (· ≤ reachBytes) = true := hsz0
  have hval : ∀ (j : Nat) t v, Try.f4.params[j]? = some t → args[j]? = some v → Value.okWide Try.prog W .any base t v := hval0
  have hW' := hW
  obtain ⟨p, q, hA0, hV, rfl, hfz, hnd⟩ := hW
  have hA : DataW.TrodAll enc Try.prog W 0 (fun _ => true) true Try.f4.params.toList args.toList ds p := hA0
  rw [Try.params4] at hA hval hsz
  obtain ⟨v0, vs0, d0, ds0, p0, q0, hargs, rfl, rfl, h0, r0⟩ := trodAll_cons hA
  obtain ⟨v1, vs1, d1, ds1, p1, q1, rfl, rfl, rfl, h1, r1⟩ := trodAll_cons r0
  obtain ⟨v2, vs2, d2, ds2, p2, q2, rfl, rfl, rfl, h2, r2⟩ := trodAll_cons r1
  obtain ⟨rfl, rfl, rfl⟩ := trodAll_nil r2
  obtain rfl : args = #[v0, v1, v2] := by cases args; simp_all
  obtain ⟨rfl, rfl⟩ := trodVars_none hV
  have k0 := h0
  have lt0 : ∀ x ∈ p0, x.block < W.heap.size := by obtain ⟨m, hm⟩ := k0; exact DataW.trod_lt m _ _ _ hm
  obtain ⟨u0_0, y0_0, n0, rfl, h0_0⟩ := Q.open_agg1 Try.underlying24 (by kernel_rfl) (by kernel_rfl) (hval 0 24 v0 rfl rfl) h0
  obtain ⟨A0_0, c0_0, l0_0, rfl, hr0_0, hc0_0, hm0_0, hw0_0⟩ := Q.open_rows_C Try.underlying22 Try.underlying32 Try.underlying3 (by kernel_rfl) (by kernel_rfl) h0_0
  have k1 := h1
  have lt1 : ∀ x ∈ p1, x.block < W.heap.size := by obtain ⟨m, hm⟩ := k1; exact DataW.trod_lt m _ _ _ hm
  obtain ⟨aq1, lq1, cq1, rfl⟩ := okWide_slice Try.underlying32 (hval 1 32 v1 rfl rfl)
  obtain ⟨fuel1, hf1⟩ := h1
  have hf1' : DataW.trod enc Try.prog W 0 (fun _ => true) true fuel1 32 [.slice aq1 lq1 cq1] = some (d1, p1) := hf1
  obtain ⟨v1, hv1⟩ : ∃ v, v = Value.slice aq1 lq1 cq1 := ⟨_, rfl⟩
  rw [← hv1] at hf1' k1 ⊢
  (try rw [← hv1] at hW')
  clear hf1 hv1
  obtain ⟨A1, c1, l1, rfl, hr1, hc1, hm1, hw1⟩ := Q.open_ints_C Try.underlying32 Try.underlying3 (by kernel_rfl) hf1'
  have k2 := h2
  have lt2 : ∀ x ∈ p2, x.block < W.heap.size := by obtain ⟨m, hm⟩ := k2; exact DataW.trod_lt m _ _ _ hm
  obtain ⟨aq2, lq2, cq2, rfl⟩ := okWide_slice Try.underlying32 (hval 2 32 v2 rfl rfl)
  obtain ⟨fuel2, hf2⟩ := h2
  have hf2' : DataW.trod enc Try.prog W 0 (fun _ => true) true fuel2 32 [.slice aq2 lq2 cq2] = some (d2, p2) := hf2
  obtain ⟨v2, hv2⟩ : ∃ v, v = Value.slice aq2 lq2 cq2 := ⟨_, rfl⟩
  rw [← hv2] at hf2' k2 ⊢
  (try rw [← hv2] at hW')
  clear hf2 hv2
  obtain ⟨A2, c2, l2, rfl, hr2, hc2, hm2, hw2⟩ := Q.open_ints_C Try.underlying32 Try.underlying3 (by kernel_rfl) hf2'
  clear hA0 hval0 hsz0 hsz
  refine (G.FnExactProductAt_walk A0_0 c0_0 l0_0 A1 c1 l1 A2 c2 l2 W hr0_0 hc0_0 hm0_0 hw0_0 hr1 hc1 hm1 hw1 hr2 hc2 hm2 hw2).mono fun e W' ⟨he, bel⟩ => ?_
  subst he
  exact ⟨_, rfl, _, _, _, [], _, [], hW', trodAll_mk1 (shut_bool Try.underlying4 _), (trodAll_cons_mk (Below.trod laidOut (by kernel_rfl) (of_decide_eq_true (by kernel_rfl)) k0 bel lt0) (trodAll_cons_mk (Below.trod laidOut (by kernel_rfl) (of_decide_eq_true (by kernel_rfl)) k1 bel lt1) (trodAll_cons_mk (Below.trod laidOut (by kernel_rfl) (of_decide_eq_true (by kernel_rfl)) k2 bel lt2) trodAll_mk0))), rfl, bel.frame _, fun h => by cases h⟩
theorem over : Rows.fnExactProductAtRow.holds Try.pinned (OpenSpec.ofChange Rows.fnExactProductAtSpec) :=
  OpenClaim.holds_of_wide 4 Try.f4 rfl rfl rfl rfl rfl rfl rfl ⟨rfl, rfl, rfl, rfl, rfl⟩ rfl rfl rfl rfl rfl (by kernel_rfl) Try.func4 (by kernel_rfl)
    (of_decide_eq_true (by kernel_rfl)) (by unfold Func.isWrapper; first | (rw [if_pos (by decide +kernel)]; kernel_rfl) | (rw [if_neg (by decide +kernel)]; exact ⟨rfl, rfl⟩))
    (fun os started H enc _ => lifted os started H enc)
theorem proved : Rows.FnExactProductAtSaid := over
#print axioms proved
end Go.Proofs.Ytojclcknndpdgaa.fnExactProductAt
namespace Go.Proofs.Ytojclcknndpdgaa
/-- The row, under a short name, for the claim. -/
theorem fnExactProductAt_holds : Rows.FnExactProductAtSaid := fnExactProductAt.proved
end Go.Proofs.Ytojclcknndpdgaa
