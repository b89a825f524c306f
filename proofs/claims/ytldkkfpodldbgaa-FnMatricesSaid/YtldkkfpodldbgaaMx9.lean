-- Written by a program of this session (wip/mkprint.py over the kit's print), out of the translation. Not trusted: Lean checks it.
import Derived.Test.YtldkkfpodldbgaaMx0
import Derived.Test.YtldkkfpodldbgaaMx1
import Derived.Test.YtldkkfpodldbgaaMx2
namespace Go.Proofs.Ytldkkfpodldbgaa.P
open Go.RowKit Go.Proofs.YtldkkfpodldbgaaW.PrintWords Go.Proofs.YtldkkfpodldbgaaW.PrintLast Go.Proofs.YtldkkfpodldbgaaW.PrintMore
attribute [local go_sem] max2_int min2_int max_two min_two max_three min_three max_four min_four   -- for this text's walks alone
set_option linter.unusedVariables false
set_option linter.unusedSimpArgs false

/-! ### spec_DeterminantOf: function 40 -/
def spec_DeterminantOf.f (k : Nat) (l0_0 : List (List Int)) : Option (Int × Bool) := (spec_foSmall.f k l0_0 1000).bind fun t424 => (if t424 = true then ((spec_foDeterminant.f k l0_0).bind fun t425 => (some (t425, true))) else (some (0, false)))
theorem spec_DeterminantOf.mono : ∀ a0 k, LeO (spec_DeterminantOf.f k a0) (spec_DeterminantOf.f (k + 1) a0) := by
 intro a0 k; unfold spec_DeterminantOf.f
 repeat' first
  | (with_reducible exact spec_foDeterminant.mono _ _)
  | (with_reducible exact spec_foSmall.mono _ _ _)
  | (with_reducible exact LeO.refl _)
  | (with_reducible exact LeO.none _)
  | (with_reducible refine LeO.ite ?_ ?_)
  | (with_reducible refine LeO.bind ?_ (fun _ => ?_))
  | exact spec_foDeterminant.mono _ _
  | exact spec_foSmall.mono _ _ _
  | exact LeO.none _
  | refine LeO.ite ?_ ?_
  | refine LeO.bind ?_ (fun _ => ?_)
set_option maxHeartbeats 8000000 in
set_option maxRecDepth 100000 in
theorem spec_DeterminantOf.calls (k : Nat) (A0_0 : Option Addr) (c0_0 : Nat) (l0_0 : List (List Int)) (r1 : Int) (r2 : Bool) (w : World) (hr0_0 : Kd.C (Kd.slice 3 (Kd.int .i64)) w A0_0 l0_0.length l0_0) (hc0_0 : l0_0.length ≤ c0_0) (h : spec_DeterminantOf.f k l0_0 = some (r1, r2)) :
 Calls Try.prog 40 #[.agg #[.slice A0_0 l0_0.length c0_0]] w fun e w' => e = .returned (.tuple #[.int .i64 r1, .bool r2]) ∧ Below w.heap.size w w' := by
 have hu26 := Try.underlying26; have HR0_0 := Aside0.mk hr0_0; have HC0_0 := Aside0.mk hc0_0; clear hr0_0 hc0_0; have HB := Aside0.mk (Below.refl w.heap.size w); have H : ((spec_foSmall.f k l0_0 1000).bind fun t424 => (if t424 = true then ((spec_foDeterminant.f k l0_0).bind fun t425 => (some (t425, true))) else (some (0, false)))) = some (r1, r2) := h; clear h; replace H := Option.bind_eq_some_iff.mp H; obtain ⟨t424, A20, H⟩ := H; replace H : (if t424 = true then ((spec_foDeterminant.f k l0_0).bind fun t425 => (some (t425, true))) else (some (0, false))) = some (r1, r2) := H; have A2 := Aside0.mk A20; clear A20; by_cases c3 : t424 = true
 · subst c3; rw [if_pos rfl] at H; replace H := Option.bind_eq_some_iff.mp H; obtain ⟨t425, A40, H⟩ := H; replace H : (some (t425, true)) = some (r1, r2) := H; have A4 := Aside0.mk A40; clear A40; simp only [Option.some.injEq, Prod.mk.injEq] at H; obtain ⟨rfl, rfl⟩ := H; go_enter Try.func40, Try.ntmps40; go_wp2_with (first | ((with_reducible refine gate_dst (N := 1) rfl ?_); refine box_event ?hg (N := 1) ?hd (cs := #[.slice A0_0 l0_0.length c0_0]) (t := 26) ?hr ?_; (case hd => rfl); (case hg => rfl); (case hr => exact z127_); intro gb423 hg w5 hbox hb; have BK423 := Aside0.mk (hbox); have GW423 := Aside0.mk ((by rw [hg]; exact (below_size bq) : w.heap.size ≤ gb423)); have GE423 := Aside0.mk ((by rw [hg]; exact (below_size bq) : w.heap.size ≤ gb423)); replace HB := Aside0.mk (below_step bq hb); clear hb hbox hg; have hcz6_0 : w5.cell? ⟨gb423, 0, none⟩ = some (.slice A0_0 l0_0.length c0_0) := (blk_cell BK423.out 0).trans rfl; have hfz6_0 := blk_frozen BK423.out 0) | ((with_reducible refine gate_callee (f := 57) rfl ?_); refine gL (some 5) rfl rfl Try.func57 (by kernel_rfl) rfl #[.agg #[.slice A0_0 l0_0.length c0_0], .int .i64 1000] rfl ?_; (with_reducible refine (spec_foSmall.calls k _ _ l0_0 1000 true _ ?side1 ?side2 A2.out).mono ?_); (case side1 => exact cC (Kd.C_below HR0_0.out HB.out)); (case side2 => exact HC0_0.out); rintro e w7 ⟨rfl, hb⟩; refine ⟨_, rfl, ?_⟩; replace BK423 := Aside0.mk (kK BK423 hb); replace HB := Aside0.mk (below_step (kB HB) hb); (try clear hb); have hcz8_0 : w7.cell? ⟨gb423, 0, none⟩ = some (.slice A0_0 l0_0.length c0_0) := (blk_cell BK423.out 0).trans rfl; have hfz8_0 := blk_frozen BK423.out 0) | ((with_reducible refine gate_callee (f := 58) rfl ?_); refine gL (some 9) rfl rfl Try.func58 (by kernel_rfl) rfl #[.slice A0_0 l0_0.length c0_0] rfl ?_; (with_reducible refine (spec_foDeterminant.calls k _ _ l0_0 t425 _ ?side1 ?side2 A4.out).mono ?_); (case side1 => exact cC (Kd.C_below HR0_0.out HB.out)); (case side2 => exact HC0_0.out); rintro e w9 ⟨rfl, hb⟩; refine ⟨_, rfl, ?_⟩; replace BK423 := Aside0.mk (kK BK423 hb); replace HB := Aside0.mk (below_step (kB HB) hb); (try clear hb))); go_ret2; exact ⟨e1, kB HB⟩
 · replace c3 := Bool.eq_false_iff.mpr c3; subst c3; rw [if_neg (show ¬ (false = true) by decide)] at H; simp only [Option.some.injEq, Prod.mk.injEq] at H; obtain ⟨rfl, rfl⟩ := H; go_enter Try.func40, Try.ntmps40; go_wp2_with (first | ((with_reducible refine gate_dst (N := 1) rfl ?_); refine box_event ?hg (N := 1) ?hd (cs := #[.slice A0_0 l0_0.length c0_0]) (t := 26) ?hr ?_; (case hd => rfl); (case hg => rfl); (case hr => exact z127_); intro gb423 hg w10 hbox hb; have BK423 := Aside0.mk (hbox); have GW423 := Aside0.mk ((by rw [hg]; exact (below_size bq) : w.heap.size ≤ gb423)); have GE423 := Aside0.mk ((by rw [hg]; exact (below_size bq) : w.heap.size ≤ gb423)); replace HB := Aside0.mk (below_step bq hb); clear hb hbox hg; have hcz11_0 : w10.cell? ⟨gb423, 0, none⟩ = some (.slice A0_0 l0_0.length c0_0) := (blk_cell BK423.out 0).trans rfl; have hfz11_0 := blk_frozen BK423.out 0) | ((with_reducible refine gate_callee (f := 57) rfl ?_); refine gL (some 5) rfl rfl Try.func57 (by kernel_rfl) rfl #[.agg #[.slice A0_0 l0_0.length c0_0], .int .i64 1000] rfl ?_; (with_reducible refine (spec_foSmall.calls k _ _ l0_0 1000 false _ ?side1 ?side2 A2.out).mono ?_); (case side1 => exact cC (Kd.C_below HR0_0.out HB.out)); (case side2 => exact HC0_0.out); rintro e w12 ⟨rfl, hb⟩; refine ⟨_, rfl, ?_⟩; replace BK423 := Aside0.mk (kK BK423 hb); replace HB := Aside0.mk (below_step (kB HB) hb); (try clear hb))); go_ret2; exact ⟨e1, kB HB⟩

/-! ### spec_TraceOf: function 41 -/
def spec_TraceOf.l0 : Nat → Int → List (List Int) → Int → Int → Option (Int × Bool)
 | 0, _, _, _, _ => none
 | k + 1, x4, x11, x12, x13 => if x13 < x12 then (if 0 ≤ x13 then (if x13 < (x11.length : Int) then (if x13 < ((rd_L1 x11 x13).length : Int) then (spec_TraceOf.l0 k (wrap64 (x4 + (rd (rd_L1 x11 x13) x13))) x11 x12 (wrap64 (x13 + 1))) else (none)) else (none)) else (none)) else (some (x4, true))
def spec_TraceOf.f (k : Nat) (l0_0 : List (List Int)) : Option (Int × Bool) := (spec_foGood.f k l0_0).bind fun t427 => (if t427 = true then (spec_TraceOf.l0 k 0 l0_0 (l0_0.length : Int) 0) else (some (0, false)))
theorem spec_TraceOf.mono_l : ∀ k, (∀ y0 y1 y2 y3, LeO (spec_TraceOf.l0 k y0 y1 y2 y3) (spec_TraceOf.l0 (k + 1) y0 y1 y2 y3))
 | 0 => fun _ _ _ _ r h => by simp [spec_TraceOf.l0] at h
 | k + 1 => by
  have ih0 := spec_TraceOf.mono_l k
  ·
   intro y0 y1 y2 y3; unfold spec_TraceOf.l0
   repeat' first
   | (with_reducible exact ih0 _ _ _ _)
   | (with_reducible exact spec_foGood.mono _ _)
   | (with_reducible exact LeO.refl _)
   | (with_reducible exact LeO.none _)
   | (with_reducible refine LeO.ite ?_ ?_)
   | (with_reducible refine LeO.bind ?_ (fun _ => ?_))
   | exact ih0 _ _ _ _
   | exact spec_foGood.mono _ _
   | exact LeO.none _
   | refine LeO.ite ?_ ?_
   | refine LeO.bind ?_ (fun _ => ?_)
theorem spec_TraceOf.mono : ∀ a0 k, LeO (spec_TraceOf.f k a0) (spec_TraceOf.f (k + 1) a0) := by
 intro a0 k; have ih0 := spec_TraceOf.mono_l k; unfold spec_TraceOf.f
 repeat' first
  | (with_reducible exact ih0 _ _ _ _)
  | (with_reducible exact spec_foGood.mono _ _)
  | (with_reducible exact LeO.refl _)
  | (with_reducible exact LeO.none _)
  | (with_reducible refine LeO.ite ?_ ?_)
  | (with_reducible refine LeO.bind ?_ (fun _ => ?_))
  | exact ih0 _ _ _ _
  | exact spec_foGood.mono _ _
  | exact LeO.none _
  | refine LeO.ite ?_ ?_
  | refine LeO.bind ?_ (fun _ => ?_)
set_option maxHeartbeats 8000000 in
set_option maxRecDepth 100000 in
theorem spec_TraceOf.calls (k : Nat) (A0_0 : Option Addr) (c0_0 : Nat) (l0_0 : List (List Int)) (r1 : Int) (r2 : Bool) (w : World) (hr0_0 : Kd.C (Kd.slice 3 (Kd.int .i64)) w A0_0 l0_0.length l0_0) (hc0_0 : l0_0.length ≤ c0_0) (h : spec_TraceOf.f k l0_0 = some (r1, r2)) :
 Calls Try.prog 41 #[.agg #[.slice A0_0 l0_0.length c0_0]] w fun e w' => e = .returned (.tuple #[.int .i64 r1, .bool r2]) ∧ Below w.heap.size w w' := by
 have hu26 := Try.underlying26; have HR0_0 := Aside0.mk hr0_0; have HC0_0 := Aside0.mk hc0_0; clear hr0_0 hc0_0; have HB := Aside0.mk (Below.refl w.heap.size w); have H : ((spec_foGood.f k l0_0).bind fun t427 => (if t427 = true then (spec_TraceOf.l0 k 0 l0_0 (l0_0.length : Int) 0) else (some (0, false)))) = some (r1, r2) := h; clear h; replace H := Option.bind_eq_some_iff.mp H; obtain ⟨t427, A20, H⟩ := H; replace H : (if t427 = true then (spec_TraceOf.l0 k 0 l0_0 (l0_0.length : Int) 0) else (some (0, false))) = some (r1, r2) := H; have A2 := Aside0.mk A20; clear A20; by_cases c3 : t427 = true
 ·
  subst c3; rw [if_pos rfl] at H; have H' := Aside0.mk H; clear H; go_enter Try.func41, Try.ntmps41; go_wp2_with (first | ((with_reducible refine gate_dst (N := 1) rfl ?_); refine box_event ?hg (N := 1) ?hd (cs := #[.slice A0_0 l0_0.length c0_0]) (t := 26) ?hr ?_; (case hd => rfl); (case hg => rfl); (case hr => exact z127_); intro gb426 hg w4 hbox hb; have BK426 := Aside0.mk (hbox); have GW426 := Aside0.mk ((by rw [hg]; exact (below_size bq) : w.heap.size ≤ gb426)); have GE426 := Aside0.mk ((by rw [hg]; exact (below_size bq) : w.heap.size ≤ gb426)); replace HB := Aside0.mk (below_step bq hb); clear hb hbox hg; have hcz5_0 : w4.cell? ⟨gb426, 0, none⟩ = some (.slice A0_0 l0_0.length c0_0) := (blk_cell BK426.out 0).trans rfl; have hfz5_0 := blk_frozen BK426.out 0) | ((with_reducible refine gate_callee (f := 78) rfl ?_); refine gL (some 8) rfl rfl Try.func78 (by kernel_rfl) rfl #[.agg #[.slice A0_0 l0_0.length c0_0]] rfl ?_; (with_reducible refine (spec_foGood.calls k _ _ l0_0 true _ ?side1 ?side2 A2.out).mono ?_); (case side1 => exact cC (Kd.C_below HR0_0.out HB.out)); (case side2 => exact HC0_0.out); rintro e w6 ⟨rfl, hb⟩; refine ⟨_, rfl, ?_⟩; replace BK426 := Aside0.mk (kK BK426 hb); replace HB := Aside0.mk (below_step (kB HB) hb); (try clear hb); have hcz7_0 : w6.cell? ⟨gb426, 0, none⟩ = some (.slice A0_0 l0_0.length c0_0) := (blk_cell BK426.out 0).trans rfl; have hfz7_0 := blk_frozen BK426.out 0)); go_loopg [4, 13] k (fun kq v4 v13 w' => ∃ (x4_1 : Int) (x13_1 : Int), v4 = .int .i64 x4_1 ∧ v13 = .int .i64 x13_1 ∧ Aside0 (spec_TraceOf.l0 kq x4_1 l0_0 (l0_0.length : Int) x13_1 = some (r1, r2)) ∧ Aside0 (kq ≤ k) ∧ Aside0 (w'.heap[gb426]? = some (.cells #[(.slice A0_0 l0_0.length c0_0)] 26 (0, 0))) ∧ Aside0 (Below w.heap.size w w'))
  case atStart => exact ⟨(0), (0), e2, e2, H', ⟨Nat.le_refl _⟩, ⟨by exact bA BK426⟩, ⟨kB HB⟩⟩
  case round =>
   clear H'; (try clear c3); (try clear hcz5_0); (try clear hcz7_0); (try clear hfz5_0); (try clear hfz7_0); obtain ⟨x4_1, x13_1, rfl, rfl, HA, HK1, BK426, HB⟩ := hrel; cases gk with
   | zero => exact absurd HA.out (by simp [spec_TraceOf.l0])
   | succ k1 =>
    have H := HA.out; clear HA; simp only [spec_TraceOf.l0] at H; by_cases c8 : x13_1 < (l0_0.length : Int)
    ·
     rw [if_pos c8] at H; have c8b0 : decide (x13_1 < (l0_0.length : Int)) = true := decide_eq_true c8; clear c8; by_cases c9 : 0 ≤ x13_1
     ·
      rw [if_pos c9] at H; have c9b0 : decide (0 ≤ x13_1) = true := decide_eq_true c9; clear c9; by_cases c10 : x13_1 < (l0_0.length : Int)
      ·
       rw [if_pos c10] at H; have c10b0 : decide (x13_1 < (l0_0.length : Int)) = true := decide_eq_true c10; clear c10; by_cases c11 : x13_1 < ((rd_L1 l0_0 x13_1).length : Int)
       ·
        rw [if_pos c11] at H; have c11b0 : decide (x13_1 < ((rd_L1 l0_0 x13_1).length : Int)) = true := decide_eq_true c11; clear c11; have H' := Aside0.mk H; clear H; have p428 : 0 ≤ (x13_1 : Int) := od; have q428 : x13_1 < (l0_0.length : Int) := od; obtain ⟨ad428, A428_0, c428_0, e428, hx428_0, hl428_0, hi428_0⟩ := at_L1 HR0_0.out x13_1 p428 q428; cases e428; replace hx428_0 := (HB.out.cell (World.block_lt_of_cell? w _ hx428_0)).trans hx428_0; have HR428_0 := Aside0.mk hi428_0; have HC428_0 := Aside0.mk hl428_0; clear hi428_0 hl428_0; replace p428 := eq_true p428; replace q428 := eq_true q428; have p429 : 0 ≤ (x13_1 : Int) := od; have q429 : x13_1 < ((rd_L1 l0_0 x13_1).length : Int) := od; obtain ⟨ad429, e429, hx429_0⟩ := Kd.at_int HR428_0.out x13_1 p429 q429; cases e429; replace hx429_0 := (HB.out.cell (World.block_lt_of_cell? w _ hx429_0)).trans hx429_0; replace p429 := eq_true p429; replace q429 := eq_true q429; go_wp2; go_roundg k1
        case measure => have := HK1.out; omega
        case rel => exact ⟨(wrap64 (x4_1 + (rd (rd_L1 l0_0 x13_1) x13_1))), (wrap64 (x13_1 + 1)), e2, e2, H', ⟨by have := HK1.out; omega⟩, ⟨by exact bA BK426⟩, ⟨kB HB⟩⟩
       · rw [if_neg c11] at H; exact absurd H (by simp)
      · rw [if_neg c10] at H; exact absurd H (by simp)
     · rw [if_neg c9] at H; exact absurd H (by simp)
    · rw [if_neg c8] at H; have c8b0 : decide (x13_1 < (l0_0.length : Int)) = false := decide_eq_false c8; clear c8; simp only [Option.some.injEq, Prod.mk.injEq] at H; obtain ⟨rfl, rfl⟩ := H; go_wp2; go_ret2; exact ⟨e1, kB HB⟩
 · replace c3 := Bool.eq_false_iff.mpr c3; subst c3; rw [if_neg (show ¬ (false = true) by decide)] at H; simp only [Option.some.injEq, Prod.mk.injEq] at H; obtain ⟨rfl, rfl⟩ := H; go_enter Try.func41, Try.ntmps41; go_wp2_with (first | ((with_reducible refine gate_dst (N := 1) rfl ?_); refine box_event ?hg (N := 1) ?hd (cs := #[.slice A0_0 l0_0.length c0_0]) (t := 26) ?hr ?_; (case hd => rfl); (case hg => rfl); (case hr => exact z127_); intro gb426 hg w12 hbox hb; have BK426 := Aside0.mk (hbox); have GW426 := Aside0.mk ((by rw [hg]; exact (below_size bq) : w.heap.size ≤ gb426)); have GE426 := Aside0.mk ((by rw [hg]; exact (below_size bq) : w.heap.size ≤ gb426)); replace HB := Aside0.mk (below_step bq hb); clear hb hbox hg; have hcz13_0 : w12.cell? ⟨gb426, 0, none⟩ = some (.slice A0_0 l0_0.length c0_0) := (blk_cell BK426.out 0).trans rfl; have hfz13_0 := blk_frozen BK426.out 0) | ((with_reducible refine gate_callee (f := 78) rfl ?_); refine gL (some 8) rfl rfl Try.func78 (by kernel_rfl) rfl #[.agg #[.slice A0_0 l0_0.length c0_0]] rfl ?_; (with_reducible refine (spec_foGood.calls k _ _ l0_0 false _ ?side1 ?side2 A2.out).mono ?_); (case side1 => exact cC (Kd.C_below HR0_0.out HB.out)); (case side2 => exact HC0_0.out); rintro e w14 ⟨rfl, hb⟩; refine ⟨_, rfl, ?_⟩; replace BK426 := Aside0.mk (kK BK426 hb); replace HB := Aside0.mk (below_step (kB HB) hb); (try clear hb))); go_ret2; exact ⟨e1, kB HB⟩

end Go.Proofs.Ytldkkfpodldbgaa.P
