-- Written by a program of this session (wip/mkprint.py over the kit's print), out of the translation. Not trusted: Lean checks it.
import Derived.Test.YtljlplohicffpaaGreatKx0
import Derived.Test.YtljlplohicffpaaGreatKx1
import Derived.Test.YtljlplohicffpaaGreatKx3
import Derived.Test.YtljlplohicffpaaGreatKx5
import Derived.Test.YtljlplohicffpaaGreatKx7
import Derived.Test.YtljlplohicffpaaGreatKx8
import Derived.Test.YtljlplohicffpaaGreatGSort
namespace Go.Proofs.YtljlplohicffpaaGreat.P
open Go.RowKit Go.Proofs.YtljlplohicffpaaGreatW.PrintWords Go.Proofs.YtljlplohicffpaaGreatW.PrintLast Go.Proofs.YtljlplohicffpaaGreatW.PrintMore
attribute [local go_sem] max2_int min2_int max_two min_two max_three min_three max_four min_four   -- for this text's walks alone
set_option linter.unusedVariables false
set_option linter.unusedSimpArgs false
set_option maxHeartbeats 8000000
set_option maxRecDepth 100000

-- NOT PRINTED: function 57 (slices_pdqsortOrdered_int)

/-! ### slices_Sort_int_int: function 28 -/
def slices_Sort_int_int.f (k : Nat) (l0 : List Int) : Option (List Int) := Go.Proofs.YtljlplohicffpaaGreat.G.sortF slices_insertionSortOrdered_int.f k l0
theorem slices_Sort_int_int.mono : ∀ a0 k, LeO (slices_Sort_int_int.f k a0) (slices_Sort_int_int.f (k + 1) a0) := by
 intro a0 k; unfold slices_Sort_int_int.f Go.Proofs.YtljlplohicffpaaGreat.G.sortF
 split
 · exact slices_insertionSortOrdered_int.mono _ _ _ k
 · exact LeO.refl _
theorem slices_Sort_int_int.calls (k : Nat) (P0_ : Nat → Prop) (u9000_ : Value) (l0 : List Int) (r : List Int) (w0 w : World) (hB : Below w0.heap.size w0 w) (ho0 : Kd.R (Kd.int .i64) 3 w w0.heap.size P0_ u9000_ l0) (h : slices_Sort_int_int.f k l0 = some r) :
 Calls Tryz.prog 28 #[u9000_] w fun e w' => e = .returned (.tuple #[]) ∧ Kd.R (Kd.int .i64) 3 w' w0.heap.size (fun k_ => (P0_ k_ ∨ w.heap.size ≤ k_)) u9000_ r ∧ Below w0.heap.size w0 w' ∧ Kept w w' (fun k_ => P0_ k_) :=
 Go.Proofs.YtljlplohicffpaaGreat.G.sort_any (fun k P u l a b r w0 w hB ho h => slices_insertionSortOrdered_int.calls k P u l a b r w0 w hB ho h) k P0_ u9000_ l0 r w0 w hB ho0 h

/-! ### impl_TripleOfWord: function 9 -/
def impl_TripleOfWord.l0 : Nat → List Int → List ByteArray → Int → Int → Option (List Int × Bool)
 | 0, _, _, _, _ => none
 | k + 1, x7, x24, x25, x26 => if x26 < x25 then (if 0 ≤ x26 then (if x26 < (x24.length : Int) then ((impl_NumberOfWord.f k (rdOf ByteArray.empty x24 x26)).bind fun bt428 => (if bt428.2 = true then (if x7.length < 17592186044416 then (impl_TripleOfWord.l0 k (x7 ++ [bt428.1]) x24 x25 (wrap64 (x26 + 1))) else (none)) else (some (([] : List Int), false)))) else (none)) else (none)) else ((slices_Sort_int_int.f k x7).bind fun t433 => (some (t433, true)))
def impl_TripleOfWord.f (k : Nat) (a0 : ByteArray) : Option (List Int × Bool) := (impl_FactorsOf.f k a0).bind fun bt418 => (if bt418.2.2 = true then ((some (([bt418.1, bt418.2.1, a0] : List ByteArray) : List ByteArray)).bind fun y424 => (impl_TripleOfWord.l0 k (([] : List Int)) y424 (y424.length : Int) 0)) else (some (([] : List Int), false)))
theorem impl_TripleOfWord.mono_l : ∀ k, (∀ y0 y1 y2 y3, LeO (impl_TripleOfWord.l0 k y0 y1 y2 y3) (impl_TripleOfWord.l0 (k + 1) y0 y1 y2 y3))
 | 0 => fun _ _ _ _ r h => by simp [impl_TripleOfWord.l0] at h
 | k + 1 => by
  have ih0 := impl_TripleOfWord.mono_l k
  ·
   intro y0 y1 y2 y3; unfold impl_TripleOfWord.l0
   repeat' with_reducible first | exact ih0 _ _ _ _ | exact impl_FactorsOf.mono _ _ | exact impl_NumberOfWord.mono _ _ | exact slices_Sort_int_int.mono _ _ | exact LeO.refl _ | exact LeO.none _ | refine LeO.ite ?_ ?_ | refine LeO.bind ?_ (fun _ => ?_)
theorem impl_TripleOfWord.mono : ∀ a0 k, LeO (impl_TripleOfWord.f k a0) (impl_TripleOfWord.f (k + 1) a0) := by
 intro a0 k; have ih0 := impl_TripleOfWord.mono_l k; unfold impl_TripleOfWord.f
 repeat' with_reducible first | exact ih0 _ _ _ _ | exact impl_FactorsOf.mono _ _ | exact impl_NumberOfWord.mono _ _ | exact slices_Sort_int_int.mono _ _ | exact LeO.refl _ | exact LeO.none _ | refine LeO.ite ?_ ?_ | refine LeO.bind ?_ (fun _ => ?_)
theorem impl_TripleOfWord.calls (k : Nat) (a0 : ByteArray) (r1 : List Int) (r2 : Bool) (w : World) (h : impl_TripleOfWord.f k a0 = some (r1, r2)) :
 Calls Tryz.prog 9 #[.string a0] w fun e w' => ∃ v0_ : Value, e = .returned (.tuple #[v0_, .bool r2]) ∧ Kd.R (Kd.int .i64) 3 w' w.heap.size (fun _ => True) v0_ r1 ∧ Below w.heap.size w w' := by
 have HB := Aside0.mk (Below.refl w.heap.size w); have H : ((impl_FactorsOf.f k a0).bind fun bt418 => (if bt418.2.2 = true then ((some (([bt418.1, bt418.2.1, a0] : List ByteArray) : List ByteArray)).bind fun y424 => (impl_TripleOfWord.l0 k (([] : List Int)) y424 (y424.length : Int) 0)) else (some (([] : List Int), false)))) = some (r1, r2) := h; clear h; replace H := oB H; obtain ⟨⟨t418, t419, t420⟩, A2, H⟩ := H; (try dsimp only at H); by_cases c3 : t420 = true
 ·
  subst c3; rw [if_pos rfl] at H; obtain ⟨y421, hy421⟩ : ∃ y_ : List Int, y_ = (([] : List Int)) := ⟨_, rfl⟩; replace H : ((some (([t418, t419, a0] : List ByteArray) : List ByteArray)).bind fun y424 => (impl_TripleOfWord.l0 k y421 y424 (y424.length : Int) 0)) = some (r1, r2) := rH hy421 H
  have Ny421 := Aside0.mk hy421; clear hy421; obtain ⟨y424, hy424⟩ : ∃ y_ : List ByteArray, y_ = (([t418, t419, a0] : List ByteArray)) := ⟨_, rfl⟩; replace H : (impl_TripleOfWord.l0 k y421 y424 (y424.length : Int) 0) = some (r1, r2) := rH hy424 H
  have Ny424 := Aside0.mk hy424; clear hy424; have H' := Aside0.mk H; clear H; go_enter Tryz.func9, Tryz.ntmps9; go_wp2_with (first | ((with_reducible refine gate_callee (f := 17) rfl ?_); refine gL (some 14) rfl rfl Tryz.func17 (by kernel_rfl) rfl #[.string a0] rfl ?_; (with_reducible refine (impl_FactorsOf.calls k a0 t418 t419 true _ A2.out).mono ?_); rintro e w4 ⟨rfl, hb⟩; refine ⟨_, rfl, ?_⟩; replace HB := sT bq hb; (try clear hb)) | ((with_reducible refine gate_dst (N := 20) rfl ?_); refine Kd.R_lit (Kd.int .i64) _ 3 ?hg (N := 20) ?hd (xs := ([] : List Int)) (inner := []) (ok := fun _ => True) (okp := fun _ => True) ?hr ?hp (fun _ hk => hk) trivial (Below.refl _ _) (Nat.le_refl _) (by simp) ?_; (case hd => rfl); (case hg => rfl); (case hr => exact z69_); (case hp => exact (Reps.none _ _)); intro v422 w5 ho6 hb hg_ hnew_; clear hg_ hnew_; (first | rw [← Ny421.out] at ho6 | (simp only [Int.reduceToNat] at ho6; rw [← Ny421.out] at ho6)); have HO423 := Aside0.mk (Kd.R_lower ho6 (below_size bq)); replace HB := sT bq hb; clear hb ho6) | ((with_reducible refine gate_dst (N := 24) rfl ?_); refine Kd.R_lit Kd.string _ 9 ?hg (N := 24) ?hd (xs := ([t418, t419, a0] : List ByteArray)) (inner := [.string t418, .string t419, .string a0]) (ok := fun _ => True) (okp := fun _ => True) ?hr ?hp (fun _ hk => hk) trivial (Below.refl _ _) (Nat.le_refl _) (by simp) ?_; (case hd => rfl); (case hg => rfl); (case hr => exact z69_); (case hp => exact (Reps.one (show Kd.M Kd.string _ _ _ t418 [.string t418] from rfl) (Reps.one (show Kd.M Kd.string _ _ _ t419 [.string t419] from rfl) (Reps.one (show Kd.M Kd.string _ _ _ a0 [.string a0] from rfl) (Reps.none _ _))))); intro v425 w7 ho8 hb hg_ hnew_; clear hg_ hnew_; (first | rw [← Ny424.out] at ho8 | (simp only [Int.reduceToNat] at ho8; rw [← Ny424.out] at ho8)); replace HO423 := Aside0.mk (Kd.R_below (rA HO423) hb); have HO426 := Aside0.mk (Kd.R_lower ho8 (below_size bq)); replace HB := sT bq hb; clear hb ho8; obtain ⟨Ao9, co9, eo9⟩ := Kd.R_slice HO426.out; subst eo9)); go_loopg [7, 26] k (fun kq v7 v26 w' => ∃ (x7_1 : List Int) (x26_1 : Int), v26 = .int .i64 x26_1 ∧ Aside0 (impl_TripleOfWord.l0 kq x7_1 y424 (y424.length : Int) x26_1 = some (r1, r2)) ∧ Aside0 (kq ≤ k) ∧ Aside0 (Kd.R (Kd.int .i64) 3 w' w.heap.size (fun _ => True) v7 x7_1) ∧ Aside0 (Kd.R Kd.string 9 w' w.heap.size (fun _ => True) (.slice Ao9 y424.length co9) y424) ∧ Aside0 (Below w.heap.size w w'))
  case atStart => exact ⟨(y421), (0), e2, H', ⟨Nat.le_refl _⟩, ⟨rP HO423.out⟩, ⟨rP HO426.out⟩, ⟨bq⟩⟩
  case round =>
   clear H'; (try clear c3); obtain ⟨x7_1, x26_1, rfl, HA, HK1, HO_7, HO_24, HB⟩ := hrel; cases gk with
   | zero => exact absurd HA.out (by simp [impl_TripleOfWord.l0])
   | succ k1 =>
    have H := HA.out; clear HA; simp only [impl_TripleOfWord.l0] at H; by_cases c10 : x26_1 < (y424.length : Int)
    ·
     rw [if_pos c10] at H; have c10b0 := decide_eq_true c10; clear c10; by_cases c11 : 0 ≤ x26_1
     ·
      rw [if_pos c11] at H; have c11b0 := decide_eq_true c11; clear c11; by_cases c12 : x26_1 < (y424.length : Int)
      ·
       rw [if_pos c12] at H; have c12b0 := decide_eq_true c12; clear c12; replace H := oB H; obtain ⟨⟨t428, t429⟩, A13, H⟩ := H; (try dsimp only at H); by_cases c14 : t429 = true
       ·
        subst c14; rw [if_pos rfl] at H; by_cases c15 : x7_1.length < 17592186044416
        ·
         rw [if_pos c15] at H; have LMc15 := Aside0.mk c15; clear c15; obtain ⟨y430, hy430⟩ : ∃ y_ : List Int, y_ = (x7_1 ++ [t428]) := ⟨_, rfl⟩; replace H : (impl_TripleOfWord.l0 k1 y430 y424 (y424.length : Int) (wrap64 (x26_1 + 1))) = some (r1, r2) := rH hy430 H
         have Ny430 := Aside0.mk hy430; clear hy430; have H' := Aside0.mk H; clear H; have p427 : 0 ≤ (x26_1 : Int) := od; have q427 : x26_1 < (y424.length : Int) := od; obtain ⟨ad427, e427, hx427_0⟩ := Kd.at_string (Kd.R_reads' HO_24.out).2.2 x26_1 p427 q427; cases e427; replace p427 := eq_true p427; replace q427 := eq_true q427; go_wp2_with (first | ((with_reducible refine gate_callee (f := 8) rfl ?_); refine gL (some 32) rfl rfl Tryz.func8 (by kernel_rfl) rfl #[.string (rdOf ByteArray.empty y424 x26_1)] rfl ?_; (with_reducible refine (impl_NumberOfWord.calls k1 (rdOf ByteArray.empty y424 x26_1) t428 true _ A13.out).mono ?_); rintro e w16 ⟨rfl, hb⟩; refine ⟨_, rfl, ?_⟩; replace HO_7 := Aside0.mk (Kd.R_below (rA HO_7) hb); replace HO_24 := Aside0.mk (Kd.R_below (rA HO_24) hb); replace HB := sT bq hb; (try clear hb)) | ((with_reducible refine gate_builtin (b := .append) (xs := #[.tmp 37, .tmp 39]) rfl ?_); at_builtin; refine Kd.R_append (Kd.int .i64) (w0 := w) w.heap.size rfl (.tmp 37) (.tmp 39) 32 3 (.int .i64 0) 8 rfl Tryz.underlying32 info3 rfl (by decide) (by omega) u7 x7_1 t428 [.int .i64 t428] (fun _ => True) (fun _ => False) rfl rfl ?aP (fun _ hk => hk.elim) ?aF ?aO ?aB ?aS ?aL ?_; (case aP => exact rfl); (case aB => exact bq); (case aF => exact (fun _ _ => trivial)); (case aO => exact (rA HO_7)); (case aS => exact (below_size bq)); (case aL => have := LMc15.out; omega); intro v431 w17 ho hb hg hat; rw [← Ny430.out] at ho; replace HO_24 := Aside0.mk (Kd.R_over' (rA HO_24) (Kd.R_typed (rA HO_7)) (by decide) hg); replace HB := Aside0.mk (hb); have HO432 := Aside0.mk (ho); clear HO_7; clear ho hb hg hat)); go_roundg k1
         case measure => have := HK1.out; omega
         case rel => exact ⟨(y430), (wrap64 (x26_1 + 1)), e2, H', ⟨by have := HK1.out; omega⟩, ⟨rP HO432.out⟩, ⟨rP HO_24.out⟩, ⟨bq⟩⟩
        · rw [if_neg c15] at H; exact absurd H (by simp)
       · replace c14 := Bool.eq_false_iff.mpr c14; subst c14; rw [if_neg (show ¬ (false = true) by decide)] at H; simp only [Option.some.injEq, Prod.mk.injEq] at H; obtain ⟨rfl, rfl⟩ := H; have p427 : 0 ≤ (x26_1 : Int) := od; have q427 : x26_1 < (y424.length : Int) := od; obtain ⟨ad427, e427, hx427_0⟩ := Kd.at_string (Kd.R_reads' HO_24.out).2.2 x26_1 p427 q427; cases e427; replace p427 := eq_true p427; replace q427 := eq_true q427; go_wp2_with (first | ((with_reducible refine gate_callee (f := 8) rfl ?_); refine gL (some 32) rfl rfl Tryz.func8 (by kernel_rfl) rfl #[.string (rdOf ByteArray.empty y424 x26_1)] rfl ?_; (with_reducible refine (impl_NumberOfWord.calls k1 (rdOf ByteArray.empty y424 x26_1) t428 false _ A13.out).mono ?_); rintro e w18 ⟨rfl, hb⟩; refine ⟨_, rfl, ?_⟩; replace HO_7 := Aside0.mk (Kd.R_below (rA HO_7) hb); replace HO_24 := Aside0.mk (Kd.R_below (rA HO_24) hb); replace HB := sT bq hb; (try clear hb))); go_ret2; exact ⟨_, e1, z52_, bq⟩
      · rw [if_neg c12] at H; exact absurd H (by simp)
     · rw [if_neg c11] at H; exact absurd H (by simp)
    · rw [if_neg c10] at H; have c10b0 := decide_eq_false c10; clear c10; replace H := oB H; obtain ⟨t433, A19, H⟩ := H; simp only [Option.some.injEq, Prod.mk.injEq] at H; obtain ⟨rfl, rfl⟩ := H; obtain ⟨Ao20, co20, eo20⟩ := Kd.R_slice HO_7.out; subst eo20; go_wp2_with (first | ((with_reducible refine gate_callee (f := 28) rfl ?_); refine gL (some 43) rfl rfl Tryz.func28 (by kernel_rfl) rfl #[.slice Ao20 x7_1.length co20] rfl ?_; (with_reducible refine (slices_Sort_int_int.calls k1 (fun k_ => some k_ = (.slice Ao20 x7_1.length co20 : Value).ownBlock) (.slice Ao20 x7_1.length co20) x7_1 t433 w _ ?side1 ?side2 A19.out).mono ?_); (case side1 => exact kB HB); (case side2 => exact Kd.R_tight rfl HO_7.out); rintro e w21 ⟨rfl, hy0, hb, hkp⟩; refine ⟨_, rfl, ?_⟩; replace HO_24 := Aside0.mk (Kd.R_mono (ok' := fun k_ => True) (Kd.R_keptB ((Kd.R_apart' HO_24.out (Kd.R_typed HO_7.out) (by decide))) hkp (fun k_ hk_ hs_ => (hk_.2) hs_)) (fun k_ hk_ => trivial)); replace HO_7 := Aside0.mk (Kd.R_reok rfl hy0 (fun k_ e_ => HO_7.out.1 k_ e_)); replace HB := Aside0.mk (hb); (try clear hb); (try clear hkp); (try clear hy0))); go_ret2; exact ⟨_, e1, rP HO_7.out, bq⟩
 · replace c3 := Bool.eq_false_iff.mpr c3; subst c3; rw [if_neg (show ¬ (false = true) by decide)] at H; simp only [Option.some.injEq, Prod.mk.injEq] at H; obtain ⟨rfl, rfl⟩ := H; go_enter Tryz.func9, Tryz.ntmps9; go_wp2_with (first | ((with_reducible refine gate_callee (f := 17) rfl ?_); refine gL (some 14) rfl rfl Tryz.func17 (by kernel_rfl) rfl #[.string a0] rfl ?_; (with_reducible refine (impl_FactorsOf.calls k a0 t418 t419 false _ A2.out).mono ?_); rintro e w22 ⟨rfl, hb⟩; refine ⟨_, rfl, ?_⟩; replace HB := sT bq hb; (try clear hb))); go_ret2; exact ⟨_, e1, z52_, bq⟩

/-! ### spec_chMany: function 111 -/
def spec_chMany.l0 : Nat → ByteArray → Int → Int → Option (Int)
 | 0, _, _, _ => none
 | k + 1, x0, x3, x4 => if x4 < (x0.size : Int) then (if 0 ≤ x4 then (if (bt x0 x4) = 98 then (spec_chMany.l0 k x0 (wrap64 (x3 + 1)) (wrap64 (x4 + 1))) else (spec_chMany.l0 k x0 x3 (wrap64 (x4 + 1)))) else (none)) else (some x3)
def spec_chMany.f (k : Nat) (a0 : ByteArray) : Option (Int) := spec_chMany.l0 k a0 0 0
theorem spec_chMany.mono_l : ∀ k, (∀ y0 y1 y2, LeO (spec_chMany.l0 k y0 y1 y2) (spec_chMany.l0 (k + 1) y0 y1 y2))
 | 0 => fun _ _ _ r h => by simp [spec_chMany.l0] at h
 | k + 1 => by
  have ih0 := spec_chMany.mono_l k
  ·
   intro y0 y1 y2; unfold spec_chMany.l0
   repeat' with_reducible first | exact ih0 _ _ _ | exact LeO.refl _ | exact LeO.none _ | refine LeO.ite ?_ ?_ | refine LeO.bind ?_ (fun _ => ?_)
theorem spec_chMany.mono : ∀ a0 k, LeO (spec_chMany.f k a0) (spec_chMany.f (k + 1) a0) := by
 intro a0 k; have ih0 := spec_chMany.mono_l k; unfold spec_chMany.f
 repeat' with_reducible first | exact ih0 _ _ _ | exact LeO.refl _ | exact LeO.none _ | refine LeO.ite ?_ ?_ | refine LeO.bind ?_ (fun _ => ?_)
theorem spec_chMany.calls (k : Nat) (a0 : ByteArray) (r : Int) (w : World) (h : spec_chMany.f k a0 = some r) :
 Calls Tryz.prog 111 #[.string a0] w fun e w' => e = .returned (.int .i64 r) ∧ Drawn0 w w' := by
 have H : (spec_chMany.l0 k a0 0 0) = some r := h; clear h; have H' := Aside0.mk H; clear H; go_enter Tryz.func111, Tryz.ntmps111; go_wp2; go_loopg [3, 4] k (fun kq v3 v4 w' => ∃ (x3_1 : Int) (x4_1 : Int), v3 = .int .i64 x3_1 ∧ v4 = .int .i64 x4_1 ∧ Aside0 (spec_chMany.l0 kq a0 x3_1 x4_1 = some r) ∧ Aside0 (kq ≤ k) ∧ Drawn0 w w')
 case atStart => exact ⟨(0), (0), e2, e2, H', ⟨Nat.le_refl _⟩, dz⟩
 case round =>
  clear H'; obtain ⟨x3_1, x4_1, rfl, rfl, HA, HK1, ⟨m1, rfl⟩⟩ := hrel; cases gk with
  | zero => exact absurd HA.out (by simp [spec_chMany.l0])
  | succ k1 =>
   have H := HA.out; clear HA; simp only [spec_chMany.l0] at H; by_cases c2 : x4_1 < (a0.size : Int)
   ·
    rw [if_pos c2] at H; have c2b0 := decide_eq_true c2; clear c2; by_cases c3 : 0 ≤ x4_1
    ·
     rw [if_pos c3] at H; have c3b0 := decide_eq_true c3; clear c3; by_cases c5 : (bt a0 x4_1) = 98
     ·
      rw [if_pos c5] at H; have c5b0 : ((bt a0 x4_1) == 98) = true := beq_iff_eq.mpr c5; have c5b1 : ((bt a0 x4_1) != 98) = false := bne_eq_false_iff_eq.mpr c5; clear c5; have H' := Aside0.mk H; clear H; have p4 : 0 ≤ (x4_1 : Int) := od; have q4 : x4_1 < (a0.size : Int) := od; have hx4 := bt_at a0 x4_1; replace p4 := eq_true p4; replace q4 := eq_true q4; go_wp2; go_roundg k1
      case measure => have := HK1.out; omega
      case rel => exact ⟨(wrap64 (x3_1 + 1)), (wrap64 (x4_1 + 1)), e2, e2, H', ⟨by have := HK1.out; omega⟩, dz⟩
     ·
      rw [if_neg c5] at H; have c5b0 : ((bt a0 x4_1) == 98) = false := beq_eq_false_iff_ne.mpr c5; have c5b1 : ((bt a0 x4_1) != 98) = true := bne_iff_ne.mpr c5; have H' := Aside0.mk H; clear H; have p4 : 0 ≤ (x4_1 : Int) := od; have q4 : x4_1 < (a0.size : Int) := od; have hx4 := bt_at a0 x4_1; replace p4 := eq_true p4; replace q4 := eq_true q4; go_wp2; go_roundg k1
      case measure => have := HK1.out; omega
      case rel => exact ⟨(x3_1), (wrap64 (x4_1 + 1)), e2, e2, H', ⟨by have := HK1.out; omega⟩, dz⟩
    · rw [if_neg c3] at H; exact absurd H (by simp)
   · rw [if_neg c2] at H; have c2b0 := decide_eq_false c2; clear c2; obtain rfl := Option.some.inj H; go_wp2; go_ret; exact ⟨e2, dz⟩

/-! ### spec_chGood: function 94 -/
def spec_chGood.f (k : Nat) (a0 : ByteArray) : Option (Bool) := (spec_chMany.f k a0).bind fun t434 => ((spec_foGcd.f k (wrap64 ((a0.size : Int) - t434)) t434).bind fun t435 => (if t435 = 1 then ((spec_chWord.f k (wrap64 ((a0.size : Int) - t434)) t434).bind fun t436 => (some (t436.toList == a0.toList))) else (some false)))
theorem spec_chGood.mono : ∀ a0 k, LeO (spec_chGood.f k a0) (spec_chGood.f (k + 1) a0) := by
 intro a0 k; unfold spec_chGood.f
 repeat' with_reducible first | exact spec_chMany.mono _ _ | exact spec_chWord.mono _ _ _ | exact spec_foGcd.mono _ _ _ | exact LeO.refl _ | exact LeO.none _ | refine LeO.ite ?_ ?_ | refine LeO.bind ?_ (fun _ => ?_)
theorem spec_chGood.calls (k : Nat) (a0 : ByteArray) (r : Bool) (w : World) (h : spec_chGood.f k a0 = some r) :
 Calls Tryz.prog 94 #[.string a0] w fun e w' => e = .returned (.bool r) ∧ Drawn0 w w' := by
 have H : ((spec_chMany.f k a0).bind fun t434 => ((spec_foGcd.f k (wrap64 ((a0.size : Int) - t434)) t434).bind fun t435 => (if t435 = 1 then ((spec_chWord.f k (wrap64 ((a0.size : Int) - t434)) t434).bind fun t436 => (some (t436.toList == a0.toList))) else (some false)))) = some r := h; clear h; replace H := oB H; obtain ⟨t434, A2, H⟩ := H; replace H := oB H; obtain ⟨t435, A3, H⟩ := H; by_cases c4 : t435 = 1
 · rw [if_pos c4] at H; have c4b0 : (t435 == 1) = true := beq_iff_eq.mpr c4; have c4b1 : (t435 != 1) = false := bne_eq_false_iff_eq.mpr c4; clear c4; replace H := oB H; obtain ⟨t436, A5, H⟩ := H; obtain rfl := Option.some.inj H; go_enter Tryz.func94, Tryz.ntmps94; go_wp2_with (first | ((with_reducible refine gate_callee (f := 111) rfl ?_); refine gL (some 5) rfl rfl Tryz.func111 (by kernel_rfl) rfl #[.string a0] rfl ?_; (with_reducible refine (spec_chMany.calls k a0 t434 _ A2.out).mono ?_); rintro e w' ⟨rfl, ⟨nd, rfl⟩⟩; refine ⟨_, rfl, ?_⟩) | ((with_reducible refine gate_callee (f := 75) rfl ?_); refine gL (some 11) rfl rfl Tryz.func75 (by kernel_rfl) rfl #[.int .i64 (wrap64 ((a0.size : Int) - t434)), .int .i64 t434] rfl ?_; (with_reducible refine (spec_foGcd.calls k (wrap64 ((a0.size : Int) - t434)) t434 t435 _ A3.out).mono ?_); rintro e w' ⟨rfl, ⟨nd, rfl⟩⟩; refine ⟨_, rfl, ?_⟩) | (go_at_call 77; (with_reducible refine (spec_chWord.calls k (wrap64 ((a0.size : Int) - t434)) t434 t436 _ A5.out).mono ?_); rintro e w' ⟨rfl, ⟨nd, rfl⟩⟩)); go_ret; exact ⟨e2, dz⟩
 · rw [if_neg c4] at H; have c4b0 : (t435 == 1) = false := beq_eq_false_iff_ne.mpr c4; have c4b1 : (t435 != 1) = true := bne_iff_ne.mpr c4; obtain rfl := Option.some.inj H; go_enter Tryz.func94, Tryz.ntmps94; go_wp2_with (first | ((with_reducible refine gate_callee (f := 111) rfl ?_); refine gL (some 5) rfl rfl Tryz.func111 (by kernel_rfl) rfl #[.string a0] rfl ?_; (with_reducible refine (spec_chMany.calls k a0 t434 _ A2.out).mono ?_); rintro e w' ⟨rfl, ⟨nd, rfl⟩⟩; refine ⟨_, rfl, ?_⟩) | ((with_reducible refine gate_callee (f := 75) rfl ?_); refine gL (some 11) rfl rfl Tryz.func75 (by kernel_rfl) rfl #[.int .i64 (wrap64 ((a0.size : Int) - t434)), .int .i64 t434] rfl ?_; (with_reducible refine (spec_foGcd.calls k (wrap64 ((a0.size : Int) - t434)) t434 t435 _ A3.out).mono ?_); rintro e w' ⟨rfl, ⟨nd, rfl⟩⟩; refine ⟨_, rfl, ?_⟩)); go_ret; exact ⟨e2, dz⟩

/-! ### spec_chTwo: function 59 -/
def spec_chTwo.f (k : Nat) (a0 : ByteArray) : Option (Bool) := (spec_chLetters.f k a0).bind fun t437 => (if t437 = true then (if (a0.size : Int) > 1 then ((spec_chGood.f k a0).bind fun t438 => (some t438)) else (some false)) else (some false))
theorem spec_chTwo.mono : ∀ a0 k, LeO (spec_chTwo.f k a0) (spec_chTwo.f (k + 1) a0) := by
 intro a0 k; unfold spec_chTwo.f
 repeat' with_reducible first | exact spec_chGood.mono _ _ | exact spec_chLetters.mono _ _ | exact LeO.refl _ | exact LeO.none _ | refine LeO.ite ?_ ?_ | refine LeO.bind ?_ (fun _ => ?_)
theorem spec_chTwo.calls (k : Nat) (a0 : ByteArray) (r : Bool) (w : World) (h : spec_chTwo.f k a0 = some r) :
 Calls Tryz.prog 59 #[.string a0] w fun e w' => e = .returned (.bool r) ∧ Drawn0 w w' := by
 have H : ((spec_chLetters.f k a0).bind fun t437 => (if t437 = true then (if (a0.size : Int) > 1 then ((spec_chGood.f k a0).bind fun t438 => (some t438)) else (some false)) else (some false))) = some r := h; clear h; replace H := oB H; obtain ⟨t437, A2, H⟩ := H; by_cases c3 : t437 = true
 ·
  subst c3; rw [if_pos rfl] at H; by_cases c4 : (a0.size : Int) > 1
  · rw [if_pos c4] at H; have c4b0 : decide (1 < (a0.size : Int)) = true := decide_eq_true c4; have c4b1 : decide (1 < a0.size) = true := decide_eq_true (by omega); clear c4; replace H := oB H; obtain ⟨t438, A5, H⟩ := H; obtain rfl := Option.some.inj H; go_enter Tryz.func59, Tryz.ntmps59; go_wp2_with (first | ((with_reducible refine gate_callee (f := 26) rfl ?_); refine gL (some 4) rfl rfl Tryz.func26 (by kernel_rfl) rfl #[.string a0] rfl ?_; (with_reducible refine (spec_chLetters.calls k a0 true _ A2.out).mono ?_); rintro e w' ⟨rfl, ⟨nd, rfl⟩⟩; refine ⟨_, rfl, ?_⟩) | (go_at_call 94; (with_reducible refine (spec_chGood.calls k a0 t438 _ A5.out).mono ?_); rintro e w' ⟨rfl, ⟨nd, rfl⟩⟩)); go_ret; exact ⟨e2, dz⟩
  · rw [if_neg c4] at H; have c4b0 : decide (1 < (a0.size : Int)) = false := decide_eq_false c4; have c4b1 : decide (1 < a0.size) = false := decide_eq_false (by omega); clear c4; obtain rfl := Option.some.inj H; go_enter Tryz.func59, Tryz.ntmps59; go_wp2_with (first | ((with_reducible refine gate_callee (f := 26) rfl ?_); refine gL (some 4) rfl rfl Tryz.func26 (by kernel_rfl) rfl #[.string a0] rfl ?_; (with_reducible refine (spec_chLetters.calls k a0 true _ A2.out).mono ?_); rintro e w' ⟨rfl, ⟨nd, rfl⟩⟩; refine ⟨_, rfl, ?_⟩)); go_ret; exact ⟨e2, dz⟩
 · replace c3 := Bool.eq_false_iff.mpr c3; subst c3; rw [if_neg (show ¬ (false = true) by decide)] at H; obtain rfl := Option.some.inj H; go_enter Tryz.func59, Tryz.ntmps59; go_wp2_with (first | ((with_reducible refine gate_callee (f := 26) rfl ?_); refine gL (some 4) rfl rfl Tryz.func26 (by kernel_rfl) rfl #[.string a0] rfl ?_; (with_reducible refine (spec_chLetters.calls k a0 false _ A2.out).mono ?_); rintro e w' ⟨rfl, ⟨nd, rfl⟩⟩; refine ⟨_, rfl, ?_⟩)); go_ret; exact ⟨e2, dz⟩

/-! ### spec_chSplit: function 60 -/
def spec_chSplit.l0 : Nat → ByteArray → Int → Option (Int)
 | 0, _, _ => none
 | k + 1, x0, x3 => if x3 < (x0.size : Int) then (if 0 ≤ x3 then (if x3 ≤ (x0.size : Int) then ((spec_chGood.f k (x0.extract 0 (x3 : Int).toNat)).bind fun t439 => (if t439 = true then ((spec_chGood.f k (x0.extract (x3 : Int).toNat x0.size)).bind fun t440 => (if t440 = true then (some x3) else (spec_chSplit.l0 k x0 (wrap64 (x3 + 1))))) else (spec_chSplit.l0 k x0 (wrap64 (x3 + 1))))) else (none)) else (none)) else (some 0)
def spec_chSplit.f (k : Nat) (a0 : ByteArray) : Option (Int) := spec_chSplit.l0 k a0 1
theorem spec_chSplit.mono_l : ∀ k, (∀ y0 y1, LeO (spec_chSplit.l0 k y0 y1) (spec_chSplit.l0 (k + 1) y0 y1))
 | 0 => fun _ _ r h => by simp [spec_chSplit.l0] at h
 | k + 1 => by
  have ih0 := spec_chSplit.mono_l k
  ·
   intro y0 y1; unfold spec_chSplit.l0
   repeat' with_reducible first | exact ih0 _ _ | exact spec_chGood.mono _ _ | exact LeO.refl _ | exact LeO.none _ | refine LeO.ite ?_ ?_ | refine LeO.bind ?_ (fun _ => ?_)
theorem spec_chSplit.mono : ∀ a0 k, LeO (spec_chSplit.f k a0) (spec_chSplit.f (k + 1) a0) := by
 intro a0 k; have ih0 := spec_chSplit.mono_l k; unfold spec_chSplit.f
 repeat' with_reducible first | exact ih0 _ _ | exact spec_chGood.mono _ _ | exact LeO.refl _ | exact LeO.none _ | refine LeO.ite ?_ ?_ | refine LeO.bind ?_ (fun _ => ?_)
theorem spec_chSplit.calls (k : Nat) (a0 : ByteArray) (r : Int) (w : World) (h : spec_chSplit.f k a0 = some r) :
 Calls Tryz.prog 60 #[.string a0] w fun e w' => e = .returned (.int .i64 r) ∧ Drawn0 w w' := by
 have H : (spec_chSplit.l0 k a0 1) = some r := h; clear h; have H' := Aside0.mk H; clear H; go_enter Tryz.func60, Tryz.ntmps60; go_wp2; go_loopg [3] k (fun kq v3 w' => ∃ (x3_1 : Int), v3 = .int .i64 x3_1 ∧ Aside0 (spec_chSplit.l0 kq a0 x3_1 = some r) ∧ Aside0 (kq ≤ k) ∧ Drawn0 w w')
 case atStart => exact ⟨(1), e2, H', ⟨Nat.le_refl _⟩, dz⟩
 case round =>
  clear H'; obtain ⟨x3_1, rfl, HA, HK1, ⟨m1, rfl⟩⟩ := hrel; cases gk with
  | zero => exact absurd HA.out (by simp [spec_chSplit.l0])
  | succ k1 =>
   have H := HA.out; clear HA; simp only [spec_chSplit.l0] at H; by_cases c2 : x3_1 < (a0.size : Int)
   ·
    rw [if_pos c2] at H; have c2b0 := decide_eq_true c2; clear c2; by_cases c3 : 0 ≤ x3_1
    ·
     rw [if_pos c3] at H; have c3b0 := eq_true c3; have c3b1 : decide (0 ≤ x3_1) = true := decide_eq_true c3; clear c3; by_cases c4 : x3_1 ≤ (a0.size : Int)
     ·
      rw [if_pos c4] at H; have c4b0 := eq_true c4; have c4b1 : decide (x3_1 ≤ (a0.size : Int)) = true := decide_eq_true c4; clear c4; replace H := oB H; obtain ⟨t439, A5, H⟩ := H; by_cases c6 : t439 = true
      ·
       subst c6; rw [if_pos rfl] at H; have c7b0 := eq_true (od : 0 ≤ x3_1); have c8b0 := eq_true (od : x3_1 ≤ (a0.size : Int)); replace H := oB H; obtain ⟨t440, A9, H⟩ := H; by_cases c10 : t440 = true
       · subst c10; rw [if_pos rfl] at H; obtain rfl := Option.some.inj H; go_wp2_with (first | ((with_reducible refine gate_callee (f := 94) rfl ?_); refine gL (some 13) rfl rfl Tryz.func94 (by kernel_rfl) rfl #[.string (a0.extract 0 (x3_1 : Int).toNat)] rfl ?_; (with_reducible refine (spec_chGood.calls k1 (a0.extract 0 (x3_1 : Int).toNat) true _ A5.out).mono ?_); rintro e w' ⟨rfl, ⟨nd, rfl⟩⟩; refine ⟨_, rfl, ?_⟩) | (go_at_call 94; (with_reducible refine (spec_chGood.calls k1 (a0.extract (x3_1 : Int).toNat a0.size) true _ A9.out).mono ?_); rintro e w' ⟨rfl, ⟨nd, rfl⟩⟩)); go_ret; exact ⟨e2, dz⟩
       ·
        replace c10 := Bool.eq_false_iff.mpr c10; subst c10; rw [if_neg (show ¬ (false = true) by decide)] at H; have H' := Aside0.mk H; clear H; go_wp2_with (first | ((with_reducible refine gate_callee (f := 94) rfl ?_); refine gL (some 13) rfl rfl Tryz.func94 (by kernel_rfl) rfl #[.string (a0.extract 0 (x3_1 : Int).toNat)] rfl ?_; (with_reducible refine (spec_chGood.calls k1 (a0.extract 0 (x3_1 : Int).toNat) true _ A5.out).mono ?_); rintro e w' ⟨rfl, ⟨nd, rfl⟩⟩; refine ⟨_, rfl, ?_⟩) | (go_at_call 94; (with_reducible refine (spec_chGood.calls k1 (a0.extract (x3_1 : Int).toNat a0.size) false _ A9.out).mono ?_); rintro e w' ⟨rfl, ⟨nd, rfl⟩⟩)); go_roundg k1
        case measure => have := HK1.out; omega
        case rel => exact ⟨(wrap64 (x3_1 + 1)), e2, H', ⟨by have := HK1.out; omega⟩, dz⟩
      ·
       replace c6 := Bool.eq_false_iff.mpr c6; subst c6; rw [if_neg (show ¬ (false = true) by decide)] at H; have H' := Aside0.mk H; clear H; go_wp2_with (first | ((with_reducible refine gate_callee (f := 94) rfl ?_); refine gL (some 13) rfl rfl Tryz.func94 (by kernel_rfl) rfl #[.string (a0.extract 0 (x3_1 : Int).toNat)] rfl ?_; (with_reducible refine (spec_chGood.calls k1 (a0.extract 0 (x3_1 : Int).toNat) false _ A5.out).mono ?_); rintro e w' ⟨rfl, ⟨nd, rfl⟩⟩; refine ⟨_, rfl, ?_⟩)); go_roundg k1
       case measure => have := HK1.out; omega
       case rel => exact ⟨(wrap64 (x3_1 + 1)), e2, H', ⟨by have := HK1.out; omega⟩, dz⟩
     · rw [if_neg c4] at H; exact absurd H (by simp)
    · rw [if_neg c3] at H; exact absurd H (by simp)
   · rw [if_neg c2] at H; have c2b0 := decide_eq_false c2; clear c2; obtain rfl := Option.some.inj H; go_wp2; go_ret; exact ⟨e2, dz⟩

/-! ### spec_FactorsOf: function 29 -/
def spec_FactorsOf.f (k : Nat) (a0 : ByteArray) : Option (ByteArray × ByteArray × Bool) := (spec_chTwo.f k a0).bind fun t441 => (if t441 = true then ((spec_chSplit.f k a0).bind fun t442 => (if 0 ≤ t442 then (if t442 ≤ (a0.size : Int) then (some (a0.extract 0 (t442 : Int).toNat, a0.extract (t442 : Int).toNat a0.size, true)) else (none)) else (none))) else (some ((⟨#[]⟩ : ByteArray), (⟨#[]⟩ : ByteArray), false)))
theorem spec_FactorsOf.mono : ∀ a0 k, LeO (spec_FactorsOf.f k a0) (spec_FactorsOf.f (k + 1) a0) := by
 intro a0 k; unfold spec_FactorsOf.f
 repeat' with_reducible first | exact spec_chSplit.mono _ _ | exact spec_chTwo.mono _ _ | exact LeO.refl _ | exact LeO.none _ | refine LeO.ite ?_ ?_ | refine LeO.bind ?_ (fun _ => ?_)
theorem spec_FactorsOf.calls (k : Nat) (a0 : ByteArray) (r1 : ByteArray) (r2 : ByteArray) (r3 : Bool) (w : World) (h : spec_FactorsOf.f k a0 = some (r1, r2, r3)) :
 Calls Tryz.prog 29 #[.string a0] w fun e w' => e = .returned (.tuple #[.string r1, .string r2, .bool r3]) ∧ Drawn0 w w' := by
 have H : ((spec_chTwo.f k a0).bind fun t441 => (if t441 = true then ((spec_chSplit.f k a0).bind fun t442 => (if 0 ≤ t442 then (if t442 ≤ (a0.size : Int) then (some (a0.extract 0 (t442 : Int).toNat, a0.extract (t442 : Int).toNat a0.size, true)) else (none)) else (none))) else (some ((⟨#[]⟩ : ByteArray), (⟨#[]⟩ : ByteArray), false)))) = some (r1, r2, r3) := h; clear h; replace H := oB H; obtain ⟨t441, A2, H⟩ := H; by_cases c3 : t441 = true
 ·
  subst c3; rw [if_pos rfl] at H; replace H := oB H; obtain ⟨t442, A4, H⟩ := H; by_cases c5 : 0 ≤ t442
  ·
   rw [if_pos c5] at H; have c5b0 := eq_true c5; have c5b1 : decide (0 ≤ t442) = true := decide_eq_true c5; clear c5; by_cases c6 : t442 ≤ (a0.size : Int)
   ·
    rw [if_pos c6] at H; have c6b0 := eq_true c6; have c6b1 : decide (t442 ≤ (a0.size : Int)) = true := decide_eq_true c6; clear c6; have c7b0 := eq_true (od : 0 ≤ t442); have c8b0 := eq_true (od : t442 ≤ (a0.size : Int)); simp only [Option.some.injEq, Prod.mk.injEq] at H; obtain ⟨rfl, rfl, rfl⟩ := H; go_enter Tryz.func29, Tryz.ntmps29; go_wp2_with (first | (go_at_call 59; (with_reducible refine (spec_chTwo.calls k a0 true _ A2.out).mono ?_); rintro e w' ⟨rfl, ⟨nd, rfl⟩⟩; (try exact dD)) | (go_at_call 60; (with_reducible refine (spec_chSplit.calls k a0 t442 _ A4.out).mono ?_); rintro e w' ⟨rfl, ⟨nd, rfl⟩⟩; (try exact dD)))
    repeat (go_quiet (first | (go_at_call 59; (with_reducible refine (spec_chTwo.calls k a0 true _ A2.out).mono ?_); rintro e w' ⟨rfl, ⟨nd, rfl⟩⟩; (try exact dD)) | (go_at_call 60; (with_reducible refine (spec_chSplit.calls k a0 t442 _ A4.out).mono ?_); rintro e w' ⟨rfl, ⟨nd, rfl⟩⟩; (try exact dD))); try go_wp2_with (first | (go_at_call 59; (with_reducible refine (spec_chTwo.calls k a0 true _ A2.out).mono ?_); rintro e w' ⟨rfl, ⟨nd, rfl⟩⟩; (try exact dD)) | (go_at_call 60; (with_reducible refine (spec_chSplit.calls k a0 t442 _ A4.out).mono ?_); rintro e w' ⟨rfl, ⟨nd, rfl⟩⟩; (try exact dD))))
    go_ret3; exact ⟨e2, dz⟩
   · rw [if_neg c6] at H; exact absurd H (by simp)
  · rw [if_neg c5] at H; exact absurd H (by simp)
 ·
  replace c3 := Bool.eq_false_iff.mpr c3; subst c3; rw [if_neg (show ¬ (false = true) by decide)] at H; simp only [Option.some.injEq, Prod.mk.injEq] at H; obtain ⟨rfl, rfl, rfl⟩ := H; go_enter Tryz.func29, Tryz.ntmps29; go_wp2_with (first | (go_at_call 59; (with_reducible refine (spec_chTwo.calls k a0 false _ A2.out).mono ?_); rintro e w' ⟨rfl, ⟨nd, rfl⟩⟩; (try exact dD)))
  repeat (go_quiet (first | (go_at_call 59; (with_reducible refine (spec_chTwo.calls k a0 false _ A2.out).mono ?_); rintro e w' ⟨rfl, ⟨nd, rfl⟩⟩; (try exact dD))); try go_wp2_with (first | (go_at_call 59; (with_reducible refine (spec_chTwo.calls k a0 false _ A2.out).mono ?_); rintro e w' ⟨rfl, ⟨nd, rfl⟩⟩; (try exact dD))))
  go_ret3; exact ⟨e2, dz⟩

/-! ### spec_NumberOfWord: function 30 -/
def spec_NumberOfWord.f (k : Nat) (a0 : ByteArray) : Option (Int × Bool) := (spec_CohnMatrix.f k a0).bind fun bt443 => (if bt443.2 = true then (if 0 < (bt443.1.length : Int) then (if 1 < ((rd_L4 bt443.1 0).length : Int) then (some (rd (rd_L4 bt443.1 0) 1, true)) else (none)) else (none)) else (some (0, false)))
theorem spec_NumberOfWord.mono : ∀ a0 k, LeO (spec_NumberOfWord.f k a0) (spec_NumberOfWord.f (k + 1) a0) := by
 intro a0 k; unfold spec_NumberOfWord.f
 repeat' with_reducible first | exact spec_CohnMatrix.mono _ _ | exact LeO.refl _ | exact LeO.none _ | refine LeO.ite ?_ ?_ | refine LeO.bind ?_ (fun _ => ?_)
theorem spec_NumberOfWord.calls (k : Nat) (a0 : ByteArray) (r1 : Int) (r2 : Bool) (w : World) (h : spec_NumberOfWord.f k a0 = some (r1, r2)) :
 Calls Tryz.prog 30 #[.string a0] w fun e w' => e = .returned (.tuple #[.int .i64 r1, .bool r2]) ∧ Below w.heap.size w w' := by
 have hu27 := Tryz.underlying27; have HB := Aside0.mk (Below.refl w.heap.size w); have H : ((spec_CohnMatrix.f k a0).bind fun bt443 => (if bt443.2 = true then (if 0 < (bt443.1.length : Int) then (if 1 < ((rd_L4 bt443.1 0).length : Int) then (some (rd (rd_L4 bt443.1 0) 1, true)) else (none)) else (none)) else (some (0, false)))) = some (r1, r2) := h; clear h; replace H := oB H; obtain ⟨⟨t443, t446⟩, A2, H⟩ := H; (try dsimp only at H); by_cases c3 : t446 = true
 ·
  subst c3; rw [if_pos rfl] at H; by_cases c4 : 0 < (t443.length : Int)
  ·
   rw [if_pos c4] at H; have c4b0 := decide_eq_true c4; have c4b1 : decide (0 < t443.length) = true := decide_eq_true (by omega); clear c4; by_cases c5 : 1 < ((rd_L4 t443 0).length : Int)
   · rw [if_pos c5] at H; have c5b0 := decide_eq_true c5; have c5b1 : decide (1 < (rd_L4 t443 0).length) = true := decide_eq_true (by omega); clear c5; simp only [Option.some.injEq, Prod.mk.injEq] at H; obtain ⟨rfl, rfl⟩ := H; go_enter Tryz.func30, Tryz.ntmps30; go_wp2_with (first | ((with_reducible refine gate_callee (f := 7) rfl ?_); refine gL (some 8) rfl rfl Tryz.func7 (by kernel_rfl) rfl #[.string a0] rfl ?_; (with_reducible refine (spec_CohnMatrix.calls k a0 t443 true _ A2.out).mono ?_); rintro e w6 ⟨v444, rfl, ho0, hb⟩; refine ⟨_, rfl, ?_⟩; have HO445 := Aside0.mk (Kd.N_lower (Kd.N_mono (ok' := fun k_ => True) ho0 (fun k_ hk_ => trivial)) (below_size bq)); replace HB := sT bq hb; (try clear hb); (try clear ho0)) | ((with_reducible refine gate_dst (N := 4) rfl ?_); refine box_event ?hg (N := 4) ?hd (cs := #[.slice none 0 0]) (t := 27) ?hr ?_; (case hd => rfl); (case hg => rfl); (case hr => exact z69_); intro gb447 hg w7 hbox hb; replace HO445 := Aside0.mk (Kd.N_below (Kd.N_elderB (nA HO445) gb447 (Nat.le_of_eq hg.symm)) hb); have BK447 := Aside0.mk (hbox); have GW447 := gW HB hg; have GE447 := gW HB hg; replace HB := sT bq hb; clear hb hbox hg; obtain ⟨Ao8, co8, eo8⟩ := Kd.N_slice HO445.out; subst eo8; obtain ⟨hcz9_0, hfz9_0⟩ := bC BK447) | ((with_reducible refine gate_store (t := 27) (p := 4) rfl ?_); refine store_event (t := 27) (p := 4) (v := ?vo_w10) (w1 := (w7.setCell ⟨gb447, 0, none⟩ (.slice Ao8 t443.length co8))) ?hg ?ho ?hn ?hr ?_; (case ho => rfl); (case hg => rfl); (case hn => rfl); (case hr => exact z69_); intro w10 hw; replace HO445 : Aside0 (Kd.N (Kd.slice 3 (Kd.int .i64)) 32 w10 w.heap.size (fun k_ => k_ ≠ gb447) (.slice Ao8 t443.length co8) t443) := ⟨(by rw [hw]; exact (nP (Kd.N_mono (Kd.N_far (p := ⟨gb447, 0, none⟩) (Kd.N_mono HO445.out (fun k_ hk => (⟨hk, hk.2⟩ : _ ∧ k_ ≠ gb447))) (fun _ hk => hk.2) (.slice Ao8 t443.length co8)) (fun _ hk => hk.1.2))))⟩; replace BK447 : Aside0 (w10.heap[gb447]? = some (.cells #[.slice Ao8 t443.length co8] 27 (0, 0))) := ⟨(by rw [hw]; exact (by refine bR ?_; refine blk_put (cs := #[.slice none 0 0]) ?_ 0 _ rfl; exact bA BK447))⟩; replace HB : Aside0 (Below w.heap.size w w10) := ⟨(by rw [hw]; exact (kB HB))⟩; clear hw; obtain ⟨hcz11_0, hfz11_0⟩ := bC BK447; have p448 : 0 ≤ (0 : Int) := (by omega); have q448 : 0 < (t443.length : Int) := od; obtain ⟨ad448, A448_0, c448_0, e448, hx448_0, hl448_0, hi448_0⟩ := at_L4 (Kd.N_reads' HO445.out).2.2 0 p448 q448; cases e448; obtain ⟨ce448, hce448, hMe448, hcc448⟩ := Kd.N_get HO445.out [] 0 p448 (by first | exact q448 | exact od | (have e_ := (Kd.N_reads' HO445.out).1; omega)); obtain ⟨ua448_0, uc448_0, rfl, ul448_0, ge448_0⟩ := Kd.FK_slice_open hMe448; have hv448_0 := hcc448 0 _ rfl; rw [Nat.add_zero, show ((Kd.slice 3 (Kd.int .i64))).sz = 1 from rfl, Nat.mul_one] at hv448_0; replace hv448_0 := Option.some.inj (hv448_0.symm.trans hx448_0); injection hv448_0 with hva_ hvn_ hvc_; rw [hva_] at ge448_0; rw [hvc_] at ul448_0; have HL448_0 := Aside0.mk (show Kd.V (Kd.int .i64) 3 _ w.heap.size _ _ (rd_L4 t443 0) from Kd.V_mk ul448_0 ge448_0); clear hva_ hvn_ hvc_ ge448_0 ul448_0; clear hcc448 hce448; have qi448 : (0 < t443.length) = True := eq_true (by omega); (try rw [show ((0 : Int)).toNat = 0 from rfl] at hx448_0); (try rw [Addr.add_zero'] at hx448_0); have HR448_0 := Aside0.mk hi448_0; have HC448_0 := Aside0.mk hl448_0; clear hi448_0 hl448_0; replace p448 := eq_true p448; replace q448 := eq_true q448; have p449 : 0 ≤ (1 : Int) := (by omega); have q449 : 1 < ((rd_L4 t443 0).length : Int) := od; obtain ⟨ad449, e449, hx449_0⟩ := Kd.at_int (by repeat (first | (with_reducible exact HR448_0.out) | (with_reducible refine Kd.C_alloc ?_ _) | (with_reducible refine Kd.C_drewN ?_ _) | (with_reducible refine Kd.C_drew ?_) | exact HR448_0.out)) 1 p449 q449; cases e449; (try simp only [show (1 : Int).toNat = 1 from rfl, Nat.reduceMul, Nat.reduceEqDiff, Go.Addr.add, ↓reduceIte] at hx449_0); have qi449 : (1 < (rd_L4 t443 0).length) = True := eq_true (by omega); (try rw [show ((1 : Int)).toNat = 1 from rfl] at hx449_0); replace p449 := eq_true p449; replace q449 := eq_true q449)); go_ret2; exact ⟨e1, kB HB⟩
   · rw [if_neg c5] at H; exact absurd H (by simp)
  · rw [if_neg c4] at H; exact absurd H (by simp)
 · replace c3 := Bool.eq_false_iff.mpr c3; subst c3; rw [if_neg (show ¬ (false = true) by decide)] at H; simp only [Option.some.injEq, Prod.mk.injEq] at H; obtain ⟨rfl, rfl⟩ := H; go_enter Tryz.func30, Tryz.ntmps30; go_wp2_with (first | ((with_reducible refine gate_callee (f := 7) rfl ?_); refine gL (some 8) rfl rfl Tryz.func7 (by kernel_rfl) rfl #[.string a0] rfl ?_; (with_reducible refine (spec_CohnMatrix.calls k a0 t443 false _ A2.out).mono ?_); rintro e w12 ⟨v444, rfl, ho0, hb⟩; refine ⟨_, rfl, ?_⟩; have HO445 := Aside0.mk (Kd.N_lower (Kd.N_mono (ok' := fun k_ => True) ho0 (fun k_ hk_ => trivial)) (below_size bq)); replace HB := sT bq hb; (try clear hb); (try clear ho0)) | ((with_reducible refine gate_dst (N := 4) rfl ?_); refine box_event ?hg (N := 4) ?hd (cs := #[.slice none 0 0]) (t := 27) ?hr ?_; (case hd => rfl); (case hg => rfl); (case hr => exact z69_); intro gb447 hg w13 hbox hb; replace HO445 := Aside0.mk (Kd.N_below (Kd.N_elderB (nA HO445) gb447 (Nat.le_of_eq hg.symm)) hb); have BK447 := Aside0.mk (hbox); have GW447 := gW HB hg; have GE447 := gW HB hg; replace HB := sT bq hb; clear hb hbox hg; obtain ⟨Ao14, co14, eo14⟩ := Kd.N_slice HO445.out; subst eo14; obtain ⟨hcz15_0, hfz15_0⟩ := bC BK447)); go_ret2; exact ⟨e1, kB HB⟩

/-! ### spec_l1Least: function 61 -/
def spec_l1Least.f (a0 : Int) (a1 : Int) : Option (Int) := if a0 < a1 then (some a0) else (some a1)
theorem spec_l1Least.calls (a0 : Int) (a1 : Int) (r : Int) (w : World) (h : spec_l1Least.f a0 a1 = some r) :
 Calls Tryz.prog 61 #[.int .i64 a0, .int .i64 a1] w fun e w' => e = .returned (.int .i64 r) ∧ Drawn0 w w' := by
 have H : (if a0 < a1 then (some a0) else (some a1)) = some r := h; clear h; by_cases c3 : a0 < a1
 · rw [if_pos c3] at H; have c3b0 := decide_eq_true c3; clear c3; obtain rfl := Option.some.inj H; go_enter Tryz.func61, Tryz.ntmps61; go_wp2; go_ret; exact ⟨e2, dz⟩
 · rw [if_neg c3] at H; have c3b0 := decide_eq_false c3; clear c3; obtain rfl := Option.some.inj H; go_enter Tryz.func61, Tryz.ntmps61; go_wp2; go_ret; exact ⟨e2, dz⟩

/-! ### spec_mkSort: function 31 -/
def spec_mkSort.f (a0 : Int) (a1 : Int) (a2 : Int) : Option (List Int) := (spec_l1Least.f a1 a2).bind fun t450 => ((spec_l1Least.f a0 t450).bind fun t451 => ((spec_l1Most.f a1 a2).bind fun t452 => ((spec_l1Most.f a0 t452).bind fun t453 => (some (([t451, wrap64 ((wrap64 ((wrap64 ((wrap64 (a0 + a1)) + a2)) - t451)) - t453), t453] : List Int))))))
theorem spec_mkSort.calls (a0 : Int) (a1 : Int) (a2 : Int) (r : List Int) (w : World) (h : spec_mkSort.f a0 a1 a2 = some r) :
 Calls Tryz.prog 31 #[.int .i64 a0, .int .i64 a1, .int .i64 a2] w fun e w' => ∃ v0_ : Value, e = .returned (v0_) ∧ Kd.R (Kd.int .i64) 3 w' w.heap.size (fun _ => True) v0_ r ∧ Below w.heap.size w w' := by
 have HB := Aside0.mk (Below.refl w.heap.size w); have H : ((spec_l1Least.f a1 a2).bind fun t450 => ((spec_l1Least.f a0 t450).bind fun t451 => ((spec_l1Most.f a1 a2).bind fun t452 => ((spec_l1Most.f a0 t452).bind fun t453 => (some (([t451, wrap64 ((wrap64 ((wrap64 ((wrap64 (a0 + a1)) + a2)) - t451)) - t453), t453] : List Int))))))) = some r := h; clear h; replace H := oB H; obtain ⟨t450, A4, H⟩ := H; replace H := oB H; obtain ⟨t451, A5, H⟩ := H; replace H := oB H; obtain ⟨t452, A6, H⟩ := H; replace H := oB H; obtain ⟨t453, A7, H⟩ := H; obtain ⟨y454, hy454⟩ : ∃ y_ : List Int, y_ = (([t451, wrap64 ((wrap64 ((wrap64 ((wrap64 (a0 + a1)) + a2)) - t451)) - t453), t453] : List Int)) := ⟨_, rfl⟩; replace H : (some y454) = some r := rH hy454 H
 have Ny454 := Aside0.mk hy454; clear hy454; obtain rfl := Option.some.inj H; go_enter Tryz.func31, Tryz.ntmps31; go_wp2_with (first | ((with_reducible refine gate_callee (f := 61) rfl ?_); refine gL (some 12) rfl rfl Tryz.func61 (by kernel_rfl) rfl #[.int .i64 a1, .int .i64 a2] rfl ?_; (with_reducible refine (spec_l1Least.calls a1 a2 t450 _ A4.out).mono ?_); rintro e w' ⟨rfl, ⟨nd, rfl⟩⟩; refine ⟨_, rfl, ?_⟩) | ((with_reducible refine gate_callee (f := 61) rfl ?_); refine gL (some 13) rfl rfl Tryz.func61 (by kernel_rfl) rfl #[.int .i64 a0, .int .i64 t450] rfl ?_; (with_reducible refine (spec_l1Least.calls a0 t450 t451 _ A5.out).mono ?_); rintro e w' ⟨rfl, ⟨nd, rfl⟩⟩; refine ⟨_, rfl, ?_⟩) | ((with_reducible refine gate_callee (f := 62) rfl ?_); refine gL (some 17) rfl rfl Tryz.func62 (by kernel_rfl) rfl #[.int .i64 a1, .int .i64 a2] rfl ?_; (with_reducible refine (spec_l1Most.calls a1 a2 t452 _ A6.out).mono ?_); rintro e w' ⟨rfl, ⟨nd, rfl⟩⟩; refine ⟨_, rfl, ?_⟩) | ((with_reducible refine gate_callee (f := 62) rfl ?_); refine gL (some 18) rfl rfl Tryz.func62 (by kernel_rfl) rfl #[.int .i64 a0, .int .i64 t452] rfl ?_; (with_reducible refine (spec_l1Most.calls a0 t452 t453 _ A7.out).mono ?_); rintro e w' ⟨rfl, ⟨nd, rfl⟩⟩; refine ⟨_, rfl, ?_⟩) | ((with_reducible refine gate_dst (N := 30) rfl ?_); refine Kd.R_lit (Kd.int .i64) _ 3 ?hg (N := 30) ?hd (xs := ([t451, wrap64 ((wrap64 ((wrap64 ((wrap64 (a0 + a1)) + a2)) - t451)) - t453), t453] : List Int)) (inner := [.int .i64 t451, .int .i64 (wrap64 ((wrap64 ((wrap64 ((wrap64 (a0 + a1)) + a2)) - t451)) - t453)), .int .i64 t453]) (ok := fun _ => True) (okp := fun _ => True) ?hr ?hp (fun _ hk => hk) trivial (Below.refl _ _) (Nat.le_refl _) (by simp) ?_; (case hd => rfl); (case hg => rfl); (case hr => exact z69_); (case hp => exact (Reps.one (show Kd.M (Kd.int .i64) _ _ _ t451 [.int .i64 t451] from rfl) (Reps.one (show Kd.M (Kd.int .i64) _ _ _ (wrap64 ((wrap64 ((wrap64 ((wrap64 (a0 + a1)) + a2)) - t451)) - t453)) [.int .i64 (wrap64 ((wrap64 ((wrap64 ((wrap64 (a0 + a1)) + a2)) - t451)) - t453))] from rfl) (Reps.one (show Kd.M (Kd.int .i64) _ _ _ t453 [.int .i64 t453] from rfl) (Reps.none _ _))))); intro v455 w8 ho9 hb hg_ hnew_; clear hg_ hnew_; (first | rw [← Ny454.out] at ho9 | (simp only [Int.reduceToNat] at ho9; rw [← Ny454.out] at ho9)); have HO456 := Aside0.mk (Kd.R_lower ho9 (below_size bq)); replace HB := sT bq hb; clear hb ho9)); go_ret; exact ⟨_, e1, rP HO456.out, bq⟩

end Go.Proofs.YtljlplohicffpaaGreat.P
