-- Written by a program of this session (wip/mkprint.py over the kit's print), out of the translation. Not trusted: Lean checks it.
import Derived.Test.YtljlplohicffpaaGreatKx0
import Derived.Test.YtljlplohicffpaaGreatSh
namespace Go.Proofs.YtljlplohicffpaaGreat.P
open Go.RowKit Go.Proofs.YtljlplohicffpaaGreatW.PrintWords Go.Proofs.YtljlplohicffpaaGreatW.PrintLast Go.Proofs.YtljlplohicffpaaGreatW.PrintMore
attribute [local go_sem] max2_int min2_int max_two min_two max_three min_three max_four min_four   -- for this text's walks alone
set_option linter.unusedVariables false
set_option linter.unusedSimpArgs false
set_option maxHeartbeats 8000000
set_option maxRecDepth 100000

/-! ### bytealg_hashStr_string: function 123 -/
/-! ### bytealg_IndexRabinKarp_string: function 121 -/
-- NOT PRINTED: function 117 (stringslite_Index)

-- NOT PRINTED: function 114 (strings_Index)

/-! ### strings_Count: function 95 -/
def strings_Count.f (a0 : ByteArray) (a1 : ByteArray) : Option (Int) := match a1 with
 | ⟨⟨[c]⟩⟩ => some ((Go.Lib.countByte a0.data.toList c : Nat) : Int)
 | _ => none
theorem strings_Count.calls (a0 : ByteArray) (a1 : ByteArray) (r : Int) (w : World) (h : strings_Count.f a0 a1 = some r) :
 Calls Tryz.prog 95 #[.string a0, .string a1] w fun e w' => e = .returned (.int .i64 r) ∧ Below w.heap.size w w' := by
 unfold strings_Count.f at h
 split at h
 · obtain rfl := Option.some.inj h; refine (Tryz.strings_Count_one a0 _ w).mono ?_; rintro e w' ⟨rfl, rfl⟩; exact ⟨rfl, Below.refl _ _⟩
 · cases h

/-! ### impl_counts: function 63 -/
def impl_counts.f (a0 : ByteArray) : Option (Int × Int) := (strings_Count.f a0 (⟨#[97]⟩ : ByteArray)).bind fun t280 => ((strings_Count.f a0 (⟨#[98]⟩ : ByteArray)).bind fun t281 => (some (t280, t281)))
theorem impl_counts.calls (a0 : ByteArray) (r1 : Int) (r2 : Int) (w : World) (h : impl_counts.f a0 = some (r1, r2)) :
 Calls Tryz.prog 63 #[.string a0] w fun e w' => e = .returned (.tuple #[.int .i64 r1, .int .i64 r2]) ∧ Below w.heap.size w w' := by
 have HB := Aside0.mk (Below.refl w.heap.size w); have H : ((strings_Count.f a0 (⟨#[97]⟩ : ByteArray)).bind fun t280 => ((strings_Count.f a0 (⟨#[98]⟩ : ByteArray)).bind fun t281 => (some (t280, t281)))) = some (r1, r2) := h; clear h; replace H := oB H; obtain ⟨t280, A2, H⟩ := H; replace H := oB H; obtain ⟨t281, A3, H⟩ := H; simp only [Option.some.injEq, Prod.mk.injEq] at H; obtain ⟨rfl, rfl⟩ := H; go_enter Tryz.func63, Tryz.ntmps63; go_wp2_with (first | ((with_reducible refine gate_callee (f := 95) rfl ?_); refine gL (some 5) rfl rfl Tryz.func95 (by kernel_rfl) rfl #[.string a0, .string (⟨#[97]⟩ : ByteArray)] rfl ?_; (with_reducible refine (strings_Count.calls a0 (⟨#[97]⟩ : ByteArray) t280 _ A2.out).mono ?_); rintro e w4 ⟨rfl, hb⟩; refine ⟨_, rfl, ?_⟩; replace HB := sT bq hb; (try clear hb)) | ((with_reducible refine gate_callee (f := 95) rfl ?_); refine gL (some 7) rfl rfl Tryz.func95 (by kernel_rfl) rfl #[.string a0, .string (⟨#[98]⟩ : ByteArray)] rfl ?_; (with_reducible refine (strings_Count.calls a0 (⟨#[98]⟩ : ByteArray) t281 _ A3.out).mono ?_); rintro e w5 ⟨rfl, hb⟩; refine ⟨_, rfl, ?_⟩; replace HB := sT bq hb; (try clear hb))); go_ret2; exact ⟨e1, bq⟩

/-! ### impl_divisor: function 64 -/
def impl_divisor.l0 : Nat → Int → Int → Option (Int)
 | 0, _, _ => none
 | k + 1, x0, x1 => if x1 = 0 then (some (mx x0 (wrap64 (-x0)))) else (impl_divisor.l0 k x1 (Int.tmod x0 x1))
def impl_divisor.f (k : Nat) (a0 : Int) (a1 : Int) : Option (Int) := impl_divisor.l0 k a0 a1
theorem impl_divisor.mono_l : ∀ k, (∀ y0 y1, LeO (impl_divisor.l0 k y0 y1) (impl_divisor.l0 (k + 1) y0 y1))
 | 0 => fun _ _ r h => by simp [impl_divisor.l0] at h
 | k + 1 => by
  have ih0 := impl_divisor.mono_l k
  ·
   intro y0 y1; unfold impl_divisor.l0
   repeat' with_reducible first | exact ih0 _ _ | exact LeO.refl _ | exact LeO.none _ | refine LeO.ite ?_ ?_ | refine LeO.bind ?_ (fun _ => ?_)
theorem impl_divisor.mono : ∀ a0 a1 k, LeO (impl_divisor.f k a0 a1) (impl_divisor.f (k + 1) a0 a1) := by
 intro a0 a1 k; have ih0 := impl_divisor.mono_l k; unfold impl_divisor.f
 repeat' with_reducible first | exact ih0 _ _ | exact LeO.refl _ | exact LeO.none _ | refine LeO.ite ?_ ?_ | refine LeO.bind ?_ (fun _ => ?_)
theorem impl_divisor.calls (k : Nat) (a0 : Int) (a1 : Int) (r : Int) (w : World) (h : impl_divisor.f k a0 a1 = some r) :
 Calls Tryz.prog 64 #[.int .i64 a0, .int .i64 a1] w fun e w' => e = .returned (.int .i64 r) ∧ Below w.heap.size w w' := by
 have HB := Aside0.mk (Below.refl w.heap.size w); have H : (impl_divisor.l0 k a0 a1) = some r := h; clear h; have H' := Aside0.mk H; clear H; go_enter Tryz.func64, Tryz.ntmps64; go_wp2
 repeat (go_quiet (fail); try go_wp2)
 go_loopg [0, 1] k (fun kq v0 v1 w' => ∃ (x0_1 : Int) (x1_1 : Int), v0 = .int .i64 x0_1 ∧ v1 = .int .i64 x1_1 ∧ Aside0 (impl_divisor.l0 kq x0_1 x1_1 = some r) ∧ Aside0 (kq ≤ k) ∧ Aside0 (Below w.heap.size w w'))
 case atStart => exact ⟨(a0), (a1), e2, e2, H', ⟨Nat.le_refl _⟩, ⟨bq⟩⟩
 case round =>
  clear H'; obtain ⟨x0_1, x1_1, rfl, rfl, HA, HK1, HB⟩ := hrel; cases gk with
  | zero => exact absurd HA.out (by simp [impl_divisor.l0])
  | succ k1 =>
   have H := HA.out; clear HA; simp only [impl_divisor.l0] at H; by_cases c3 : x1_1 = 0
   ·
    rw [if_pos c3] at H; have c3b0 : (x1_1 == 0) = true := beq_iff_eq.mpr c3; have c3b1 : (x1_1 != 0) = false := bne_eq_false_iff_eq.mpr c3; clear c3; obtain ⟨ji4, hji4⟩ : ∃ j_ : Int, (mx x0_1 (wrap64 (-x0_1))) = j_ := ⟨_, rfl⟩; replace H : (some ji4) = some r := by first | (rw [hji4] at H; exact H) | (simp only [hji4] at H ⊢; exact H)
    have hji4_ : (if x0_1 < (wrap64 (-x0_1)) then (wrap64 (-x0_1)) else x0_1) = ji4 := hji4; obtain rfl := Option.some.inj H; go_wp2
    repeat (go_quiet (fail); try go_wp2)
    go_ret; exact ⟨by first | rfl | (simp [errW_none, errW_some] <;> rfl) | (simp only [← hji4]; first | rfl | (simp [errW_none, errW_some] <;> rfl)) | (simp [*, errW_none, errW_some] <;> rfl), bq⟩
   ·
    rw [if_neg c3] at H; have c3b0 : (x1_1 == 0) = false := beq_eq_false_iff_ne.mpr c3; have c3b1 : (x1_1 != 0) = true := bne_iff_ne.mpr c3; have H' := Aside0.mk H; clear H; go_wp2
    repeat (go_quiet (fail); try go_wp2)
    go_roundg k1
    case measure => have := HK1.out; omega
    case rel => exact ⟨(x1_1), (Int.tmod x0_1 x1_1), e2, e2, H', ⟨by have := HK1.out; omega⟩, ⟨bq⟩⟩

/-! ### impl_christoffel: function 65 -/
def impl_christoffel.l0 : Nat → Int → Int → List Int → Int → Int → Option (ByteArray)
 | 0, _, _, _, _, _ => none
 | k + 1, x1, x5, x6, x12, x13 => if x13 < x12 then (if x5 = 0 then (none) else (if (wrap64 (Int.tdiv (wrap64 (x13 * x1)) x5)) = (wrap64 (Int.tdiv (wrap64 ((wrap64 (x13 + 1)) * x1)) x5)) then (if x6.length < 140737488355328 then (impl_christoffel.l0 k x1 x5 (x6 ++ [97]) x12 (wrap64 (x13 + 1))) else (none)) else (if x6.length < 140737488355328 then (impl_christoffel.l0 k x1 x5 (x6 ++ [98]) x12 (wrap64 (x13 + 1))) else (none)))) else (some (strOfNums x6))
def impl_christoffel.f (k : Nat) (a0 : Int) (a1 : Int) : Option (ByteArray) := impl_christoffel.l0 k a1 (wrap64 (a0 + a1)) (([] : List Int)) (wrap64 (a0 + a1)) 0
theorem impl_christoffel.mono_l : ∀ k, (∀ y0 y1 y2 y3 y4, LeO (impl_christoffel.l0 k y0 y1 y2 y3 y4) (impl_christoffel.l0 (k + 1) y0 y1 y2 y3 y4))
 | 0 => fun _ _ _ _ _ r h => by simp [impl_christoffel.l0] at h
 | k + 1 => by
  have ih0 := impl_christoffel.mono_l k
  ·
   intro y0 y1 y2 y3 y4; unfold impl_christoffel.l0
   repeat' with_reducible first | exact ih0 _ _ _ _ _ | exact LeO.refl _ | exact LeO.none _ | refine LeO.ite ?_ ?_ | refine LeO.bind ?_ (fun _ => ?_)
theorem impl_christoffel.mono : ∀ a0 a1 k, LeO (impl_christoffel.f k a0 a1) (impl_christoffel.f (k + 1) a0 a1) := by
 intro a0 a1 k; have ih0 := impl_christoffel.mono_l k; unfold impl_christoffel.f
 repeat' with_reducible first | exact ih0 _ _ _ _ _ | exact LeO.refl _ | exact LeO.none _ | refine LeO.ite ?_ ?_ | refine LeO.bind ?_ (fun _ => ?_)
theorem impl_christoffel.calls (k : Nat) (a0 : Int) (a1 : Int) (r : ByteArray) (w : World) (h : impl_christoffel.f k a0 a1 = some r) :
 Calls Tryz.prog 65 #[.int .i64 a0, .int .i64 a1] w fun e w' => e = .returned (.string r) ∧ Below w.heap.size w w' := by
 have HB := Aside0.mk (Below.refl w.heap.size w); have H : (impl_christoffel.l0 k a1 (wrap64 (a0 + a1)) (([] : List Int)) (wrap64 (a0 + a1)) 0) = some r := h; clear h; obtain ⟨y282, hy282⟩ : ∃ y_ : List Int, y_ = (([] : List Int)) := ⟨_, rfl⟩; replace H : (impl_christoffel.l0 k a1 (wrap64 (a0 + a1)) y282 (wrap64 (a0 + a1)) 0) = some r := rH hy282 H
 have Ny282 := Aside0.mk hy282; clear hy282; have H' := Aside0.mk H; clear H; go_enter Tryz.func65, Tryz.ntmps65; go_wp2_with (first | ((with_reducible refine gate_dst (N := 11) rfl ?_); refine Kd.R_lit (Kd.int .u8) _ 5 ?hg (N := 11) ?hd (xs := ([] : List Int)) (inner := []) (ok := fun _ => True) (okp := fun _ => True) ?hr ?hp (fun _ hk => hk) trivial (Below.refl _ _) (Nat.le_refl _) (by simp) ?_; (case hd => rfl); (case hg => rfl); (case hr => exact z69_); (case hp => exact (Reps.none _ _)); intro v283 w3 ho4 hb hg_ hnew_; clear hg_ hnew_; (first | rw [← Ny282.out] at ho4 | (simp only [Int.reduceToNat] at ho4; rw [← Ny282.out] at ho4)); have HO284 := Aside0.mk (Kd.R_lower ho4 (below_size bq)); replace HB := sT bq hb; clear hb ho4))
 repeat (go_quiet (first | ((with_reducible refine gate_dst (N := 11) rfl ?_); refine Kd.R_lit (Kd.int .u8) _ 5 ?hg (N := 11) ?hd (xs := ([] : List Int)) (inner := []) (ok := fun _ => True) (okp := fun _ => True) ?hr ?hp (fun _ hk => hk) trivial (Below.refl _ _) (Nat.le_refl _) (by simp) ?_; (case hd => rfl); (case hg => rfl); (case hr => exact z69_); (case hp => exact (Reps.none _ _)); intro v283 w3 ho4 hb hg_ hnew_; clear hg_ hnew_; (first | rw [← Ny282.out] at ho4 | (simp only [Int.reduceToNat] at ho4; rw [← Ny282.out] at ho4)); have HO284 := Aside0.mk (Kd.R_lower ho4 (below_size bq)); replace HB := sT bq hb; clear hb ho4)); try go_wp2_with (first | ((with_reducible refine gate_dst (N := 11) rfl ?_); refine Kd.R_lit (Kd.int .u8) _ 5 ?hg (N := 11) ?hd (xs := ([] : List Int)) (inner := []) (ok := fun _ => True) (okp := fun _ => True) ?hr ?hp (fun _ hk => hk) trivial (Below.refl _ _) (Nat.le_refl _) (by simp) ?_; (case hd => rfl); (case hg => rfl); (case hr => exact z69_); (case hp => exact (Reps.none _ _)); intro v283 w3 ho4 hb hg_ hnew_; clear hg_ hnew_; (first | rw [← Ny282.out] at ho4 | (simp only [Int.reduceToNat] at ho4; rw [← Ny282.out] at ho4)); have HO284 := Aside0.mk (Kd.R_lower ho4 (below_size bq)); replace HB := sT bq hb; clear hb ho4)))
 go_loopg [6, 13] k (fun kq v6 v13 w' => ∃ (x6_1 : List Int) (x13_1 : Int), v13 = .int .i64 x13_1 ∧ Aside0 (impl_christoffel.l0 kq a1 (wrap64 (a0 + a1)) x6_1 (wrap64 (a0 + a1)) x13_1 = some r) ∧ Aside0 (kq ≤ k) ∧ Aside0 (Kd.R (Kd.int .u8) 5 w' w.heap.size (fun _ => True) v6 x6_1) ∧ Aside0 (Below w.heap.size w w'))
 case atStart => exact ⟨(y282), (0), e2, H', ⟨Nat.le_refl _⟩, ⟨rP HO284.out⟩, ⟨bq⟩⟩
 case round =>
  clear H'; obtain ⟨x6_1, x13_1, rfl, HA, HK1, HO_6, HB⟩ := hrel; cases gk with
  | zero => exact absurd HA.out (by simp [impl_christoffel.l0])
  | succ k1 =>
   have H := HA.out; clear HA; simp only [impl_christoffel.l0] at H; by_cases c5 : x13_1 < (wrap64 (a0 + a1))
   ·
    rw [if_pos c5] at H; have c5b0 := decide_eq_true c5; clear c5; by_cases c6 : (wrap64 (a0 + a1)) = 0
    · rw [if_pos c6] at H; exact absurd H (by simp)
    ·
     rw [if_neg c6] at H; have c6b0 : ((wrap64 (a0 + a1)) == 0) = false := beq_eq_false_iff_ne.mpr c6; have c6b1 : ((wrap64 (a0 + a1)) != 0) = true := bne_iff_ne.mpr c6; by_cases c7 : (wrap64 (Int.tdiv (wrap64 (x13_1 * a1)) (wrap64 (a0 + a1)))) = (wrap64 (Int.tdiv (wrap64 ((wrap64 (x13_1 + 1)) * a1)) (wrap64 (a0 + a1))))
     ·
      rw [if_pos c7] at H; have c7b0 : ((wrap64 (Int.tdiv (wrap64 (x13_1 * a1)) (wrap64 (a0 + a1)))) == (wrap64 (Int.tdiv (wrap64 ((wrap64 (x13_1 + 1)) * a1)) (wrap64 (a0 + a1))))) = true := beq_iff_eq.mpr c7; have c7b1 : ((wrap64 (Int.tdiv (wrap64 (x13_1 * a1)) (wrap64 (a0 + a1)))) != (wrap64 (Int.tdiv (wrap64 ((wrap64 (x13_1 + 1)) * a1)) (wrap64 (a0 + a1))))) = false := bne_eq_false_iff_eq.mpr c7; clear c7; by_cases c8 : x6_1.length < 140737488355328
      ·
       rw [if_pos c8] at H; have LMc8 := Aside0.mk c8; clear c8; obtain ⟨y285, hy285⟩ : ∃ y_ : List Int, y_ = (x6_1 ++ [97]) := ⟨_, rfl⟩; replace H : (impl_christoffel.l0 k1 a1 (wrap64 (a0 + a1)) y285 (wrap64 (a0 + a1)) (wrap64 (x13_1 + 1))) = some r := rH hy285 H
       have Ny285 := Aside0.mk hy285; clear hy285; have H' := Aside0.mk H; clear H; go_wp2_with (first | ((with_reducible refine gate_builtin (b := .append) (xs := #[.tmp 28, .tmp 29]) rfl ?_); at_builtin; refine Kd.R_append (Kd.int .u8) (w0 := w) w.heap.size rfl (.tmp 28) (.tmp 29) 22 5 (.int .u8 0) 1 rfl Tryz.underlying22 info5 rfl (by decide) (by omega) u6 x6_1 97 [.int .u8 97] (fun _ => True) (fun _ => False) rfl rfl ?aP (fun _ hk => hk.elim) ?aF ?aO ?aB ?aS ?aL ?_; (case aP => exact rfl); (case aB => exact bq); (case aF => exact (fun _ _ => trivial)); (case aO => exact (rA HO_6)); (case aS => exact (below_size bq)); (case aL => have := LMc8.out; omega); intro v286 w9 ho hb hg hat; rw [← Ny285.out] at ho; replace HB := Aside0.mk (hb); have HO287 := Aside0.mk (ho); clear HO_6; clear ho hb hg hat))
       repeat (go_quiet (first | ((with_reducible refine gate_builtin (b := .append) (xs := #[.tmp 28, .tmp 29]) rfl ?_); at_builtin; refine Kd.R_append (Kd.int .u8) (w0 := w) w.heap.size rfl (.tmp 28) (.tmp 29) 22 5 (.int .u8 0) 1 rfl Tryz.underlying22 info5 rfl (by decide) (by omega) u6 x6_1 97 [.int .u8 97] (fun _ => True) (fun _ => False) rfl rfl ?aP (fun _ hk => hk.elim) ?aF ?aO ?aB ?aS ?aL ?_; (case aP => exact rfl); (case aB => exact bq); (case aF => exact (fun _ _ => trivial)); (case aO => exact (rA HO_6)); (case aS => exact (below_size bq)); (case aL => have := LMc8.out; omega); intro v286 w9 ho hb hg hat; rw [← Ny285.out] at ho; replace HB := Aside0.mk (hb); have HO287 := Aside0.mk (ho); clear HO_6; clear ho hb hg hat)); try go_wp2_with (first | ((with_reducible refine gate_builtin (b := .append) (xs := #[.tmp 28, .tmp 29]) rfl ?_); at_builtin; refine Kd.R_append (Kd.int .u8) (w0 := w) w.heap.size rfl (.tmp 28) (.tmp 29) 22 5 (.int .u8 0) 1 rfl Tryz.underlying22 info5 rfl (by decide) (by omega) u6 x6_1 97 [.int .u8 97] (fun _ => True) (fun _ => False) rfl rfl ?aP (fun _ hk => hk.elim) ?aF ?aO ?aB ?aS ?aL ?_; (case aP => exact rfl); (case aB => exact bq); (case aF => exact (fun _ _ => trivial)); (case aO => exact (rA HO_6)); (case aS => exact (below_size bq)); (case aL => have := LMc8.out; omega); intro v286 w9 ho hb hg hat; rw [← Ny285.out] at ho; replace HB := Aside0.mk (hb); have HO287 := Aside0.mk (ho); clear HO_6; clear ho hb hg hat)))
       go_roundg k1
       case measure => have := HK1.out; omega
       case rel => exact ⟨(y285), (wrap64 (x13_1 + 1)), e2, H', ⟨by have := HK1.out; omega⟩, ⟨rP HO287.out⟩, ⟨bq⟩⟩
      · rw [if_neg c8] at H; exact absurd H (by simp)
     ·
      rw [if_neg c7] at H; have c7b0 : ((wrap64 (Int.tdiv (wrap64 (x13_1 * a1)) (wrap64 (a0 + a1)))) == (wrap64 (Int.tdiv (wrap64 ((wrap64 (x13_1 + 1)) * a1)) (wrap64 (a0 + a1))))) = false := beq_eq_false_iff_ne.mpr c7; have c7b1 : ((wrap64 (Int.tdiv (wrap64 (x13_1 * a1)) (wrap64 (a0 + a1)))) != (wrap64 (Int.tdiv (wrap64 ((wrap64 (x13_1 + 1)) * a1)) (wrap64 (a0 + a1))))) = true := bne_iff_ne.mpr c7; by_cases c10 : x6_1.length < 140737488355328
      ·
       rw [if_pos c10] at H; have LMc10 := Aside0.mk c10; clear c10; obtain ⟨y288, hy288⟩ : ∃ y_ : List Int, y_ = (x6_1 ++ [98]) := ⟨_, rfl⟩; replace H : (impl_christoffel.l0 k1 a1 (wrap64 (a0 + a1)) y288 (wrap64 (a0 + a1)) (wrap64 (x13_1 + 1))) = some r := rH hy288 H
       have Ny288 := Aside0.mk hy288; clear hy288; have H' := Aside0.mk H; clear H; go_wp2_with (first | ((with_reducible refine gate_builtin (b := .append) (xs := #[.tmp 31, .tmp 32]) rfl ?_); at_builtin; refine Kd.R_append (Kd.int .u8) (w0 := w) w.heap.size rfl (.tmp 31) (.tmp 32) 22 5 (.int .u8 0) 1 rfl Tryz.underlying22 info5 rfl (by decide) (by omega) u6 x6_1 98 [.int .u8 98] (fun _ => True) (fun _ => False) rfl rfl ?aP (fun _ hk => hk.elim) ?aF ?aO ?aB ?aS ?aL ?_; (case aP => exact rfl); (case aB => exact bq); (case aF => exact (fun _ _ => trivial)); (case aO => exact (rA HO_6)); (case aS => exact (below_size bq)); (case aL => have := LMc10.out; omega); intro v289 w11 ho hb hg hat; rw [← Ny288.out] at ho; replace HB := Aside0.mk (hb); have HO290 := Aside0.mk (ho); clear HO_6; clear ho hb hg hat))
       repeat (go_quiet (first | ((with_reducible refine gate_builtin (b := .append) (xs := #[.tmp 31, .tmp 32]) rfl ?_); at_builtin; refine Kd.R_append (Kd.int .u8) (w0 := w) w.heap.size rfl (.tmp 31) (.tmp 32) 22 5 (.int .u8 0) 1 rfl Tryz.underlying22 info5 rfl (by decide) (by omega) u6 x6_1 98 [.int .u8 98] (fun _ => True) (fun _ => False) rfl rfl ?aP (fun _ hk => hk.elim) ?aF ?aO ?aB ?aS ?aL ?_; (case aP => exact rfl); (case aB => exact bq); (case aF => exact (fun _ _ => trivial)); (case aO => exact (rA HO_6)); (case aS => exact (below_size bq)); (case aL => have := LMc10.out; omega); intro v289 w11 ho hb hg hat; rw [← Ny288.out] at ho; replace HB := Aside0.mk (hb); have HO290 := Aside0.mk (ho); clear HO_6; clear ho hb hg hat)); try go_wp2_with (first | ((with_reducible refine gate_builtin (b := .append) (xs := #[.tmp 31, .tmp 32]) rfl ?_); at_builtin; refine Kd.R_append (Kd.int .u8) (w0 := w) w.heap.size rfl (.tmp 31) (.tmp 32) 22 5 (.int .u8 0) 1 rfl Tryz.underlying22 info5 rfl (by decide) (by omega) u6 x6_1 98 [.int .u8 98] (fun _ => True) (fun _ => False) rfl rfl ?aP (fun _ hk => hk.elim) ?aF ?aO ?aB ?aS ?aL ?_; (case aP => exact rfl); (case aB => exact bq); (case aF => exact (fun _ _ => trivial)); (case aO => exact (rA HO_6)); (case aS => exact (below_size bq)); (case aL => have := LMc10.out; omega); intro v289 w11 ho hb hg hat; rw [← Ny288.out] at ho; replace HB := Aside0.mk (hb); have HO290 := Aside0.mk (ho); clear HO_6; clear ho hb hg hat)))
       go_roundg k1
       case measure => have := HK1.out; omega
       case rel => exact ⟨(y288), (wrap64 (x13_1 + 1)), e2, H', ⟨by have := HK1.out; omega⟩, ⟨rP HO290.out⟩, ⟨bq⟩⟩
      · rw [if_neg c10] at H; exact absurd H (by simp)
   ·
    rw [if_neg c5] at H; have c5b0 := decide_eq_false c5; clear c5; obtain rfl := Option.some.inj H; have hcv12 := own_string (P := Tryz.prog) Tryz.underlying22 Tryz.underlying5 Tryz.underlying9 (Kd.own_of_R HO_6.out); go_wp2
    repeat (go_quiet (fail); try go_wp2)
    go_ret; exact ⟨e1, bq⟩

/-! ### impl_isChristoffel: function 33 -/
def impl_isChristoffel.f (k : Nat) (a0 : ByteArray) : Option (Bool) := (impl_counts.f a0).bind fun bt291 => ((impl_divisor.f k bt291.1 bt291.2).bind fun t293 => (if t293 = 1 then ((impl_christoffel.f k bt291.1 bt291.2).bind fun t294 => (some (t294.toList == a0.toList))) else (some false)))
theorem impl_isChristoffel.mono : ∀ a0 k, LeO (impl_isChristoffel.f k a0) (impl_isChristoffel.f (k + 1) a0) := by
 intro a0 k; unfold impl_isChristoffel.f
 repeat' with_reducible first | exact impl_christoffel.mono _ _ _ | exact impl_divisor.mono _ _ _ | exact LeO.refl _ | exact LeO.none _ | refine LeO.ite ?_ ?_ | refine LeO.bind ?_ (fun _ => ?_)
theorem impl_isChristoffel.calls (k : Nat) (a0 : ByteArray) (r : Bool) (w : World) (h : impl_isChristoffel.f k a0 = some r) :
 Calls Tryz.prog 33 #[.string a0] w fun e w' => e = .returned (.bool r) ∧ Below w.heap.size w w' := by
 have HB := Aside0.mk (Below.refl w.heap.size w); have H : ((impl_counts.f a0).bind fun bt291 => ((impl_divisor.f k bt291.1 bt291.2).bind fun t293 => (if t293 = 1 then ((impl_christoffel.f k bt291.1 bt291.2).bind fun t294 => (some (t294.toList == a0.toList))) else (some false)))) = some r := h; clear h; replace H := oB H; obtain ⟨⟨t291, t292⟩, A2, H⟩ := H; (try dsimp only at H); replace H := oB H; obtain ⟨t293, A3, H⟩ := H; by_cases c4 : t293 = 1
 · rw [if_pos c4] at H; have c4b0 : (t293 == 1) = true := beq_iff_eq.mpr c4; have c4b1 : (t293 != 1) = false := bne_eq_false_iff_eq.mpr c4; clear c4; replace H := oB H; obtain ⟨t294, A5, H⟩ := H; obtain rfl := Option.some.inj H; go_enter Tryz.func33, Tryz.ntmps33; go_wp2_with (first | ((with_reducible refine gate_callee (f := 63) rfl ?_); refine gL (some 7) rfl rfl Tryz.func63 (by kernel_rfl) rfl #[.string a0] rfl ?_; (with_reducible refine (impl_counts.calls a0 t291 t292 _ A2.out).mono ?_); rintro e w6 ⟨rfl, hb⟩; refine ⟨_, rfl, ?_⟩; replace HB := sT bq hb; (try clear hb)) | ((with_reducible refine gate_callee (f := 64) rfl ?_); refine gL (some 12) rfl rfl Tryz.func64 (by kernel_rfl) rfl #[.int .i64 t291, .int .i64 t292] rfl ?_; (with_reducible refine (impl_divisor.calls k t291 t292 t293 _ A3.out).mono ?_); rintro e w7 ⟨rfl, hb⟩; refine ⟨_, rfl, ?_⟩; replace HB := sT bq hb; (try clear hb)) | (go_at_call 65; (with_reducible refine (impl_christoffel.calls k t291 t292 t294 _ A5.out).mono ?_); rintro e w8 ⟨rfl, hb⟩; replace HB := sT bq hb; (try clear hb))); go_ret; exact ⟨e1, bq⟩
 · rw [if_neg c4] at H; have c4b0 : (t293 == 1) = false := beq_eq_false_iff_ne.mpr c4; have c4b1 : (t293 != 1) = true := bne_iff_ne.mpr c4; obtain rfl := Option.some.inj H; go_enter Tryz.func33, Tryz.ntmps33; go_wp2_with (first | ((with_reducible refine gate_callee (f := 63) rfl ?_); refine gL (some 7) rfl rfl Tryz.func63 (by kernel_rfl) rfl #[.string a0] rfl ?_; (with_reducible refine (impl_counts.calls a0 t291 t292 _ A2.out).mono ?_); rintro e w9 ⟨rfl, hb⟩; refine ⟨_, rfl, ?_⟩; replace HB := sT bq hb; (try clear hb)) | ((with_reducible refine gate_callee (f := 64) rfl ?_); refine gL (some 12) rfl rfl Tryz.func64 (by kernel_rfl) rfl #[.int .i64 t291, .int .i64 t292] rfl ?_; (with_reducible refine (impl_divisor.calls k t291 t292 t293 _ A3.out).mono ?_); rintro e w10 ⟨rfl, hb⟩; refine ⟨_, rfl, ?_⟩; replace HB := sT bq hb; (try clear hb))); go_ret; exact ⟨e1, bq⟩

end Go.Proofs.YtljlplohicffpaaGreat.P
