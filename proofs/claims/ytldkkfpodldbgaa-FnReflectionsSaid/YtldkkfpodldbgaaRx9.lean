-- Written by a program of this session (wip/mkprint.py over the kit's print), out of the translation. Not trusted: Lean checks it.
import Derived.Test.YtldkkfpodldbgaaRx0
import Derived.Test.YtldkkfpodldbgaaRx4
import Derived.Test.YtldkkfpodldbgaaGA
namespace Go.Proofs.Ytldkkfpodldbgaa.P
open Go.RowKit Go.Proofs.YtldkkfpodldbgaaW.PrintWords Go.Proofs.YtldkkfpodldbgaaW.PrintLast Go.Proofs.YtldkkfpodldbgaaW.PrintMore
attribute [local go_sem] max2_int min2_int max_two min_two max_three min_three max_four min_four   -- for this text's walks alone
set_option linter.unusedVariables false
set_option linter.unusedSimpArgs false
set_option maxHeartbeats 8000000
set_option maxRecDepth 100000

/-! ### impl_Matrix_apply: function 87 -/
mutual
def impl_Matrix_apply.l0 : Nat → List Int → List Int → List (List Int) → Int → Int → Option (List Int)
 | 0, _, _, _, _, _ => none
 | k + 1, x1, x5, x13, x14, x15 => if x15 < x14 then (if 0 ≤ x15 then (if x15 < (x13.length : Int) then (impl_Matrix_apply.l1 k x1 x5 0 x13 x14 x15 (rd_L1 x13 x15) ((rd_L1 x13 x15).length : Int) 0) else (none)) else (none)) else (some x5)
def impl_Matrix_apply.l1 : Nat → List Int → List Int → Int → List (List Int) → Int → Int → List Int → Int → Int → Option (List Int)
 | 0, _, _, _, _, _, _, _, _, _ => none
 | k + 1, x1, x5, x8, x13, x14, x15, x19, x20, x21 => if x21 < x20 then (if 0 ≤ x21 then (if x21 < (x19.length : Int) then (if x21 < (x1.length : Int) then (impl_Matrix_apply.l1 k x1 x5 (wrap64 (x8 + (wrap64 ((rd x19 x21) * (rd x1 x21))))) x13 x14 x15 x19 x20 (wrap64 (x21 + 1))) else (none)) else (none)) else (none)) else (if x5.length < 17592186044416 then (impl_Matrix_apply.l0 k x1 (x5 ++ [x8]) x13 x14 (wrap64 (x15 + 1))) else (none))
end
def impl_Matrix_apply.f (k : Nat) (l0_0 : List (List Int)) (l1 : List Int) : Option (List Int) := impl_Matrix_apply.l0 k l1 (([] : List Int)) l0_0 (l0_0.length : Int) 0
theorem impl_Matrix_apply.mono_l : ∀ k, (∀ y0 y1 y2 y3 y4, LeO (impl_Matrix_apply.l0 k y0 y1 y2 y3 y4) (impl_Matrix_apply.l0 (k + 1) y0 y1 y2 y3 y4)) ∧ (∀ y0 y1 y2 y3 y4 y5 y6 y7 y8, LeO (impl_Matrix_apply.l1 k y0 y1 y2 y3 y4 y5 y6 y7 y8) (impl_Matrix_apply.l1 (k + 1) y0 y1 y2 y3 y4 y5 y6 y7 y8))
 | 0 => ⟨fun _ _ _ _ _ r h => by simp [impl_Matrix_apply.l0] at h, fun _ _ _ _ _ _ _ _ _ r h => by simp [impl_Matrix_apply.l1] at h⟩
 | k + 1 => by
  obtain ⟨ih0, ih1⟩ := impl_Matrix_apply.mono_l k; refine ⟨?_, ?_⟩
  all_goals
   intros
   first | unfold impl_Matrix_apply.l0 | unfold impl_Matrix_apply.l1
   repeat' with_reducible first | exact ih0 _ _ _ _ _ | exact ih1 _ _ _ _ _ _ _ _ _ | exact LeO.refl _ | exact LeO.none _ | refine LeO.ite ?_ ?_ | refine LeO.bind ?_ (fun _ => ?_)
theorem impl_Matrix_apply.mono : ∀ a0 a1 k, LeO (impl_Matrix_apply.f k a0 a1) (impl_Matrix_apply.f (k + 1) a0 a1) := by
 intro a0 a1 k; obtain ⟨ih0, ih1⟩ := impl_Matrix_apply.mono_l k; unfold impl_Matrix_apply.f
 repeat' with_reducible first | exact ih0 _ _ _ _ _ | exact ih1 _ _ _ _ _ _ _ _ _ | exact LeO.refl _ | exact LeO.none _ | refine LeO.ite ?_ ?_ | refine LeO.bind ?_ (fun _ => ?_)
theorem impl_Matrix_apply.calls (k : Nat) (A0_0 : Option Addr) (c0_0 : Nat) (l0_0 : List (List Int)) (A1 : Option Addr) (c1 : Nat) (l1 : List Int) (r : List Int) (w : World) (hr0_0 : Kd.C (Kd.slice 3 (Kd.int .i64)) w A0_0 l0_0.length l0_0) (hc0_0 : l0_0.length ≤ c0_0) (hr1 : Kd.C (Kd.int .i64) w A1 l1.length l1) (hc1 : l1.length ≤ c1) (h : impl_Matrix_apply.f k l0_0 l1 = some r) :
 Calls Try.prog 87 #[.agg #[.slice A0_0 l0_0.length c0_0], .slice A1 l1.length c1] w fun e w' => ∃ v0_ : Value, e = .returned (v0_) ∧ Kd.R (Kd.int .i64) 3 w' w.heap.size (fun _ => True) v0_ r ∧ Below w.heap.size w w' := by
 have hu26 := Try.underlying26; have HR0_0 := Aside0.mk hr0_0; have HC0_0 := Aside0.mk hc0_0; clear hr0_0 hc0_0; have HR1 := Aside0.mk hr1; have HC1 := Aside0.mk hc1; clear hr1 hc1; have HB := Aside0.mk (Below.refl w.heap.size w); have H : (impl_Matrix_apply.l0 k l1 (([] : List Int)) l0_0 (l0_0.length : Int) 0) = some r := h; clear h; obtain ⟨y282, hy282⟩ : ∃ y_ : List Int, y_ = (([] : List Int)) := ⟨_, rfl⟩; replace H : (impl_Matrix_apply.l0 k l1 y282 l0_0 (l0_0.length : Int) 0) = some r := rH hy282 H
 have Ny282 := Aside0.mk hy282; clear hy282; have H' := Aside0.mk H; clear H; go_enter Try.func87, Try.ntmps87; go_wp2_with (first | ((with_reducible refine gate_dst (N := 2) rfl ?_); refine box_event ?hg (N := 2) ?hd (cs := #[.slice A0_0 l0_0.length c0_0]) (t := 26) ?hr ?_; (case hd => rfl); (case hg => rfl); (case hr => exact z98_); intro gb281 hg w3 hbox hb; have BK281 := Aside0.mk (hbox); have GW281 := gW HB hg; have GE281 := gW HB hg; replace HB := sT bq hb; clear hb hbox hg) | ((with_reducible refine gate_dst (N := 11) rfl ?_); refine Kd.R_lit (Kd.int .i64) _ 3 ?hg (N := 11) ?hd (xs := ([] : List Int)) (inner := []) (ok := fun _ => True) (okp := fun _ => True) ?hr ?hp (fun _ hk => hk) trivial (Below.refl _ _) (Nat.le_refl _) (by simp) ?_; (case hd => rfl); (case hg => rfl); (case hr => exact z98_); (case hp => exact (Reps.none _ _)); intro v283 w4 ho5 hb hg_ hnew_; clear hg_ hnew_; (first | rw [← Ny282.out] at ho5 | (simp only [Int.reduceToNat] at ho5; rw [← Ny282.out] at ho5)); have HO284 := Aside0.mk (Kd.R_lower ho5 (below_size (kB HB))); replace BK281 := kA BK281 hb; replace HB := sB HB hb; clear hb ho5; obtain ⟨hcz6_0, hfz6_0⟩ := bC BK281)); go_loopg [5, 15] k (fun kq v5 v15 w' => ∃ (x5_1 : List Int) (x15_1 : Int), v15 = .int .i64 x15_1 ∧ Aside0 (impl_Matrix_apply.l0 kq l1 x5_1 l0_0 (l0_0.length : Int) x15_1 = some r) ∧ Aside0 (kq ≤ k) ∧ Aside0 (Kd.R (Kd.int .i64) 3 w' w.heap.size (fun _ => True) v5 x5_1) ∧ Aside0 (w'.heap[gb281]? = some (.cells #[(.slice A0_0 l0_0.length c0_0)] 26 (0, 0))) ∧ Aside0 (Below w.heap.size w w'))
 case atStart => exact ⟨(y282), (0), e2, H', ⟨Nat.le_refl _⟩, ⟨rP HO284.out⟩, ⟨by exact bA BK281⟩, ⟨kB HB⟩⟩
 case round =>
  clear H'; (try clear hcz6_0); (try clear hfz6_0); obtain ⟨x5_1, x15_1, rfl, HA, HK1, HO_5, BK281, HB⟩ := hrel; cases gk with
  | zero => exact absurd HA.out (by simp [impl_Matrix_apply.l0])
  | succ k1 =>
   have H := HA.out; clear HA; simp only [impl_Matrix_apply.l0] at H; by_cases c7 : x15_1 < (l0_0.length : Int)
   ·
    rw [if_pos c7] at H; have c7b0 := decide_eq_true c7; clear c7; by_cases c8 : 0 ≤ x15_1
    ·
     rw [if_pos c8] at H; have c8b0 := decide_eq_true c8; clear c8; by_cases c9 : x15_1 < (l0_0.length : Int)
     ·
      rw [if_pos c9] at H; have c9b0 := decide_eq_true c9; clear c9; have H' := Aside0.mk H; clear H; have p285 : 0 ≤ (x15_1 : Int) := od; have q285 : x15_1 < (l0_0.length : Int) := od; obtain ⟨ad285, A285_0, c285_0, e285, hx285_0, hl285_0, hi285_0⟩ := at_L1 HR0_0.out x15_1 p285 q285; cases e285; replace hx285_0 := (HB.out.cell (World.block_lt_of_cell? w _ hx285_0)).trans hx285_0; have HR285_0 := Aside0.mk hi285_0; have HC285_0 := Aside0.mk hl285_0; clear hi285_0 hl285_0; replace p285 := eq_true p285; replace q285 := eq_true q285; go_wp2; go_loopg [8, 21] k1 (fun kq v8 v21 w' => ∃ (x8_2 : Int) (x21_2 : Int), v8 = .int .i64 x8_2 ∧ v21 = .int .i64 x21_2 ∧ Aside0 (impl_Matrix_apply.l1 kq l1 x5_1 x8_2 l0_0 (l0_0.length : Int) x15_1 (rd_L1 l0_0 x15_1) ((rd_L1 l0_0 x15_1).length : Int) x21_2 = some r) ∧ Aside0 (kq ≤ k1) ∧ Aside0 (Kd.R (Kd.int .i64) 3 w' w.heap.size (fun _ => True) u5 x5_1) ∧ Aside0 (w'.heap[gb281]? = some (.cells #[(.slice (some ad285) l0_0.length c0_0)] 26 (0, 0))) ∧ Aside0 (Below w.heap.size w w'))
      case atStart => exact ⟨(0), (0), e2, e2, H', ⟨Nat.le_refl _⟩, ⟨z97_⟩, ⟨by exact bA BK281⟩, ⟨kB HB⟩⟩
      case round =>
       clear H'; (try clear c7); (try clear c7b0); (try clear c8); (try clear c8b0); (try clear c9); (try clear c9b0); (try clear hcz6_0); (try clear hfz6_0); (try clear hx285_0); (try clear p285); (try clear q285); obtain ⟨x8_2, x21_2, rfl, rfl, HA, HK2, HO_5, BK281, HB⟩ := hrel; cases gk with
       | zero => exact absurd HA.out (by simp [impl_Matrix_apply.l1])
       | succ k2 =>
        have H := HA.out; clear HA; simp only [impl_Matrix_apply.l1] at H; by_cases c10 : x21_2 < ((rd_L1 l0_0 x15_1).length : Int)
        ·
         rw [if_pos c10] at H; have c10b0 := decide_eq_true c10; clear c10; by_cases c11 : 0 ≤ x21_2
         ·
          rw [if_pos c11] at H; have c11b0 := decide_eq_true c11; clear c11; by_cases c12 : x21_2 < ((rd_L1 l0_0 x15_1).length : Int)
          ·
           rw [if_pos c12] at H; have c12b0 := decide_eq_true c12; clear c12; by_cases c13 : x21_2 < (l1.length : Int)
           ·
            rw [if_pos c13] at H; have c13b0 := decide_eq_true c13; clear c13; have H' := Aside0.mk H; clear H; have p286 : 0 ≤ (x21_2 : Int) := od; have q286 : x21_2 < ((rd_L1 l0_0 x15_1).length : Int) := od; obtain ⟨ad286, e286, hx286_0⟩ := Kd.at_int HR285_0.out x21_2 p286 q286; cases e286; replace hx286_0 := (HB.out.cell (World.block_lt_of_cell? w _ hx286_0)).trans hx286_0; replace p286 := eq_true p286; replace q286 := eq_true q286; have p287 : 0 ≤ (x21_2 : Int) := od; have q287 : x21_2 < (l1.length : Int) := od; obtain ⟨ad287, e287, hx287_0⟩ := Kd.at_int HR1.out x21_2 p287 q287; cases e287; replace hx287_0 := (HB.out.cell (World.block_lt_of_cell? w _ hx287_0)).trans hx287_0; replace p287 := eq_true p287; replace q287 := eq_true q287; go_wp2; go_roundg k2
            case measure => have := HK1.out; have := HK2.out; omega
            case rel => exact ⟨(wrap64 (x8_2 + (wrap64 ((rd (rd_L1 l0_0 x15_1) x21_2) * (rd l1 x21_2))))), (wrap64 (x21_2 + 1)), e2, e2, H', ⟨by have := HK1.out; have := HK2.out; omega⟩, ⟨z97_⟩, ⟨by exact bA BK281⟩, ⟨kB HB⟩⟩
           · rw [if_neg c13] at H; exact absurd H (by simp)
          · rw [if_neg c12] at H; exact absurd H (by simp)
         · rw [if_neg c11] at H; exact absurd H (by simp)
        ·
         rw [if_neg c10] at H; have c10b0 := decide_eq_false c10; clear c10; by_cases c14 : x5_1.length < 17592186044416
         ·
          rw [if_pos c14] at H; have LMc14 := Aside0.mk c14; clear c14; obtain ⟨y288, hy288⟩ : ∃ y_ : List Int, y_ = (x5_1 ++ [x8_2]) := ⟨_, rfl⟩; replace H : (impl_Matrix_apply.l0 k2 l1 y288 l0_0 (l0_0.length : Int) (wrap64 (x15_1 + 1))) = some r := rH hy288 H
          have Ny288 := Aside0.mk hy288; clear hy288; have H' := Aside0.mk H; clear H; go_wp2_with (first | ((with_reducible refine gate_builtin (b := .append) (xs := #[.tmp 35, .tmp 37]) rfl ?_); at_builtin; refine Kd.R_append (Kd.int .i64) (w0 := w) w.heap.size rfl (.tmp 35) (.tmp 37) 34 3 (.int .i64 0) 8 rfl Try.underlying34 info3 rfl (by decide) (by omega) u5 x5_1 x8_2 [.int .i64 x8_2] (fun _ => True) (fun _ => False) rfl rfl ?aP (fun _ hk => hk.elim) ?aF ?aO ?aB ?aS ?aL ?_; (case aP => exact rfl); (case aB => exact (kB HB)); (case aF => exact (fun _ _ => trivial)); (case aO => exact (rA HO_5)); (case aS => exact (below_size (kB HB))); (case aL => have := LMc14.out; omega); intro v289 w15 ho hb hg hat; rw [← Ny288.out] at ho; replace BK281 := Aside0.mk (blk_grown (g := gb281) (o := .cells #[.slice (some ad285) l0_0.length c0_0] 26 (0, 0)) (bA BK281) hg (Kd.R_ne HO_5.out BK281.out (by decide))); replace HB := Aside0.mk (hb); have HO290 := Aside0.mk (ho); clear HO_5; clear ho hb hg hat)); go_roundg k2
          case measure => have := HK1.out; have := HK2.out; omega
          case rel => exact ⟨(y288), (wrap64 (x15_1 + 1)), e2, H', ⟨by have := HK1.out; have := HK2.out; omega⟩, ⟨rP HO290.out⟩, ⟨by exact bA BK281⟩, ⟨kB HB⟩⟩
         · rw [if_neg c14] at H; exact absurd H (by simp)
     · rw [if_neg c9] at H; exact absurd H (by simp)
    · rw [if_neg c8] at H; exact absurd H (by simp)
   · rw [if_neg c7] at H; have c7b0 := decide_eq_false c7; clear c7; obtain rfl := Option.some.inj H; go_wp2; go_ret; exact ⟨_, e1, z97_, kB HB⟩

/-! ### impl_isVector: function 97 -/
def impl_isVector.f (l0 : List Int) (a1 : Int) : Option (Bool) := if (l0.length : Int) = a1 then ((impl_allWithin.f l0 (-1000000) 1000000).bind fun t291 => (some t291)) else (some false)
theorem impl_isVector.calls (A0 : Option Addr) (c0 : Nat) (l0 : List Int) (a1 : Int) (r : Bool) (w : World) (hr0 : Kd.C (Kd.int .i64) w A0 l0.length l0) (hc0 : l0.length ≤ c0) (h : impl_isVector.f l0 a1 = some r) :
 Calls Try.prog 97 #[.slice A0 l0.length c0, .int .i64 a1] w fun e w' => e = .returned (.bool r) ∧ Below w.heap.size w w' := by
 have HR0 := Aside0.mk hr0; have HC0 := Aside0.mk hc0; clear hr0 hc0; have HB := Aside0.mk (Below.refl w.heap.size w); have H : (if (l0.length : Int) = a1 then ((impl_allWithin.f l0 (-1000000) 1000000).bind fun t291 => (some t291)) else (some false)) = some r := h; clear h; by_cases c3 : (l0.length : Int) = a1
 · rw [if_pos c3] at H; have c3b0 : ((l0.length : Int) == a1) = true := beq_iff_eq.mpr c3; have c3b1 : ((l0.length : Int) != a1) = false := bne_eq_false_iff_eq.mpr c3; clear c3; replace H := oB H; obtain ⟨t291, A4, H⟩ := H; obtain rfl := Option.some.inj H; go_enter Try.func97, Try.ntmps97; go_wp2_with (first | (go_at_call 80; (with_reducible refine (impl_allWithin.calls _ _ l0 (-1000000) 1000000 t291 _ ?side1 ?side2 A4.out).mono ?_); (case side1 => exact cC HR0.out); (case side2 => exact HC0.out); rintro e w5 ⟨rfl, hb⟩; replace HB := sT bq hb; (try clear hb))); go_ret; exact ⟨e1, bq⟩
 · rw [if_neg c3] at H; have c3b0 : ((l0.length : Int) == a1) = false := beq_eq_false_iff_ne.mpr c3; have c3b1 : ((l0.length : Int) != a1) = true := bne_iff_ne.mpr c3; obtain rfl := Option.some.inj H; go_enter Try.func97, Try.ntmps97; go_wp2; go_ret; exact ⟨e1, bq⟩

/-! ### impl_Matrix_isSmall: function 63 -/
def impl_Matrix_isSmall.f (l0_0 : List (List Int)) (a1 : Int) : Option (Bool) := some (l0_0.all (Go.Proofs.Ytldkkfpodldbgaa.G.isLow a1))
theorem impl_Matrix_isSmall.calls (A0_0 : Option Addr) (c0_0 : Nat) (l0_0 : List (List Int)) (a1 : Int) (r : Bool) (w : World) (hr0_0 : Kd.C (Kd.slice 3 (Kd.int .i64)) w A0_0 l0_0.length l0_0) (_hc0_0 : l0_0.length ≤ c0_0) (h : impl_Matrix_isSmall.f l0_0 a1 = some r) :
 Calls Try.prog 63 #[.agg #[.slice A0_0 l0_0.length c0_0], .int .i64 a1] w fun e w' => e = .returned (.bool r) ∧ Below w.heap.size w w' := by
 obtain rfl := Option.some.inj h; exact Go.Proofs.Ytldkkfpodldbgaa.G.isSmall_any A0_0 c0_0 l0_0 a1 w hr0_0

/-! ### impl_Matrix_transposed: function 94 -/
def impl_Matrix_transposed.f (l0_0 : List (List Int)) : Option (List (List Int)) := if Go.Proofs.Ytldkkfpodldbgaa.G.isSq l0_0 = true then some (Go.Proofs.Ytldkkfpodldbgaa.G.transL l0_0) else none
theorem impl_Matrix_transposed.calls (A0_0 : Option Addr) (c0_0 : Nat) (l0_0 : List (List Int)) (r : List (List Int)) (w : World) (hr0_0 : Kd.C (Kd.slice 3 (Kd.int .i64)) w A0_0 l0_0.length l0_0) (_hc0_0 : l0_0.length ≤ c0_0) (h : impl_Matrix_transposed.f l0_0 = some r) :
 Calls Try.prog 94 #[.agg #[.slice A0_0 l0_0.length c0_0]] w fun e w' => ∃ v0_ : Value, e = .returned (.agg #[v0_]) ∧ Kd.S (Kd.slice 3 (Kd.int .i64)) 34 w' w.heap.size (fun _ => True) v0_ r ∧ Below w.heap.size w w' := by
 unfold impl_Matrix_transposed.f at h
 split at h
 · rename_i hs; obtain rfl := Option.some.inj h; exact Go.Proofs.Ytldkkfpodldbgaa.G.transposed_any A0_0 c0_0 l0_0 w hr0_0 hs
 · cases h

-- NOT PRINTED: function 121 (slices_EqualFunc_int_int_int_int)

/-! ### slices_Equal_int_int: function 122 -/
def slices_Equal_int_int.l0 : Nat → List Int → List Int → Int → Int → Option (Bool)
 | 0, _, _, _, _ => none
 | k + 1, x0, x1, x12, x13 => if x13 < x12 then (if 0 ≤ x13 then (if x13 < (x0.length : Int) then (if x13 < (x1.length : Int) then (if (rd x0 x13) = (rd x1 x13) then (slices_Equal_int_int.l0 k x0 x1 x12 (wrap64 (x13 + 1))) else (some false)) else (none)) else (none)) else (none)) else (some true)
def slices_Equal_int_int.f (k : Nat) (l0 : List Int) (l1 : List Int) : Option (Bool) := if (l0.length : Int) = (l1.length : Int) then (slices_Equal_int_int.l0 k l0 l1 (l0.length : Int) 0) else (some false)
theorem slices_Equal_int_int.mono_l : ∀ k, (∀ y0 y1 y2 y3, LeO (slices_Equal_int_int.l0 k y0 y1 y2 y3) (slices_Equal_int_int.l0 (k + 1) y0 y1 y2 y3))
 | 0 => fun _ _ _ _ r h => by simp [slices_Equal_int_int.l0] at h
 | k + 1 => by
  have ih0 := slices_Equal_int_int.mono_l k
  ·
   intro y0 y1 y2 y3; unfold slices_Equal_int_int.l0
   repeat' with_reducible first | exact ih0 _ _ _ _ | exact LeO.refl _ | exact LeO.none _ | refine LeO.ite ?_ ?_ | refine LeO.bind ?_ (fun _ => ?_)
theorem slices_Equal_int_int.mono : ∀ a0 a1 k, LeO (slices_Equal_int_int.f k a0 a1) (slices_Equal_int_int.f (k + 1) a0 a1) := by
 intro a0 a1 k; have ih0 := slices_Equal_int_int.mono_l k; unfold slices_Equal_int_int.f
 repeat' with_reducible first | exact ih0 _ _ _ _ | exact LeO.refl _ | exact LeO.none _ | refine LeO.ite ?_ ?_ | refine LeO.bind ?_ (fun _ => ?_)
theorem slices_Equal_int_int.calls (k : Nat) (A0 : Option Addr) (c0 : Nat) (l0 : List Int) (A1 : Option Addr) (c1 : Nat) (l1 : List Int) (r : Bool) (w : World) (hr0 : Kd.C (Kd.int .i64) w A0 l0.length l0) (hc0 : l0.length ≤ c0) (hr1 : Kd.C (Kd.int .i64) w A1 l1.length l1) (hc1 : l1.length ≤ c1) (h : slices_Equal_int_int.f k l0 l1 = some r) :
 Calls Try.prog 122 #[.slice A0 l0.length c0, .slice A1 l1.length c1] w fun e w' => e = .returned (.bool r) ∧ Drawn0 w w' := by
 have HR0 := Aside0.mk hr0; have HC0 := Aside0.mk hc0; clear hr0 hc0; have HR1 := Aside0.mk hr1; have HC1 := Aside0.mk hc1; clear hr1 hc1; have H : (if (l0.length : Int) = (l1.length : Int) then (slices_Equal_int_int.l0 k l0 l1 (l0.length : Int) 0) else (some false)) = some r := h; clear h; by_cases c3 : (l0.length : Int) = (l1.length : Int)
 ·
  rw [if_pos c3] at H; have c3b0 : ((l0.length : Int) == (l1.length : Int)) = true := beq_iff_eq.mpr c3; have c3b1 : ((l0.length : Int) != (l1.length : Int)) = false := bne_eq_false_iff_eq.mpr c3; have c3b2 : (l0.length == l1.length) = true := by first | simpa using c3 | (simp at c3 ⊢; omega)
  clear c3; have H' := Aside0.mk H; clear H; go_enter Try.func122, Try.ntmps122; go_wp2
  repeat (go_quiet (fail); try go_wp2)
  go_loopg [13] k (fun kq v13 w' => ∃ (x13_1 : Int), v13 = .int .i64 x13_1 ∧ Aside0 (slices_Equal_int_int.l0 kq l0 l1 (l0.length : Int) x13_1 = some r) ∧ Aside0 (kq ≤ k) ∧ Drawn0 w w')
  case atStart => exact ⟨(0), e2, H', ⟨Nat.le_refl _⟩, dz⟩
  case round =>
   clear H'; (try clear c3); (try clear c3b0); (try clear c3b1); (try clear c3b2); obtain ⟨x13_1, rfl, HA, HK1, ⟨m1, rfl⟩⟩ := hrel; cases gk with
   | zero => exact absurd HA.out (by simp [slices_Equal_int_int.l0])
   | succ k1 =>
    have H := HA.out; clear HA; simp only [slices_Equal_int_int.l0] at H; by_cases c4 : x13_1 < (l0.length : Int)
    ·
     rw [if_pos c4] at H; have c4b0 := decide_eq_true c4; clear c4; by_cases c5 : 0 ≤ x13_1
     ·
      rw [if_pos c5] at H; have c5b0 := decide_eq_true c5; clear c5; by_cases c6 : x13_1 < (l0.length : Int)
      ·
       rw [if_pos c6] at H; have c6b0 := decide_eq_true c6; clear c6; by_cases c7 : x13_1 < (l1.length : Int)
       ·
        rw [if_pos c7] at H; have c7b0 := decide_eq_true c7; clear c7; by_cases c8 : (rd l0 x13_1) = (rd l1 x13_1)
        ·
         rw [if_pos c8] at H; have c8b0 : ((rd l0 x13_1) == (rd l1 x13_1)) = true := beq_iff_eq.mpr c8; have c8b1 : ((rd l0 x13_1) != (rd l1 x13_1)) = false := bne_eq_false_iff_eq.mpr c8; clear c8; have H' := Aside0.mk H; clear H; have p292 : 0 ≤ (x13_1 : Int) := od; have q292 : x13_1 < (l0.length : Int) := od; obtain ⟨ad292, e292, hx292_0⟩ := Kd.at_int HR0.out x13_1 p292 q292; cases e292; replace p292 := eq_true p292; replace q292 := eq_true q292; have p293 : 0 ≤ (x13_1 : Int) := od; have q293 : x13_1 < (l1.length : Int) := od; obtain ⟨ad293, e293, hx293_0⟩ := Kd.at_int HR1.out x13_1 p293 q293; cases e293; replace p293 := eq_true p293; replace q293 := eq_true q293; go_wp2
         repeat (go_quiet (fail); try go_wp2)
         go_roundg k1
         case measure => have := HK1.out; omega
         case rel => exact ⟨(wrap64 (x13_1 + 1)), e2, H', ⟨by have := HK1.out; omega⟩, dz⟩
        ·
         rw [if_neg c8] at H; have c8b0 : ((rd l0 x13_1) == (rd l1 x13_1)) = false := beq_eq_false_iff_ne.mpr c8; have c8b1 : ((rd l0 x13_1) != (rd l1 x13_1)) = true := bne_iff_ne.mpr c8; obtain rfl := Option.some.inj H; have p292 : 0 ≤ (x13_1 : Int) := od; have q292 : x13_1 < (l0.length : Int) := od; obtain ⟨ad292, e292, hx292_0⟩ := Kd.at_int HR0.out x13_1 p292 q292; cases e292; replace p292 := eq_true p292; replace q292 := eq_true q292; have p293 : 0 ≤ (x13_1 : Int) := od; have q293 : x13_1 < (l1.length : Int) := od; obtain ⟨ad293, e293, hx293_0⟩ := Kd.at_int HR1.out x13_1 p293 q293; cases e293; replace p293 := eq_true p293; replace q293 := eq_true q293; go_wp2
         repeat (go_quiet (fail); try go_wp2)
         go_ret; exact ⟨e2, dz⟩
       · rw [if_neg c7] at H; exact absurd H (by simp)
      · rw [if_neg c6] at H; exact absurd H (by simp)
     · rw [if_neg c5] at H; exact absurd H (by simp)
    ·
     rw [if_neg c4] at H; have c4b0 := decide_eq_false c4; clear c4; obtain rfl := Option.some.inj H; go_wp2
     repeat (go_quiet (fail); try go_wp2)
     go_ret; exact ⟨e2, dz⟩
 ·
  rw [if_neg c3] at H; have c3b0 : ((l0.length : Int) == (l1.length : Int)) = false := beq_eq_false_iff_ne.mpr c3; have c3b1 : ((l0.length : Int) != (l1.length : Int)) = true := bne_iff_ne.mpr c3; have c3b2 : (l0.length == l1.length) = false := by first | simpa using c3 | (simp at c3 ⊢; omega)
  obtain rfl := Option.some.inj H; go_enter Try.func122, Try.ntmps122; go_wp2
  repeat (go_quiet (fail); try go_wp2)
  go_ret; exact ⟨e2, dz⟩

/-! ### impl_sameMatrix: function 104 -/
def impl_sameMatrix.f (l0_0 : List (List Int)) (l1_0 : List (List Int)) : Option (Bool) := some (decide (l0_0 = l1_0))
theorem impl_sameMatrix.calls (A0_0 : Option Addr) (c0_0 : Nat) (l0_0 : List (List Int)) (A1_0 : Option Addr) (c1_0 : Nat) (l1_0 : List (List Int)) (r : Bool) (w : World) (hr0_0 : Kd.C (Kd.slice 3 (Kd.int .i64)) w A0_0 l0_0.length l0_0) (_hc0_0 : l0_0.length ≤ c0_0) (hr1_0 : Kd.C (Kd.slice 3 (Kd.int .i64)) w A1_0 l1_0.length l1_0) (_hc1_0 : l1_0.length ≤ c1_0) (h : impl_sameMatrix.f l0_0 l1_0 = some r) :
 Calls Try.prog 104 #[.agg #[.slice A0_0 l0_0.length c0_0], .agg #[.slice A1_0 l1_0.length c1_0]] w fun e w' => e = .returned (.bool r) ∧ Below w.heap.size w w' := by
 obtain rfl := Option.some.inj h; exact Go.Proofs.Ytldkkfpodldbgaa.G.same_any A0_0 c0_0 l0_0 A1_0 c1_0 l1_0 w hr0_0 hr1_0

end Go.Proofs.Ytldkkfpodldbgaa.P
