-- Written by a program of this session (wip/mkprint.py over the kit's print), out of the translation. Not trusted: Lean checks it.
import Derived.Test.YtnfbkakblnppaaaUx0
import Derived.Test.YtnfbkakblnppaaaUx11
namespace Go.Proofs.Ytnfbkakblnppaaa.P
open Go.RowKit Go.Proofs.YtnfbkakblnppaaaW.PrintWords Go.Proofs.YtnfbkakblnppaaaW.PrintLast Go.Proofs.YtnfbkakblnppaaaW.PrintMore
attribute [local go_sem] max2_int min2_int max_two min_two max_three min_three max_four min_four   -- for this text's walks alone
set_option linter.unusedVariables false
set_option linter.unusedSimpArgs false

/-! ### impl_WordOfRank: function 47 -/
mutual
def impl_WordOfRank.j1 : Nat → Int → Int → Option (List Int × Bool)
 | 0, _, _ => none
 | k + 1, x0, x4 => if x0 < 0 then (impl_WordOfRank.j2 k x0 x4 true) else (impl_WordOfRank.j2 k x0 x4 (decide (x4 > 18)))
def impl_WordOfRank.j2 : Nat → Int → Int → Bool → Option (List Int × Bool)
 | 0, _, _, _ => none
 | k + 1, x0, x4, x27 => if x27 = true then (some (([] : List Int), false)) else (if 0 ≤ x4 then (if (x4 : Int).toNat ≤ 35184372088832 then (impl_WordOfRank.l1 k x0 (List.replicate (x4 : Int).toNat 0) (wrap64 (x4 - 1))) else (none)) else (none))
def impl_WordOfRank.l1 : Nat → Int → List Int → Int → Option (List Int × Bool)
 | 0, _, _, _ => none
 | k + 1, x0, x6, x7 => if x7 ≥ 0 then (if 0 ≤ x7 then (if x7 < (x6.length : Int) then (impl_WordOfRank.l1 k (wrap64 (Int.tdiv x0 3)) (x6.set (x7 : Int).toNat (Int.tmod x0 3)) (wrap64 (x7 - 1))) else (none)) else (none)) else (some (x6, true))
def impl_WordOfRank.l0 : Nat → Int → Int → Int → Option (List Int × Bool)
 | 0, _, _, _ => none
 | k + 1, x0, x4, x5 => if x0 ≥ x5 then (if x4 ≤ 18 then (impl_WordOfRank.l0 k (wrap64 (x0 - x5)) (wrap64 (x4 + 1)) (wrap64 (x5 * 3))) else (impl_WordOfRank.j1 k x0 x4)) else (impl_WordOfRank.j1 k x0 x4)
end
def impl_WordOfRank.f (k : Nat) (a0 : Int) : Option (List Int × Bool) := impl_WordOfRank.l0 k a0 0 1
theorem impl_WordOfRank.mono_l : ∀ k, (∀ y0 y1, LeO (impl_WordOfRank.j1 k y0 y1) (impl_WordOfRank.j1 (k + 1) y0 y1)) ∧ (∀ y0 y1 y2, LeO (impl_WordOfRank.j2 k y0 y1 y2) (impl_WordOfRank.j2 (k + 1) y0 y1 y2)) ∧ (∀ y0 y1 y2, LeO (impl_WordOfRank.l1 k y0 y1 y2) (impl_WordOfRank.l1 (k + 1) y0 y1 y2)) ∧ (∀ y0 y1 y2, LeO (impl_WordOfRank.l0 k y0 y1 y2) (impl_WordOfRank.l0 (k + 1) y0 y1 y2))
 | 0 => ⟨fun _ _ r h => by simp [impl_WordOfRank.j1] at h, fun _ _ _ r h => by simp [impl_WordOfRank.j2] at h, fun _ _ _ r h => by simp [impl_WordOfRank.l1] at h, fun _ _ _ r h => by simp [impl_WordOfRank.l0] at h⟩
 | k + 1 => by
  obtain ⟨ih0, ih1, ih2, ih3⟩ := impl_WordOfRank.mono_l k
  refine ⟨?_, ?_, ?_, ?_⟩
  ·
   intro y0 y1
   unfold impl_WordOfRank.j1
   repeat' first
   | (with_reducible exact ih0 _ _)
   | (with_reducible exact ih1 _ _ _)
   | (with_reducible exact ih2 _ _ _)
   | (with_reducible exact ih3 _ _ _)
   | (with_reducible exact LeO.refl _)
   | (with_reducible exact LeO.none _)
   | (with_reducible refine LeO.ite ?_ ?_)
   | (with_reducible refine LeO.bind ?_ (fun _ => ?_))
   | exact ih0 _ _
   | exact ih1 _ _ _
   | exact ih2 _ _ _
   | exact ih3 _ _ _
   | exact LeO.none _
   | refine LeO.ite ?_ ?_
   | refine LeO.bind ?_ (fun _ => ?_)
  ·
   intro y0 y1 y2
   unfold impl_WordOfRank.j2
   repeat' first
   | (with_reducible exact ih0 _ _)
   | (with_reducible exact ih1 _ _ _)
   | (with_reducible exact ih2 _ _ _)
   | (with_reducible exact ih3 _ _ _)
   | (with_reducible exact LeO.refl _)
   | (with_reducible exact LeO.none _)
   | (with_reducible refine LeO.ite ?_ ?_)
   | (with_reducible refine LeO.bind ?_ (fun _ => ?_))
   | exact ih0 _ _
   | exact ih1 _ _ _
   | exact ih2 _ _ _
   | exact ih3 _ _ _
   | exact LeO.none _
   | refine LeO.ite ?_ ?_
   | refine LeO.bind ?_ (fun _ => ?_)
  ·
   intro y0 y1 y2
   unfold impl_WordOfRank.l1
   repeat' first
   | (with_reducible exact ih0 _ _)
   | (with_reducible exact ih1 _ _ _)
   | (with_reducible exact ih2 _ _ _)
   | (with_reducible exact ih3 _ _ _)
   | (with_reducible exact LeO.refl _)
   | (with_reducible exact LeO.none _)
   | (with_reducible refine LeO.ite ?_ ?_)
   | (with_reducible refine LeO.bind ?_ (fun _ => ?_))
   | exact ih0 _ _
   | exact ih1 _ _ _
   | exact ih2 _ _ _
   | exact ih3 _ _ _
   | exact LeO.none _
   | refine LeO.ite ?_ ?_
   | refine LeO.bind ?_ (fun _ => ?_)
  ·
   intro y0 y1 y2
   unfold impl_WordOfRank.l0
   repeat' first
   | (with_reducible exact ih0 _ _)
   | (with_reducible exact ih1 _ _ _)
   | (with_reducible exact ih2 _ _ _)
   | (with_reducible exact ih3 _ _ _)
   | (with_reducible exact LeO.refl _)
   | (with_reducible exact LeO.none _)
   | (with_reducible refine LeO.ite ?_ ?_)
   | (with_reducible refine LeO.bind ?_ (fun _ => ?_))
   | exact ih0 _ _
   | exact ih1 _ _ _
   | exact ih2 _ _ _
   | exact ih3 _ _ _
   | exact LeO.none _
   | refine LeO.ite ?_ ?_
   | refine LeO.bind ?_ (fun _ => ?_)
theorem impl_WordOfRank.mono : ∀ a0 k, LeO (impl_WordOfRank.f k a0) (impl_WordOfRank.f (k + 1) a0) := by
 intro a0 k
 obtain ⟨ih0, ih1, ih2, ih3⟩ := impl_WordOfRank.mono_l k
 unfold impl_WordOfRank.f
 repeat' first
  | (with_reducible exact ih0 _ _)
  | (with_reducible exact ih1 _ _ _)
  | (with_reducible exact ih2 _ _ _)
  | (with_reducible exact ih3 _ _ _)
  | (with_reducible exact LeO.refl _)
  | (with_reducible exact LeO.none _)
  | (with_reducible refine LeO.ite ?_ ?_)
  | (with_reducible refine LeO.bind ?_ (fun _ => ?_))
  | exact ih0 _ _
  | exact ih1 _ _ _
  | exact ih2 _ _ _
  | exact ih3 _ _ _
  | exact LeO.none _
  | refine LeO.ite ?_ ?_
  | refine LeO.bind ?_ (fun _ => ?_)
set_option maxHeartbeats 8000000 in
set_option maxRecDepth 100000 in
theorem impl_WordOfRank.calls (k : Nat) (a0 : Int) (r1 : List Int) (r2 : Bool) (w : World) (h : impl_WordOfRank.f k a0 = some (r1, r2)) :
 Calls Try.prog 47 #[.int .i64 a0] w fun e w' => ∃ v0_ : Value, e = .returned (.tuple #[v0_, .bool r2]) ∧ Kd.R (Kd.int .i64) 3 w' w.heap.size (fun _ => True) v0_ r1 ∧ Below w.heap.size w w' := by
 have HB := Aside0.mk (Below.refl w.heap.size w)
 have H : (impl_WordOfRank.l0 k a0 0 1) = some (r1, r2) := h
 clear h
 have HC2 := Aside0.mk H
 clear H
 go_enter Try.func47, Try.ntmps47
 go_upto_block 0 with (fail)
 go_cut [0, 4] (fun v0 v4 wc => ∃ (kq : Nat) (x0_1 : Int) (x4_1 : Int), v0 = .int .i64 x0_1 ∧ v4 = .int .i64 x4_1 ∧ Aside0 (impl_WordOfRank.j1 kq x0_1 x4_1 = some (r1, r2)) ∧ Aside0 (kq ≤ k) ∧ Aside0 (Below w.heap.size w wc))
 case first =>
  have H := HC2.out
  clear HC2
  have H' := Aside0.mk H
  clear H
  go_wp2
  go_loopg [0, 4, 5] k (fun kq v0 v4 v5 w' => ∃ (x0_1 : Int) (x4_1 : Int) (x5_1 : Int), v0 = .int .i64 x0_1 ∧ v4 = .int .i64 x4_1 ∧ v5 = .int .i64 x5_1 ∧ Aside0 (impl_WordOfRank.l0 kq x0_1 x4_1 x5_1 = some (r1, r2)) ∧ Aside0 (kq ≤ k) ∧ Aside0 (Below w.heap.size w w'))
  case atStart => exact ⟨(a0), (0), (1), e2, e2, e2, H', ⟨Nat.le_refl _⟩, ⟨bq⟩⟩
  case round =>
   clear H'; (try clear p2)
   obtain ⟨x0_1, x4_1, x5_1, rfl, rfl, rfl, HA, HK1, HB⟩ := hrel
   cases gk with
   | zero => exact absurd HA.out (by simp [impl_WordOfRank.l0])
   | succ k1 =>
    have H := HA.out
    clear HA
    simp only [impl_WordOfRank.l0] at H
    by_cases c3 : x0_1 ≥ x5_1
    ·
     rw [if_pos c3] at H
     have c3b0 : decide (x5_1 ≤ x0_1) = true := decide_eq_true c3
     clear c3
     (first | rw [c3b0] | (simp only [i64_w, i32_w]; rw [c3b0]) | skip)
     by_cases c4 : x4_1 ≤ 18
     ·
      rw [if_pos c4] at H
      have c4b0 : decide (x4_1 ≤ 18) = true := decide_eq_true c4
      clear c4
      have H' := Aside0.mk H
      clear H
      go_wp2
      go_roundg k1
      case measure => have := HK1.out; omega
      case rel => exact ⟨(wrap64 (x0_1 - x5_1)), (wrap64 (x4_1 + 1)), (wrap64 (x5_1 * 3)), e2, e2, e2, H', ⟨by have := HK1.out; omega⟩, ⟨bq⟩⟩
     ·
      rw [if_neg c4] at H
      have c4b0 : decide (x4_1 ≤ 18) = false := decide_eq_false c4
      clear c4
      have H' := Aside0.mk H
      clear H
      go_wp2
      go_meet
      case rel => exact ⟨_, (x0_1), (x4_1), e2, e2, H', ⟨by have := HK1.out; first | omega | exact Nat.le_refl _⟩, ⟨bq⟩⟩
    ·
     rw [if_neg c3] at H
     have c3b0 : decide (x5_1 ≤ x0_1) = false := decide_eq_false c3
     clear c3
     (first | rw [c3b0] | (simp only [i64_w, i32_w]; rw [c3b0]) | skip)
     have H' := Aside0.mk H
     clear H
     go_wp2
     go_meet
     case rel => exact ⟨_, (x0_1), (x4_1), e2, e2, H', ⟨by have := HK1.out; first | omega | exact Nat.le_refl _⟩, ⟨bq⟩⟩
 case rest =>
  clear HC2; (try clear p2); (try clear c3); (try clear c3b0); (try clear c4); (try clear c4b0); (try clear p2)
  obtain ⟨kq, x0_1, x4_1, rfl, rfl, HA, HJ1, HB⟩ := hcut
  cases kq with
  | zero => exact absurd HA.out (by simp [impl_WordOfRank.j1])
  | succ kj1 =>
   have H := HA.out
   clear HA
   simp only [impl_WordOfRank.j1] at H
   have HC5 := Aside0.mk H
   clear H
   go_upto_region 6 with (fail)
   go_cut [27] (fun v27 wc => ∃ (kq : Nat) (x27_4 : Bool), v27 = .bool x27_4 ∧ Aside0 (impl_WordOfRank.j2 kq x0_1 x4_1 x27_4 = some (r1, r2)) ∧ Aside0 (kq ≤ kj1) ∧ Aside0 (Below w.heap.size w wc))
   case first =>
    have H := HC5.out
    clear HC5
    by_cases c6 : x0_1 < 0
    ·
     rw [if_pos c6] at H
     have c6b0 : decide (x0_1 < 0) = true := decide_eq_true c6
     clear c6
     (first | rw [c6b0] | (simp only [i64_w, i32_w]; rw [c6b0]) | skip)
     have H' := Aside0.mk H
     clear H
     go_wp2
     go_meet
     case rel => exact ⟨_, (true), e2, H', ⟨by have := HJ1.out; first | omega | exact Nat.le_refl _⟩, ⟨bq⟩⟩
    ·
     rw [if_neg c6] at H
     have c6b0 : decide (x0_1 < 0) = false := decide_eq_false c6
     clear c6
     (first | rw [c6b0] | (simp only [i64_w, i32_w]; rw [c6b0]) | skip)
     have H' := Aside0.mk H
     clear H
     go_wp2
     go_meet
     case rel => exact ⟨_, (decide (x4_1 > 18)), e2, H', ⟨by have := HJ1.out; first | omega | exact Nat.le_refl _⟩, ⟨bq⟩⟩
   case rest =>
    clear HC5; (try clear p2); (try clear c3); (try clear c3b0); (try clear c4); (try clear c4b0); (try clear c6); (try clear c6b0); (try clear p6); (try clear p2)
    obtain ⟨kq, x27_4, rfl, HA, HJ4, HB⟩ := hcut
    cases kq with
    | zero => exact absurd HA.out (by simp [impl_WordOfRank.j2])
    | succ kj4 =>
     have H := HA.out
     clear HA
     simp only [impl_WordOfRank.j2] at H
     by_cases c7 : x27_4 = true
     ·
      subst c7
      have H1 : (some (([] : List Int), false)) = some (r1, r2) := by rw [if_pos rfl] at H; exact H
      clear H
      have H := H1
      clear H1
      simp only [Option.some.injEq, Prod.mk.injEq] at H
      obtain ⟨rfl, rfl⟩ := H
      go_wp2
      go_ret2
      exact ⟨_, e1, by first | exact Kd.R_nil _ _ _ _ _ | exact Kd.N_nil _ _ _ _ _ | exact Kd.V_nil _ _ _ _ _ | exact Kd.Q_nil _ _ _ _ _ | exact Kd.S_nil _ _ _ _ _, bq⟩
     ·
      replace c7 := Bool.eq_false_iff.mpr c7
      subst c7
      have H1 : (if 0 ≤ x4_1 then (if (x4_1 : Int).toNat ≤ 35184372088832 then (impl_WordOfRank.l1 kj4 x0_1 (List.replicate (x4_1 : Int).toNat 0) (wrap64 (x4_1 - 1))) else (none)) else (none)) = some (r1, r2) := by rw [if_neg (show ¬ (false = true) by decide)] at H; exact H
      clear H
      have H := H1
      clear H1
      by_cases c8 : 0 ≤ x4_1
      ·
       rw [if_pos c8] at H
       have c8b0 := eq_true c8
       have c8b1 : decide (0 ≤ x4_1) = true := decide_eq_true c8
       clear c8
       by_cases c9 : (x4_1 : Int).toNat ≤ 35184372088832
       ·
        rw [if_pos c9] at H
        have c9b0 := eq_true c9
        have c9b1 : decide ((x4_1 : Int).toNat ≤ 35184372088832) = true := decide_eq_true c9
        clear c9
        obtain ⟨y350, hy350⟩ : ∃ y_ : List Int, y_ = (List.replicate (x4_1 : Int).toNat 0) := ⟨_, rfl⟩
        replace H : (impl_WordOfRank.l1 kj4 x0_1 y350 (wrap64 (x4_1 - 1))) = some (r1, r2) := by first | (rw [hy350]; with_reducible exact H) | (have H2_ := (Option.bind_some _ _).symm.trans H; rw [hy350]; with_reducible exact H2_) | (have H2_ := (Option.bind_some _ _).symm.trans H; with_reducible exact H2_) | with_reducible exact H | (rw [hy350]; exact H) | exact H
        have Ny350 := Aside0.mk hy350
        clear hy350
        have H' := Aside0.mk H
        clear H
        go_wp2_with (first | ((with_reducible refine gate_dst (N := 29) rfl ?_); refine Kd.R_make (Kd.int .i64) _ 3 rfl (N := 29) rfl 24 _ _ rfl x4_1 rfl rfl Try.underlying24 (.int .i64 0) 8 info3 rfl (by decide) (by omega) 0 (ok := fun _ => True) (okp := fun _ => True) rfl (fun _ hk => hk) trivial (od) (Nat.le_trans (Nat.mul_le_mul_right _ (od : x4_1.toNat ≤ 35184372088832)) (by omega)) (Below.refl _ _) (Nat.le_refl _) ?_; intro v351 w10 ho11 hb hg_ hnew_; clear hg_ hnew_; (first | rw [← Ny350.out] at ho11 | (simp only [Int.reduceToNat] at ho11; rw [← Ny350.out] at ho11)); have n0_ := Aside0.mk (Kd.R_lower ho11 (below_size bq)); have n1_ := Aside0.mk (below_step bq hb); clear HB; have HO352 := n0_; have HB := n1_; clear n0_ n1_; clear hb ho11))
        go_loopg [0, 7] kj4 (fun kq v0 v7 w' => ∃ (x0_3 : Int) (x6_3 : List Int) (x7_3 : Int), v0 = .int .i64 x0_3 ∧ v7 = .int .i64 x7_3 ∧ Aside0 (impl_WordOfRank.l1 kq x0_3 x6_3 x7_3 = some (r1, r2)) ∧ Aside0 (kq ≤ kj4) ∧ Aside0 (Kd.R (Kd.int .i64) 3 w' w.heap.size (fun _ => True) v351 x6_3) ∧ Aside0 (Below w.heap.size w w'))
        case atStart => exact ⟨(x0_1), (y350), (wrap64 (x4_1 - 1)), e2, e2, H', ⟨Nat.le_refl _⟩, ⟨by (with_reducible repeat (first | apply Kd.R_alloc | apply Kd.R_drewN | apply Kd.R_drew)); exact HO352.out⟩, ⟨bq⟩⟩
        case round =>
         clear H'; (try clear p2); (try clear c3); (try clear c3b0); (try clear c4); (try clear c4b0); (try clear c6); (try clear c6b0); (try clear p6); (try clear c7); (try clear c8); (try clear c8b0); (try clear c8b1); (try clear c9); (try clear c9b0); (try clear c9b1); (try clear p2); (try clear p6)
         obtain ⟨x0_3, x6_3, x7_3, rfl, rfl, HA, HK3, HO_6, HB⟩ := hrel
         cases gk with
         | zero => exact absurd HA.out (by simp [impl_WordOfRank.l1])
         | succ k3 =>
          have H := HA.out
          clear HA
          simp only [impl_WordOfRank.l1] at H
          by_cases c12 : x7_3 ≥ 0
          ·
           rw [if_pos c12] at H
           have c12b0 : decide (0 ≤ x7_3) = true := decide_eq_true c12
           clear c12
           by_cases c13 : 0 ≤ x7_3
           ·
            rw [if_pos c13] at H
            have c13b0 : decide (0 ≤ x7_3) = true := decide_eq_true c13
            clear c13
            by_cases c14 : x7_3 < (x6_3.length : Int)
            ·
             rw [if_pos c14] at H
             have c14b0 : decide (x7_3 < (x6_3.length : Int)) = true := decide_eq_true c14
             clear c14
             obtain ⟨y353, hy353⟩ : ∃ y_ : List Int, y_ = (x6_3.set (x7_3 : Int).toNat (Int.tmod x0_3 3)) := ⟨_, rfl⟩
             replace H : (impl_WordOfRank.l1 k3 (wrap64 (Int.tdiv x0_3 3)) y353 (wrap64 (x7_3 - 1))) = some (r1, r2) := by first | (rw [hy353]; with_reducible exact H) | (have H2_ := (Option.bind_some _ _).symm.trans H; rw [hy353]; with_reducible exact H2_) | (have H2_ := (Option.bind_some _ _).symm.trans H; with_reducible exact H2_) | with_reducible exact H | (rw [hy353]; exact H) | exact H
             have Ny353 := Aside0.mk hy353
             clear hy353
             have H' := Aside0.mk H
             clear H
             have p15 : 0 ≤ (x7_3 : Int) := od
             have q15 : (x7_3 : Int) < ((x6_3.length : Int) : Int) := od
             obtain ⟨go15, co15, eo15, gb15, gl15, cl15, HG15⟩ := Kd.R_form HO_6.out (by omega)
             (first | cases eo15 | (injection eo15 with ea_ en_ ec_; (first | subst ea_ | (injection ea_ with ea_; subst ea_)); subst ec_; clear en_))
             have GB15 := Aside0.mk gb15
             have GG15 := Aside0.mk HG15
             clear gb15 gl15 HG15
             obtain ⟨hx15_0, hf15_0⟩ := Kd.R_celln 0 HO_6.out (x7_3 : Int) p15 q15
             replace p15 := eq_true p15
             replace q15 := eq_true q15
             have HP16 := Kd.R_putg HO_6.out (x7_3 : Int) (Int.tmod x0_3 3)
             go_wp2_with (first | ((with_reducible refine gate_store (t := 3) (p := 40) rfl ?_); refine store_event (t := 3) (p := 40) (v := ?vo_w17) (w1 := (wr.setCell ⟨go15, (x7_3 : Int).toNat, none⟩ (.int .i64 (Int.tmod x0_3 3)))) ?hg ?ho ?hn ?hr ?_; (case ho => rfl); (case hg => rfl); (case hn => rfl); (case hr => first | (go_simp; done) | (go_simp; rfl)); intro w17 hw; have hg : wr.grownBy w17 (some go15) := (by rw [hw]; exact HP16.2); have hp_ : Kd.R (Kd.int .i64) 3 w17 w.heap.size (fun _ => True) (.slice (some ⟨go15, 0, none⟩) x6_3.length co15) y353 := (by rw [hw, Ny353.out]; exact HP16.1); clear HP16; have n0_ := Aside0.mk (hp_); have n1_ := Aside0.mk ((by rw [hw]; exact below_set (HB.out) GB15.out : Below w.heap.size w w17)); clear HO_6; clear HB; have HO_6 := n0_; have HB := n1_; clear n0_ n1_; clear hg hw hp_))
             go_roundg k3
             case measure => have := HJ1.out; have := HJ4.out; have := HK3.out; omega
             case rel => exact ⟨(wrap64 (Int.tdiv x0_3 3)), (y353), (wrap64 (x7_3 - 1)), e2, e2, H', ⟨by have := HJ1.out; have := HJ4.out; have := HK3.out; omega⟩, ⟨by (with_reducible repeat (first | apply Kd.R_alloc | apply Kd.R_drewN | apply Kd.R_drew)); exact HO_6.out⟩, ⟨bq⟩⟩
            ·
             rw [if_neg c14] at H
             exact absurd H (by simp)
           ·
            rw [if_neg c13] at H
            exact absurd H (by simp)
          ·
           rw [if_neg c12] at H
           have c12b0 : decide (0 ≤ x7_3) = false := decide_eq_false c12
           clear c12
           simp only [Option.some.injEq, Prod.mk.injEq] at H
           obtain ⟨rfl, rfl⟩ := H
           go_wp2
           go_ret2
           exact ⟨_, e1, by (with_reducible repeat (first | apply Kd.R_alloc | apply Kd.R_drewN | apply Kd.R_drew)); exact HO_6.out, bq⟩
       ·
        rw [if_neg c9] at H
        exact absurd H (by simp)
      ·
       rw [if_neg c8] at H
       exact absurd H (by simp)

/-! ### spec_WordOfRank: function 48 -/
mutual
def spec_WordOfRank.j0 : Nat → Int → Bool → Option (List Int × Bool)
 | 0, _, _ => none
 | k + 1, x0, x16 => if x16 = true then (some (([] : List Int), false)) else (spec_WordOfRank.l0 k x0 0)
def spec_WordOfRank.l0 : Nat → Int → Int → Option (List Int × Bool)
 | 0, _, _ => none
 | k + 1, x0, x4 => (spec_riPower.f k (wrap64 (x4 + 1))).bind fun t355 => (if (wrap64 (Int.tdiv (wrap64 (t355 - 1)) 2)) ≤ x0 then (spec_WordOfRank.l0 k x0 (wrap64 (x4 + 1))) else ((spec_riPower.f k x4).bind fun t356 => (if 0 ≤ x4 then (if (x4 : Int).toNat ≤ 35184372088832 then (spec_WordOfRank.l1 k (wrap64 (x0 - (wrap64 (Int.tdiv (wrap64 (t356 - 1)) 2)))) (List.replicate (x4 : Int).toNat 0) (wrap64 (x4 - 1))) else (none)) else (none))))
def spec_WordOfRank.l1 : Nat → Int → List Int → Int → Option (List Int × Bool)
 | 0, _, _, _ => none
 | k + 1, x5, x6, x7 => if x7 ≥ 0 then (if 0 ≤ x7 then (if x7 < (x6.length : Int) then (spec_WordOfRank.l1 k (wrap64 (Int.tdiv x5 3)) (x6.set (x7 : Int).toNat (Int.tmod x5 3)) (wrap64 (x7 - 1))) else (none)) else (none)) else (some (x6, true))
end
def spec_WordOfRank.f (k : Nat) (a0 : Int) : Option (List Int × Bool) := if a0 < 0 then (spec_WordOfRank.j0 k a0 true) else ((spec_riPower.f k 19).bind fun t354 => (spec_WordOfRank.j0 k a0 (decide (a0 ≥ (wrap64 (Int.tdiv (wrap64 (t354 - 1)) 2))))))
theorem spec_WordOfRank.mono_l : ∀ k, (∀ y0 y1, LeO (spec_WordOfRank.j0 k y0 y1) (spec_WordOfRank.j0 (k + 1) y0 y1)) ∧ (∀ y0 y1, LeO (spec_WordOfRank.l0 k y0 y1) (spec_WordOfRank.l0 (k + 1) y0 y1)) ∧ (∀ y0 y1 y2, LeO (spec_WordOfRank.l1 k y0 y1 y2) (spec_WordOfRank.l1 (k + 1) y0 y1 y2))
 | 0 => ⟨fun _ _ r h => by simp [spec_WordOfRank.j0] at h, fun _ _ r h => by simp [spec_WordOfRank.l0] at h, fun _ _ _ r h => by simp [spec_WordOfRank.l1] at h⟩
 | k + 1 => by
  obtain ⟨ih0, ih1, ih2⟩ := spec_WordOfRank.mono_l k
  refine ⟨?_, ?_, ?_⟩
  ·
   intro y0 y1
   unfold spec_WordOfRank.j0
   repeat' first
   | (with_reducible exact ih0 _ _)
   | (with_reducible exact ih1 _ _)
   | (with_reducible exact ih2 _ _ _)
   | (with_reducible exact spec_riPower.mono _ _)
   | (with_reducible exact LeO.refl _)
   | (with_reducible exact LeO.none _)
   | (with_reducible refine LeO.ite ?_ ?_)
   | (with_reducible refine LeO.bind ?_ (fun _ => ?_))
   | exact ih0 _ _
   | exact ih1 _ _
   | exact ih2 _ _ _
   | exact spec_riPower.mono _ _
   | exact LeO.none _
   | refine LeO.ite ?_ ?_
   | refine LeO.bind ?_ (fun _ => ?_)
  ·
   intro y0 y1
   unfold spec_WordOfRank.l0
   repeat' first
   | (with_reducible exact ih0 _ _)
   | (with_reducible exact ih1 _ _)
   | (with_reducible exact ih2 _ _ _)
   | (with_reducible exact spec_riPower.mono _ _)
   | (with_reducible exact LeO.refl _)
   | (with_reducible exact LeO.none _)
   | (with_reducible refine LeO.ite ?_ ?_)
   | (with_reducible refine LeO.bind ?_ (fun _ => ?_))
   | exact ih0 _ _
   | exact ih1 _ _
   | exact ih2 _ _ _
   | exact spec_riPower.mono _ _
   | exact LeO.none _
   | refine LeO.ite ?_ ?_
   | refine LeO.bind ?_ (fun _ => ?_)
  ·
   intro y0 y1 y2
   unfold spec_WordOfRank.l1
   repeat' first
   | (with_reducible exact ih0 _ _)
   | (with_reducible exact ih1 _ _)
   | (with_reducible exact ih2 _ _ _)
   | (with_reducible exact spec_riPower.mono _ _)
   | (with_reducible exact LeO.refl _)
   | (with_reducible exact LeO.none _)
   | (with_reducible refine LeO.ite ?_ ?_)
   | (with_reducible refine LeO.bind ?_ (fun _ => ?_))
   | exact ih0 _ _
   | exact ih1 _ _
   | exact ih2 _ _ _
   | exact spec_riPower.mono _ _
   | exact LeO.none _
   | refine LeO.ite ?_ ?_
   | refine LeO.bind ?_ (fun _ => ?_)
theorem spec_WordOfRank.mono : ∀ a0 k, LeO (spec_WordOfRank.f k a0) (spec_WordOfRank.f (k + 1) a0) := by
 intro a0 k
 obtain ⟨ih0, ih1, ih2⟩ := spec_WordOfRank.mono_l k
 unfold spec_WordOfRank.f
 repeat' first
  | (with_reducible exact ih0 _ _)
  | (with_reducible exact ih1 _ _)
  | (with_reducible exact ih2 _ _ _)
  | (with_reducible exact spec_riPower.mono _ _)
  | (with_reducible exact LeO.refl _)
  | (with_reducible exact LeO.none _)
  | (with_reducible refine LeO.ite ?_ ?_)
  | (with_reducible refine LeO.bind ?_ (fun _ => ?_))
  | exact ih0 _ _
  | exact ih1 _ _
  | exact ih2 _ _ _
  | exact spec_riPower.mono _ _
  | exact LeO.none _
  | refine LeO.ite ?_ ?_
  | refine LeO.bind ?_ (fun _ => ?_)
set_option maxHeartbeats 8000000 in
set_option maxRecDepth 100000 in
theorem spec_WordOfRank.calls (k : Nat) (a0 : Int) (r1 : List Int) (r2 : Bool) (w : World) (h : spec_WordOfRank.f k a0 = some (r1, r2)) :
 Calls Try.prog 48 #[.int .i64 a0] w fun e w' => ∃ v0_ : Value, e = .returned (.tuple #[v0_, .bool r2]) ∧ Kd.R (Kd.int .i64) 3 w' w.heap.size (fun _ => True) v0_ r1 ∧ Below w.heap.size w w' := by
 have HB := Aside0.mk (Below.refl w.heap.size w)
 have H : (if a0 < 0 then (spec_WordOfRank.j0 k a0 true) else ((spec_riPower.f k 19).bind fun t354 => (spec_WordOfRank.j0 k a0 (decide (a0 ≥ (wrap64 (Int.tdiv (wrap64 (t354 - 1)) 2))))))) = some (r1, r2) := h
 clear h
 have HC2 := Aside0.mk H
 clear H
 go_enter Try.func48, Try.ntmps48
 go_upto_region 1 with (fail)
 go_cut [16] (fun v16 wc => ∃ (kq : Nat) (x16_1 : Bool), v16 = .bool x16_1 ∧ Aside0 (spec_WordOfRank.j0 kq a0 x16_1 = some (r1, r2)) ∧ Aside0 (kq ≤ k) ∧ Aside0 (Below w.heap.size w wc))
 case first =>
  have H := HC2.out
  clear HC2
  by_cases c3 : a0 < 0
  ·
   rw [if_pos c3] at H
   have c3b0 : decide (a0 < 0) = true := decide_eq_true c3
   clear c3
   (first | rw [c3b0] | (simp only [i64_w, i32_w]; rw [c3b0]) | skip)
   have H' := Aside0.mk H
   clear H
   go_wp2
   go_meet
   case rel => exact ⟨_, (true), e2, H', ⟨by first | omega | exact Nat.le_refl _⟩, ⟨bq⟩⟩
  ·
   rw [if_neg c3] at H
   have c3b0 : decide (a0 < 0) = false := decide_eq_false c3
   clear c3
   (first | rw [c3b0] | (simp only [i64_w, i32_w]; rw [c3b0]) | skip)
   replace H := Option.bind_eq_some_iff.mp H
   obtain ⟨t354, A40, H⟩ := H
   replace H : (spec_WordOfRank.j0 k a0 (decide (a0 ≥ (wrap64 (Int.tdiv (wrap64 (t354 - 1)) 2))))) = some (r1, r2) := H
   have A4 := Aside0.mk A40
   clear A40
   have H' := Aside0.mk H
   clear H
   go_wp2_with (first | (go_at_call 97; (with_reducible refine (spec_riPower.calls k 19 t354 _ A4.out).mono ?_); rintro e w' ⟨rfl, ⟨nd, rfl⟩⟩))
   go_meet
   case rel => exact ⟨_, (decide (a0 ≥ (wrap64 (Int.tdiv (wrap64 (t354 - 1)) 2)))), e2, H', ⟨by first | omega | exact Nat.le_refl _⟩, ⟨bq⟩⟩
 case rest =>
  clear HC2; (try clear p2); (try clear c3); (try clear c3b0); (try clear c4)
  obtain ⟨kq, x16_1, rfl, HA, HJ1, HB⟩ := hcut
  cases kq with
  | zero => exact absurd HA.out (by simp [spec_WordOfRank.j0])
  | succ kj1 =>
   have H := HA.out
   clear HA
   simp only [spec_WordOfRank.j0] at H
   by_cases c5 : x16_1 = true
   ·
    subst c5
    have H1 : (some (([] : List Int), false)) = some (r1, r2) := by rw [if_pos rfl] at H; exact H
    clear H
    have H := H1
    clear H1
    simp only [Option.some.injEq, Prod.mk.injEq] at H
    obtain ⟨rfl, rfl⟩ := H
    go_wp2
    go_ret2
    exact ⟨_, e1, by first | exact Kd.R_nil _ _ _ _ _ | exact Kd.N_nil _ _ _ _ _ | exact Kd.V_nil _ _ _ _ _ | exact Kd.Q_nil _ _ _ _ _ | exact Kd.S_nil _ _ _ _ _, bq⟩
   ·
    replace c5 := Bool.eq_false_iff.mpr c5
    subst c5
    have H1 : (spec_WordOfRank.l0 kj1 a0 0) = some (r1, r2) := by rw [if_neg (show ¬ (false = true) by decide)] at H; exact H
    clear H
    have H := H1
    clear H1
    have H' := Aside0.mk H
    clear H
    go_wp2
    go_loopg [4] kj1 (fun kq v4 w' => ∃ (x4_2 : Int), v4 = .int .i64 x4_2 ∧ Aside0 (spec_WordOfRank.l0 kq a0 x4_2 = some (r1, r2)) ∧ Aside0 (kq ≤ kj1) ∧ Aside0 (Below w.heap.size w w'))
    case atStart => exact ⟨(0), e2, H', ⟨Nat.le_refl _⟩, ⟨bq⟩⟩
    case round =>
     clear H'; (try clear p2); (try clear c3); (try clear c3b0); (try clear c4); (try clear c5); (try clear p2)
     obtain ⟨x4_2, rfl, HA, HK2, HB⟩ := hrel
     cases gk with
     | zero => exact absurd HA.out (by simp [spec_WordOfRank.l0])
     | succ k2 =>
      have H := HA.out
      clear HA
      simp only [spec_WordOfRank.l0] at H
      replace H := Option.bind_eq_some_iff.mp H
      obtain ⟨t355, A60, H⟩ := H
      replace H : (if (wrap64 (Int.tdiv (wrap64 (t355 - 1)) 2)) ≤ a0 then (spec_WordOfRank.l0 k2 a0 (wrap64 (x4_2 + 1))) else ((spec_riPower.f k2 x4_2).bind fun t356 => (if 0 ≤ x4_2 then (if (x4_2 : Int).toNat ≤ 35184372088832 then (spec_WordOfRank.l1 k2 (wrap64 (a0 - (wrap64 (Int.tdiv (wrap64 (t356 - 1)) 2)))) (List.replicate (x4_2 : Int).toNat 0) (wrap64 (x4_2 - 1))) else (none)) else (none)))) = some (r1, r2) := H
      have A6 := Aside0.mk A60
      clear A60
      by_cases c7 : (wrap64 (Int.tdiv (wrap64 (t355 - 1)) 2)) ≤ a0
      ·
       rw [if_pos c7] at H
       have c7b0 : decide ((wrap64 (Int.tdiv (wrap64 (t355 - 1)) 2)) ≤ a0) = true := decide_eq_true c7
       clear c7
       have H' := Aside0.mk H
       clear H
       go_wp2_with (first | ((with_reducible refine gate_callee (f := 97) rfl ?_); refine gL (some 19) rfl rfl Try.func97 (by kernel_rfl) rfl #[.int .i64 (wrap64 (x4_2 + 1))] rfl ?_; (with_reducible refine (spec_riPower.calls k2 (wrap64 (x4_2 + 1)) t355 _ A6.out).mono ?_); rintro e w' ⟨rfl, ⟨nd, rfl⟩⟩; refine ⟨_, rfl, ?_⟩))
       go_roundg k2
       case measure => have := HJ1.out; have := HK2.out; omega
       case rel => exact ⟨(wrap64 (x4_2 + 1)), e2, H', ⟨by have := HJ1.out; have := HK2.out; omega⟩, ⟨bq⟩⟩
      ·
       rw [if_neg c7] at H
       have c7b0 : decide ((wrap64 (Int.tdiv (wrap64 (t355 - 1)) 2)) ≤ a0) = false := decide_eq_false c7
       clear c7
       replace H := Option.bind_eq_some_iff.mp H
       obtain ⟨t356, A80, H⟩ := H
       replace H : (if 0 ≤ x4_2 then (if (x4_2 : Int).toNat ≤ 35184372088832 then (spec_WordOfRank.l1 k2 (wrap64 (a0 - (wrap64 (Int.tdiv (wrap64 (t356 - 1)) 2)))) (List.replicate (x4_2 : Int).toNat 0) (wrap64 (x4_2 - 1))) else (none)) else (none)) = some (r1, r2) := H
       have A8 := Aside0.mk A80
       clear A80
       by_cases c9 : 0 ≤ x4_2
       ·
        rw [if_pos c9] at H
        have c9b0 := eq_true c9
        have c9b1 : decide (0 ≤ x4_2) = true := decide_eq_true c9
        clear c9
        by_cases c10 : (x4_2 : Int).toNat ≤ 35184372088832
        ·
         rw [if_pos c10] at H
         have c10b0 := eq_true c10
         have c10b1 : decide ((x4_2 : Int).toNat ≤ 35184372088832) = true := decide_eq_true c10
         clear c10
         obtain ⟨y357, hy357⟩ : ∃ y_ : List Int, y_ = (List.replicate (x4_2 : Int).toNat 0) := ⟨_, rfl⟩
         replace H : (spec_WordOfRank.l1 k2 (wrap64 (a0 - (wrap64 (Int.tdiv (wrap64 (t356 - 1)) 2)))) y357 (wrap64 (x4_2 - 1))) = some (r1, r2) := by first | (rw [hy357]; with_reducible exact H) | (have H2_ := (Option.bind_some _ _).symm.trans H; rw [hy357]; with_reducible exact H2_) | (have H2_ := (Option.bind_some _ _).symm.trans H; with_reducible exact H2_) | with_reducible exact H | (rw [hy357]; exact H) | exact H
         have Ny357 := Aside0.mk hy357
         clear hy357
         have H' := Aside0.mk H
         clear H
         go_wp2_with (first | ((with_reducible refine gate_callee (f := 97) rfl ?_); refine gL (some 19) rfl rfl Try.func97 (by kernel_rfl) rfl #[.int .i64 (wrap64 (x4_2 + 1))] rfl ?_; (with_reducible refine (spec_riPower.calls k2 (wrap64 (x4_2 + 1)) t355 _ A6.out).mono ?_); rintro e w' ⟨rfl, ⟨nd, rfl⟩⟩; refine ⟨_, rfl, ?_⟩) | ((with_reducible refine gate_callee (f := 97) rfl ?_); refine gL (some 28) rfl rfl Try.func97 (by kernel_rfl) rfl #[.int .i64 x4_2] rfl ?_; (with_reducible refine (spec_riPower.calls k2 x4_2 t356 _ A8.out).mono ?_); rintro e w' ⟨rfl, ⟨nd, rfl⟩⟩; refine ⟨_, rfl, ?_⟩) | ((with_reducible refine gate_dst (N := 33) rfl ?_); refine Kd.R_make (Kd.int .i64) _ 3 rfl (N := 33) rfl 24 _ _ rfl x4_2 rfl rfl Try.underlying24 (.int .i64 0) 8 info3 rfl (by decide) (by omega) 0 (ok := fun _ => True) (okp := fun _ => True) rfl (fun _ hk => hk) trivial (od) (Nat.le_trans (Nat.mul_le_mul_right _ (od : x4_2.toNat ≤ 35184372088832)) (by omega)) (Below.refl _ _) (Nat.le_refl _) ?_; intro v358 w11 ho12 hb hg_ hnew_; clear hg_ hnew_; (first | rw [← Ny357.out] at ho12 | (simp only [Int.reduceToNat] at ho12; rw [← Ny357.out] at ho12)); have n0_ := Aside0.mk (Kd.R_lower ho12 (below_size bq)); have n1_ := Aside0.mk (below_step bq hb); clear HB; have HO359 := n0_; have HB := n1_; clear n0_ n1_; clear hb ho12))
         go_loopg [5, 7] k2 (fun kq v5 v7 w' => ∃ (x5_3 : Int) (x6_3 : List Int) (x7_3 : Int), v5 = .int .i64 x5_3 ∧ v7 = .int .i64 x7_3 ∧ Aside0 (spec_WordOfRank.l1 kq x5_3 x6_3 x7_3 = some (r1, r2)) ∧ Aside0 (kq ≤ k2) ∧ Aside0 (Kd.R (Kd.int .i64) 3 w' w.heap.size (fun _ => True) v358 x6_3) ∧ Aside0 (Below w.heap.size w w'))
         case atStart => exact ⟨(wrap64 (a0 - (wrap64 (Int.tdiv (wrap64 (t356 - 1)) 2)))), (y357), (wrap64 (x4_2 - 1)), e2, e2, H', ⟨Nat.le_refl _⟩, ⟨by (with_reducible repeat (first | apply Kd.R_alloc | apply Kd.R_drewN | apply Kd.R_drew)); exact HO359.out⟩, ⟨bq⟩⟩
         case round =>
          clear H'; (try clear c1); (try clear p2); (try clear c3); (try clear c3b0); (try clear c4); (try clear c5); (try clear p6); (try clear c7); (try clear c7b0); (try clear c9); (try clear c9b0); (try clear c9b1); (try clear c10); (try clear c10b0); (try clear c10b1); (try clear p2)
          obtain ⟨x5_3, x6_3, x7_3, rfl, rfl, HA, HK3, HO_6, HB⟩ := hrel
          cases gk with
          | zero => exact absurd HA.out (by simp [spec_WordOfRank.l1])
          | succ k3 =>
           have H := HA.out
           clear HA
           simp only [spec_WordOfRank.l1] at H
           by_cases c13 : x7_3 ≥ 0
           ·
            rw [if_pos c13] at H
            have c13b0 : decide (0 ≤ x7_3) = true := decide_eq_true c13
            clear c13
            by_cases c14 : 0 ≤ x7_3
            ·
             rw [if_pos c14] at H
             have c14b0 : decide (0 ≤ x7_3) = true := decide_eq_true c14
             clear c14
             by_cases c15 : x7_3 < (x6_3.length : Int)
             ·
              rw [if_pos c15] at H
              have c15b0 : decide (x7_3 < (x6_3.length : Int)) = true := decide_eq_true c15
              clear c15
              obtain ⟨y360, hy360⟩ : ∃ y_ : List Int, y_ = (x6_3.set (x7_3 : Int).toNat (Int.tmod x5_3 3)) := ⟨_, rfl⟩
              replace H : (spec_WordOfRank.l1 k3 (wrap64 (Int.tdiv x5_3 3)) y360 (wrap64 (x7_3 - 1))) = some (r1, r2) := by first | (rw [hy360]; with_reducible exact H) | (have H2_ := (Option.bind_some _ _).symm.trans H; rw [hy360]; with_reducible exact H2_) | (have H2_ := (Option.bind_some _ _).symm.trans H; with_reducible exact H2_) | with_reducible exact H | (rw [hy360]; exact H) | exact H
              have Ny360 := Aside0.mk hy360
              clear hy360
              have H' := Aside0.mk H
              clear H
              have p16 : 0 ≤ (x7_3 : Int) := od
              have q16 : (x7_3 : Int) < ((x6_3.length : Int) : Int) := od
              obtain ⟨go16, co16, eo16, gb16, gl16, cl16, HG16⟩ := Kd.R_form HO_6.out (by omega)
              (first | cases eo16 | (injection eo16 with ea_ en_ ec_; (first | subst ea_ | (injection ea_ with ea_; subst ea_)); subst ec_; clear en_))
              have GB16 := Aside0.mk gb16
              have GG16 := Aside0.mk HG16
              clear gb16 gl16 HG16
              obtain ⟨hx16_0, hf16_0⟩ := Kd.R_celln 0 HO_6.out (x7_3 : Int) p16 q16
              replace p16 := eq_true p16
              replace q16 := eq_true q16
              have HP17 := Kd.R_putg HO_6.out (x7_3 : Int) (Int.tmod x5_3 3)
              go_wp2_with (first | ((with_reducible refine gate_store (t := 3) (p := 44) rfl ?_); refine store_event (t := 3) (p := 44) (v := ?vo_w18) (w1 := (wr.setCell ⟨go16, (x7_3 : Int).toNat, none⟩ (.int .i64 (Int.tmod x5_3 3)))) ?hg ?ho ?hn ?hr ?_; (case ho => rfl); (case hg => rfl); (case hn => rfl); (case hr => first | (go_simp; done) | (go_simp; rfl)); intro w18 hw; have hg : wr.grownBy w18 (some go16) := (by rw [hw]; exact HP17.2); have hp_ : Kd.R (Kd.int .i64) 3 w18 w.heap.size (fun _ => True) (.slice (some ⟨go16, 0, none⟩) x6_3.length co16) y360 := (by rw [hw, Ny360.out]; exact HP17.1); clear HP17; have n0_ := Aside0.mk (hp_); have n1_ := Aside0.mk ((by rw [hw]; exact below_set (HB.out) GB16.out : Below w.heap.size w w18)); clear HO_6; clear HB; have HO_6 := n0_; have HB := n1_; clear n0_ n1_; clear hg hw hp_))
              go_roundg k3
              case measure => have := HJ1.out; have := HK2.out; have := HK3.out; omega
              case rel => exact ⟨(wrap64 (Int.tdiv x5_3 3)), (y360), (wrap64 (x7_3 - 1)), e2, e2, H', ⟨by have := HJ1.out; have := HK2.out; have := HK3.out; omega⟩, ⟨by (with_reducible repeat (first | apply Kd.R_alloc | apply Kd.R_drewN | apply Kd.R_drew)); exact HO_6.out⟩, ⟨bq⟩⟩
             ·
              rw [if_neg c15] at H
              exact absurd H (by simp)
            ·
             rw [if_neg c14] at H
             exact absurd H (by simp)
           ·
            rw [if_neg c13] at H
            have c13b0 : decide (0 ≤ x7_3) = false := decide_eq_false c13
            clear c13
            simp only [Option.some.injEq, Prod.mk.injEq] at H
            obtain ⟨rfl, rfl⟩ := H
            go_wp2
            go_ret2
            exact ⟨_, e1, by (with_reducible repeat (first | apply Kd.R_alloc | apply Kd.R_drewN | apply Kd.R_drew)); exact HO_6.out, bq⟩
        ·
         rw [if_neg c10] at H
         exact absurd H (by simp)
       ·
        rw [if_neg c9] at H
        exact absurd H (by simp)

end Go.Proofs.Ytnfbkakblnppaaa.P
