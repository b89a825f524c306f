-- Written by a program of this session (wip/mkprint.py over the kit's print), out of the translation. Not trusted: Lean checks it.
import Derived.Test.YtljlplohicffpaaGreatKx0
import Derived.Test.YtljlplohicffpaaGreatKx1
import Derived.Test.YtljlplohicffpaaGreatGA
namespace Go.Proofs.YtljlplohicffpaaGreat.P
open Go.RowKit Go.Proofs.YtljlplohicffpaaGreatW.PrintWords Go.Proofs.YtljlplohicffpaaGreatW.PrintLast Go.Proofs.YtljlplohicffpaaGreatW.PrintMore
attribute [local go_sem] max2_int min2_int max_two min_two max_three min_three max_four min_four   -- for this text's walks alone
set_option linter.unusedVariables false
set_option linter.unusedSimpArgs false
set_option maxHeartbeats 8000000
set_option maxRecDepth 100000

/-! ### spec_l1Cur_letters: function 42 -/
mutual
def spec_l1Cur_letters.j0 : Nat → Int → Int → Int → Bool → List Int → Int → Int → Option (ByteArray × Int × Int)
 | 0, _, _, _, _, _, _, _ => none
 | k + 1, x5, x6, x7, x28, x1000, x1001, x1002 => if x28 = true then (if x7 = 0 then (none) else (spec_l1Cur_letters.j1 k (wrap64 (Int.tdiv x5 x7)) (wrap64 (Int.tdiv x6 x7)) x1000 x1001 x1002)) else (spec_l1Cur_letters.j1 k x5 x6 x1000 x1001 x1002)
def spec_l1Cur_letters.j1 : Nat → Int → Int → List Int → Int → Int → Option (ByteArray × Int × Int)
 | 0, _, _, _, _, _ => none
 | k + 1, x5, x6, x1000, x1001, x1002 => if (wrap64 (x5 + x6)) = 0 then (spec_l1Cur_letters.j2 k 1 x6 x1000 x1001 x1002) else (spec_l1Cur_letters.j2 k x5 x6 x1000 x1001 x1002)
def spec_l1Cur_letters.j2 : Nat → Int → Int → List Int → Int → Int → Option (ByteArray × Int × Int)
 | 0, _, _, _, _, _ => none
 | k + 1, x5, x6, x1000, x1001, x1002 => (spec_chWord.f k x5 x6).bind fun t140 => ((spec_l1Cur_pick.f x1000 x1001 x1002 14).bind fun bt141 => (if bt141.1 = 0 then ((spec_l1Cur_spoilt.f k x1000 bt141.2.1 bt141.2.2 t140 (⟨#[97, 98, 99]⟩ : ByteArray)).bind fun bt144 => (some (bt144.1, bt144.2.1, bt144.2.2))) else (if bt141.1 = 1 then ((spec_l1Cur_pick.f x1000 bt141.2.1 bt141.2.2 (t140.size : Int)).bind fun bt147 => (if 0 ≤ bt147.1 then (if bt147.1 ≤ (t140.size : Int) then (if (t140.extract (bt147.1 : Int).toNat t140.size).size + (t140.extract 0 (bt147.1 : Int).toNat).size ≤ 9223372036854775807 then (some ((t140.extract (bt147.1 : Int).toNat t140.size) ++ (t140.extract 0 (bt147.1 : Int).toNat), bt147.2.1, bt147.2.2)) else (none)) else (none)) else (none))) else (if bt141.1 = 2 then (if t140.size + t140.size ≤ 9223372036854775807 then (some (t140 ++ t140, bt141.2.1, bt141.2.2)) else (none)) else (if bt141.1 = 3 then (some ((⟨#[]⟩ : ByteArray), bt141.2.1, bt141.2.2)) else (some (t140, bt141.2.1, bt141.2.2)))))))
end
def spec_l1Cur_letters.f (k : Nat) (s0_0 : List Int) (s0_1 : Int) (s0_2 : Int) (a1 : Int) : Option (ByteArray × Int × Int) := (spec_l1Cur_pick.f s0_0 s0_1 s0_2 a1).bind fun bt129 => ((spec_l1Most.f 1 (wrap64 (a1 - bt129.1))).bind fun t132 => ((spec_l1Cur_pick.f s0_0 bt129.2.1 bt129.2.2 t132).bind fun bt133 => ((spec_foGcd.f k bt129.1 bt133.1).bind fun t136 => (if t136 > 1 then ((spec_l1Cur_one.f s0_0 bt133.2.1 bt133.2.2 6).bind fun bt137 => (spec_l1Cur_letters.j0 k bt129.1 bt133.1 t136 (!bt137.1) s0_0 bt137.2.1 bt137.2.2)) else (spec_l1Cur_letters.j0 k bt129.1 bt133.1 t136 false s0_0 bt133.2.1 bt133.2.2)))))
theorem spec_l1Cur_letters.mono_l : ∀ k, (∀ y0 y1 y2 y3 y4 y5 y6, LeO (spec_l1Cur_letters.j0 k y0 y1 y2 y3 y4 y5 y6) (spec_l1Cur_letters.j0 (k + 1) y0 y1 y2 y3 y4 y5 y6)) ∧ (∀ y0 y1 y2 y3 y4, LeO (spec_l1Cur_letters.j1 k y0 y1 y2 y3 y4) (spec_l1Cur_letters.j1 (k + 1) y0 y1 y2 y3 y4)) ∧ (∀ y0 y1 y2 y3 y4, LeO (spec_l1Cur_letters.j2 k y0 y1 y2 y3 y4) (spec_l1Cur_letters.j2 (k + 1) y0 y1 y2 y3 y4))
 | 0 => ⟨fun _ _ _ _ _ _ _ r h => by simp [spec_l1Cur_letters.j0] at h, fun _ _ _ _ _ r h => by simp [spec_l1Cur_letters.j1] at h, fun _ _ _ _ _ r h => by simp [spec_l1Cur_letters.j2] at h⟩
 | k + 1 => by
  obtain ⟨ih0, ih1, ih2⟩ := spec_l1Cur_letters.mono_l k; refine ⟨?_, ?_, ?_⟩
  all_goals
   intros
   first | unfold spec_l1Cur_letters.j0 | unfold spec_l1Cur_letters.j1 | unfold spec_l1Cur_letters.j2
   repeat' with_reducible first | exact ih0 _ _ _ _ _ _ _ | exact ih1 _ _ _ _ _ | exact ih2 _ _ _ _ _ | exact spec_chWord.mono _ _ _ | exact spec_foGcd.mono _ _ _ | exact spec_l1Cur_spoilt.mono _ _ _ _ _ _ | exact LeO.refl _ | exact LeO.none _ | refine LeO.ite ?_ ?_ | refine LeO.bind ?_ (fun _ => ?_)
theorem spec_l1Cur_letters.mono : ∀ a0 a1 a2 a3 k, LeO (spec_l1Cur_letters.f k a0 a1 a2 a3) (spec_l1Cur_letters.f (k + 1) a0 a1 a2 a3) := by
 intro a0 a1 a2 a3 k; obtain ⟨ih0, ih1, ih2⟩ := spec_l1Cur_letters.mono_l k; unfold spec_l1Cur_letters.f
 repeat' with_reducible first | exact ih0 _ _ _ _ _ _ _ | exact ih1 _ _ _ _ _ | exact ih2 _ _ _ _ _ | exact spec_chWord.mono _ _ _ | exact spec_foGcd.mono _ _ _ | exact spec_l1Cur_spoilt.mono _ _ _ _ _ _ | exact LeO.refl _ | exact LeO.none _ | refine LeO.ite ?_ ?_ | refine LeO.bind ?_ (fun _ => ?_)
theorem spec_l1Cur_letters.calls (k : Nat) (g : Nat) (s0_0 : List Int) (s0_1 : Int) (s0_2 : Int) (a1 : Int) (r1 : ByteArray) (r2 : Int) (r3 : Int) (w0 w : World) (hI : IsS61 w0 w g s0_0 s0_1 s0_2) (hB : Below w0.heap.size w0 w) (h : spec_l1Cur_letters.f k s0_0 s0_1 s0_2 a1 = some (r1, r2, r3)) :
 Calls Tryz.prog 42 #[.pointer (some ⟨g, 0, none⟩), .int .i64 a1] w fun e w' => e = .returned (.string r1) ∧ IsS61 w0 w' g s0_0 r2 r3 ∧ Below w0.heap.size w0 w' ∧ KeepBut w w' g none := by
 have HI0 := Aside0.mk hI; have HK := Aside0.mk (KeepBut.refl w g none); have HL := Aside0.mk hB.size; clear hI; have HW0 := Aside0.mk hB.size; have HB := Aside0.mk hB; clear hB; have H : ((spec_l1Cur_pick.f s0_0 s0_1 s0_2 a1).bind fun bt129 => ((spec_l1Most.f 1 (wrap64 (a1 - bt129.1))).bind fun t132 => ((spec_l1Cur_pick.f s0_0 bt129.2.1 bt129.2.2 t132).bind fun bt133 => ((spec_foGcd.f k bt129.1 bt133.1).bind fun t136 => (if t136 > 1 then ((spec_l1Cur_one.f s0_0 bt133.2.1 bt133.2.2 6).bind fun bt137 => (spec_l1Cur_letters.j0 k bt129.1 bt133.1 t136 (!bt137.1) s0_0 bt137.2.1 bt137.2.2)) else (spec_l1Cur_letters.j0 k bt129.1 bt133.1 t136 false s0_0 bt133.2.1 bt133.2.2)))))) = some (r1, r2, r3) := h; clear h; replace H := oB H; obtain ⟨⟨t129, t130, t131⟩, A3, H⟩ := H; (try dsimp only at H); replace H := oB H; obtain ⟨t132, A4, H⟩ := H; replace H := oB H; obtain ⟨⟨t133, t134, t135⟩, A5, H⟩ := H; (try dsimp only at H); replace H := oB H; obtain ⟨t136, A6, H⟩ := H; have HC7 := Aside0.mk H; clear H; go_enter Tryz.func42, Tryz.ntmps42; go_upto_region 4 with (first | (go_at_call 71; (with_reducible refine (spec_l1Cur_pick.calls g s0_0 s0_1 s0_2 a1 t129 t130 t131 w0 _ ?side1 ?side2 A3.out).mono ?_); (case side1 => exact z41_); (case side2 => exact z28_); rintro e w8 ⟨rfl, hi, hb, hk⟩; replace HK := Aside0.mk (KeepBut.trans (kH HK) hk (.inl rfl)); replace HB := Aside0.mk (hb); replace HI0 := Aside0.mk (hi); (try clear hb); (try clear hk); (try clear hi)) | (go_at_call 62; (with_reducible refine (spec_l1Most.calls 1 (wrap64 (a1 - t129)) t132 _ A4.out).mono ?_); rintro e w' ⟨rfl, ⟨nd, rfl⟩⟩; (try exact dD)) | (go_at_call 71; (with_reducible refine (spec_l1Cur_pick.calls g s0_0 t130 t131 t132 t133 t134 t135 w0 _ ?side1 ?side2 A5.out).mono ?_); (case side1 => exact z41_); (case side2 => exact z28_); rintro e w9 ⟨rfl, hi, hb, hk⟩; replace HK := Aside0.mk (KeepBut.trans (kH HK) hk (.inl rfl)); replace HB := Aside0.mk (hb); replace HI0 := Aside0.mk (hi); (try clear hb); (try clear hk); (try clear hi)) | (go_at_call 75; (with_reducible refine (spec_foGcd.calls k t129 t133 t136 _ A6.out).mono ?_); rintro e w' ⟨rfl, ⟨nd, rfl⟩⟩; (try exact dD)))
 repeat (go_quiet (first | (go_at_call 71; (with_reducible refine (spec_l1Cur_pick.calls g s0_0 s0_1 s0_2 a1 t129 t130 t131 w0 _ ?side1 ?side2 A3.out).mono ?_); (case side1 => exact z41_); (case side2 => exact z28_); rintro e w8 ⟨rfl, hi, hb, hk⟩; replace HK := Aside0.mk (KeepBut.trans (kH HK) hk (.inl rfl)); replace HB := Aside0.mk (hb); replace HI0 := Aside0.mk (hi); (try clear hb); (try clear hk); (try clear hi)) | (go_at_call 62; (with_reducible refine (spec_l1Most.calls 1 (wrap64 (a1 - t129)) t132 _ A4.out).mono ?_); rintro e w' ⟨rfl, ⟨nd, rfl⟩⟩; (try exact dD)) | (go_at_call 71; (with_reducible refine (spec_l1Cur_pick.calls g s0_0 t130 t131 t132 t133 t134 t135 w0 _ ?side1 ?side2 A5.out).mono ?_); (case side1 => exact z41_); (case side2 => exact z28_); rintro e w9 ⟨rfl, hi, hb, hk⟩; replace HK := Aside0.mk (KeepBut.trans (kH HK) hk (.inl rfl)); replace HB := Aside0.mk (hb); replace HI0 := Aside0.mk (hi); (try clear hb); (try clear hk); (try clear hi)) | (go_at_call 75; (with_reducible refine (spec_foGcd.calls k t129 t133 t136 _ A6.out).mono ?_); rintro e w' ⟨rfl, ⟨nd, rfl⟩⟩; (try exact dD))); go_upto_region 4 with (first | (go_at_call 71; (with_reducible refine (spec_l1Cur_pick.calls g s0_0 s0_1 s0_2 a1 t129 t130 t131 w0 _ ?side1 ?side2 A3.out).mono ?_); (case side1 => exact z41_); (case side2 => exact z28_); rintro e w8 ⟨rfl, hi, hb, hk⟩; replace HK := Aside0.mk (KeepBut.trans (kH HK) hk (.inl rfl)); replace HB := Aside0.mk (hb); replace HI0 := Aside0.mk (hi); (try clear hb); (try clear hk); (try clear hi)) | (go_at_call 62; (with_reducible refine (spec_l1Most.calls 1 (wrap64 (a1 - t129)) t132 _ A4.out).mono ?_); rintro e w' ⟨rfl, ⟨nd, rfl⟩⟩; (try exact dD)) | (go_at_call 71; (with_reducible refine (spec_l1Cur_pick.calls g s0_0 t130 t131 t132 t133 t134 t135 w0 _ ?side1 ?side2 A5.out).mono ?_); (case side1 => exact z41_); (case side2 => exact z28_); rintro e w9 ⟨rfl, hi, hb, hk⟩; replace HK := Aside0.mk (KeepBut.trans (kH HK) hk (.inl rfl)); replace HB := Aside0.mk (hb); replace HI0 := Aside0.mk (hi); (try clear hb); (try clear hk); (try clear hi)) | (go_at_call 75; (with_reducible refine (spec_foGcd.calls k t129 t133 t136 _ A6.out).mono ?_); rintro e w' ⟨rfl, ⟨nd, rfl⟩⟩; (try exact dD))))
 (try simp only [Act.put, List.setIfInBounds_toArray, List.set_cons_zero, List.set_cons_succ]); go_cut [28] (fun v28 wc => ∃ (kq : Nat) (x28_6 : Bool) (x1001_6 : Int) (x1002_6 : Int), v28 = .bool x28_6 ∧ Aside0 (spec_l1Cur_letters.j0 kq t129 t133 t136 x28_6 s0_0 x1001_6 x1002_6 = some (r1, r2, r3)) ∧ Aside0 (kq ≤ k) ∧ Aside0 (IsS61 w0 wc g s0_0 x1001_6 x1002_6) ∧ Aside0 (KeepBut w wc g none) ∧ Aside0 (Below w0.heap.size w0 wc))
 case first =>
  have H := HC7.out; clear HC7; by_cases c10 : t136 > 1
  ·
   rw [if_pos c10] at H; have c10b0 : decide (1 < t136) = true := decide_eq_true c10; clear c10; (first | rw [c10b0] | (simp only [i64_w, i32_w]; rw [c10b0]) | skip); replace H := oB H; obtain ⟨⟨t137, t138, t139⟩, A11, H⟩ := H; (try dsimp only at H); have H' := Aside0.mk H; clear H; go_wp2_with (first | (go_at_call 76; (with_reducible refine (spec_l1Cur_one.calls g s0_0 t134 t135 6 t137 t138 t139 w0 _ ?side1 ?side2 A11.out).mono ?_); (case side1 => exact z41_); (case side2 => exact z28_); rintro e w12 ⟨rfl, hi, hb, hk⟩; replace HK := Aside0.mk (KeepBut.trans (kH HK) hk (.inl rfl)); replace HB := Aside0.mk (hb); replace HI0 := Aside0.mk (hi); (try clear hb); (try clear hk); (try clear hi)))
   repeat (go_quiet (first | (go_at_call 76; (with_reducible refine (spec_l1Cur_one.calls g s0_0 t134 t135 6 t137 t138 t139 w0 _ ?side1 ?side2 A11.out).mono ?_); (case side1 => exact z41_); (case side2 => exact z28_); rintro e w12 ⟨rfl, hi, hb, hk⟩; replace HK := Aside0.mk (KeepBut.trans (kH HK) hk (.inl rfl)); replace HB := Aside0.mk (hb); replace HI0 := Aside0.mk (hi); (try clear hb); (try clear hk); (try clear hi))); try go_wp2_with (first | (go_at_call 76; (with_reducible refine (spec_l1Cur_one.calls g s0_0 t134 t135 6 t137 t138 t139 w0 _ ?side1 ?side2 A11.out).mono ?_); (case side1 => exact z41_); (case side2 => exact z28_); rintro e w12 ⟨rfl, hi, hb, hk⟩; replace HK := Aside0.mk (KeepBut.trans (kH HK) hk (.inl rfl)); replace HB := Aside0.mk (hb); replace HI0 := Aside0.mk (hi); (try clear hb); (try clear hk); (try clear hi))))
   go_meet
   case rel => exact ⟨_, (!t137), (t138), (t139), e2, H', ⟨z70_⟩, ⟨z41_⟩, ⟨kH HK⟩, ⟨z28_⟩⟩
  ·
   rw [if_neg c10] at H; have c10b0 : decide (1 < t136) = false := decide_eq_false c10; clear c10; (first | rw [c10b0] | (simp only [i64_w, i32_w]; rw [c10b0]) | skip); have H' := Aside0.mk H; clear H; go_wp2
   repeat (go_quiet (fail); try go_wp2)
   go_meet
   case rel => exact ⟨_, (false), (t134), (t135), e2, H', ⟨z70_⟩, ⟨z41_⟩, ⟨kH HK⟩, ⟨z28_⟩⟩
 case rest =>
  clear HC7; obtain ⟨kq, x28_6, x1001_6, x1002_6, rfl, HA, HJ6, HI0, HK, HB⟩ := hcut; cases kq with
  | zero => exact absurd HA.out (by simp [spec_l1Cur_letters.j0])
  | succ kj6 =>
   have H := HA.out; clear HA; simp only [spec_l1Cur_letters.j0] at H; have HC13 := Aside0.mk H; clear H; go_upto_if 28 with (fail)
   repeat (go_quiet (fail); go_upto_if 28 with (fail))
   go_cut [5, 6] (fun v5 v6 wc => ∃ (kq : Nat) (x5_12 : Int) (x6_12 : Int), v5 = .int .i64 x5_12 ∧ v6 = .int .i64 x6_12 ∧ Aside0 (spec_l1Cur_letters.j1 kq x5_12 x6_12 s0_0 x1001_6 x1002_6 = some (r1, r2, r3)) ∧ Aside0 (kq ≤ kj6) ∧ Aside0 (IsS61 w0 wc g s0_0 x1001_6 x1002_6) ∧ Aside0 (KeepBut w wc g none) ∧ Aside0 (Below w0.heap.size w0 wc))
   case first =>
    have H := HC13.out; clear HC13; by_cases c14 : x28_6 = true
    ·
     subst c14; rw [if_pos rfl] at H; by_cases c15 : t136 = 0
     · rw [if_pos c15] at H; exact absurd H (by simp)
     ·
      rw [if_neg c15] at H; have c15b0 : (t136 == 0) = false := beq_eq_false_iff_ne.mpr c15; have c15b1 : (t136 != 0) = true := bne_iff_ne.mpr c15; (first | rw [c15b0] | (simp only [i64_w, i32_w]; rw [c15b0]) | skip); have H' := Aside0.mk H; clear H; go_wp2
      repeat (go_quiet (fail); try go_wp2)
      go_meet
      case rel => exact ⟨_, (wrap64 (Int.tdiv t129 t136)), (wrap64 (Int.tdiv t133 t136)), e2, e2, H', ⟨by have := HJ6.out; first | omega | exact Nat.le_refl _⟩, ⟨z41_⟩, ⟨kH HK⟩, ⟨z28_⟩⟩
    ·
     replace c14 := Bool.eq_false_iff.mpr c14; subst c14; rw [if_neg (show ¬ (false = true) by decide)] at H; have H' := Aside0.mk H; clear H; go_wp2
     repeat (go_quiet (fail); try go_wp2)
     go_meet
     case rel => exact ⟨_, (t129), (t133), e2, e2, H', ⟨by have := HJ6.out; first | omega | exact Nat.le_refl _⟩, ⟨z41_⟩, ⟨kH HK⟩, ⟨z28_⟩⟩
   case rest =>
    clear HC13; obtain ⟨kq, x5_12, x6_12, rfl, rfl, HA, HJ12, HI0, HK, HB⟩ := hcut; cases kq with
    | zero => exact absurd HA.out (by simp [spec_l1Cur_letters.j1])
    | succ kj12 =>
     have H := HA.out; clear HA; simp only [spec_l1Cur_letters.j1] at H; have HC16 := Aside0.mk H; clear H; go_upto_if 38 with (fail)
     repeat (go_quiet (fail); go_upto_if 38 with (fail))
     go_cut [5] (fun v5 wc => ∃ (kq : Nat) (x5_15 : Int), v5 = .int .i64 x5_15 ∧ Aside0 (spec_l1Cur_letters.j2 kq x5_15 x6_12 s0_0 x1001_6 x1002_6 = some (r1, r2, r3)) ∧ Aside0 (kq ≤ kj12) ∧ Aside0 (IsS61 w0 wc g s0_0 x1001_6 x1002_6) ∧ Aside0 (KeepBut w wc g none) ∧ Aside0 (Below w0.heap.size w0 wc))
     case first =>
      have H := HC16.out; clear HC16; by_cases c17 : (wrap64 (x5_12 + x6_12)) = 0
      ·
       rw [if_pos c17] at H; have c17b0 : ((wrap64 (x5_12 + x6_12)) == 0) = true := beq_iff_eq.mpr c17; have c17b1 : ((wrap64 (x5_12 + x6_12)) != 0) = false := bne_eq_false_iff_eq.mpr c17; clear c17; (first | rw [c17b0] | (simp only [i64_w, i32_w]; rw [c17b0]) | skip); have H' := Aside0.mk H; clear H; go_wp2
       repeat (go_quiet (fail); try go_wp2)
       go_meet
       case rel => exact ⟨_, (1), e2, H', ⟨by have := HJ6.out; have := HJ12.out; first | omega | exact Nat.le_refl _⟩, ⟨z41_⟩, ⟨kH HK⟩, ⟨z28_⟩⟩
      ·
       rw [if_neg c17] at H; have c17b0 : ((wrap64 (x5_12 + x6_12)) == 0) = false := beq_eq_false_iff_ne.mpr c17; have c17b1 : ((wrap64 (x5_12 + x6_12)) != 0) = true := bne_iff_ne.mpr c17; (first | rw [c17b0] | (simp only [i64_w, i32_w]; rw [c17b0]) | skip); have H' := Aside0.mk H; clear H; go_wp2
       repeat (go_quiet (fail); try go_wp2)
       go_meet
       case rel => exact ⟨_, (x5_12), e2, H', ⟨by have := HJ6.out; have := HJ12.out; first | omega | exact Nat.le_refl _⟩, ⟨z41_⟩, ⟨kH HK⟩, ⟨z28_⟩⟩
     case rest =>
      clear HC16; obtain ⟨kq, x5_15, rfl, HA, HJ15, HI0, HK, HB⟩ := hcut; cases kq with
      | zero => exact absurd HA.out (by simp [spec_l1Cur_letters.j2])
      | succ kj15 =>
       have H := HA.out; clear HA; simp only [spec_l1Cur_letters.j2] at H; replace H := oB H; obtain ⟨t140, A18, H⟩ := H; replace H := oB H; obtain ⟨⟨t141, t142, t143⟩, A19, H⟩ := H; (try dsimp only at H); by_cases c20 : t141 = 0
       ·
        rw [if_pos c20] at H; have c20b0 : (t141 == 0) = true := beq_iff_eq.mpr c20; have c20b1 : (t141 != 0) = false := bne_eq_false_iff_eq.mpr c20; clear c20; replace H := oB H; obtain ⟨⟨t144, t145, t146⟩, A21, H⟩ := H; (try dsimp only at H); simp only [Option.some.injEq, Prod.mk.injEq] at H; obtain ⟨rfl, rfl, rfl⟩ := H; go_wp2_with (first | (go_at_call 77; (with_reducible refine (spec_chWord.calls kj15 x5_15 x6_12 t140 _ A18.out).mono ?_); rintro e w' ⟨rfl, ⟨nd, rfl⟩⟩; (try exact dD)) | (go_at_call 71; (with_reducible refine (spec_l1Cur_pick.calls g s0_0 x1001_6 x1002_6 14 t141 t142 t143 w0 _ ?side1 ?side2 A19.out).mono ?_); (case side1 => exact z41_); (case side2 => exact z28_); rintro e w22 ⟨rfl, hi, hb, hk⟩; replace HK := Aside0.mk (KeepBut.trans (kH HK) hk (.inl rfl)); replace HB := Aside0.mk (hb); replace HI0 := Aside0.mk (hi); (try clear hb); (try clear hk); (try clear hi)) | (go_at_call 78; (with_reducible refine (spec_l1Cur_spoilt.calls kj15 g s0_0 t142 t143 t140 (⟨#[97, 98, 99]⟩ : ByteArray) t144 t145 t146 w0 _ ?side1 ?side2 A21.out).mono ?_); (case side1 => exact z41_); (case side2 => exact z28_); rintro e w23 ⟨rfl, hi, hb, hk⟩; replace HK := Aside0.mk (KeepBut.trans (kH HK) hk (.inl rfl)); replace HB := Aside0.mk (hb); replace HI0 := Aside0.mk (hi); (try clear hb); (try clear hk); (try clear hi)))
        repeat (go_quiet (first | (go_at_call 77; (with_reducible refine (spec_chWord.calls kj15 x5_15 x6_12 t140 _ A18.out).mono ?_); rintro e w' ⟨rfl, ⟨nd, rfl⟩⟩; (try exact dD)) | (go_at_call 71; (with_reducible refine (spec_l1Cur_pick.calls g s0_0 x1001_6 x1002_6 14 t141 t142 t143 w0 _ ?side1 ?side2 A19.out).mono ?_); (case side1 => exact z41_); (case side2 => exact z28_); rintro e w22 ⟨rfl, hi, hb, hk⟩; replace HK := Aside0.mk (KeepBut.trans (kH HK) hk (.inl rfl)); replace HB := Aside0.mk (hb); replace HI0 := Aside0.mk (hi); (try clear hb); (try clear hk); (try clear hi)) | (go_at_call 78; (with_reducible refine (spec_l1Cur_spoilt.calls kj15 g s0_0 t142 t143 t140 (⟨#[97, 98, 99]⟩ : ByteArray) t144 t145 t146 w0 _ ?side1 ?side2 A21.out).mono ?_); (case side1 => exact z41_); (case side2 => exact z28_); rintro e w23 ⟨rfl, hi, hb, hk⟩; replace HK := Aside0.mk (KeepBut.trans (kH HK) hk (.inl rfl)); replace HB := Aside0.mk (hb); replace HI0 := Aside0.mk (hi); (try clear hb); (try clear hk); (try clear hi))); try go_wp2_with (first | (go_at_call 77; (with_reducible refine (spec_chWord.calls kj15 x5_15 x6_12 t140 _ A18.out).mono ?_); rintro e w' ⟨rfl, ⟨nd, rfl⟩⟩; (try exact dD)) | (go_at_call 71; (with_reducible refine (spec_l1Cur_pick.calls g s0_0 x1001_6 x1002_6 14 t141 t142 t143 w0 _ ?side1 ?side2 A19.out).mono ?_); (case side1 => exact z41_); (case side2 => exact z28_); rintro e w22 ⟨rfl, hi, hb, hk⟩; replace HK := Aside0.mk (KeepBut.trans (kH HK) hk (.inl rfl)); replace HB := Aside0.mk (hb); replace HI0 := Aside0.mk (hi); (try clear hb); (try clear hk); (try clear hi)) | (go_at_call 78; (with_reducible refine (spec_l1Cur_spoilt.calls kj15 g s0_0 t142 t143 t140 (⟨#[97, 98, 99]⟩ : ByteArray) t144 t145 t146 w0 _ ?side1 ?side2 A21.out).mono ?_); (case side1 => exact z41_); (case side2 => exact z28_); rintro e w23 ⟨rfl, hi, hb, hk⟩; replace HK := Aside0.mk (KeepBut.trans (kH HK) hk (.inl rfl)); replace HB := Aside0.mk (hb); replace HI0 := Aside0.mk (hi); (try clear hb); (try clear hk); (try clear hi))))
        go_ret; exact ⟨e1, z41_, z28_, kH HK⟩
       ·
        rw [if_neg c20] at H; have c20b0 : (t141 == 0) = false := beq_eq_false_iff_ne.mpr c20; have c20b1 : (t141 != 0) = true := bne_iff_ne.mpr c20; by_cases c24 : t141 = 1
        ·
         rw [if_pos c24] at H; have c24b0 : (t141 == 1) = true := beq_iff_eq.mpr c24; have c24b1 : (t141 != 1) = false := bne_eq_false_iff_eq.mpr c24; clear c24; replace H := oB H; obtain ⟨⟨t147, t148, t149⟩, A25, H⟩ := H; (try dsimp only at H); by_cases c26 : 0 ≤ t147
         ·
          rw [if_pos c26] at H; have c26b0 := eq_true c26; have c26b1 : decide (0 ≤ t147) = true := decide_eq_true c26; clear c26; by_cases c27 : t147 ≤ (t140.size : Int)
          ·
           rw [if_pos c27] at H; have c27b0 := eq_true c27; have c27b1 : decide (t147 ≤ (t140.size : Int)) = true := decide_eq_true c27; clear c27; have c28b0 := eq_true (od : 0 ≤ t147); have c29b0 := eq_true (od : t147 ≤ (t140.size : Int)); by_cases c30 : (t140.extract (t147 : Int).toNat t140.size).size + (t140.extract 0 (t147 : Int).toNat).size ≤ 9223372036854775807
           ·
            rw [if_pos c30] at H; have c30b0 := eq_true c30; have c30b1 : decide ((t140.extract (t147 : Int).toNat t140.size).size + (t140.extract 0 (t147 : Int).toNat).size ≤ 9223372036854775807) = true := decide_eq_true c30
            try have c30b2 : (9223372036854775807 < (t140.extract (t147 : Int).toNat t140.size).size + (t140.extract 0 (t147 : Int).toNat).size) = False := eq_false (Nat.not_lt.2 c30)
            simp only [Option.some.injEq, Prod.mk.injEq] at H; obtain ⟨rfl, rfl, rfl⟩ := H; go_wp2_with (first | (go_at_call 77; (with_reducible refine (spec_chWord.calls kj15 x5_15 x6_12 t140 _ A18.out).mono ?_); rintro e w' ⟨rfl, ⟨nd, rfl⟩⟩; (try exact dD)) | (go_at_call 71; (with_reducible refine (spec_l1Cur_pick.calls g s0_0 x1001_6 x1002_6 14 t141 t142 t143 w0 _ ?side1 ?side2 A19.out).mono ?_); (case side1 => exact z41_); (case side2 => exact z28_); rintro e w31 ⟨rfl, hi, hb, hk⟩; replace HK := Aside0.mk (KeepBut.trans (kH HK) hk (.inl rfl)); replace HB := Aside0.mk (hb); replace HI0 := Aside0.mk (hi); (try clear hb); (try clear hk); (try clear hi)) | (go_at_call 71; (with_reducible refine (spec_l1Cur_pick.calls g s0_0 t142 t143 (t140.size : Int) t147 t148 t149 w0 _ ?side1 ?side2 A25.out).mono ?_); (case side1 => exact z41_); (case side2 => exact z28_); rintro e w32 ⟨rfl, hi, hb, hk⟩; replace HK := Aside0.mk (KeepBut.trans (kH HK) hk (.inl rfl)); replace HB := Aside0.mk (hb); replace HI0 := Aside0.mk (hi); (try clear hb); (try clear hk); (try clear hi)))
            repeat (go_quiet (first | (go_at_call 77; (with_reducible refine (spec_chWord.calls kj15 x5_15 x6_12 t140 _ A18.out).mono ?_); rintro e w' ⟨rfl, ⟨nd, rfl⟩⟩; (try exact dD)) | (go_at_call 71; (with_reducible refine (spec_l1Cur_pick.calls g s0_0 x1001_6 x1002_6 14 t141 t142 t143 w0 _ ?side1 ?side2 A19.out).mono ?_); (case side1 => exact z41_); (case side2 => exact z28_); rintro e w31 ⟨rfl, hi, hb, hk⟩; replace HK := Aside0.mk (KeepBut.trans (kH HK) hk (.inl rfl)); replace HB := Aside0.mk (hb); replace HI0 := Aside0.mk (hi); (try clear hb); (try clear hk); (try clear hi)) | (go_at_call 71; (with_reducible refine (spec_l1Cur_pick.calls g s0_0 t142 t143 (t140.size : Int) t147 t148 t149 w0 _ ?side1 ?side2 A25.out).mono ?_); (case side1 => exact z41_); (case side2 => exact z28_); rintro e w32 ⟨rfl, hi, hb, hk⟩; replace HK := Aside0.mk (KeepBut.trans (kH HK) hk (.inl rfl)); replace HB := Aside0.mk (hb); replace HI0 := Aside0.mk (hi); (try clear hb); (try clear hk); (try clear hi))); try go_wp2_with (first | (go_at_call 77; (with_reducible refine (spec_chWord.calls kj15 x5_15 x6_12 t140 _ A18.out).mono ?_); rintro e w' ⟨rfl, ⟨nd, rfl⟩⟩; (try exact dD)) | (go_at_call 71; (with_reducible refine (spec_l1Cur_pick.calls g s0_0 x1001_6 x1002_6 14 t141 t142 t143 w0 _ ?side1 ?side2 A19.out).mono ?_); (case side1 => exact z41_); (case side2 => exact z28_); rintro e w31 ⟨rfl, hi, hb, hk⟩; replace HK := Aside0.mk (KeepBut.trans (kH HK) hk (.inl rfl)); replace HB := Aside0.mk (hb); replace HI0 := Aside0.mk (hi); (try clear hb); (try clear hk); (try clear hi)) | (go_at_call 71; (with_reducible refine (spec_l1Cur_pick.calls g s0_0 t142 t143 (t140.size : Int) t147 t148 t149 w0 _ ?side1 ?side2 A25.out).mono ?_); (case side1 => exact z41_); (case side2 => exact z28_); rintro e w32 ⟨rfl, hi, hb, hk⟩; replace HK := Aside0.mk (KeepBut.trans (kH HK) hk (.inl rfl)); replace HB := Aside0.mk (hb); replace HI0 := Aside0.mk (hi); (try clear hb); (try clear hk); (try clear hi))))
            go_ret; exact ⟨e1, z41_, z28_, kH HK⟩
           · rw [if_neg c30] at H; exact absurd H (by simp)
          · rw [if_neg c27] at H; exact absurd H (by simp)
         · rw [if_neg c26] at H; exact absurd H (by simp)
        ·
         rw [if_neg c24] at H; have c24b0 : (t141 == 1) = false := beq_eq_false_iff_ne.mpr c24; have c24b1 : (t141 != 1) = true := bne_iff_ne.mpr c24; by_cases c33 : t141 = 2
         ·
          rw [if_pos c33] at H; have c33b0 : (t141 == 2) = true := beq_iff_eq.mpr c33; have c33b1 : (t141 != 2) = false := bne_eq_false_iff_eq.mpr c33; clear c33; by_cases c34 : t140.size + t140.size ≤ 9223372036854775807
          ·
           rw [if_pos c34] at H; have c34b0 := eq_true c34; have c34b1 : decide (t140.size + t140.size ≤ 9223372036854775807) = true := decide_eq_true c34
           try have c34b2 : (9223372036854775807 < t140.size + t140.size) = False := eq_false (Nat.not_lt.2 c34)
           simp only [Option.some.injEq, Prod.mk.injEq] at H; obtain ⟨rfl, rfl, rfl⟩ := H; go_wp2_with (first | (go_at_call 77; (with_reducible refine (spec_chWord.calls kj15 x5_15 x6_12 t140 _ A18.out).mono ?_); rintro e w' ⟨rfl, ⟨nd, rfl⟩⟩; (try exact dD)) | (go_at_call 71; (with_reducible refine (spec_l1Cur_pick.calls g s0_0 x1001_6 x1002_6 14 t141 t142 t143 w0 _ ?side1 ?side2 A19.out).mono ?_); (case side1 => exact z41_); (case side2 => exact z28_); rintro e w35 ⟨rfl, hi, hb, hk⟩; replace HK := Aside0.mk (KeepBut.trans (kH HK) hk (.inl rfl)); replace HB := Aside0.mk (hb); replace HI0 := Aside0.mk (hi); (try clear hb); (try clear hk); (try clear hi)))
           repeat (go_quiet (first | (go_at_call 77; (with_reducible refine (spec_chWord.calls kj15 x5_15 x6_12 t140 _ A18.out).mono ?_); rintro e w' ⟨rfl, ⟨nd, rfl⟩⟩; (try exact dD)) | (go_at_call 71; (with_reducible refine (spec_l1Cur_pick.calls g s0_0 x1001_6 x1002_6 14 t141 t142 t143 w0 _ ?side1 ?side2 A19.out).mono ?_); (case side1 => exact z41_); (case side2 => exact z28_); rintro e w35 ⟨rfl, hi, hb, hk⟩; replace HK := Aside0.mk (KeepBut.trans (kH HK) hk (.inl rfl)); replace HB := Aside0.mk (hb); replace HI0 := Aside0.mk (hi); (try clear hb); (try clear hk); (try clear hi))); try go_wp2_with (first | (go_at_call 77; (with_reducible refine (spec_chWord.calls kj15 x5_15 x6_12 t140 _ A18.out).mono ?_); rintro e w' ⟨rfl, ⟨nd, rfl⟩⟩; (try exact dD)) | (go_at_call 71; (with_reducible refine (spec_l1Cur_pick.calls g s0_0 x1001_6 x1002_6 14 t141 t142 t143 w0 _ ?side1 ?side2 A19.out).mono ?_); (case side1 => exact z41_); (case side2 => exact z28_); rintro e w35 ⟨rfl, hi, hb, hk⟩; replace HK := Aside0.mk (KeepBut.trans (kH HK) hk (.inl rfl)); replace HB := Aside0.mk (hb); replace HI0 := Aside0.mk (hi); (try clear hb); (try clear hk); (try clear hi))))
           go_ret; exact ⟨e1, z41_, z28_, kH HK⟩
          · rw [if_neg c34] at H; exact absurd H (by simp)
         ·
          rw [if_neg c33] at H; have c33b0 : (t141 == 2) = false := beq_eq_false_iff_ne.mpr c33; have c33b1 : (t141 != 2) = true := bne_iff_ne.mpr c33; by_cases c36 : t141 = 3
          ·
           rw [if_pos c36] at H; have c36b0 : (t141 == 3) = true := beq_iff_eq.mpr c36; have c36b1 : (t141 != 3) = false := bne_eq_false_iff_eq.mpr c36; clear c36; simp only [Option.some.injEq, Prod.mk.injEq] at H; obtain ⟨rfl, rfl, rfl⟩ := H; go_wp2_with (first | (go_at_call 77; (with_reducible refine (spec_chWord.calls kj15 x5_15 x6_12 t140 _ A18.out).mono ?_); rintro e w' ⟨rfl, ⟨nd, rfl⟩⟩; (try exact dD)) | (go_at_call 71; (with_reducible refine (spec_l1Cur_pick.calls g s0_0 x1001_6 x1002_6 14 t141 t142 t143 w0 _ ?side1 ?side2 A19.out).mono ?_); (case side1 => exact z41_); (case side2 => exact z28_); rintro e w37 ⟨rfl, hi, hb, hk⟩; replace HK := Aside0.mk (KeepBut.trans (kH HK) hk (.inl rfl)); replace HB := Aside0.mk (hb); replace HI0 := Aside0.mk (hi); (try clear hb); (try clear hk); (try clear hi)))
           repeat (go_quiet (first | (go_at_call 77; (with_reducible refine (spec_chWord.calls kj15 x5_15 x6_12 t140 _ A18.out).mono ?_); rintro e w' ⟨rfl, ⟨nd, rfl⟩⟩; (try exact dD)) | (go_at_call 71; (with_reducible refine (spec_l1Cur_pick.calls g s0_0 x1001_6 x1002_6 14 t141 t142 t143 w0 _ ?side1 ?side2 A19.out).mono ?_); (case side1 => exact z41_); (case side2 => exact z28_); rintro e w37 ⟨rfl, hi, hb, hk⟩; replace HK := Aside0.mk (KeepBut.trans (kH HK) hk (.inl rfl)); replace HB := Aside0.mk (hb); replace HI0 := Aside0.mk (hi); (try clear hb); (try clear hk); (try clear hi))); try go_wp2_with (first | (go_at_call 77; (with_reducible refine (spec_chWord.calls kj15 x5_15 x6_12 t140 _ A18.out).mono ?_); rintro e w' ⟨rfl, ⟨nd, rfl⟩⟩; (try exact dD)) | (go_at_call 71; (with_reducible refine (spec_l1Cur_pick.calls g s0_0 x1001_6 x1002_6 14 t141 t142 t143 w0 _ ?side1 ?side2 A19.out).mono ?_); (case side1 => exact z41_); (case side2 => exact z28_); rintro e w37 ⟨rfl, hi, hb, hk⟩; replace HK := Aside0.mk (KeepBut.trans (kH HK) hk (.inl rfl)); replace HB := Aside0.mk (hb); replace HI0 := Aside0.mk (hi); (try clear hb); (try clear hk); (try clear hi))))
           go_ret; exact ⟨e1, z41_, z28_, kH HK⟩
          ·
           rw [if_neg c36] at H; have c36b0 : (t141 == 3) = false := beq_eq_false_iff_ne.mpr c36; have c36b1 : (t141 != 3) = true := bne_iff_ne.mpr c36; simp only [Option.some.injEq, Prod.mk.injEq] at H; obtain ⟨rfl, rfl, rfl⟩ := H; go_wp2_with (first | (go_at_call 77; (with_reducible refine (spec_chWord.calls kj15 x5_15 x6_12 t140 _ A18.out).mono ?_); rintro e w' ⟨rfl, ⟨nd, rfl⟩⟩; (try exact dD)) | (go_at_call 71; (with_reducible refine (spec_l1Cur_pick.calls g s0_0 x1001_6 x1002_6 14 t141 t142 t143 w0 _ ?side1 ?side2 A19.out).mono ?_); (case side1 => exact z41_); (case side2 => exact z28_); rintro e w38 ⟨rfl, hi, hb, hk⟩; replace HK := Aside0.mk (KeepBut.trans (kH HK) hk (.inl rfl)); replace HB := Aside0.mk (hb); replace HI0 := Aside0.mk (hi); (try clear hb); (try clear hk); (try clear hi)))
           repeat (go_quiet (first | (go_at_call 77; (with_reducible refine (spec_chWord.calls kj15 x5_15 x6_12 t140 _ A18.out).mono ?_); rintro e w' ⟨rfl, ⟨nd, rfl⟩⟩; (try exact dD)) | (go_at_call 71; (with_reducible refine (spec_l1Cur_pick.calls g s0_0 x1001_6 x1002_6 14 t141 t142 t143 w0 _ ?side1 ?side2 A19.out).mono ?_); (case side1 => exact z41_); (case side2 => exact z28_); rintro e w38 ⟨rfl, hi, hb, hk⟩; replace HK := Aside0.mk (KeepBut.trans (kH HK) hk (.inl rfl)); replace HB := Aside0.mk (hb); replace HI0 := Aside0.mk (hi); (try clear hb); (try clear hk); (try clear hi))); try go_wp2_with (first | (go_at_call 77; (with_reducible refine (spec_chWord.calls kj15 x5_15 x6_12 t140 _ A18.out).mono ?_); rintro e w' ⟨rfl, ⟨nd, rfl⟩⟩; (try exact dD)) | (go_at_call 71; (with_reducible refine (spec_l1Cur_pick.calls g s0_0 x1001_6 x1002_6 14 t141 t142 t143 w0 _ ?side1 ?side2 A19.out).mono ?_); (case side1 => exact z41_); (case side2 => exact z28_); rintro e w38 ⟨rfl, hi, hb, hk⟩; replace HK := Aside0.mk (KeepBut.trans (kH HK) hk (.inl rfl)); replace HB := Aside0.mk (hb); replace HI0 := Aside0.mk (hi); (try clear hb); (try clear hk); (try clear hi))))
           go_ret; exact ⟨e1, z41_, z28_, kH HK⟩

/-! ### spec_l1Cur_among: function 43 -/
def spec_l1Cur_among.f (s0_0 : List Int) (s0_1 : Int) (s0_2 : Int) (l1 : List Int) : Option (Int × Int × Int) := (spec_l1Cur_pick.f s0_0 s0_1 s0_2 (l1.length : Int)).bind fun bt150 => (if 0 ≤ bt150.1 then (if bt150.1 < (l1.length : Int) then (some (rd l1 bt150.1, bt150.2.1, bt150.2.2)) else (none)) else (none))
theorem spec_l1Cur_among.calls (g : Nat) (s0_0 : List Int) (s0_1 : Int) (s0_2 : Int) (A1 : Option Addr) (c1 : Nat) (l1 : List Int) (r1 : Int) (r2 : Int) (r3 : Int) (w0 w : World) (hI : IsS61 w0 w g s0_0 s0_1 s0_2) (hB : Below w0.heap.size w0 w) (hr1 : Kd.C (Kd.int .i64) w A1 l1.length l1) (hc1 : l1.length ≤ c1) (hf1 : ∀ ad, A1 = some ad → 0 < l1.length → ad.block ≠ g) (h : spec_l1Cur_among.f s0_0 s0_1 s0_2 l1 = some (r1, r2, r3)) :
 Calls Tryz.prog 43 #[.pointer (some ⟨g, 0, none⟩), .slice A1 l1.length c1] w fun e w' => e = .returned (.int .i64 r1) ∧ IsS61 w0 w' g s0_0 r2 r3 ∧ Below w0.heap.size w0 w' ∧ KeepBut w w' g none := by
 have HR1 := Aside0.mk hr1; have HC1 := Aside0.mk hc1; clear hr1 hc1; have HI0 := Aside0.mk hI; have HK := Aside0.mk (KeepBut.refl w g none); have HL := Aside0.mk hB.size; clear hI; have HW0 := Aside0.mk hB.size; have HB := Aside0.mk hB; clear hB; have H : ((spec_l1Cur_pick.f s0_0 s0_1 s0_2 (l1.length : Int)).bind fun bt150 => (if 0 ≤ bt150.1 then (if bt150.1 < (l1.length : Int) then (some (rd l1 bt150.1, bt150.2.1, bt150.2.2)) else (none)) else (none))) = some (r1, r2, r3) := h; clear h; replace H := oB H; obtain ⟨⟨t150, t151, t152⟩, A3, H⟩ := H; (try dsimp only at H); by_cases c4 : 0 ≤ t150
 ·
  rw [if_pos c4] at H; have c4b0 := decide_eq_true c4; clear c4; by_cases c5 : t150 < (l1.length : Int)
  · rw [if_pos c5] at H; have c5b0 := decide_eq_true c5; clear c5; simp only [Option.some.injEq, Prod.mk.injEq] at H; obtain ⟨rfl, rfl, rfl⟩ := H; go_enter Tryz.func43, Tryz.ntmps43; go_wp2_with (first | ((with_reducible refine gate_callee (f := 71) rfl ?_); refine gL (some 9) rfl rfl Tryz.func71 (by kernel_rfl) rfl #[.pointer (some ⟨g, 0, none⟩), .int .i64 (l1.length : Int)] rfl ?_; (with_reducible refine (spec_l1Cur_pick.calls g s0_0 s0_1 s0_2 (l1.length : Int) t150 t151 t152 w0 _ ?side1 ?side2 A3.out).mono ?_); (case side1 => exact z41_); (case side2 => exact z28_); rintro e w6 ⟨rfl, hi, hb, hk⟩; refine ⟨_, rfl, ?_⟩; replace HK := Aside0.mk (KeepBut.trans (kH HK) hk (.inl rfl)); replace HB := Aside0.mk (hb); replace HI0 := Aside0.mk (hi); (try clear hb); (try clear hk); (try clear hi); have p153 : 0 ≤ (t150 : Int) := od; have q153 : t150 < (l1.length : Int) := od; obtain ⟨ad153, e153, hx153_0⟩ := Kd.at_int HR1.out t150 p153 q153; cases e153; replace hx153_0 := keep_cell HK.out hx153_0 (by first | (rw [add_block]; exact hf1 _ rfl (by omega)) | exact hf1 _ rfl (by omega) | exact hf1 ad153 rfl (by omega)); replace p153 := eq_true p153; replace q153 := eq_true q153)); go_ret; exact ⟨e1, z41_, z28_, kH HK⟩
  · rw [if_neg c5] at H; exact absurd H (by simp)
 · rw [if_neg c4] at H; exact absurd H (by simp)

/-! ### spec_DrawCohnMatrix: function 21 -/
def spec_DrawCohnMatrix.f (k : Nat) (l0 : List Int) : Option (ByteArray) := (spec_l1Cur_among.f l0 0 0 (([5, 10, 20] : List Int))).bind fun bt158 => ((spec_l1Cur_letters.f k l0 bt158.2.1 bt158.2.2 bt158.1).bind fun bt161 => (some bt161.1))
theorem spec_DrawCohnMatrix.mono : ∀ a0 k, LeO (spec_DrawCohnMatrix.f k a0) (spec_DrawCohnMatrix.f (k + 1) a0) := by
 intro a0 k; unfold spec_DrawCohnMatrix.f
 repeat' with_reducible first | exact spec_l1Cur_letters.mono _ _ _ _ _ | exact LeO.refl _ | exact LeO.none _ | refine LeO.ite ?_ ?_ | refine LeO.bind ?_ (fun _ => ?_)
theorem spec_DrawCohnMatrix.calls (k : Nat) (A0 : Option Addr) (c0 : Nat) (l0 : List Int) (r : ByteArray) (w : World) (hr0 : Kd.C (Kd.int .u8) w A0 l0.length l0) (hc0 : l0.length ≤ c0) (h : spec_DrawCohnMatrix.f k l0 = some r) :
 Calls Tryz.prog 21 #[.slice A0 l0.length c0] w fun e w' => e = .returned (.string r) ∧ Below w.heap.size w w' := by
 have hu61 := Tryz.underlying61; have HR0 := Aside0.mk hr0; have HC0 := Aside0.mk hc0; clear hr0 hc0; have HB := Aside0.mk (Below.refl w.heap.size w); have H : ((spec_l1Cur_among.f l0 0 0 (([5, 10, 20] : List Int))).bind fun bt158 => ((spec_l1Cur_letters.f k l0 bt158.2.1 bt158.2.2 bt158.1).bind fun bt161 => (some bt161.1))) = some r := h; clear h; obtain ⟨y155, hy155⟩ : ∃ y_ : List Int, y_ = (([5, 10, 20] : List Int)) := ⟨_, rfl⟩; replace H : ((spec_l1Cur_among.f l0 0 0 y155).bind fun bt158 => ((spec_l1Cur_letters.f k l0 bt158.2.1 bt158.2.2 bt158.1).bind fun bt161 => (some bt161.1))) = some r := rH hy155 H
 have Ny155 := Aside0.mk hy155; clear hy155; replace H := oB H; obtain ⟨⟨t158, t159, t160⟩, A2, H⟩ := H; (try dsimp only at H); replace H := oB H; obtain ⟨⟨t161, t162, t163⟩, A3, H⟩ := H; (try dsimp only at H); obtain rfl := Option.some.inj H; go_enter Tryz.func21, Tryz.ntmps21; go_wp2_with (first | ((with_reducible refine gate_dst (N := 6) rfl ?_); refine box_event ?hg (N := 6) ?hd (cs := #[.slice A0 l0.length c0, .int .i64 0, .int .u64 0]) (t := 61) ?hr ?_; (case hd => rfl); (case hg => rfl); (case hr => exact z69_); intro gb154 hg w4 hbox hb; have GW154 := gW HB hg; have GE154 := gW HB hg; have HI154 := Aside0.mk ((show IsS61 w w4 gb154 l0 0 0 from ⟨A0, c0, hbox, (by rw [hg]; exact (below_size bq) : w.heap.size ≤ gb154), HR0.out⟩)); replace HB := sT bq hb; clear hb hbox hg) | ((with_reducible refine gate_dst (N := 9) rfl ?_); refine Kd.R_lit (Kd.int .i64) _ 3 ?hg (N := 9) ?hd (xs := ([5, 10, 20] : List Int)) (inner := [.int .i64 5, .int .i64 10, .int .i64 20]) (ok := fun _ => True) (okp := fun _ => True) ?hr ?hp (fun _ hk => hk) trivial (Below.refl _ _) (Nat.le_refl _) (by simp) ?_; (case hd => rfl); (case hg => rfl); (case hr => exact z69_); (case hp => exact (Reps.one (show Kd.M (Kd.int .i64) _ _ _ 5 [.int .i64 5] from rfl) (Reps.one (show Kd.M (Kd.int .i64) _ _ _ 10 [.int .i64 10] from rfl) (Reps.one (show Kd.M (Kd.int .i64) _ _ _ 20 [.int .i64 20] from rfl) (Reps.none _ _))))); intro v156 w5 ho6 hb hg_ hnew_; clear hg_ hnew_; (first | rw [← Ny155.out] at ho6 | (simp only [Int.reduceToNat] at ho6; rw [← Ny155.out] at ho6)); have HO157 := Aside0.mk (Kd.R_lower ho6 (below_size z26_)); replace HB := sT z26_ hb; replace HI154 := Aside0.mk (IsS61.below z40_ hb); clear hb ho6; obtain ⟨Ao7, co7, eo7⟩ := Kd.R_slice HO157.out; subst eo7) | ((with_reducible refine gate_callee (f := 43) rfl ?_); refine gL (some 10) rfl rfl Tryz.func43 (by kernel_rfl) rfl #[.pointer (some ⟨gb154, 0, none⟩), .slice Ao7 y155.length co7] rfl ?_; (with_reducible refine (spec_l1Cur_among.calls gb154 l0 0 0 _ _ y155 t158 t159 t160 w _ ?side1 ?side2 ?side3 ?side4 ?side5 A2.out).mono ?_); (case side1 => exact z40_); (case side2 => exact z26_); (case side3 => exact cC (Kd.R_reads' HO157.out).2.2); (case side4 => exact (Kd.R_reads' HO157.out).2.1); (case side5 => exact far_slice (IsS61.own_ne HI154.out HO157.out (by decide))); rintro e w8 ⟨rfl, hi, hb, hk⟩; refine ⟨_, rfl, ?_⟩; replace HO157 := Aside0.mk (Kd.R_mono (Kd.R_keep (IsS61.apart (show IsS61 w _ gb154 l0 0 0 from z40_) (rA HO157) (by decide)) hk (fun _ h => h.2)) (fun _ h => h.1)); replace HB := Aside0.mk (hb); replace HI154 := Aside0.mk (hi); (try clear hb); (try clear hk); (try clear hi)) | ((with_reducible refine gate_callee (f := 42) rfl ?_); refine gL (some 11) rfl rfl Tryz.func42 (by kernel_rfl) rfl #[.pointer (some ⟨gb154, 0, none⟩), .int .i64 t158] rfl ?_; (with_reducible refine (spec_l1Cur_letters.calls k gb154 l0 t159 t160 t158 t161 t162 t163 w _ ?side1 ?side2 A3.out).mono ?_); (case side1 => exact z40_); (case side2 => exact z26_); rintro e w9 ⟨rfl, hi, hb, hk⟩; refine ⟨_, rfl, ?_⟩; replace HO157 := Aside0.mk (Kd.R_mono (Kd.R_keep (IsS61.apart (show IsS61 w _ gb154 l0 t159 t160 from z40_) (rA HO157) (by decide)) hk (fun _ h => h.2)) (fun _ h => h.1)); replace HB := Aside0.mk (hb); replace HI154 := Aside0.mk (hi); (try clear hb); (try clear hk); (try clear hi))); go_ret; exact ⟨e1, z26_⟩

/-! ### spec_DrawTripleOfWord: function 5 -/
def spec_DrawTripleOfWord.f (k : Nat) (l0 : List Int) : Option (ByteArray) := (spec_DrawCohnMatrix.f k l0).bind fun t164 => (some t164)
theorem spec_DrawTripleOfWord.mono : ∀ a0 k, LeO (spec_DrawTripleOfWord.f k a0) (spec_DrawTripleOfWord.f (k + 1) a0) := by
 intro a0 k; unfold spec_DrawTripleOfWord.f
 repeat' with_reducible first | exact spec_DrawCohnMatrix.mono _ _ | exact LeO.refl _ | exact LeO.none _ | refine LeO.ite ?_ ?_ | refine LeO.bind ?_ (fun _ => ?_)
theorem spec_DrawTripleOfWord.calls (k : Nat) (A0 : Option Addr) (c0 : Nat) (l0 : List Int) (r : ByteArray) (w : World) (hr0 : Kd.C (Kd.int .u8) w A0 l0.length l0) (hc0 : l0.length ≤ c0) (h : spec_DrawTripleOfWord.f k l0 = some r) :
 Calls Tryz.prog 5 #[.slice A0 l0.length c0] w fun e w' => e = .returned (.string r) ∧ Below w.heap.size w w' := by
 have HR0 := Aside0.mk hr0; have HC0 := Aside0.mk hc0; clear hr0 hc0; have HB := Aside0.mk (Below.refl w.heap.size w); have H : ((spec_DrawCohnMatrix.f k l0).bind fun t164 => (some t164)) = some r := h; clear h; replace H := oB H; obtain ⟨t164, A2, H⟩ := H; obtain rfl := Option.some.inj H; go_enter Tryz.func5, Tryz.ntmps5; go_wp2_with (first | ((with_reducible refine gate_callee (f := 21) rfl ?_); refine gL (some 4) rfl rfl Tryz.func21 (by kernel_rfl) rfl #[.slice A0 l0.length c0] rfl ?_; (with_reducible refine (spec_DrawCohnMatrix.calls k _ _ l0 t164 _ ?side1 ?side2 A2.out).mono ?_); (case side1 => exact cC HR0.out); (case side2 => exact HC0.out); rintro e w3 ⟨rfl, hb⟩; refine ⟨_, rfl, ?_⟩; replace HB := sT bq hb; (try clear hb))); go_ret; exact ⟨e1, bq⟩

-- NOT PRINTED: function 105 (slices_IndexFunc_byte_byte)

-- NOT PRINTED: function 79 (slices_ContainsFunc_byte_byte)

/-! ### impl_isWord: function 44 -/
def impl_isWord.f (a0 : ByteArray) (a1 : Int) (a2 : Int) : Option (Bool) := some (Go.Proofs.YtljlplohicffpaaGreat.G.isWordB a0 a1 a2)
theorem impl_isWord.calls (a0 : ByteArray) (a1 : Int) (a2 : Int) (r : Bool) (w : World) (h : impl_isWord.f a0 a1 a2 = some r) :
 Calls Tryz.prog 44 #[.string a0, .int .u8 a1, .int .u8 a2] w fun e w' => e = .returned (.bool r) ∧ Below w.heap.size w w' := by
 obtain rfl := Option.some.inj h; exact Go.Proofs.YtljlplohicffpaaGreat.G.isWord_any a0 a1 a2 w

/-! ### impl_IsLetters: function 22 -/
def impl_IsLetters.f (a0 : ByteArray) : Option (Bool) := if a0.toList = ([] : List UInt8) then (some false) else ((impl_isWord.f a0 97 98).bind fun t165 => (some t165))
theorem impl_IsLetters.calls (a0 : ByteArray) (r : Bool) (w : World) (h : impl_IsLetters.f a0 = some r) :
 Calls Tryz.prog 22 #[.string a0] w fun e w' => e = .returned (.bool r) ∧ Below w.heap.size w w' := by
 have HB := Aside0.mk (Below.refl w.heap.size w); have H : (if a0.toList = ([] : List UInt8) then (some false) else ((impl_isWord.f a0 97 98).bind fun t165 => (some t165))) = some r := h; clear h; by_cases c2 : a0.toList = ([] : List UInt8)
 · rw [if_pos c2] at H; have c2b0 : (a0.toList == ([] : List UInt8)) = true := beq_iff_eq.mpr c2; have c2b1 : (a0.toList != ([] : List UInt8)) = false := bne_eq_false_iff_eq.mpr c2; clear c2; obtain rfl := Option.some.inj H; go_enter Tryz.func22, Tryz.ntmps22; go_wp2; go_ret; exact ⟨e1, bq⟩
 · rw [if_neg c2] at H; have c2b0 : (a0.toList == ([] : List UInt8)) = false := beq_eq_false_iff_ne.mpr c2; have c2b1 : (a0.toList != ([] : List UInt8)) = true := bne_iff_ne.mpr c2; replace H := oB H; obtain ⟨t165, A3, H⟩ := H; obtain rfl := Option.some.inj H; go_enter Tryz.func22, Tryz.ntmps22; go_wp2_with (first | (go_at_call 44; (with_reducible refine (impl_isWord.calls a0 97 98 t165 _ A3.out).mono ?_); rintro e w4 ⟨rfl, hb⟩; replace HB := sT bq hb; (try clear hb))); go_ret; exact ⟨e1, bq⟩

-- NOT PRINTED: function 45 (impl_made)

/-! ### impl_unit: function 23 -/
def impl_unit.f (a0 : Int) : Option (List (List Int)) := if 0 ≤ a0 then (if a0 ≤ 1000 then some (Go.Proofs.YtljlplohicffpaaGreat.G.unitL a0.toNat) else none) else none
theorem impl_unit.calls (a0 : Int) (r : List (List Int)) (w : World) (h : impl_unit.f a0 = some r) :
 Calls Tryz.prog 23 #[.int .i64 a0] w fun e w' => ∃ v0_ : Value, e = .returned (.agg #[v0_]) ∧ Kd.S (Kd.slice 3 (Kd.int .i64)) 32 w' w.heap.size (fun _ => True) v0_ r ∧ Below w.heap.size w w' := by
 unfold impl_unit.f at h
 split at h
 ·
  rename_i h0
  split at h
  · rename_i h1; obtain rfl := Option.some.inj h; have g := Go.Proofs.YtljlplohicffpaaGreat.G.unit_any a0.toNat w (by omega); rw [Int.toNat_of_nonneg h0] at g; exact g
  · cases h
 · cases h

/-! ### impl_Matrix_size: function 47 -/
def impl_Matrix_size.f (l0_0 : List (List Int)) : Option (Int) := some (l0_0.length : Int)
theorem impl_Matrix_size.calls (A0_0 : Option Addr) (c0_0 : Nat) (l0_0 : List (List Int)) (r : Int) (w : World) (hr0_0 : Kd.C (Kd.slice 3 (Kd.int .i64)) w A0_0 l0_0.length l0_0) (hc0_0 : l0_0.length ≤ c0_0) (h : impl_Matrix_size.f l0_0 = some r) :
 Calls Tryz.prog 47 #[.agg #[.slice A0_0 l0_0.length c0_0]] w fun e w' => e = .returned (.int .i64 r) ∧ Below w.heap.size w w' := by
 have hu27 := Tryz.underlying27; have HR0_0 := Aside0.mk hr0_0; have HC0_0 := Aside0.mk hc0_0; clear hr0_0 hc0_0; have HB := Aside0.mk (Below.refl w.heap.size w); have H : (some (l0_0.length : Int)) = some r := h; clear h; obtain rfl := Option.some.inj H; go_enter Tryz.func47, Tryz.ntmps47; go_wp2_with (first | ((with_reducible refine gate_dst (N := 1) rfl ?_); refine box_event ?hg (N := 1) ?hd (cs := #[.slice A0_0 l0_0.length c0_0]) (t := 27) ?hr ?_; (case hd => rfl); (case hg => rfl); (case hr => exact z69_); intro gb166 hg w2 hbox hb; have BK166 := Aside0.mk (hbox); have GW166 := gW HB hg; have GE166 := gW HB hg; replace HB := sT bq hb; clear hb hbox hg; obtain ⟨hcz3_0, hfz3_0⟩ := bC BK166)); go_ret; exact ⟨e1, kB HB⟩

/-! ### impl_Matrix_times: function 24 -/
def impl_Matrix_times.f (l0_0 : List (List Int)) (l1_0 : List (List Int)) : Option (List (List Int)) := if Go.Proofs.YtljlplohicffpaaGreat.G.isSq l0_0 = true then (if Go.Proofs.YtljlplohicffpaaGreat.G.isSq l1_0 = true then (if l0_0.length = l1_0.length then some (Go.Proofs.YtljlplohicffpaaGreat.G.prodL l0_0 l1_0) else none) else none) else none
theorem impl_Matrix_times.calls (A0_0 : Option Addr) (c0_0 : Nat) (l0_0 : List (List Int)) (A1_0 : Option Addr) (c1_0 : Nat) (l1_0 : List (List Int)) (r : List (List Int)) (w : World) (hr0_0 : Kd.C (Kd.slice 3 (Kd.int .i64)) w A0_0 l0_0.length l0_0) (_hc0_0 : l0_0.length ≤ c0_0) (hr1_0 : Kd.C (Kd.slice 3 (Kd.int .i64)) w A1_0 l1_0.length l1_0) (_hc1_0 : l1_0.length ≤ c1_0) (h : impl_Matrix_times.f l0_0 l1_0 = some r) :
 Calls Tryz.prog 24 #[.agg #[.slice A0_0 l0_0.length c0_0], .agg #[.slice A1_0 l1_0.length c1_0]] w fun e w' => ∃ v0_ : Value, e = .returned (.agg #[v0_]) ∧ Kd.S (Kd.slice 3 (Kd.int .i64)) 32 w' w.heap.size (fun _ => True) v0_ r ∧ Below w.heap.size w w' := by
 unfold impl_Matrix_times.f at h
 split at h
 ·
  rename_i hs
  split at h
  ·
   rename_i hs'
   split at h
   · rename_i hl; obtain rfl := Option.some.inj h; exact Go.Proofs.YtljlplohicffpaaGreat.G.times_any A0_0 c0_0 l0_0 A1_0 c1_0 l1_0 w hr0_0 hr1_0 hs hs' hl
   · cases h
  · cases h
 · cases h

/-! ### impl_within: function 49 -/
-- NOT PRINTED: function 81 (slices_IndexFunc_int_int_81)

-- NOT PRINTED: function 50 (slices_ContainsFunc_int_int_50)

/-! ### impl_IsMatrix: function 25 -/
def impl_IsMatrix.f (l0_0 : List (List Int)) : Option (Bool) := some (Go.Proofs.YtljlplohicffpaaGreat.G.isMat l0_0)
theorem impl_IsMatrix.calls (A0_0 : Option Addr) (c0_0 : Nat) (l0_0 : List (List Int)) (r : Bool) (w : World) (hr0_0 : Kd.C (Kd.slice 3 (Kd.int .i64)) w A0_0 l0_0.length l0_0) (_hc0_0 : l0_0.length ≤ c0_0) (h : impl_IsMatrix.f l0_0 = some r) :
 Calls Tryz.prog 25 #[.agg #[.slice A0_0 l0_0.length c0_0]] w fun e w' => e = .returned (.bool r) ∧ Below w.heap.size w w' := by
 obtain rfl := Option.some.inj h; exact Go.Proofs.YtljlplohicffpaaGreat.G.isMatrix_any A0_0 c0_0 l0_0 w hr0_0

end Go.Proofs.YtljlplohicffpaaGreat.P
