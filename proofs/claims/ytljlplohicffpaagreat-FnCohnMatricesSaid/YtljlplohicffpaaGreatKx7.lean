-- Written by a program of this session (wip/mkprint.py over the kit's print), out of the translation. Not trusted: Lean checks it.
import Derived.Test.YtljlplohicffpaaGreatKx0
import Derived.Test.YtljlplohicffpaaGreatKx2
import Derived.Test.YtljlplohicffpaaGreatKx6
namespace Go.Proofs.YtljlplohicffpaaGreat.P
open Go.RowKit Go.Proofs.YtljlplohicffpaaGreatW.PrintWords Go.Proofs.YtljlplohicffpaaGreatW.PrintLast Go.Proofs.YtljlplohicffpaaGreatW.PrintMore
attribute [local go_sem] max2_int min2_int max_two min_two max_three min_three max_four min_four   -- for this text's walks alone
set_option linter.unusedVariables false
set_option linter.unusedSimpArgs false
set_option maxHeartbeats 8000000
set_option maxRecDepth 100000

/-! ### impl_FactorsOf: function 17 -/
mutual
def impl_FactorsOf.j0 : Nat → ByteArray → Bool → Option (ByteArray × ByteArray × Bool)
 | 0, _, _ => none
 | k + 1, x0, x13 => if x13 = true then (some ((⟨#[]⟩ : ByteArray), (⟨#[]⟩ : ByteArray), false)) else (impl_FactorsOf.l0 k x0 1)
def impl_FactorsOf.l0 : Nat → ByteArray → Int → Option (ByteArray × ByteArray × Bool)
 | 0, _, _ => none
 | k + 1, x0, x5 => if x5 < (x0.size : Int) then (if 0 ≤ x5 then (if x5 ≤ (x0.size : Int) then ((impl_isChristoffel.f k (x0.extract 0 (x5 : Int).toNat)).bind fun t297 => (if t297 = true then ((impl_isChristoffel.f k (x0.extract (x5 : Int).toNat x0.size)).bind fun t298 => (if t298 = true then (some (x0.extract 0 (x5 : Int).toNat, x0.extract (x5 : Int).toNat x0.size, true)) else (impl_FactorsOf.l0 k x0 (wrap64 (x5 + 1))))) else (impl_FactorsOf.l0 k x0 (wrap64 (x5 + 1))))) else (none)) else (none)) else (some ((⟨#[]⟩ : ByteArray), (⟨#[]⟩ : ByteArray), false))
end
def impl_FactorsOf.f (k : Nat) (a0 : ByteArray) : Option (ByteArray × ByteArray × Bool) := (impl_IsLetters.f a0).bind fun t295 => (if t295 = true then ((impl_isChristoffel.f k a0).bind fun t296 => (impl_FactorsOf.j0 k a0 (!t296))) else (impl_FactorsOf.j0 k a0 true))
theorem impl_FactorsOf.mono_l : ∀ k, (∀ y0 y1, LeO (impl_FactorsOf.j0 k y0 y1) (impl_FactorsOf.j0 (k + 1) y0 y1)) ∧ (∀ y0 y1, LeO (impl_FactorsOf.l0 k y0 y1) (impl_FactorsOf.l0 (k + 1) y0 y1))
 | 0 => ⟨fun _ _ r h => by simp [impl_FactorsOf.j0] at h, fun _ _ r h => by simp [impl_FactorsOf.l0] at h⟩
 | k + 1 => by
  obtain ⟨ih0, ih1⟩ := impl_FactorsOf.mono_l k; refine ⟨?_, ?_⟩
  all_goals
   intros
   first | unfold impl_FactorsOf.j0 | unfold impl_FactorsOf.l0
   repeat' with_reducible first | exact ih0 _ _ | exact ih1 _ _ | exact impl_isChristoffel.mono _ _ | exact LeO.refl _ | exact LeO.none _ | refine LeO.ite ?_ ?_ | refine LeO.bind ?_ (fun _ => ?_)
theorem impl_FactorsOf.mono : ∀ a0 k, LeO (impl_FactorsOf.f k a0) (impl_FactorsOf.f (k + 1) a0) := by
 intro a0 k; obtain ⟨ih0, ih1⟩ := impl_FactorsOf.mono_l k; unfold impl_FactorsOf.f
 repeat' with_reducible first | exact ih0 _ _ | exact ih1 _ _ | exact impl_isChristoffel.mono _ _ | exact LeO.refl _ | exact LeO.none _ | refine LeO.ite ?_ ?_ | refine LeO.bind ?_ (fun _ => ?_)
theorem impl_FactorsOf.calls (k : Nat) (a0 : ByteArray) (r1 : ByteArray) (r2 : ByteArray) (r3 : Bool) (w : World) (h : impl_FactorsOf.f k a0 = some (r1, r2, r3)) :
 Calls Tryz.prog 17 #[.string a0] w fun e w' => e = .returned (.tuple #[.string r1, .string r2, .bool r3]) ∧ Below w.heap.size w w' := by
 have HB := Aside0.mk (Below.refl w.heap.size w); have H : ((impl_IsLetters.f a0).bind fun t295 => (if t295 = true then ((impl_isChristoffel.f k a0).bind fun t296 => (impl_FactorsOf.j0 k a0 (!t296))) else (impl_FactorsOf.j0 k a0 true))) = some (r1, r2, r3) := h; clear h; have HC2 := Aside0.mk H; clear H; go_enter Tryz.func17, Tryz.ntmps17; go_upto_region 1 with (fail)
 repeat (go_quiet (fail); go_upto_region 1 with (fail))
 go_cut [13] (fun v13 wc => ∃ (kq : Nat) (x13_1 : Bool), v13 = .bool x13_1 ∧ Aside0 (impl_FactorsOf.j0 kq a0 x13_1 = some (r1, r2, r3)) ∧ Aside0 (kq ≤ k) ∧ Aside0 (Below w.heap.size w wc))
 case first =>
  have H := HC2.out; clear HC2; replace H := oB H; obtain ⟨t295, A3, H⟩ := H; by_cases c4 : t295 = true
  ·
   subst c4; rw [if_pos rfl] at H; replace H := oB H; obtain ⟨t296, A5, H⟩ := H; have H' := Aside0.mk H; clear H; go_wp2_with (first | (go_at_call 22; (with_reducible refine (impl_IsLetters.calls a0 true _ A3.out).mono ?_); rintro e w6 ⟨rfl, hb⟩; replace HB := sT bq hb; (try clear hb)) | (go_at_call 33; (with_reducible refine (impl_isChristoffel.calls k a0 t296 _ A5.out).mono ?_); rintro e w7 ⟨rfl, hb⟩; replace HB := sT bq hb; (try clear hb)))
   repeat (go_quiet (first | (go_at_call 22; (with_reducible refine (impl_IsLetters.calls a0 true _ A3.out).mono ?_); rintro e w6 ⟨rfl, hb⟩; replace HB := sT bq hb; (try clear hb)) | (go_at_call 33; (with_reducible refine (impl_isChristoffel.calls k a0 t296 _ A5.out).mono ?_); rintro e w7 ⟨rfl, hb⟩; replace HB := sT bq hb; (try clear hb))); try go_wp2_with (first | (go_at_call 22; (with_reducible refine (impl_IsLetters.calls a0 true _ A3.out).mono ?_); rintro e w6 ⟨rfl, hb⟩; replace HB := sT bq hb; (try clear hb)) | (go_at_call 33; (with_reducible refine (impl_isChristoffel.calls k a0 t296 _ A5.out).mono ?_); rintro e w7 ⟨rfl, hb⟩; replace HB := sT bq hb; (try clear hb))))
   go_meet
   case rel => exact ⟨_, (!t296), e2, H', ⟨z70_⟩, ⟨bq⟩⟩
  ·
   replace c4 := Bool.eq_false_iff.mpr c4; subst c4; rw [if_neg (show ¬ (false = true) by decide)] at H; have H' := Aside0.mk H; clear H; go_wp2_with (first | (go_at_call 22; (with_reducible refine (impl_IsLetters.calls a0 false _ A3.out).mono ?_); rintro e w8 ⟨rfl, hb⟩; replace HB := sT bq hb; (try clear hb)))
   repeat (go_quiet (first | (go_at_call 22; (with_reducible refine (impl_IsLetters.calls a0 false _ A3.out).mono ?_); rintro e w8 ⟨rfl, hb⟩; replace HB := sT bq hb; (try clear hb))); try go_wp2_with (first | (go_at_call 22; (with_reducible refine (impl_IsLetters.calls a0 false _ A3.out).mono ?_); rintro e w8 ⟨rfl, hb⟩; replace HB := sT bq hb; (try clear hb))))
   go_meet
   case rel => exact ⟨_, (true), e2, H', ⟨z70_⟩, ⟨bq⟩⟩
 case rest =>
  clear HC2; obtain ⟨kq, x13_1, rfl, HA, HJ1, HB⟩ := hcut; cases kq with
  | zero => exact absurd HA.out (by simp [impl_FactorsOf.j0])
  | succ kj1 =>
   have H := HA.out; clear HA; simp only [impl_FactorsOf.j0] at H; by_cases c9 : x13_1 = true
   ·
    subst c9; rw [if_pos rfl] at H; simp only [Option.some.injEq, Prod.mk.injEq] at H; obtain ⟨rfl, rfl, rfl⟩ := H; go_wp2
    repeat (go_quiet (fail); try go_wp2)
    go_ret3; exact ⟨e1, bq⟩
   ·
    replace c9 := Bool.eq_false_iff.mpr c9; subst c9; rw [if_neg (show ¬ (false = true) by decide)] at H; have H' := Aside0.mk H; clear H; go_wp2
    repeat (go_quiet (fail); try go_wp2)
    go_loopg [5] kj1 (fun kq v5 w' => ∃ (x5_2 : Int), v5 = .int .i64 x5_2 ∧ Aside0 (impl_FactorsOf.l0 kq a0 x5_2 = some (r1, r2, r3)) ∧ Aside0 (kq ≤ kj1) ∧ Aside0 (Below w.heap.size w w'))
    case atStart => exact ⟨(1), e2, H', ⟨Nat.le_refl _⟩, ⟨bq⟩⟩
    case round =>
     clear H'; (try clear c9); obtain ⟨x5_2, rfl, HA, HK2, HB⟩ := hrel; cases gk with
     | zero => exact absurd HA.out (by simp [impl_FactorsOf.l0])
     | succ k2 =>
      have H := HA.out; clear HA; simp only [impl_FactorsOf.l0] at H; by_cases c10 : x5_2 < (a0.size : Int)
      ·
       rw [if_pos c10] at H; have c10b0 := decide_eq_true c10; clear c10; by_cases c11 : 0 ≤ x5_2
       ·
        rw [if_pos c11] at H; have c11b0 := eq_true c11; have c11b1 : decide (0 ≤ x5_2) = true := decide_eq_true c11; clear c11; by_cases c12 : x5_2 ≤ (a0.size : Int)
        ·
         rw [if_pos c12] at H; have c12b0 := eq_true c12; have c12b1 : decide (x5_2 ≤ (a0.size : Int)) = true := decide_eq_true c12; clear c12; replace H := oB H; obtain ⟨t297, A13, H⟩ := H; by_cases c14 : t297 = true
         ·
          subst c14; rw [if_pos rfl] at H; have c15b0 := eq_true (od : 0 ≤ x5_2); have c16b0 := eq_true (od : x5_2 ≤ (a0.size : Int)); replace H := oB H; obtain ⟨t298, A17, H⟩ := H; by_cases c18 : t298 = true
          ·
           subst c18; rw [if_pos rfl] at H; have c19b0 := eq_true (od : 0 ≤ x5_2); have c20b0 := eq_true (od : x5_2 ≤ (a0.size : Int)); have c21b0 := eq_true (od : 0 ≤ x5_2); have c22b0 := eq_true (od : x5_2 ≤ (a0.size : Int)); simp only [Option.some.injEq, Prod.mk.injEq] at H; obtain ⟨rfl, rfl, rfl⟩ := H; go_wp2_with (first | (go_at_call 33; (with_reducible refine (impl_isChristoffel.calls k2 (a0.extract 0 (x5_2 : Int).toNat) true _ A13.out).mono ?_); rintro e w23 ⟨rfl, hb⟩; replace HB := sT bq hb; (try clear hb)) | (go_at_call 33; (with_reducible refine (impl_isChristoffel.calls k2 (a0.extract (x5_2 : Int).toNat a0.size) true _ A17.out).mono ?_); rintro e w24 ⟨rfl, hb⟩; replace HB := sT bq hb; (try clear hb)))
           repeat (go_quiet (first | (go_at_call 33; (with_reducible refine (impl_isChristoffel.calls k2 (a0.extract 0 (x5_2 : Int).toNat) true _ A13.out).mono ?_); rintro e w23 ⟨rfl, hb⟩; replace HB := sT bq hb; (try clear hb)) | (go_at_call 33; (with_reducible refine (impl_isChristoffel.calls k2 (a0.extract (x5_2 : Int).toNat a0.size) true _ A17.out).mono ?_); rintro e w24 ⟨rfl, hb⟩; replace HB := sT bq hb; (try clear hb))); try go_wp2_with (first | (go_at_call 33; (with_reducible refine (impl_isChristoffel.calls k2 (a0.extract 0 (x5_2 : Int).toNat) true _ A13.out).mono ?_); rintro e w23 ⟨rfl, hb⟩; replace HB := sT bq hb; (try clear hb)) | (go_at_call 33; (with_reducible refine (impl_isChristoffel.calls k2 (a0.extract (x5_2 : Int).toNat a0.size) true _ A17.out).mono ?_); rintro e w24 ⟨rfl, hb⟩; replace HB := sT bq hb; (try clear hb))))
           go_ret3; exact ⟨e1, bq⟩
          ·
           replace c18 := Bool.eq_false_iff.mpr c18; subst c18; rw [if_neg (show ¬ (false = true) by decide)] at H; have H' := Aside0.mk H; clear H; go_wp2_with (first | (go_at_call 33; (with_reducible refine (impl_isChristoffel.calls k2 (a0.extract 0 (x5_2 : Int).toNat) true _ A13.out).mono ?_); rintro e w25 ⟨rfl, hb⟩; replace HB := sT bq hb; (try clear hb)) | (go_at_call 33; (with_reducible refine (impl_isChristoffel.calls k2 (a0.extract (x5_2 : Int).toNat a0.size) false _ A17.out).mono ?_); rintro e w26 ⟨rfl, hb⟩; replace HB := sT bq hb; (try clear hb)))
           repeat (go_quiet (first | (go_at_call 33; (with_reducible refine (impl_isChristoffel.calls k2 (a0.extract 0 (x5_2 : Int).toNat) true _ A13.out).mono ?_); rintro e w25 ⟨rfl, hb⟩; replace HB := sT bq hb; (try clear hb)) | (go_at_call 33; (with_reducible refine (impl_isChristoffel.calls k2 (a0.extract (x5_2 : Int).toNat a0.size) false _ A17.out).mono ?_); rintro e w26 ⟨rfl, hb⟩; replace HB := sT bq hb; (try clear hb))); try go_wp2_with (first | (go_at_call 33; (with_reducible refine (impl_isChristoffel.calls k2 (a0.extract 0 (x5_2 : Int).toNat) true _ A13.out).mono ?_); rintro e w25 ⟨rfl, hb⟩; replace HB := sT bq hb; (try clear hb)) | (go_at_call 33; (with_reducible refine (impl_isChristoffel.calls k2 (a0.extract (x5_2 : Int).toNat a0.size) false _ A17.out).mono ?_); rintro e w26 ⟨rfl, hb⟩; replace HB := sT bq hb; (try clear hb))))
           go_roundg k2
           case measure => have := HJ1.out; have := HK2.out; omega
           case rel => exact ⟨(wrap64 (x5_2 + 1)), e2, H', ⟨by have := HJ1.out; have := HK2.out; omega⟩, ⟨bq⟩⟩
         ·
          replace c14 := Bool.eq_false_iff.mpr c14; subst c14; rw [if_neg (show ¬ (false = true) by decide)] at H; have H' := Aside0.mk H; clear H; go_wp2_with (first | (go_at_call 33; (with_reducible refine (impl_isChristoffel.calls k2 (a0.extract 0 (x5_2 : Int).toNat) false _ A13.out).mono ?_); rintro e w27 ⟨rfl, hb⟩; replace HB := sT bq hb; (try clear hb)))
          repeat (go_quiet (first | (go_at_call 33; (with_reducible refine (impl_isChristoffel.calls k2 (a0.extract 0 (x5_2 : Int).toNat) false _ A13.out).mono ?_); rintro e w27 ⟨rfl, hb⟩; replace HB := sT bq hb; (try clear hb))); try go_wp2_with (first | (go_at_call 33; (with_reducible refine (impl_isChristoffel.calls k2 (a0.extract 0 (x5_2 : Int).toNat) false _ A13.out).mono ?_); rintro e w27 ⟨rfl, hb⟩; replace HB := sT bq hb; (try clear hb))))
          go_roundg k2
          case measure => have := HJ1.out; have := HK2.out; omega
          case rel => exact ⟨(wrap64 (x5_2 + 1)), e2, H', ⟨by have := HJ1.out; have := HK2.out; omega⟩, ⟨bq⟩⟩
        · rw [if_neg c12] at H; exact absurd H (by simp)
       · rw [if_neg c11] at H; exact absurd H (by simp)
      ·
       rw [if_neg c10] at H; have c10b0 := decide_eq_false c10; clear c10; simp only [Option.some.injEq, Prod.mk.injEq] at H; obtain ⟨rfl, rfl, rfl⟩ := H; go_wp2
       repeat (go_quiet (fail); try go_wp2)
       go_ret3; exact ⟨e1, bq⟩

/-! ### cmp_isNaN_int: function 98 -/
def cmp_isNaN_int.f (a0 : Int) : Option (Bool) := some (a0 != a0)
theorem cmp_isNaN_int.calls (a0 : Int) (r : Bool) (w : World) (h : cmp_isNaN_int.f a0 = some r) :
 Calls Tryz.prog 98 #[.int .i64 a0] w fun e w' => e = .returned (.bool r) ∧ Drawn0 w w' := by
 have H : (some (a0 != a0)) = some r := h; clear h; obtain rfl := Option.some.inj H; go_enter Tryz.func98, Tryz.ntmps98; go_wp2; go_ret; exact ⟨e2, dz⟩

/-! ### cmp_Less_int: function 69 -/
def cmp_Less_int.f (a0 : Int) (a1 : Int) : Option (Bool) := (cmp_isNaN_int.f a0).bind fun t299 => (if t299 = true then ((cmp_isNaN_int.f a1).bind fun t300 => (if t300 = true then (some (decide (a0 < a1))) else (some true))) else (some (decide (a0 < a1))))
theorem cmp_Less_int.calls (a0 : Int) (a1 : Int) (r : Bool) (w : World) (h : cmp_Less_int.f a0 a1 = some r) :
 Calls Tryz.prog 69 #[.int .i64 a0, .int .i64 a1] w fun e w' => e = .returned (.bool r) ∧ Drawn0 w w' := by
 have H : ((cmp_isNaN_int.f a0).bind fun t299 => (if t299 = true then ((cmp_isNaN_int.f a1).bind fun t300 => (if t300 = true then (some (decide (a0 < a1))) else (some true))) else (some (decide (a0 < a1))))) = some r := h; clear h; replace H := oB H; obtain ⟨t299, A3, H⟩ := H; by_cases c4 : t299 = true
 ·
  subst c4; rw [if_pos rfl] at H; replace H := oB H; obtain ⟨t300, A5, H⟩ := H; by_cases c6 : t300 = true
  · subst c6; rw [if_pos rfl] at H; obtain rfl := Option.some.inj H; go_enter Tryz.func69, Tryz.ntmps69; go_wp2_with (first | ((with_reducible refine gate_callee (f := 98) rfl ?_); refine gL (some 6) rfl rfl Tryz.func98 (by kernel_rfl) rfl #[.int .i64 a0] rfl ?_; (with_reducible refine (cmp_isNaN_int.calls a0 true _ A3.out).mono ?_); rintro e w' ⟨rfl, ⟨nd, rfl⟩⟩; refine ⟨_, rfl, ?_⟩) | (go_at_call 98; (with_reducible refine (cmp_isNaN_int.calls a1 true _ A5.out).mono ?_); rintro e w' ⟨rfl, ⟨nd, rfl⟩⟩)); go_ret; exact ⟨e2, dz⟩
  · replace c6 := Bool.eq_false_iff.mpr c6; subst c6; rw [if_neg (show ¬ (false = true) by decide)] at H; obtain rfl := Option.some.inj H; go_enter Tryz.func69, Tryz.ntmps69; go_wp2_with (first | ((with_reducible refine gate_callee (f := 98) rfl ?_); refine gL (some 6) rfl rfl Tryz.func98 (by kernel_rfl) rfl #[.int .i64 a0] rfl ?_; (with_reducible refine (cmp_isNaN_int.calls a0 true _ A3.out).mono ?_); rintro e w' ⟨rfl, ⟨nd, rfl⟩⟩; refine ⟨_, rfl, ?_⟩) | (go_at_call 98; (with_reducible refine (cmp_isNaN_int.calls a1 false _ A5.out).mono ?_); rintro e w' ⟨rfl, ⟨nd, rfl⟩⟩)); go_ret; exact ⟨e2, dz⟩
 · replace c4 := Bool.eq_false_iff.mpr c4; subst c4; rw [if_neg (show ¬ (false = true) by decide)] at H; obtain rfl := Option.some.inj H; go_enter Tryz.func69, Tryz.ntmps69; go_wp2_with (first | ((with_reducible refine gate_callee (f := 98) rfl ?_); refine gL (some 6) rfl rfl Tryz.func98 (by kernel_rfl) rfl #[.int .i64 a0] rfl ?_; (with_reducible refine (cmp_isNaN_int.calls a0 false _ A3.out).mono ?_); rintro e w' ⟨rfl, ⟨nd, rfl⟩⟩; refine ⟨_, rfl, ?_⟩)); go_ret; exact ⟨e2, dz⟩

end Go.Proofs.YtljlplohicffpaaGreat.P
