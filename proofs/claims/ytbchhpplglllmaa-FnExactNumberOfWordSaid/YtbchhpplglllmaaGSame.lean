/- Matrices: slices.Equal, slices.EqualFunc over it, sameMatrix, by hand. -/
import Derived.Test.YtbchhpplglllmaaGMat
namespace Go.Proofs.Ytbchhpplglllmaa.G
open Go.RowKit Go.Proofs.YtbchhpplglllmaaW.PrintWords Go.Proofs.YtbchhpplglllmaaW.PrintLast Go.Proofs.YtbchhpplglllmaaW.PrintMore
set_option linter.unusedVariables false

theorem num_at {w : World} {A : Option Addr} {n : Nat} {l : List Int} (h : Kd.C (Kd.int .i64) w A n l) (k : Nat) (hk : k < l.length) : ∃ ad, A = some ad ∧ w.cell? (ad.add k) = some (.int .i64 l[k]) := by
  obtain ⟨h1, _, h3⟩ := h
  obtain ⟨ad, hA, h4⟩ := h3 (by omega)
  obtain ⟨c, _, hK, hc⟩ := h4 k _ (List.getElem?_eq_getElem hk)
  have hK : c = [.int .i64 l[k]] := hK
  subst hK
  have := hc 0 _ rfl
  rw [Nat.add_zero, show (Kd.int .i64).sz = 1 from rfl, Nat.mul_one] at this
  exact ⟨ad, hA, this⟩
theorem take_same {α : Type} {l m : List α} {k : Nat} (h : l.take k = m.take k) (h1 : k < l.length) (h2 : k < m.length) (he : l[k] = m[k]) : l.take (k + 1) = m.take (k + 1) := by
  rw [List.take_succ_eq_append_getElem h1, List.take_succ_eq_append_getElem h2, h, he]
theorem not_same {α : Type} {l m : List α} {k : Nat} (h1 : k < l.length) (h2 : k < m.length) (he : l[k] ≠ m[k]) : l ≠ m := by
  rintro rfl
  exact he rfl
theorem equal_any (A0 : Option Addr) (c0 : Nat) (l : List Int) (A1 : Option Addr) (c1 : Nat) (m : List Int) (w : World) (hr0 : Kd.C (Kd.int .i64) w A0 l.length l) (hr1 : Kd.C (Kd.int .i64) w A1 m.length m) :
    Calls Try.prog 84 #[.slice A0 l.length c0, .slice A1 m.length c1] w fun e w' => e = .returned (.bool (decide (l = m))) ∧ Drawn0 w w' := by
  have HR0 := Aside0.mk hr0
  have HR1 := Aside0.mk hr1
  have hm : l.length ≤ 9223372036854775807 := hr0.2.1
  clear hr0 hr1
  by_cases hl : l.length = m.length
  · have d1 : ((l.length : Int) != (m.length : Int)) = false := bne_eq_false_iff_eq.mpr (by omega)
    have HL := Aside0.mk hl
    clear hl
    go_enter Try.func84, Try.ntmps84
    go_wp2
    go_loopg [13] l.length (fun kq v w' => ∃ k : Nat, k + kq = l.length ∧ v = .int .i64 k ∧ Aside0 (l.take k = m.take k) ∧ Drawn0 w w')
    case atStart => exact ⟨0, by omega, rfl, ⟨by simp⟩, Drawn0.refl _⟩
    case round =>
      obtain ⟨k, hk, rfl, hall, ⟨nd, rfl⟩⟩ := hrel
      have HM : l.length ≤ m.length := by rw [HL.out]; exact Nat.le_refl _
      by_cases hlt : k < l.length
      · obtain ⟨ad, e0, hx⟩ := num_at HR0.out k hlt
        obtain ⟨ad1, e1, hy⟩ := num_at HR1.out k (by omega)
        cases e0
        cases e1
        obtain ⟨j, rfl⟩ : ∃ j, gk = j + 1 := ⟨gk - 1, by omega⟩
        have hd : decide (k < l.length) = true := decide_eq_true hlt
        have hd2 : decide (k < m.length) = true := decide_eq_true (by omega)
        by_cases he : l[k] = m[k]
        · have hN := Aside0.mk (take_same hall.out hlt (by omega) he)
          have he0 : (l[k] != m[k]) = false := bne_eq_false_iff_eq.mpr he
          clear hall he
          generalize l[k] = x at hx he0
          generalize m[k] = y at hy he0
          go_wp2
          repeat (go_quiet (fail); try go_wp2)
          go_roundg j
          case rel => exact ⟨k + 1, by omega, by go_num, hN, by repeat (first | exact Drawn0.refl _ | apply Drawn0.step)⟩
          case measure => omega
        · have hN := Aside0.mk (not_same hlt (by omega) he)
          have he0 : (l[k] != m[k]) = true := bne_iff_ne.mpr he
          clear hall he
          generalize l[k] = x at hx he0
          generalize m[k] = y at hy he0
          go_wp2
          repeat (go_quiet (fail); try go_wp2)
          go_ret
          exact ⟨by rw [decide_eq_false hN.out]; rfl, by repeat (first | exact Drawn0.refl _ | apply Drawn0.step)⟩
      · have hN := Aside0.mk (show l = m by
          have h := hall.out
          rwa [List.take_of_length_le (by omega), List.take_of_length_le (by have := HL.out; omega)] at h)
        have hgk : gk = 0 := by omega
        subst hgk
        have hd : decide (k < l.length) = false := decide_eq_false hlt
        clear hall
        go_wp2
        go_ret
        exact ⟨by rw [decide_eq_true hN.out]; rfl, ⟨nd, rfl⟩⟩
  · have d1 : ((l.length : Int) != (m.length : Int)) = true := bne_iff_ne.mpr (by omega)
    have hN := Aside0.mk (show l ≠ m by rintro rfl; exact hl rfl)
    clear hl
    go_enter Try.func84, Try.ntmps84
    go_wp2
    go_ret
    exact ⟨by rw [decide_eq_false hN.out]; rfl, Drawn0.refl _⟩

set_option maxHeartbeats 1000000 in
theorem equalFunc_any (A0 : Option Addr) (c0 : Nat) (l : List (List Int)) (A1 : Option Addr) (c1 : Nat) (m : List (List Int)) (w : World) (hr0 : Kd.C (Kd.slice 3 (Kd.int .i64)) w A0 l.length l) (hr1 : Kd.C (Kd.slice 3 (Kd.int .i64)) w A1 m.length m) :
    Calls Try.prog 83 #[.slice A0 l.length c0, .slice A1 m.length c1, .func (.func 84) #[] #[]] w fun e w' => e = .returned (.bool (decide (l = m))) ∧ Below w.heap.size w w' := by
  have HR0 := Aside0.mk hr0
  have HR1 := Aside0.mk hr1
  have hm : l.length ≤ 9223372036854775807 := hr0.2.1
  clear hr0 hr1
  by_cases hl : l.length = m.length
  · have d1 : ((l.length : Int) != (m.length : Int)) = false := bne_eq_false_iff_eq.mpr (by omega)
    have HL := Aside0.mk hl
    clear hl
    go_enter Try.func83, Try.ntmps83
    go_wp2
    go_loopg [17] l.length (fun kq v w' => ∃ k : Nat, k + kq = l.length ∧ v = .int .i64 k ∧ Aside0 (l.take k = m.take k) ∧ Aside0 (Below w.heap.size w w'))
    case atStart => exact ⟨0, by omega, rfl, ⟨by simp⟩, ⟨Below.refl _ _⟩⟩
    case round =>
      obtain ⟨k, hk, rfl, hall, HB⟩ := hrel
      have HM : l.length ≤ m.length := by rw [HL.out]; exact Nat.le_refl _
      by_cases hlt : k < l.length
      · obtain ⟨ad, X0, z0, e0, hx, hlx, hCx⟩ := row_at (Kd.C_below HR0.out HB.out) k hlt
        obtain ⟨ad1, X1, z1, e1, hy, hly, hCy⟩ := row_at (Kd.C_below HR1.out HB.out) k (by omega)
        cases e0
        cases e1
        obtain ⟨j, rfl⟩ : ∃ j, gk = j + 1 := ⟨gk - 1, by omega⟩
        have hd : decide (k < l.length) = true := decide_eq_true hlt
        have hd2 : decide (k < m.length) = true := decide_eq_true (by omega)
        have C := Aside0.mk (equal_any X0 z0 l[k] X1 z1 m[k] wr hCx hCy)
        clear hCx hCy hlx hly
        by_cases he : l[k] = m[k]
        · have hN := Aside0.mk (take_same hall.out hlt (by omega) he)
          rw [decide_eq_true he] at C
          clear hall he
          generalize l[k] = x at hx C
          generalize m[k] = y at hy C
          go_wp2_with fail
          refine C.out.mono ?_
          rintro e w' ⟨rfl, hb⟩
          have HB2 := Aside0.mk (below_step HB.out hb.below)
          clear hb C HB
          go_wp2
          go_roundg j
          case rel => exact ⟨k + 1, by omega, by go_num, hN, HB2⟩
          case measure => omega
        · have hN := Aside0.mk (not_same hlt (by omega) he)
          rw [decide_eq_false he] at C
          clear hall he
          generalize l[k] = x at hx C
          generalize m[k] = y at hy C
          go_wp2_with fail
          refine C.out.mono ?_
          rintro e w' ⟨rfl, hb⟩
          have HB2 := Aside0.mk (below_step HB.out hb.below)
          clear hb C HB
          go_wp2
          go_ret
          exact ⟨by rw [decide_eq_false hN.out]; rfl, HB2.out⟩
      · have hN := Aside0.mk (show l = m by
          have h := hall.out
          rwa [List.take_of_length_le (by omega), List.take_of_length_le (by have := HL.out; omega)] at h)
        have hgk : gk = 0 := by omega
        subst hgk
        have hd : decide (k < l.length) = false := decide_eq_false hlt
        clear hall
        go_wp2
        go_ret
        exact ⟨by rw [decide_eq_true hN.out]; rfl, HB.out⟩
  · have d1 : ((l.length : Int) != (m.length : Int)) = true := bne_iff_ne.mpr (by omega)
    have hN := Aside0.mk (show l ≠ m by rintro rfl; exact hl rfl)
    clear hl
    go_enter Try.func83, Try.ntmps83
    go_wp2
    go_ret
    exact ⟨by rw [decide_eq_false hN.out]; rfl, Below.refl _ _⟩
theorem same_any (A0 : Option Addr) (c0 : Nat) (l : List (List Int)) (A1 : Option Addr) (c1 : Nat) (m : List (List Int)) (w : World) (hr0 : Kd.C (Kd.slice 3 (Kd.int .i64)) w A0 l.length l) (hr1 : Kd.C (Kd.slice 3 (Kd.int .i64)) w A1 m.length m) :
    Calls Try.prog 61 #[.agg #[.slice A0 l.length c0], .agg #[.slice A1 m.length c1]] w fun e w' => e = .returned (.bool (decide (l = m))) ∧ Below w.heap.size w w' := by
  have hu := Try.underlying27
  have HB := Aside0.mk (((Below.refl w.heap.size w).alloc (Nat.le_refl _) (.cells #[.slice A0 l.length c0] 27)).alloc (by simp) (.cells #[.slice A1 m.length c1] 27))
  have C := Aside0.mk (equalFunc_any A0 c0 l A1 c1 m _ (Kd.C_below hr0 HB.out) (Kd.C_below hr1 HB.out))
  clear hr0 hr1
  go_enter Try.func61, Try.ntmps61
  go_wp2_with fail
  refine C.out.mono ?_
  rintro e w1 ⟨rfl, hb⟩
  have B2 := Aside0.mk (below_step HB.out hb)
  clear hb
  go_wp2
  go_ret
  exact ⟨rfl, B2.out⟩
end Go.Proofs.Ytbchhpplglllmaa.G
