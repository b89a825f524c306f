/- Matrices: impl.within, size, isVector, IsMatrix, by hand. -/
import Derived.Test.YtbchhpplglllmaaGAllWithin
import Derived.Test.YtbchhpplglllmaaWKept
import Derived.Test.YtbchhpplglllmaaWMore
namespace Go.Proofs.Ytbchhpplglllmaa.G
open Go.RowKit Go.Proofs.YtbchhpplglllmaaW.PrintWords Go.Proofs.YtbchhpplglllmaaW.PrintLast Go.Proofs.YtbchhpplglllmaaW.PrintMore
set_option linter.unusedVariables false

theorem within_any (a lo hi : Int) (w : World) :
    Calls Try.prog 42 #[.int .i64 a, .int .i64 lo, .int .i64 hi] w fun e w' => e = .returned (.bool (decide (lo ≤ a) && decide (a ≤ hi))) ∧ w = w' := by
  by_cases c1 : lo ≤ a
  · have d1 : decide (lo ≤ a) = true := decide_eq_true c1
    clear c1
    go_enter Try.func42, Try.ntmps42
    go_wp2
    go_ret
    exact ⟨by simp [d1], rfl⟩
  · have d1 : decide (lo ≤ a) = false := decide_eq_false c1
    clear c1
    go_enter Try.func42, Try.ntmps42
    go_wp2
    go_ret
    exact ⟨by simp [d1], rfl⟩

theorem size_any (A : Option Addr) (n c : Nat) (w : World) :
    Calls Try.prog 43 #[.agg #[.slice A n c]] w fun e w' => e = .returned (.int .i64 n) ∧ w' = w.alloc (.cells #[.slice A n c] 27) := by
  have hu := Try.underlying27
  go_enter Try.func43, Try.ntmps43
  go_wp2
  go_ret
  exact ⟨rfl, rfl⟩
/-- A row that is a vector of a size. -/
def isVec (n : Int) (l : List Int) : Bool := decide ((l.length : Int) = n) && l.all (inB (-1000000) 1000000)
theorem isVector_any (A0 : Option Addr) (c0 : Nat) (l : List Int) (n : Int) (w : World) (hr0 : Kd.C (Kd.int .i64) w A0 l.length l) :
    Calls Try.prog 46 #[.slice A0 l.length c0, .int .i64 n] w fun e w' => e = .returned (.bool (isVec n l)) ∧ Below w.heap.size w w' := by
  have C := fun W (h : Kd.C (Kd.int .i64) W A0 l.length l) => allWithin_any A0 c0 l (-1000000) 1000000 W h
  have HR0 := Aside0.mk hr0
  clear hr0
  unfold isVec
  generalize l.all (inB (-1000000) 1000000) = b at C
  by_cases c1 : (l.length : Int) = n
  · have d1 : ((l.length : Int) == n) = true := beq_iff_eq.mpr c1
    have d2 : decide ((l.length : Int) = n) = true := decide_eq_true c1
    clear c1
    go_enter Try.func46, Try.ntmps46
    go_wp2_with (go_at_call 75; refine (C _ HR0.out).mono ?_; rintro e w' ⟨rfl, hb⟩; replace hb := Aside0.mk hb)
    go_ret
    exact ⟨by simp [d2], hb.out⟩
  · have d1 : ((l.length : Int) == n) = false := beq_eq_false_iff_ne.mpr c1
    have d2 : decide ((l.length : Int) = n) = false := decide_eq_false c1
    clear c1
    go_enter Try.func46, Try.ntmps46
    go_wp2
    go_ret
    exact ⟨by simp [d2], Below.refl _ _⟩

/-- IsMatrix's closure: is a row no vector of the size? The matrix lies boxed. -/
theorem isMatrix1_any (B : Nat) (A : Option Addr) (n c : Nat) (A0 : Option Addr) (c0 : Nat) (l : List Int) (w : World) (hr0 : Kd.C (Kd.int .i64) w A0 l.length l) (hb : w.cell? ⟨B, 0, none⟩ = some (.slice A n c)) :
    Calls Try.prog 45 #[.slice A0 l.length c0, .pointer (some ⟨B, 0, none⟩)] w fun e w' => e = .returned (.bool (!(isVec n l))) ∧ Below w.heap.size w w' := by
  have hu := Try.underlying27
  have C := fun W (h : Kd.C (Kd.int .i64) W A0 l.length l) => isVector_any A0 c0 l n W h
  have HR0 := Aside0.mk hr0
  have D := fun W => size_any A n c W
  clear hr0
  generalize isVec n l = b at C
  go_enter Try.func45, Try.ntmps45
  go_wp2_with fail
  refine (D _).mono ?_
  rintro e w1 ⟨rfl, hw1⟩
  have B1 := Aside0.mk (show Below w.heap.size w w1 by rw [hw1]; exact below_alloc (Below.refl _ _) _)
  clear hw1
  go_wp2_with fail
  refine (C _ (Kd.C_below HR0.out B1.out)).mono ?_
  rintro e w2 ⟨rfl, hb2⟩
  have B2 := Aside0.mk (below_step B1.out hb2)
  clear hb2
  go_wp2
  go_ret
  exact ⟨rfl, B2.out⟩

/-- An element of a row of rows. -/
theorem row_at {w : World} {A : Option Addr} {n : Nat} {L : List (List Int)} (h : Kd.C (Kd.slice 3 (Kd.int .i64)) w A n L) (k : Nat) (hk : k < L.length) :
    ∃ ad A1 c1, A = some ad ∧ w.cell? (ad.add k) = some (.slice A1 L[k].length c1) ∧ L[k].length ≤ c1 ∧ Kd.C (Kd.int .i64) w A1 L[k].length L[k] := by
  obtain ⟨h1, _, h3⟩ := h
  obtain ⟨ad, hA, h4⟩ := h3 (by omega)
  obtain ⟨c, _, hK, hc⟩ := h4 k _ (List.getElem?_eq_getElem hk)
  obtain ⟨A1, c1, rfl, hl, hC⟩ := hK
  have := hc 0 _ rfl
  rw [Nat.add_zero, show (Kd.slice 3 (Kd.int .i64)).sz = 1 from rfl, Nat.mul_one] at this
  exact ⟨ad, A1, c1, hA, this, hl, hC⟩
theorem take_allR {α : Type} (p : α → Bool) (l : List α) (k : Nat) (h : k < l.length) : (l.take (k + 1)).all p = ((l.take k).all p && p l[k]) := by
  rw [List.take_succ_eq_append_getElem h, List.all_append]
  simp
/-- What the search comes to: an index from 0 on if a row fails. -/
def IdxPostB (b : Bool) (w : World) (e : Ending) (w' : World) : Prop := (∃ r : Int, e = .returned (.int .i64 r) ∧ decide (0 ≤ r) = b) ∧ Below w.heap.size w w'

set_option maxHeartbeats 1000000 in
theorem indexIsMatrix_any (p : List Int → Bool) (u : Value) (B : Nat) (A0 : Option Addr) (c0 : Nat) (L : List (List Int)) (w : World) (hr0 : Kd.C (Kd.slice 3 (Kd.int .i64)) w A0 L.length L) (h1 : w.cell? ⟨B, 0, none⟩ = some u)
    (V : ∀ (A1 : Option Addr) (c1 : Nat) (l : List Int) (W : World), Kd.C (Kd.int .i64) W A1 l.length l → W.cell? ⟨B, 0, none⟩ = some u →
      Calls Try.prog 45 #[.slice A1 l.length c1, .pointer (some ⟨B, 0, none⟩)] W fun e w' => e = .returned (.bool (!(p l))) ∧ Below W.heap.size W w') :
    Calls Try.prog 74 #[.slice A0 L.length c0, .func (.func 45) #[] #[.pointer (some ⟨B, 0, none⟩)]] w (IdxPostB (!(L.all p)) w) := by
  have HR0 := Aside0.mk hr0
  have VV := Aside0.mk V
  have H1 := Aside0.mk h1
  have hm : L.length ≤ 9223372036854775807 := hr0.2.1
  clear hr0 V h1
  go_enter Try.func74, Try.ntmps74
  go_wp2
  go_loopg [8] L.length (fun kq v w' => ∃ k : Nat, k + kq = L.length ∧ v = .int .i64 k ∧ Aside0 ((L.take k).all p = true) ∧ Aside0 (Below w.heap.size w w'))
  case atStart => exact ⟨0, by omega, rfl, ⟨by simp⟩, ⟨Below.refl _ _⟩⟩
  case round =>
    obtain ⟨k, hk, rfl, hall, HB⟩ := hrel
    by_cases hlt : k < L.length
    · obtain ⟨ad, A1, c1, rfl, hx, hl1, hC1⟩ := row_at (Kd.C_below HR0.out HB.out) k hlt
      have TA := Aside0.mk (take_allR p L k hlt)
      have hgk : ∃ j, gk = j + 1 := ⟨gk - 1, by omega⟩
      obtain ⟨j, rfl⟩ := hgk
      have hd : decide (k < L.length) = true := decide_eq_true hlt
      have C := VV.out A1 c1 L[k] wr hC1 (pw_cell_below HB.out H1.out)
      clear hC1 hl1
      generalize L[k] = x at hx TA C
      cases hb : p x with
      | true =>
        rw [hb] at C TA
        have hN := Aside0.mk (show (L.take (k + 1)).all p = true by rw [TA.out, hall.out]; rfl)
        have C := Aside0.mk C
        clear TA hall hb
        go_wp2_with fail
        refine C.out.mono ?_
        rintro e w' ⟨rfl, hb⟩
        have HB2 := Aside0.mk (below_step HB.out hb)
        clear hb C HB
        go_wp2
        go_roundg j
        case rel => exact ⟨k + 1, by omega, by go_num, hN, HB2⟩
        case measure => omega
      | false =>
        rw [hb] at C TA
        have hN := Aside0.mk (show L.all p = false by
          rw [← List.take_append_drop (k + 1) L, List.all_append, TA.out, hall.out]
          rfl)
        have C := Aside0.mk C
        clear TA hall hb
        go_wp2_with fail
        refine C.out.mono ?_
        rintro e w' ⟨rfl, hb⟩
        have HB2 := Aside0.mk (below_step HB.out hb)
        clear hb C HB
        go_wp2
        go_ret
        exact ⟨⟨_, rfl, by rw [hN.out]; exact decide_eq_true (by omega)⟩, HB2.out⟩
    · have hN := Aside0.mk (show L.all p = true by
        have h := hall.out
        rwa [List.take_of_length_le (by omega)] at h)
      have hgk : gk = 0 := by omega
      subst hgk
      have hd : decide (k < L.length) = false := decide_eq_false hlt
      clear hall
      go_wp2
      go_ret
      exact ⟨⟨_, rfl, by rw [hN.out]; rfl⟩, HB.out⟩

theorem containsIsMatrix_any (p : List Int → Bool) (u : Value) (B : Nat) (A0 : Option Addr) (c0 : Nat) (L : List (List Int)) (w : World) (hr0 : Kd.C (Kd.slice 3 (Kd.int .i64)) w A0 L.length L) (h1 : w.cell? ⟨B, 0, none⟩ = some u)
    (V : ∀ (A1 : Option Addr) (c1 : Nat) (l : List Int) (W : World), Kd.C (Kd.int .i64) W A1 l.length l → W.cell? ⟨B, 0, none⟩ = some u →
      Calls Try.prog 45 #[.slice A1 l.length c1, .pointer (some ⟨B, 0, none⟩)] W fun e w' => e = .returned (.bool (!(p l))) ∧ Below W.heap.size W w') :
    Calls Try.prog 44 #[.slice A0 L.length c0, .func (.func 45) #[] #[.pointer (some ⟨B, 0, none⟩)]] w fun e w' => e = .returned (.bool (!(L.all p))) ∧ Below w.heap.size w w' := by
  have C := indexIsMatrix_any p u B A0 c0 L w hr0 h1 V
  generalize (!(L.all p)) = b at C
  have C := Aside0.mk C
  clear hr0 h1 V
  go_enter Try.func44, Try.ntmps44
  go_wp2_with fail
  refine C.out.mono ?_
  rintro e w' ⟨⟨r, rfl, hr⟩, hb⟩
  replace hr := Aside0.mk hr
  replace hb := Aside0.mk hb
  go_wp2
  go_ret
  exact ⟨by rw [← hr.out]; rfl, hb.out⟩

/-- Rows that are a matrix. -/
def isMat (L : List (List Int)) : Bool := (decide (1 ≤ (L.length : Int)) && decide ((L.length : Int) ≤ 4)) && L.all (isVec L.length)
theorem isMatrix_any (A : Option Addr) (c : Nat) (L : List (List Int)) (w : World) (hr : Kd.C (Kd.slice 3 (Kd.int .i64)) w A L.length L) :
    Calls Try.prog 15 #[.agg #[.slice A L.length c]] w fun e w' => e = .returned (.bool (isMat L)) ∧ Below w.heap.size w w' := by
  have hmf : ∀ (fn : Fn) (first cap : Array Value) (w : World), (Instr.makeFunc fn first cap).run Try.prog w = .ok (.func fn first cap) w := fun _ _ _ _ => rfl
  have hu := Try.underlying27
  have HW := fun W => within_any (L.length : Int) 1 4 W
  have HS := fun W => size_any A L.length c W
  have HC := Aside0.mk (fun (W : World) (hB : Below (w.alloc (.cells #[.slice A L.length c] 27)).heap.size (w.alloc (.cells #[.slice A L.length c] 27)) W) =>
    containsIsMatrix_any (isVec L.length) (.slice A L.length c) w.heap.size A c L W (Kd.C_below (Kd.C_below hr (below_alloc (Below.refl _ _) _)) hB)
      (pw_cell_below hB (by rw [World.cell?_alloc_at _ _ _ _ rfl]; rfl)) (fun A1 c1 l W' h1 h2 => isMatrix1_any w.heap.size A L.length c A1 c1 l W' h1 h2))
  clear hr
  unfold isMat
  generalize L.all (isVec L.length) = b at HC
  cases hwi : (decide (1 ≤ (L.length : Int)) && decide ((L.length : Int) ≤ 4)) with
  | true =>
    rw [hwi] at HW
    clear hwi
    go_enter Try.func15, Try.ntmps15
    go_wp2_with fail
    refine (HS _).mono ?_
    rintro e w1 ⟨rfl, hw1⟩
    have B1 := Aside0.mk (show Below (w.alloc (.cells #[.slice A L.length c] 27)).heap.size (w.alloc (.cells #[.slice A L.length c] 27)) w1 by rw [hw1]; exact below_alloc (Below.refl _ _) _)
    have M1 : w1.cell? ⟨w.heap.size, 0, none⟩ = some (.slice A L.length c) := pw_cell_below B1.out (by rw [World.cell?_alloc_at _ _ _ _ rfl]; rfl)
    clear hw1
    go_wp2_with fail
    refine (HW _).mono ?_
    rintro e w2 ⟨rfl, rfl⟩
    go_wp2_with fail
    refine (HC.out _ B1.out).mono ?_
    rintro e w3 ⟨rfl, hb⟩
    have B2 := Aside0.mk (below_step (below_step (below_alloc (Below.refl w.heap.size w) _) B1.out) hb)
    clear hb B1
    go_wp2
    go_ret
    exact ⟨by simp, B2.out⟩
  | false =>
    rw [hwi] at HW
    clear hwi HC
    go_enter Try.func15, Try.ntmps15
    go_wp2_with fail
    refine (HS _).mono ?_
    rintro e w1 ⟨rfl, hw1⟩
    have B1 := Aside0.mk (show Below (w.alloc (.cells #[.slice A L.length c] 27)).heap.size (w.alloc (.cells #[.slice A L.length c] 27)) w1 by rw [hw1]; exact below_alloc (Below.refl _ _) _)
    have M1 : w1.cell? ⟨w.heap.size, 0, none⟩ = some (.slice A L.length c) := pw_cell_below B1.out (by rw [World.cell?_alloc_at _ _ _ _ rfl]; rfl)
    clear hw1
    go_wp2_with fail
    refine (HW _).mono ?_
    rintro e w2 ⟨rfl, rfl⟩
    go_wp2
    go_ret
    exact ⟨by simp, below_step (below_alloc (Below.refl w.heap.size w) _) B1.out⟩
end Go.Proofs.Ytbchhpplglllmaa.G
