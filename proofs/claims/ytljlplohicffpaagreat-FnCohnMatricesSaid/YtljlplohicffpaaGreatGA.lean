/- Several parts in one text: impl.allWithin: all numbers of a list lie between two others: its closure, slices.IndexFunc and slices.ContainsFunc at []int, and itself. slices.Clone at []int: a new slice with the same numbers. Matrices: impl.within, size, isVector, IsMatrix, by hand. impl.made, by hand: what all its closures share. Matrices: times, by hand. Matrices: unit, by hand. impl.isWord: all bytes of a text are one of two: its closure, slices.IndexFunc and slices.ContainsFunc at []byte, and itself. -/
import Derived.Test.YtljlplohicffpaaGreatProg
import Derived.Test.YtljlplohicffpaaGreatWWords
import Derived.WalkSpells
import Derived.Test.YtljlplohicffpaaGreatWKept
import Derived.Test.YtljlplohicffpaaGreatWMore
namespace Go.Proofs.YtljlplohicffpaaGreat.G
open Go.RowKit Go.Proofs.YtljlplohicffpaaGreatW.PrintWords

/-- The closure: is a number outside? The captured bounds lie in two blocks. -/
theorem outside_any (B : Nat) (lo hi x : Int) (w : World) (h1 : w.cell? ⟨B, 0, none⟩ = some (.int .i64 lo)) (h2 : w.cell? ⟨B + 1, 0, none⟩ = some (.int .i64 hi)) :
    Calls Tryz.prog 97 #[.int .i64 x, .pointer (some ⟨B, 0, none⟩), .pointer (some ⟨B + 1, 0, none⟩)] w fun e w' => e = .returned (.bool (!(decide (lo ≤ x) && decide (x ≤ hi)))) ∧ w = w' := by
  by_cases c1 : lo ≤ x
  · have d1 : decide (lo ≤ x) = true := decide_eq_true c1
    clear c1
    go_enter Tryz.func97, Tryz.ntmps97
    go_wp2
    go_ret
    exact ⟨by simp [d1], rfl⟩
  · have d1 : decide (lo ≤ x) = false := decide_eq_false c1
    clear c1
    go_enter Tryz.func97, Tryz.ntmps97
    go_wp2
    go_ret
    exact ⟨by simp [d1], rfl⟩

def inB (lo hi x : Int) : Bool := decide (lo ≤ x) && decide (x ≤ hi)
/-- What the search comes to: an index from 0 on if a number lies outside. -/
def IdxPost (b : Bool) (w : World) (e : Ending) (w' : World) : Prop := (∃ r : Int, e = .returned (.int .i64 r) ∧ decide (0 ≤ r) = b) ∧ w = w'

theorem take_all (p : Int → Bool) (l : List Int) (k : Nat) (h : k < l.length) : (l.take (k + 1)).all p = ((l.take k).all p && p l[k]) := by
  rw [List.take_succ_eq_append_getElem h, List.all_append]
  simp

set_option maxHeartbeats 1000000 in
theorem index_any (B : Nat) (lo hi : Int) (A0 : Option Addr) (c0 : Nat) (l : List Int) (w : World) (hr0 : Kd.C (Kd.int .i64) w A0 l.length l)
    (h1 : w.cell? ⟨B, 0, none⟩ = some (.int .i64 lo)) (h2 : w.cell? ⟨B + 1, 0, none⟩ = some (.int .i64 hi)) :
    Calls Tryz.prog 115 #[.slice A0 l.length c0, .func (.func 97) #[] #[.pointer (some ⟨B, 0, none⟩), .pointer (some ⟨B + 1, 0, none⟩)]] w (IdxPost (!(l.all (inB lo hi))) w) := by
  have HR0 := Aside0.mk hr0
  have hm : l.length ≤ 9223372036854775807 := hr0.2.1
  clear hr0
  go_enter Tryz.func115, Tryz.ntmps115
  go_wp2
  go_loop [5, 8] (fun _ v => ∃ k : Nat, k ≤ l.length ∧ v = .int .i64 k ∧ Aside0 ((l.take k).all (inB lo hi) = true)) (fun _ v => l.length - (intOf v).toNat)
  case atStart => exact ⟨0, Nat.zero_le _, rfl, ⟨by simp⟩⟩
  case round =>
    obtain ⟨k, hk, rfl, hall⟩ := hrel
    by_cases hlt : k < l.length
    · obtain ⟨ad, e0, hx⟩ := Kd.at_int HR0.out (k : Int) (by omega) (by omega)
      cases e0
      have hrd : rd l (k : Int) = l[k] := by simp [rd, List.getD_eq_getElem?_getD, List.getElem?_eq_getElem hlt]
      rw [hrd] at hx
      simp only [Int.toNat_natCast] at hx
      have TA := Aside0.mk (take_all (inB lo hi) l k hlt)
      generalize l[k] = x at hx TA
      clear hrd
      cases hb : (decide (lo ≤ x) && decide (x ≤ hi)) with
      | true =>
        have hN := Aside0.mk (show (l.take (k + 1)).all (inB lo hi) = true by rw [TA.out, hall.out]; exact hb)
        clear TA hall
        have C := fun W (g1 : W.cell? ⟨B, 0, none⟩ = some (.int .i64 lo)) (g2 : W.cell? ⟨B + 1, 0, none⟩ = some (.int .i64 hi)) => outside_any B lo hi x W g1 g2
        rw [hb] at C
        clear hb
        go_wp2_with (go_at_call 97; refine (C _ h1 h2).mono ?_; rintro e w' ⟨rfl, rfl⟩)
        go_round
        case rel => exact ⟨k + 1, by omega, by go_num, hN⟩
        case measure => simp [intOf]; omega
      | false =>
        have hN := Aside0.mk (show l.all (inB lo hi) = false by
          rw [← List.take_append_drop (k + 1) l, List.all_append, TA.out, hall.out]
          show (true && (decide (lo ≤ x) && decide (x ≤ hi)) && _) = false
          rw [hb]; rfl)
        clear TA hall
        have C := fun W (g1 : W.cell? ⟨B, 0, none⟩ = some (.int .i64 lo)) (g2 : W.cell? ⟨B + 1, 0, none⟩ = some (.int .i64 hi)) => outside_any B lo hi x W g1 g2
        rw [hb] at C
        clear hb
        go_wp2_with (go_at_call 97; refine (C _ h1 h2).mono ?_; rintro e w' ⟨rfl, rfl⟩)
        go_ret
        exact ⟨⟨_, rfl, by rw [hN.out]; exact decide_eq_true (by omega)⟩, rfl⟩
    · have hN := Aside0.mk (show l.all (inB lo hi) = true by
        have h := hall.out
        rwa [List.take_of_length_le (by omega)] at h)
      clear hall
      go_wp2
      go_ret
      exact ⟨⟨_, rfl, by rw [hN.out]; rfl⟩, rfl⟩

theorem contains_any (B : Nat) (lo hi : Int) (A0 : Option Addr) (c0 : Nat) (l : List Int) (w : World) (hr0 : Kd.C (Kd.int .i64) w A0 l.length l)
    (h1 : w.cell? ⟨B, 0, none⟩ = some (.int .i64 lo)) (h2 : w.cell? ⟨B + 1, 0, none⟩ = some (.int .i64 hi)) :
    Calls Tryz.prog 96 #[.slice A0 l.length c0, .func (.func 97) #[] #[.pointer (some ⟨B, 0, none⟩), .pointer (some ⟨B + 1, 0, none⟩)]] w fun e w' => e = .returned (.bool (!(l.all (inB lo hi)))) ∧ w = w' := by
  have C := fun W (g0 : Kd.C (Kd.int .i64) W A0 l.length l) (g1 : W.cell? ⟨B, 0, none⟩ = some (.int .i64 lo)) (g2 : W.cell? ⟨B + 1, 0, none⟩ = some (.int .i64 hi)) => index_any B lo hi A0 c0 l W g0 g1 g2
  generalize (!(l.all (inB lo hi))) = b at C
  have HR0 := Aside0.mk hr0
  clear hr0
  go_enter Tryz.func96, Tryz.ntmps96
  go_wp2_with (go_at_call 115; refine (C _ HR0.out h1 h2).mono ?_; rintro e w' ⟨⟨r, rfl, hr⟩, rfl⟩; replace hr := Aside0.mk hr)
  go_ret
  exact ⟨by rw [← hr.out]; rfl, rfl⟩

/-- impl.allWithin. -/
theorem allWithin_any (A0 : Option Addr) (c0 : Nat) (l : List Int) (lo hi : Int) (w : World) (hr0 : Kd.C (Kd.int .i64) w A0 l.length l) :
    Calls Tryz.prog 68 #[.slice A0 l.length c0, .int .i64 lo, .int .i64 hi] w fun e w' => e = .returned (.bool (l.all (inB lo hi))) ∧ Below w.heap.size w w' := by
  have hmf : ∀ (fn : Fn) (first cap : Array Value) (w : World), (Instr.makeFunc fn first cap).run Tryz.prog w = .ok (.func fn first cap) w := fun _ _ _ _ => rfl
  have HB := Aside0.mk (((Below.refl w.heap.size w).alloc (Nat.le_refl _) (.cells #[.int .i64 lo] 3)).alloc (by simp) (.cells #[.int .i64 hi] 3))
  have HR0 := Aside0.mk (Kd.C_below hr0 HB.out)
  have M2 : ((w.alloc (.cells #[.int .i64 lo] 3)).alloc (.cells #[.int .i64 hi] 3)).cell? ⟨w.heap.size, 0, none⟩ = some (.int .i64 lo) := by
    rw [World.cell?_alloc_past _ _ _ (by simp), World.cell?_alloc_at _ _ _ _ rfl]; rfl
  have D2 : ((w.alloc (.cells #[.int .i64 lo] 3)).alloc (.cells #[.int .i64 hi] 3)).cell? ⟨w.heap.size + 1, 0, none⟩ = some (.int .i64 hi) := by
    rw [World.cell?_alloc_at _ _ _ _ (by simp)]; rfl
  have C := contains_any w.heap.size lo hi A0 c0 l _ HR0.out M2 D2
  clear M2 D2 hr0 HR0
  go_enter Tryz.func68, Tryz.ntmps68
  go_wp2_with fail
  refine C.mono ?_
  rintro e w' ⟨rfl, rfl⟩
  go_wp2
  go_ret
  exact ⟨by simp, HB.out⟩
end Go.Proofs.YtljlplohicffpaaGreat.G
namespace Go.Proofs.YtljlplohicffpaaGreat.G
open Go.RowKit Go.Proofs.YtljlplohicffpaaGreatW.PrintWords

theorem cinfo : (Tryz.prog.info? 3).map (fun i => (i.zero, i.size, i.bytes)) = some (some (.int .i64 0), 1, 8) := by kernel_rfl

/-- A row of whole numbers that the call owns, in the print's form. -/
theorem R_of_own {W : World} {base : Nat} {v : Value} {xs : List Int} (h : W.ownsRow base 3 1 v xs.length (nums .i64 xs)) : Kd.R (Kd.int .i64) 3 W base (fun _ => True) v xs := by
  refine ⟨fun _ _ => trivial, nums .i64 xs, h, by simp [nums, Kd.int, Kd.scalar], fun j p hj => ?_⟩
  have hl := (List.getElem?_eq_some_iff.1 hj).1
  obtain ⟨_, rfl⟩ := List.getElem?_eq_some_iff.1 hj
  show ((nums .i64 xs).drop (j * 1)).take 1 = [Value.int .i64 xs[j]]
  rw [Nat.mul_one, List.drop_eq_getElem_cons (by simpa [nums] using hl)]
  simp [nums]
theorem C_int {W : World} {A : Option Addr} {n : Nat} {xs : List Int} (h : Kd.C (Kd.int .i64) W A n xs) : ReadsInt W .i64 A n xs := by
  refine ⟨h.1, h.2.1, fun hn => ?_⟩
  obtain ⟨ad, e, hc⟩ := h.2.2 hn
  refine ⟨ad, e, fun j hj => ?_⟩
  have hl : j < xs.length := by have := h.1; omega
  obtain ⟨c, hcl, hk, hcell⟩ := hc j xs[j] (List.getElem?_eq_getElem hl)
  have hk : c = [Value.int .i64 xs[j]] := hk
  subst hk
  have h0 := hcell 0 (.int .i64 xs[j]) rfl
  have e1 : j * (Kd.int .i64).sz + 0 = j := by show j * 1 + 0 = j; omega
  rw [e1] at h0
  rw [h0]
  simp [List.getD_eq_getElem?_getD, List.getElem?_eq_getElem hl]

set_option maxHeartbeats 1000000 in
theorem clone_any (A0 : Option Addr) (c0 : Nat) (l0 : List Int) (w : World) (hr0 : Kd.C (Kd.int .i64) w A0 l0.length l0) (hlim : l0.length ≤ 17592186044416) :
    Calls Tryz.prog 66 #[.slice A0 l0.length c0] w fun e w' => ∃ v0_ : Value, e = .returned v0_ ∧ Kd.R (Kd.int .i64) 3 w' w.heap.size (fun _ => True) v0_ l0 ∧ Below w.heap.size w w' := by
  have HR := Aside0.mk (C_int hr0)
  have HL := Aside0.mk hlim
  clear hr0 hlim
  cases A0 with
  | none =>
    have h0 : l0 = [] := by
      rcases l0 with _ | ⟨x, l⟩
      · rfl
      · obtain ⟨ad, e, _⟩ := HR.out.2.2 (by simp)
        cases e
    subst h0
    clear HR HL
    have he := fun (W : World) (a : Option Addr) (n c : Nat) => Lib.run_eql_slice_nil (P := Tryz.prog) W 32 3 a n c 0 0 Tryz.underlying32
    go_enter Tryz.func66, Tryz.ntmps66
    go_wp2
    go_ret
    exact ⟨_, rfl, Kd.R_nil _ _ _ _ _, Below.refl _ _⟩
  | some ad =>
    have he := fun (W : World) (a : Option Addr) (n c : Nat) => Lib.run_eql_slice_nil (P := Tryz.prog) W 32 3 a n c 0 0 Tryz.underlying32
    have HO := Aside0.mk (own_lit w w.heap.size 3 .i64 [] (Nat.le_refl _) (by simp))
    have HB := Aside0.mk ((Below.refl w.heap.size w).alloc (Nat.le_refl _) (.cells (nums .i64 []).toArray 3))
    have HR2 := Aside0.mk (HR.out.below (below_alloc (Below.refl _ _) (.cells (nums .i64 []).toArray 3)))
    go_enter Tryz.func66, Tryz.ntmps66
    go_wp2_with (at_builtin; refine print_append_row (w0 := w) w.heap.size rfl _ _ 32 3 .i64 8 rfl Tryz.underlying32 cinfo (by decide) (.slice (some ⟨w.heap.size, 0, none⟩) 0 0) [] l0 (some ad) l0.length c0 rfl rfl HO.out HR2.out HB.out (by simp) (by have := HL.out; simp; omega) ?_)
    intro v1 w1 hown hb _ _
    have hown := Aside0.mk hown
    have hb := Aside0.mk hb
    go_wp2
    go_ret
    exact ⟨_, rfl, R_of_own hown.out, hb.out⟩
end Go.Proofs.YtljlplohicffpaaGreat.G
namespace Go.Proofs.YtljlplohicffpaaGreat.G
open Go.RowKit Go.Proofs.YtljlplohicffpaaGreatW.PrintWords Go.Proofs.YtljlplohicffpaaGreatW.PrintLast Go.Proofs.YtljlplohicffpaaGreatW.PrintMore
set_option linter.unusedVariables false

theorem within_any (a lo hi : Int) (w : World) :
    Calls Tryz.prog 49 #[.int .i64 a, .int .i64 lo, .int .i64 hi] w fun e w' => e = .returned (.bool (decide (lo ≤ a) && decide (a ≤ hi))) ∧ w = w' := by
  by_cases c1 : lo ≤ a
  · have d1 : decide (lo ≤ a) = true := decide_eq_true c1
    clear c1
    go_enter Tryz.func49, Tryz.ntmps49
    go_wp2
    go_ret
    exact ⟨by simp [d1], rfl⟩
  · have d1 : decide (lo ≤ a) = false := decide_eq_false c1
    clear c1
    go_enter Tryz.func49, Tryz.ntmps49
    go_wp2
    go_ret
    exact ⟨by simp [d1], rfl⟩

theorem size_any (A : Option Addr) (n c : Nat) (w : World) :
    Calls Tryz.prog 47 #[.agg #[.slice A n c]] w fun e w' => e = .returned (.int .i64 n) ∧ w' = w.alloc (.cells #[.slice A n c] 27) := by
  have hu := Tryz.underlying27
  go_enter Tryz.func47, Tryz.ntmps47
  go_wp2
  go_ret
  exact ⟨rfl, rfl⟩
/-- A row that is a vector of a size. -/
def isVec (n : Int) (l : List Int) : Bool := decide ((l.length : Int) = n) && l.all (inB (-1000000) 1000000)
theorem isVector_any (A0 : Option Addr) (c0 : Nat) (l : List Int) (n : Int) (w : World) (hr0 : Kd.C (Kd.int .i64) w A0 l.length l) :
    Calls Tryz.prog 52 #[.slice A0 l.length c0, .int .i64 n] w fun e w' => e = .returned (.bool (isVec n l)) ∧ Below w.heap.size w w' := by
  have C := fun W (h : Kd.C (Kd.int .i64) W A0 l.length l) => allWithin_any A0 c0 l (-1000000) 1000000 W h
  have HR0 := Aside0.mk hr0
  clear hr0
  unfold isVec
  generalize l.all (inB (-1000000) 1000000) = b at C
  by_cases c1 : (l.length : Int) = n
  · have d1 : ((l.length : Int) == n) = true := beq_iff_eq.mpr c1
    have d2 : decide ((l.length : Int) = n) = true := decide_eq_true c1
    clear c1
    go_enter Tryz.func52, Tryz.ntmps52
    go_wp2_with (go_at_call 68; refine (C _ HR0.out).mono ?_; rintro e w' ⟨rfl, hb⟩; replace hb := Aside0.mk hb)
    go_ret
    exact ⟨by simp [d2], hb.out⟩
  · have d1 : ((l.length : Int) == n) = false := beq_eq_false_iff_ne.mpr c1
    have d2 : decide ((l.length : Int) = n) = false := decide_eq_false c1
    clear c1
    go_enter Tryz.func52, Tryz.ntmps52
    go_wp2
    go_ret
    exact ⟨by simp [d2], Below.refl _ _⟩

/-- IsMatrix's closure: is a row no vector of the size? The matrix lies boxed. -/
theorem isMatrix1_any (B : Nat) (A : Option Addr) (n c : Nat) (A0 : Option Addr) (c0 : Nat) (l : List Int) (w : World) (hr0 : Kd.C (Kd.int .i64) w A0 l.length l) (hb : w.cell? ⟨B, 0, none⟩ = some (.slice A n c)) :
    Calls Tryz.prog 51 #[.slice A0 l.length c0, .pointer (some ⟨B, 0, none⟩)] w fun e w' => e = .returned (.bool (!(isVec n l))) ∧ Below w.heap.size w w' := by
  have hu := Tryz.underlying27
  have C := fun W (h : Kd.C (Kd.int .i64) W A0 l.length l) => isVector_any A0 c0 l n W h
  have HR0 := Aside0.mk hr0
  have D := fun W => size_any A n c W
  clear hr0
  generalize isVec n l = b at C
  go_enter Tryz.func51, Tryz.ntmps51
  go_wp2_with fail
  refine (D _).mono ?_
  rintro e w1 ⟨rfl, hw1⟩
  have B1 := Aside0.mk (show Below w.heap.size w w1 by rw [hw1]; exact below_alloc (Below.refl _ _) _)
  clear hw1
  go_wp2_with fail
  refine (C _ (Kd.C_below HR0.out B1.out)).mono ?_
  rintro e w2 ⟨rfl, hb2⟩
  have B2 := Aside0.mk (below_step B1.out hb2)
  clear hb2
  go_wp2
  go_ret
  exact ⟨rfl, B2.out⟩

/-- An element of a row of rows. -/
theorem row_at {w : World} {A : Option Addr} {n : Nat} {L : List (List Int)} (h : Kd.C (Kd.slice 3 (Kd.int .i64)) w A n L) (k : Nat) (hk : k < L.length) :
    ∃ ad A1 c1, A = some ad ∧ w.cell? (ad.add k) = some (.slice A1 L[k].length c1) ∧ L[k].length ≤ c1 ∧ Kd.C (Kd.int .i64) w A1 L[k].length L[k] := by
  obtain ⟨h1, _, h3⟩ := h
  obtain ⟨ad, hA, h4⟩ := h3 (by omega)
  obtain ⟨c, _, hK, hc⟩ := h4 k _ (List.getElem?_eq_getElem hk)
  obtain ⟨A1, c1, rfl, hl, hC⟩ := hK
  have := hc 0 _ rfl
  rw [Nat.add_zero, show (Kd.slice 3 (Kd.int .i64)).sz = 1 from rfl, Nat.mul_one] at this
  exact ⟨ad, A1, c1, hA, this, hl, hC⟩
theorem take_allR {α : Type} (p : α → Bool) (l : List α) (k : Nat) (h : k < l.length) : (l.take (k + 1)).all p = ((l.take k).all p && p l[k]) := by
  rw [List.take_succ_eq_append_getElem h, List.all_append]
  simp
/-- What the search comes to: an index from 0 on if a row fails. -/
def IdxPostB (b : Bool) (w : World) (e : Ending) (w' : World) : Prop := (∃ r : Int, e = .returned (.int .i64 r) ∧ decide (0 ≤ r) = b) ∧ Below w.heap.size w w'

set_option maxHeartbeats 1000000 in
theorem indexIsMatrix_any (p : List Int → Bool) (u : Value) (B : Nat) (A0 : Option Addr) (c0 : Nat) (L : List (List Int)) (w : World) (hr0 : Kd.C (Kd.slice 3 (Kd.int .i64)) w A0 L.length L) (h1 : w.cell? ⟨B, 0, none⟩ = some u)
    (V : ∀ (A1 : Option Addr) (c1 : Nat) (l : List Int) (W : World), Kd.C (Kd.int .i64) W A1 l.length l → W.cell? ⟨B, 0, none⟩ = some u →
      Calls Tryz.prog 51 #[.slice A1 l.length c1, .pointer (some ⟨B, 0, none⟩)] W fun e w' => e = .returned (.bool (!(p l))) ∧ Below W.heap.size W w') :
    Calls Tryz.prog 81 #[.slice A0 L.length c0, .func (.func 51) #[] #[.pointer (some ⟨B, 0, none⟩)]] w (IdxPostB (!(L.all p)) w) := by
  have HR0 := Aside0.mk hr0
  have VV := Aside0.mk V
  have H1 := Aside0.mk h1
  have hm : L.length ≤ 9223372036854775807 := hr0.2.1
  clear hr0 V h1
  go_enter Tryz.func81, Tryz.ntmps81
  go_wp2
  go_loopg [8] L.length (fun kq v w' => ∃ k : Nat, k + kq = L.length ∧ v = .int .i64 k ∧ Aside0 ((L.take k).all p = true) ∧ Aside0 (Below w.heap.size w w'))
  case atStart => exact ⟨0, by omega, rfl, ⟨by simp⟩, ⟨Below.refl _ _⟩⟩
  case round =>
    obtain ⟨k, hk, rfl, hall, HB⟩ := hrel
    by_cases hlt : k < L.length
    · obtain ⟨ad, A1, c1, rfl, hx, hl1, hC1⟩ := row_at (Kd.C_below HR0.out HB.out) k hlt
      have TA := Aside0.mk (take_allR p L k hlt)
      have hgk : ∃ j, gk = j + 1 := ⟨gk - 1, by omega⟩
      obtain ⟨j, rfl⟩ := hgk
      have hd : decide (k < L.length) = true := decide_eq_true hlt
      have C := VV.out A1 c1 L[k] wr hC1 (pw_cell_below HB.out H1.out)
      clear hC1 hl1
      generalize L[k] = x at hx TA C
      cases hb : p x with
      | true =>
        rw [hb] at C TA
        have hN := Aside0.mk (show (L.take (k + 1)).all p = true by rw [TA.out, hall.out]; rfl)
        have C := Aside0.mk C
        clear TA hall hb
        go_wp2_with fail
        refine C.out.mono ?_
        rintro e w' ⟨rfl, hb⟩
        have HB2 := Aside0.mk (below_step HB.out hb)
        clear hb C HB
        go_wp2
        go_roundg j
        case rel => exact ⟨k + 1, by omega, by go_num, hN, HB2⟩
        case measure => omega
      | false =>
        rw [hb] at C TA
        have hN := Aside0.mk (show L.all p = false by
          rw [← List.take_append_drop (k + 1) L, List.all_append, TA.out, hall.out]
          rfl)
        have C := Aside0.mk C
        clear TA hall hb
        go_wp2_with fail
        refine C.out.mono ?_
        rintro e w' ⟨rfl, hb⟩
        have HB2 := Aside0.mk (below_step HB.out hb)
        clear hb C HB
        go_wp2
        go_ret
        exact ⟨⟨_, rfl, by rw [hN.out]; exact decide_eq_true (by omega)⟩, HB2.out⟩
    · have hN := Aside0.mk (show L.all p = true by
        have h := hall.out
        rwa [List.take_of_length_le (by omega)] at h)
      have hgk : gk = 0 := by omega
      subst hgk
      have hd : decide (k < L.length) = false := decide_eq_false hlt
      clear hall
      go_wp2
      go_ret
      exact ⟨⟨_, rfl, by rw [hN.out]; rfl⟩, HB.out⟩

theorem containsIsMatrix_any (p : List Int → Bool) (u : Value) (B : Nat) (A0 : Option Addr) (c0 : Nat) (L : List (List Int)) (w : World) (hr0 : Kd.C (Kd.slice 3 (Kd.int .i64)) w A0 L.length L) (h1 : w.cell? ⟨B, 0, none⟩ = some u)
    (V : ∀ (A1 : Option Addr) (c1 : Nat) (l : List Int) (W : World), Kd.C (Kd.int .i64) W A1 l.length l → W.cell? ⟨B, 0, none⟩ = some u →
      Calls Tryz.prog 51 #[.slice A1 l.length c1, .pointer (some ⟨B, 0, none⟩)] W fun e w' => e = .returned (.bool (!(p l))) ∧ Below W.heap.size W w') :
    Calls Tryz.prog 50 #[.slice A0 L.length c0, .func (.func 51) #[] #[.pointer (some ⟨B, 0, none⟩)]] w fun e w' => e = .returned (.bool (!(L.all p))) ∧ Below w.heap.size w w' := by
  have C := indexIsMatrix_any p u B A0 c0 L w hr0 h1 V
  generalize (!(L.all p)) = b at C
  have C := Aside0.mk C
  clear hr0 h1 V
  go_enter Tryz.func50, Tryz.ntmps50
  go_wp2_with fail
  refine C.out.mono ?_
  rintro e w' ⟨⟨r, rfl, hr⟩, hb⟩
  replace hr := Aside0.mk hr
  replace hb := Aside0.mk hb
  go_wp2
  go_ret
  exact ⟨by rw [← hr.out]; rfl, hb.out⟩

/-- Rows that are a matrix. -/
def isMat (L : List (List Int)) : Bool := (decide (1 ≤ (L.length : Int)) && decide ((L.length : Int) ≤ 4)) && L.all (isVec L.length)
theorem isMatrix_any (A : Option Addr) (c : Nat) (L : List (List Int)) (w : World) (hr : Kd.C (Kd.slice 3 (Kd.int .i64)) w A L.length L) :
    Calls Tryz.prog 25 #[.agg #[.slice A L.length c]] w fun e w' => e = .returned (.bool (isMat L)) ∧ Below w.heap.size w w' := by
  have hmf : ∀ (fn : Fn) (first cap : Array Value) (w : World), (Instr.makeFunc fn first cap).run Tryz.prog w = .ok (.func fn first cap) w := fun _ _ _ _ => rfl
  have hu := Tryz.underlying27
  have HW := fun W => within_any (L.length : Int) 1 4 W
  have HS := fun W => size_any A L.length c W
  have HC := Aside0.mk (fun (W : World) (hB : Below (w.alloc (.cells #[.slice A L.length c] 27)).heap.size (w.alloc (.cells #[.slice A L.length c] 27)) W) =>
    containsIsMatrix_any (isVec L.length) (.slice A L.length c) w.heap.size A c L W (Kd.C_below (Kd.C_below hr (below_alloc (Below.refl _ _) _)) hB)
      (pw_cell_below hB (by rw [World.cell?_alloc_at _ _ _ _ rfl]; rfl)) (fun A1 c1 l W' h1 h2 => isMatrix1_any w.heap.size A L.length c A1 c1 l W' h1 h2))
  clear hr
  unfold isMat
  generalize L.all (isVec L.length) = b at HC
  cases hwi : (decide (1 ≤ (L.length : Int)) && decide ((L.length : Int) ≤ 4)) with
  | true =>
    rw [hwi] at HW
    clear hwi
    go_enter Tryz.func25, Tryz.ntmps25
    go_wp2_with fail
    refine (HS _).mono ?_
    rintro e w1 ⟨rfl, hw1⟩
    have B1 := Aside0.mk (show Below (w.alloc (.cells #[.slice A L.length c] 27)).heap.size (w.alloc (.cells #[.slice A L.length c] 27)) w1 by rw [hw1]; exact below_alloc (Below.refl _ _) _)
    have M1 : w1.cell? ⟨w.heap.size, 0, none⟩ = some (.slice A L.length c) := pw_cell_below B1.out (by rw [World.cell?_alloc_at _ _ _ _ rfl]; rfl)
    clear hw1
    go_wp2_with fail
    refine (HW _).mono ?_
    rintro e w2 ⟨rfl, rfl⟩
    go_wp2_with fail
    refine (HC.out _ B1.out).mono ?_
    rintro e w3 ⟨rfl, hb⟩
    have B2 := Aside0.mk (below_step (below_step (below_alloc (Below.refl w.heap.size w) _) B1.out) hb)
    clear hb B1
    go_wp2
    go_ret
    exact ⟨by simp, B2.out⟩
  | false =>
    rw [hwi] at HW
    clear hwi HC
    go_enter Tryz.func25, Tryz.ntmps25
    go_wp2_with fail
    refine (HS _).mono ?_
    rintro e w1 ⟨rfl, hw1⟩
    have B1 := Aside0.mk (show Below (w.alloc (.cells #[.slice A L.length c] 27)).heap.size (w.alloc (.cells #[.slice A L.length c] 27)) w1 by rw [hw1]; exact below_alloc (Below.refl _ _) _)
    have M1 : w1.cell? ⟨w.heap.size, 0, none⟩ = some (.slice A L.length c) := pw_cell_below B1.out (by rw [World.cell?_alloc_at _ _ _ _ rfl]; rfl)
    clear hw1
    go_wp2_with fail
    refine (HW _).mono ?_
    rintro e w2 ⟨rfl, rfl⟩
    go_wp2
    go_ret
    exact ⟨by simp, below_step (below_alloc (Below.refl w.heap.size w) _) B1.out⟩
theorem num_at {w : World} {A : Option Addr} {n : Nat} {l : List Int} (h : Kd.C (Kd.int .i64) w A n l) (k : Nat) (hk : k < l.length) : ∃ ad, A = some ad ∧ w.cell? (ad.add k) = some (.int .i64 l[k]) := by
  obtain ⟨h1, _, h3⟩ := h
  obtain ⟨ad, hA, h4⟩ := h3 (by omega)
  obtain ⟨c, _, hK, hc⟩ := h4 k _ (List.getElem?_eq_getElem hk)
  have hK : c = [.int .i64 l[k]] := hK
  subst hK
  have := hc 0 _ rfl
  rw [Nat.add_zero, show (Kd.int .i64).sz = 1 from rfl, Nat.mul_one] at this
  exact ⟨ad, hA, this⟩
end Go.Proofs.YtljlplohicffpaaGreat.G
namespace Go.Proofs.YtljlplohicffpaaGreat.G
open Go.RowKit Go.Proofs.YtljlplohicffpaaGreatW.PrintWords Go.Proofs.YtljlplohicffpaaGreatW.PrintLast Go.Proofs.YtljlplohicffpaaGreatW.PrintMore
set_option linter.unusedVariables false
set_option linter.unusedSimpArgs false

theorem rinfo : (Tryz.prog.info? 32).map (fun i => (i.zero, i.size, i.bytes)) = some (some (.slice none 0 0), 1, 24) := by kernel_rfl
theorem iinfo : (Tryz.prog.info? 3).map (fun i => (i.zero, i.size, i.bytes)) = some (some (.int .i64 0), 1, 8) := by kernel_rfl
def rowOf (g : Nat → Nat → Int) (i m : Nat) : List Int := (List.range m).map (g i)
def rowsOf (g : Nat → Nat → Int) (n m : Nat) : List (List Int) := (List.range m).map fun i => rowOf g i n
theorem rowOf_succ (g : Nat → Nat → Int) (i m : Nat) : rowOf g i (m + 1) = rowOf g i m ++ [g i m] := by simp [rowOf, List.range_succ]
theorem rowsOf_succ (g : Nat → Nat → Int) (n m : Nat) : rowsOf g n (m + 1) = rowsOf g n m ++ [rowOf g m n] := by simp [rowsOf, List.range_succ]
theorem rowOf_length (g : Nat → Nat → Int) (i m : Nat) : (rowOf g i m).length = m := by simp [rowOf]
theorem rowsOf_length (g : Nat → Nat → Int) (n m : Nat) : (rowsOf g n m).length = m := by simp [rowsOf]

theorem R_empty (W : World) (base : Nat) (ok : Nat → Prop) (hb : base ≤ W.heap.size) (hok : ok W.heap.size) :
    Kd.R (Kd.int .i64) 3 (W.alloc (.cells #[] 3)) base ok (.slice (some ⟨W.heap.size, 0, none⟩) 0 0) [] := by
  have h := own_lit W base 3 .i64 [] hb (by simp)
  refine Kd.R_of_own (xs := []) h (fun k hk => ?_)
  have : W.heap.size = k := by simpa [Value.ownBlock] using hk
  rw [← this]
  exact hok

/-- What stands while rows are made: the result's block, the variable's block with its rows, all below the bound N0. -/
structure MInv (w : World) (N0 : Nat) (rows : List (List Int)) (u : Value) (W : World) : Prop where
  b0 : W.heap[w.heap.size]? = some (.cells #[.slice none 0 0] 27 (0, 0))
  b1 : W.heap[w.heap.size + 1]? = some (.cells #[u] 27 (0, 0))
  s : Kd.S (Kd.slice 3 (Kd.int .i64)) 32 W w.heap.size (fun k => (k ≠ w.heap.size ∧ k ≠ w.heap.size + 1) ∧ k < N0) u rows
  b : Below w.heap.size w W
  n : w.heap.size + 2 ≤ N0
  h : N0 ≤ W.heap.size
theorem MInv.below {w W W1 : World} {N0 : Nat} {rows : List (List Int)} {u : Value} (h : MInv w N0 rows u W) (hb : Below W.heap.size W W1) : MInv w N0 rows u W1 :=
  ⟨blk_below h.b0 hb, blk_below h.b1 hb, Kd.S_below h.s hb, below_step h.b hb, h.n, Nat.le_trans h.h hb.size⟩
theorem MInv.grown {w W W1 : World} {N0 : Nat} {rows : List (List Int)} {u : Value} (h : MInv w N0 rows u W) {row : Option Nat} (hg : W.grownBy W1 row) (hb : Below w.heap.size w W1) (hr : ∀ k, row = some k → N0 ≤ k) : MInv w N0 rows u W1 := by
  have hn := h.n
  refine ⟨blk_grown h.b0 hg (fun e => ?_), blk_grown h.b1 hg (fun e => ?_), Kd.S_grown h.s hg (fun k hk e => ?_), hb, h.n, Nat.le_trans h.h hg.size⟩
  · have := hr _ e.symm
    omega
  · have := hr _ e.symm
    omega
  · have := hr _ e.symm
    omega
theorem MInv.raise {w W : World} {N0 : Nat} {rows : List (List Int)} {u : Value} (h : MInv w N0 rows u W) : MInv w W.heap.size rows u W :=
  ⟨h.b0, h.b1, Kd.S_mono h.s (fun k hk => ⟨hk.1, Nat.lt_of_lt_of_le hk.2 h.h⟩), h.b, Nat.le_trans h.n h.h, Nat.le_refl _⟩
theorem w_succ (i : Nat) (h : i ≤ 1000) : Value.int .i64 (wrap64 ((i : Int) + 1)) = .int .i64 ((i + 1 : Nat) : Int) := by
  congr 1
  unfold wrap64
  omega

/-- Rows that are square. -/
def isSq (L : List (List Int)) : Bool := decide (L.length ≤ 1000) && L.all fun l => decide (l.length = L.length)
theorem isSq_at {L : List (List Int)} (h : isSq L = true) {i : Nat} (hi : i < L.length) : L[i].length = L.length := by
  unfold isSq at h
  have h2 := List.all_eq_true.1 (Bool.and_eq_true_iff.1 h).2 L[i] (List.getElem_mem hi)
  exact of_decide_eq_true h2
theorem isSq_le {L : List (List Int)} (h : isSq L = true) : L.length ≤ 1000 := by
  unfold isSq at h
  exact of_decide_eq_true (Bool.and_eq_true_iff.1 h).1
/-- A number of a matrix. -/
def at2 (L : List (List Int)) (i j : Nat) : Int := (L.getD i []).getD j 0
theorem at2_eq {L : List (List Int)} {i j : Nat} (hi : i < L.length) (hj : j < L[i].length) : at2 L i j = L[i][j] := by
  simp [at2, List.getD_eq_getElem?_getD, List.getElem?_eq_getElem hi, List.getElem?_eq_getElem hj]
end Go.Proofs.YtljlplohicffpaaGreat.G
namespace Go.Proofs.YtljlplohicffpaaGreat.G
open Go.RowKit Go.Proofs.YtljlplohicffpaaGreatW.PrintWords Go.Proofs.YtljlplohicffpaaGreatW.PrintLast Go.Proofs.YtljlplohicffpaaGreatW.PrintMore
set_option linter.unusedVariables false
set_option linter.unusedSimpArgs false

set_option maxHeartbeats 4000000 in
/-- impl.made with the closure (loop.example/g01122/impl.Matrix).times$1. -/
theorem madeTimes_any (p0 p1 : Value) (n : Nat) (g : Nat → Nat → Int) (w : World) (hn : n ≤ 1000)
    (V : ∀ i j : Nat, i < n → j < n → ∀ W : World, Below w.heap.size w W → Calls Tryz.prog 48 #[.int .i64 i, .int .i64 j, p0, p1] W fun e W' => e = .returned (.int .i64 (g i j)) ∧ Below W.heap.size W W') :
    Calls Tryz.prog 45 #[.int .i64 n, .func (.func 48) #[] #[p0, p1]] w fun e w' => ∃ v0 : Value, e = .returned (.agg #[v0]) ∧ Kd.S (Kd.slice 3 (Kd.int .i64)) 32 w' w.heap.size (fun _ => True) v0 (rowsOf g n n) ∧ Below w.heap.size w w' := by
  have hu := Tryz.underlying27
  have VV := Aside0.mk V
  have HN := Aside0.mk hn
  have X := Aside0.mk (show MInv w (w.heap.size + 2) (rowsOf g n 0) (.slice none 0 0) ((w.alloc (.cells #[.slice none 0 0] 27)).alloc (.cells #[.slice none 0 0] 27)) from
    ⟨by rw [Below.heap_alloc _ _ _ (by simp)]; exact heap_alloc_new w _, by simpa using heap_alloc_new (w.alloc (.cells #[.slice none 0 0] 27)) (.cells #[.slice none 0 0] 27),
      Kd.S_nil _ _ _ _ _, ((Below.refl w.heap.size w).alloc (Nat.le_refl _) _).alloc (by simp) _, Nat.le_refl _, by simp⟩)
  clear V hn
  go_enter Tryz.func45, Tryz.ntmps45
  go_wp2
  go_loopg [11] n (fun kq v11 w' => ∃ i : Nat, i + kq = n ∧ v11 = .int .i64 i ∧ Aside0 (∃ N0 u, MInv w N0 (rowsOf g n i) u w'))
  case atStart => exact ⟨0, by omega, rfl, ⟨_, _, X.out⟩⟩
  case round =>
    clear X
    obtain ⟨i, hi, rfl, ⟨N1, u, X1⟩⟩ := hrel
    cases gk with
    | zero =>
      have hd : decide (i < n) = false := decide_eq_false (by omega)
      have hin : i = n := by omega
      have X := Aside0.mk X1
      have hc : wr.cell? ⟨w.heap.size + 1, 0, none⟩ = some u := (blk_cell X1.b1 0).trans rfl
      have hf : wr.frozen? ⟨w.heap.size, 0, none⟩ = false := blk_frozen X1.b0 0
      have hc0 : wr.cell? ⟨w.heap.size, 0, none⟩ = some (.slice none 0 0) := (blk_cell X1.b0 0).trans rfl
      obtain ⟨A2, c2, rfl⟩ := Kd.S_slice X1.s
      have HB0 := Aside0.mk (show (wr.setCell ⟨w.heap.size, 0, none⟩ (.slice A2 (rowsOf g n i).length c2)).heap[w.heap.size]? = some (.cells #[.slice A2 (rowsOf g n i).length c2] 27 (0, 0)) by simpa using blk_set X1.b0 0 (.slice A2 (rowsOf g n i).length c2))
      have Y := Aside0.mk (show Kd.S (Kd.slice 3 (Kd.int .i64)) 32 (wr.setCell ⟨w.heap.size, 0, none⟩ (.slice A2 (rowsOf g n i).length c2)) w.heap.size (fun _ => True) (.slice A2 (rowsOf g n i).length c2) (rowsOf g n n) ∧
          Below w.heap.size w (wr.setCell ⟨w.heap.size, 0, none⟩ (.slice A2 (rowsOf g n i).length c2)) from by
        refine ⟨?_, X1.b.setCell (Nat.le_refl _) _⟩
        have h := Kd.S_far (p := ⟨w.heap.size, 0, none⟩) X1.s (fun k hk => hk.1.1) (.slice A2 (rowsOf g n i).length c2)
        rw [← hin] at h ⊢
        exact Kd.S_mono h (fun _ _ => trivial))
      clear X1 X
      generalize (rowsOf g n i).length = m at hc Y HB0
      go_wp2
      refine bodyPost_ret (results_cell_row rfl _ _ w.heap.size 27 #[.slice A2 m c2] (0, 0) _ rfl HB0.out Tryz.underlying27 rfl (by kernel_rfl)) rfl ?_
      exact ⟨_, rfl, Y.out⟩
    | succ k1 =>
      have hd : decide (i < n) = true := decide_eq_true (by omega)
      have hr0 := R_empty wr w.heap.size (fun k => wr.heap.size ≤ k) X1.b.size (Nat.le_refl _)
      have X := Aside0.mk (show MInv w wr.heap.size (rowsOf g n i) u (wr.alloc (.cells #[] 3)) ∧ Kd.R (Kd.int .i64) 3 (wr.alloc (.cells #[] 3)) w.heap.size (fun k => wr.heap.size ≤ k) (.slice (some ⟨wr.heap.size, 0, none⟩) 0 0) (rowOf g i 0) from
        ⟨X1.raise.below (below_alloc (Below.refl _ _) _), hr0⟩)
      have HI := Aside0.mk hi
      clear X1 hr0
      go_wp2
      generalize hN0 : wr.heap.size = N0 at X ⊢
      go_loopg [7, 16] n (fun kq v7 v16 w' => ∃ j : Nat, j + kq = n ∧ v16 = .int .i64 j ∧ Aside0 (MInv w N0 (rowsOf g n i) u w' ∧ Kd.R (Kd.int .i64) 3 w' w.heap.size (fun k => N0 ≤ k) v7 (rowOf g i j)))
      case atStart => exact ⟨0, by omega, rfl, X⟩
      case round =>
        clear X
        obtain ⟨j, hj, rfl, X⟩ := hrel
        cases gk with
        | zero =>
          have hd2 : decide (j < n) = false := decide_eq_false (by omega)
          have hjn : j = n := by omega
          subst hjn
          obtain ⟨X1, HR⟩ := X.out
          clear X
          obtain ⟨A3, c3, rfl⟩ := Kd.R_slice HR
          obtain ⟨A2, c2, rfl⟩ := Kd.S_slice X1.s
          have hub := (Kd.S_R X1.s).1
          have hne := HR.1
          have hbb := X1.n
          have hM := Aside0.mk (Kd.M_row (e := 3) (Kd.R_tight rfl HR))
          have hokp := Aside0.mk (show ∀ k, some k = (Value.slice A3 (rowOf g i j).length c3).ownBlock → (k ≠ w.heap.size ∧ k ≠ w.heap.size + 1) ∧ some k ≠ (Value.slice A2 (rowsOf g j i).length c2).ownBlock from
            fun k hk => by
              have h1 := hne k hk.symm
              refine ⟨⟨by omega, by omega⟩, fun he => ?_⟩
              have h2 := (hub k he.symm).2
              omega)
          have hSa := Aside0.mk (Kd.S_mono (ok' := fun k => (k ≠ w.heap.size ∧ k ≠ w.heap.size + 1) ∧ ¬ some k = (Value.slice A3 (rowOf g i j).length c3).ownBlock) X1.s (fun k hk => ⟨hk.1, fun he => by have := hne k he.symm; omega⟩))
          have hfr := Aside0.mk (show ∀ k, wr.heap.size ≤ k → k ≠ w.heap.size ∧ k ≠ w.heap.size + 1 from fun k hk => by have := X1.h; omega)
          have hl := Aside0.mk (show ((rowsOf g j i).length + 1) * 24 ≤ 140737488355328 by rw [rowsOf_length]; have := HN.out; omega)
          have hc : wr.cell? ⟨w.heap.size + 1, 0, none⟩ = some (.slice A2 (rowsOf g j i).length c2) := (blk_cell X1.b1 0).trans rfl
          have hf : wr.frozen? ⟨w.heap.size + 1, 0, none⟩ = false := blk_frozen X1.b1 0
          have X := Aside0.mk X1
          have hHB := Aside0.mk X1.b
          clear X1 HR hub hne hbb
          go_wp2_with (at_builtin; refine Kd.S_append (Kd.slice 3 (Kd.int .i64)) (w0 := w) w.heap.size rfl _ _ 25 32 (.slice none 0 0) 24 rfl Tryz.underlying25 rinfo rfl (by decide) (by decide) (.slice A2 (rowsOf g j i).length c2) (rowsOf g j i) (rowOf g i j) [.slice A3 (rowOf g i j).length c3] (fun k => k ≠ w.heap.size ∧ k ≠ w.heap.size + 1) (fun k => some k = (Value.slice A3 (rowOf g i j).length c3).ownBlock) rfl rfl hM.out hokp.out hfr.out hSa.out hHB.out hHB.out.size hl.out ?_)
          intro v1 w1 hS1 hb1 hg1 hat1
          have h1 : w1.heap[w.heap.size + 1]? = some (.cells #[.slice A2 (rowsOf g j i).length c2] 27 (0, 0)) := blk_grown X.out.b1 hg1 (fun he => by have := ((Kd.S_R X.out.s).1 _ he.symm).1.2; omega)
          have h0 : w1.heap[w.heap.size]? = some (.cells #[.slice none 0 0] 27 (0, 0)) := blk_grown X.out.b0 hg1 (fun he => by have := ((Kd.S_R X.out.s).1 _ he.symm).1.1; omega)
          have hc1 : w1.cell? ⟨w.heap.size + 1, 0, none⟩ = some (.slice A2 (rowsOf g j i).length c2) := (blk_cell h1 0).trans rfl
          have hf1 : w1.frozen? ⟨w.heap.size + 1, 0, none⟩ = false := blk_frozen h1 0
          have hnn : w.heap.size + 2 ≤ w1.heap.size := Nat.le_trans X.out.n (Nat.le_trans X.out.h hg1.size)
          have Z := Aside0.mk (show ∃ N0 u, MInv w N0 (rowsOf g j (i + 1)) u (w1.setCell ⟨w.heap.size + 1, 0, none⟩ v1) from by
            refine ⟨w1.heap.size, v1, ?_, by simpa using blk_set h1 0 v1, ?_, hb1.setCell (by simp) _, hnn, by simp⟩
            · rw [Below.heap_setCell _ _ _ _ (by simp)]
              exact h0
            · rw [rowsOf_succ]
              refine Kd.S_mono (Kd.S_far (p := ⟨w.heap.size + 1, 0, none⟩) (Kd.S_bound hS1) (fun k hk => hk.1.2) v1) (fun k hk => ⟨hk.1, hk.2.2.1⟩))
          obtain ⟨A4, c4, hv1⟩ := Kd.S_slice hS1
          generalize (rowsOf g j i ++ [rowOf g i j]).length = m at hv1
          subst hv1
          clear hS1 hb1 hg1 hat1 h1 h0 hc hf X hnn
          go_wp2
          go_roundg k1
          case rel => exact ⟨i + 1, by omega, w_succ i (by have := HN.out; omega), Z⟩
          case measure => omega
        | succ k2 =>
          have hd2 : decide (j < n) = true := decide_eq_true (by omega)
          have C := Aside0.mk (VV.out i j (by omega) (by omega) wr X.out.1.b)
          go_wp2_with fail
          refine C.out.mono ?_
          rintro e w2 ⟨rfl, hb⟩
          have X2 := Aside0.mk (show MInv w N0 (rowsOf g n i) u w2 ∧ Kd.R (Kd.int .i64) 3 w2 w.heap.size (fun k => N0 ≤ k) u7 (rowOf g i j) from ⟨X.out.1.below hb, Kd.R_below X.out.2 hb⟩)
          have HJ := Aside0.mk (show ((rowOf g i j).length + 1) * 8 ≤ 140737488355328 by rw [rowOf_length]; have := HN.out; omega)
          clear X C hb
          go_wp2_with (at_builtin; refine Kd.R_append (Kd.int .i64) (w0 := w) w.heap.size rfl _ _ 32 3 (.int .i64 0) 8 rfl Tryz.underlying32 iinfo rfl (by decide) (by decide) u7 (rowOf g i j) (g i j) [.int .i64 (g i j)] (fun k => N0 ≤ k) (fun _ => False) rfl rfl rfl (fun _ hk => hk.elim) (fun k hk => Nat.le_trans X2.out.1.h hk) X2.out.2 X2.out.1.b X2.out.1.b.size HJ.out ?_)
          intro v1 w1 hR1 hb1 hg1 hat1
          have Z := Aside0.mk (show MInv w N0 (rowsOf g n i) u w1 ∧ Kd.R (Kd.int .i64) 3 w1 w.heap.size (fun k => N0 ≤ k) v1 (rowOf g i (j + 1)) from
            ⟨X2.out.1.grown hg1 hb1 (fun k hk => X2.out.2.1 k hk), by rw [rowOf_succ]; exact hR1⟩)
          clear X2 hR1 hb1 hg1 hat1
          go_wp2
          go_roundg k2
          case rel => exact ⟨j + 1, by omega, w_succ j (by have := HN.out; omega), Z⟩
          case measure => omega

/-- The sum of the first k products of a row and a column. -/
def dotK (L M : List (List Int)) (i j : Nat) : Nat → Int
  | 0 => 0
  | k + 1 => wrap64 (dotK L M i j k + wrap64 (at2 L i k * at2 M k j))
set_option maxHeartbeats 1000000 in
theorem times1_any (B : Nat) (A : Option Addr) (c : Nat) (L : List (List Int)) (A' : Option Addr) (c' : Nat) (M : List (List Int)) (i j : Nat) (w : World) (hr : Kd.C (Kd.slice 3 (Kd.int .i64)) w A L.length L) (hr' : Kd.C (Kd.slice 3 (Kd.int .i64)) w A' M.length M)
    (hb : w.cell? ⟨B, 0, none⟩ = some (.slice A L.length c)) (hb' : w.cell? ⟨B + 1, 0, none⟩ = some (.slice A' M.length c')) (hs : isSq L = true) (hs' : isSq M = true) (hLM : L.length = M.length) (hi : i < L.length) (hj : j < L.length) :
    Calls Tryz.prog 48 #[.int .i64 i, .int .i64 j, .pointer (some ⟨B, 0, none⟩), .pointer (some ⟨B + 1, 0, none⟩)] w fun e w' => e = .returned (.int .i64 (dotK L M i j L.length)) ∧ Below w.heap.size w w' := by
  have hu := Tryz.underlying27
  have HS := fun W => size_any A L.length c W
  have HR := Aside0.mk hr
  have HR' := Aside0.mk hr'
  have HB := Aside0.mk hb
  have HB' := Aside0.mk hb'
  have HS1 := Aside0.mk hs
  have HS2 := Aside0.mk hs'
  have HLM := Aside0.mk hLM
  have HI := Aside0.mk hi
  have HJ := Aside0.mk hj
  have HN := Aside0.mk (isSq_le hs)
  have di : decide (i < L.length) = true := decide_eq_true hi
  clear hr hr' hb' hs hs' hLM hi hj
  go_enter Tryz.func48, Tryz.ntmps48
  go_wp2_with fail
  refine (HS _).mono ?_
  rintro e w1 ⟨rfl, hw1⟩
  have B1 := Aside0.mk (show Below w.heap.size w w1 by rw [hw1]; exact below_alloc (Below.refl _ _) _)
  clear hw1 hb
  go_wp2
  go_loopg [7, 11] L.length (fun kq v7 v11 w' => ∃ k : Nat, k + kq = L.length ∧ v7 = .int .i64 (dotK L M i j k) ∧ v11 = .int .i64 k ∧ Aside0 (Below w.heap.size w w'))
  case atStart => exact ⟨0, by omega, rfl, rfl, B1⟩
  case round =>
    clear B1
    obtain ⟨k, hk, rfl, rfl, BW⟩ := hrel
    cases gk with
    | zero =>
      have hd : decide (k < L.length) = false := decide_eq_false (by omega)
      have hkn : k = L.length := by omega
      rw [hkn]
      go_wp2
      go_ret
      exact ⟨rfl, BW.out⟩
    | succ q =>
      have hkl : k < L.length := by omega
      have hd : decide (k < L.length) = true := decide_eq_true hkl
      have hm : wr.cell? ⟨B, 0, none⟩ = some (.slice A L.length c) := pw_cell_below BW.out HB.out
      have hm' : wr.cell? ⟨B + 1, 0, none⟩ = some (.slice A' M.length c') := pw_cell_below BW.out HB'.out
      have hik : k < (L[i]'HI.out).length := by rw [isSq_at HS1.out HI.out]; exact hkl
      have hkM : k < M.length := by rw [← HLM.out]; exact hkl
      have hkj : j < (M[k]'hkM).length := by rw [isSq_at HS2.out hkM, ← HLM.out]; exact HJ.out
      obtain ⟨ad, A1, c1, hA, hx, hl, hC⟩ := row_at (Kd.C_below HR.out BW.out) i HI.out
      obtain ⟨ad1, hA1, hy⟩ := num_at hC k hik
      obtain ⟨ad', A1', c1', hA', hx', hl', hC'⟩ := row_at (Kd.C_below HR'.out BW.out) k hkM
      obtain ⟨ad1', hA1', hy'⟩ := num_at hC' j hkj
      have e1 := at2_eq HI.out hik
      have e2 := at2_eq hkM hkj
      rw [← e1] at hy
      rw [← e2] at hy'
      have hstep : dotK L M i j (k + 1) = wrap64 (dotK L M i j k + wrap64 (at2 L i k * at2 M k j)) := rfl
      have HSt := Aside0.mk hstep
      have d2 : decide (k < (L[i]'HI.out).length) = true := decide_eq_true hik
      have d3 : decide (k < M.length) = true := decide_eq_true hkM
      have d4 : decide (j < (M[k]'hkM).length) = true := decide_eq_true hkj
      clear hC hC' hl hl' hstep e1 e2
      generalize at2 L i k = x at hy HSt
      generalize at2 M k j = y at hy' HSt
      generalize dotK L M i j k = s at HSt ⊢
      subst hA hA1 hA' hA1'
      have hil := HI.out
      go_wp2
      repeat (go_quiet (fail); try go_wp2)
      have BX := Aside0.mk (pw_below_drewN BW.out)
      go_roundg q
      case rel => exact ⟨k + 1, by omega, by rw [HSt.out], w_succ k (by have := HN.out; omega), by first | exact ⟨BX.out _⟩ | exact BW⟩
      case measure => omega
/-- The product of two matrices. -/
def prodL (L M : List (List Int)) : List (List Int) := rowsOf (fun i j => dotK L M i j L.length) L.length L.length
theorem times_any (A : Option Addr) (c : Nat) (L : List (List Int)) (A' : Option Addr) (c' : Nat) (M : List (List Int)) (w : World) (hr : Kd.C (Kd.slice 3 (Kd.int .i64)) w A L.length L) (hr' : Kd.C (Kd.slice 3 (Kd.int .i64)) w A' M.length M) (hs : isSq L = true) (hs' : isSq M = true) (hLM : L.length = M.length) :
    Calls Tryz.prog 24 #[.agg #[.slice A L.length c], .agg #[.slice A' M.length c']] w fun e w' => ∃ v0 : Value, e = .returned (.agg #[v0]) ∧ Kd.S (Kd.slice 3 (Kd.int .i64)) 32 w' w.heap.size (fun _ => True) v0 (prodL L M) ∧ Below w.heap.size w w' := by
  have hmf : ∀ (fn : Fn) (first cap : Array Value) (w : World), (Instr.makeFunc fn first cap).run Tryz.prog w = .ok (.func fn first cap) w := fun _ _ _ _ => rfl
  have hu := Tryz.underlying27
  have HS := fun W => size_any A L.length c W
  have CC := Aside0.mk (fun (W : World) (hB : Below w.heap.size w W) (hb : W.cell? ⟨w.heap.size, 0, none⟩ = some (.slice A L.length c)) (hb' : W.cell? ⟨w.heap.size + 1, 0, none⟩ = some (.slice A' M.length c')) =>
    madeTimes_any (.pointer (some ⟨w.heap.size, 0, none⟩)) (.pointer (some ⟨w.heap.size + 1, 0, none⟩)) L.length (fun i j => dotK L M i j L.length) W (isSq_le hs)
      (fun i j hi hj W1 hB1 => times1_any w.heap.size A c L A' c' M i j W1 (Kd.C_below hr (below_step hB hB1)) (Kd.C_below hr' (below_step hB hB1)) (pw_cell_below hB1 hb) (pw_cell_below hB1 hb') hs hs' hLM hi hj))
  clear hr hr' hs hs' hLM
  go_enter Tryz.func24, Tryz.ntmps24
  go_wp2_with fail
  refine (HS _).mono ?_
  rintro e w1 ⟨rfl, hw1⟩
  have B1 := Aside0.mk (show Below w.heap.size w w1 by rw [hw1]; exact below_alloc (below_alloc (below_alloc (below_alloc (Below.refl _ _) _) _) _) _)
  have M0 : (w.alloc (.cells #[.slice A L.length c] 27)).cell? ⟨w.heap.size, 0, none⟩ = some (.slice A L.length c) := by rw [World.cell?_alloc_at _ _ _ _ rfl]; rfl
  have M1 : w1.cell? ⟨w.heap.size, 0, none⟩ = some (.slice A L.length c) := by rw [hw1]; exact pw_cell_below (below_alloc (below_alloc (below_alloc (Below.refl _ _) _) _) _) M0
  have N0 : ((w.alloc (.cells #[.slice A L.length c] 27)).alloc (.cells #[.slice A' M.length c'] 27)).cell? ⟨w.heap.size + 1, 0, none⟩ = some (.slice A' M.length c') := by rw [World.cell?_alloc_at _ _ _ _ (by simp)]; rfl
  have N1 : w1.cell? ⟨w.heap.size + 1, 0, none⟩ = some (.slice A' M.length c') := by rw [hw1]; exact pw_cell_below (below_alloc (below_alloc (Below.refl _ _) _) _) N0
  have H1 := Aside0.mk (show w1.heap[w.heap.size + 2]? = some (.cells #[.slice none 0 0] 27 (0, 0)) by
    rw [hw1, Below.heap_alloc _ _ _ (by simp)]
    simpa using heap_alloc_new ((w.alloc (.cells #[.slice A L.length c] 27)).alloc (.cells #[.slice A' M.length c'] 27)) (.cells #[.slice none 0 0] 27))
  clear hw1 M0 N0
  have DD := CC.out w1 B1.out M1 N1
  rw [show rowsOf (fun i j => dotK L M i j L.length) L.length L.length = prodL L M from rfl] at DD
  clear CC
  go_wp2_with fail
  refine DD.mono ?_
  rintro e w2 ⟨v0, rfl, hS, hb2⟩
  have H2 := blk_below H1.out hb2
  have hc2 : w2.cell? ⟨w.heap.size + 2, 0, none⟩ = some (.slice none 0 0) := (blk_cell H2 0).trans rfl
  have hf2 : w2.frozen? ⟨w.heap.size + 2, 0, none⟩ = false := blk_frozen H2 0
  have hlt := blk_lt H1.out
  obtain ⟨A2, c2, rfl⟩ := Kd.S_slice hS
  have HB0 := Aside0.mk (show (w2.setCell ⟨w.heap.size + 2, 0, none⟩ (.slice A2 (prodL L M).length c2)).heap[w.heap.size + 2]? = some (.cells #[.slice A2 (prodL L M).length c2] 27 (0, 0)) by simpa using blk_set H2 0 (.slice A2 (prodL L M).length c2))
  have Y := Aside0.mk (show Kd.S (Kd.slice 3 (Kd.int .i64)) 32 (w2.setCell ⟨w.heap.size + 2, 0, none⟩ (.slice A2 (prodL L M).length c2)) w.heap.size (fun _ => True) (.slice A2 (prodL L M).length c2) (prodL L M) ∧
      Below w.heap.size w (w2.setCell ⟨w.heap.size + 2, 0, none⟩ (.slice A2 (prodL L M).length c2)) from
    ⟨Kd.S_mono (Kd.S_far (p := ⟨w.heap.size + 2, 0, none⟩) (Kd.S_lower (Kd.S_bound hS) B1.out.size) (fun k hk => by have := hk.2.1; show k ≠ w.heap.size + 2; omega) _) (fun _ _ => trivial),
      (below_step B1.out hb2).setCell (by simp) _⟩)
  clear hS hb2 H2 H1 DD B1 M1 N1
  generalize (prodL L M).length = m at HB0 Y
  go_wp2
  refine bodyPost_ret (results_cell_row rfl _ _ (w.heap.size + 2) 27 #[.slice A2 m c2] (0, 0) _ rfl HB0.out Tryz.underlying27 rfl (by kernel_rfl)) rfl ?_
  exact ⟨_, rfl, Y.out⟩
end Go.Proofs.YtljlplohicffpaaGreat.G
namespace Go.Proofs.YtljlplohicffpaaGreat.G
open Go.RowKit Go.Proofs.YtljlplohicffpaaGreatW.PrintWords Go.Proofs.YtljlplohicffpaaGreatW.PrintLast Go.Proofs.YtljlplohicffpaaGreatW.PrintMore
set_option linter.unusedVariables false
set_option linter.unusedSimpArgs false

set_option maxHeartbeats 4000000 in
/-- impl.made with the closure loop.example/g01122/impl.unit$1. -/
theorem madeUnit_any (n : Nat) (g : Nat → Nat → Int) (w : World) (hn : n ≤ 1000)
    (V : ∀ i j : Nat, i < n → j < n → ∀ W : World, Below w.heap.size w W → Calls Tryz.prog 46 #[.int .i64 i, .int .i64 j] W fun e W' => e = .returned (.int .i64 (g i j)) ∧ Below W.heap.size W W') :
    Calls Tryz.prog 45 #[.int .i64 n, .func (.func 46) #[] #[]] w fun e w' => ∃ v0 : Value, e = .returned (.agg #[v0]) ∧ Kd.S (Kd.slice 3 (Kd.int .i64)) 32 w' w.heap.size (fun _ => True) v0 (rowsOf g n n) ∧ Below w.heap.size w w' := by
  have hu := Tryz.underlying27
  have VV := Aside0.mk V
  have HN := Aside0.mk hn
  have X := Aside0.mk (show MInv w (w.heap.size + 2) (rowsOf g n 0) (.slice none 0 0) ((w.alloc (.cells #[.slice none 0 0] 27)).alloc (.cells #[.slice none 0 0] 27)) from
    ⟨by rw [Below.heap_alloc _ _ _ (by simp)]; exact heap_alloc_new w _, by simpa using heap_alloc_new (w.alloc (.cells #[.slice none 0 0] 27)) (.cells #[.slice none 0 0] 27),
      Kd.S_nil _ _ _ _ _, ((Below.refl w.heap.size w).alloc (Nat.le_refl _) _).alloc (by simp) _, Nat.le_refl _, by simp⟩)
  clear V hn
  go_enter Tryz.func45, Tryz.ntmps45
  go_wp2
  go_loopg [11] n (fun kq v11 w' => ∃ i : Nat, i + kq = n ∧ v11 = .int .i64 i ∧ Aside0 (∃ N0 u, MInv w N0 (rowsOf g n i) u w'))
  case atStart => exact ⟨0, by omega, rfl, ⟨_, _, X.out⟩⟩
  case round =>
    clear X
    obtain ⟨i, hi, rfl, ⟨N1, u, X1⟩⟩ := hrel
    cases gk with
    | zero =>
      have hd : decide (i < n) = false := decide_eq_false (by omega)
      have hin : i = n := by omega
      have X := Aside0.mk X1
      have hc : wr.cell? ⟨w.heap.size + 1, 0, none⟩ = some u := (blk_cell X1.b1 0).trans rfl
      have hf : wr.frozen? ⟨w.heap.size, 0, none⟩ = false := blk_frozen X1.b0 0
      have hc0 : wr.cell? ⟨w.heap.size, 0, none⟩ = some (.slice none 0 0) := (blk_cell X1.b0 0).trans rfl
      obtain ⟨A2, c2, rfl⟩ := Kd.S_slice X1.s
      have HB0 := Aside0.mk (show (wr.setCell ⟨w.heap.size, 0, none⟩ (.slice A2 (rowsOf g n i).length c2)).heap[w.heap.size]? = some (.cells #[.slice A2 (rowsOf g n i).length c2] 27 (0, 0)) by simpa using blk_set X1.b0 0 (.slice A2 (rowsOf g n i).length c2))
      have Y := Aside0.mk (show Kd.S (Kd.slice 3 (Kd.int .i64)) 32 (wr.setCell ⟨w.heap.size, 0, none⟩ (.slice A2 (rowsOf g n i).length c2)) w.heap.size (fun _ => True) (.slice A2 (rowsOf g n i).length c2) (rowsOf g n n) ∧
          Below w.heap.size w (wr.setCell ⟨w.heap.size, 0, none⟩ (.slice A2 (rowsOf g n i).length c2)) from by
        refine ⟨?_, X1.b.setCell (Nat.le_refl _) _⟩
        have h := Kd.S_far (p := ⟨w.heap.size, 0, none⟩) X1.s (fun k hk => hk.1.1) (.slice A2 (rowsOf g n i).length c2)
        rw [← hin] at h ⊢
        exact Kd.S_mono h (fun _ _ => trivial))
      clear X1 X
      generalize (rowsOf g n i).length = m at hc Y HB0
      go_wp2
      refine bodyPost_ret (results_cell_row rfl _ _ w.heap.size 27 #[.slice A2 m c2] (0, 0) _ rfl HB0.out Tryz.underlying27 rfl (by kernel_rfl)) rfl ?_
      exact ⟨_, rfl, Y.out⟩
    | succ k1 =>
      have hd : decide (i < n) = true := decide_eq_true (by omega)
      have hr0 := R_empty wr w.heap.size (fun k => wr.heap.size ≤ k) X1.b.size (Nat.le_refl _)
      have X := Aside0.mk (show MInv w wr.heap.size (rowsOf g n i) u (wr.alloc (.cells #[] 3)) ∧ Kd.R (Kd.int .i64) 3 (wr.alloc (.cells #[] 3)) w.heap.size (fun k => wr.heap.size ≤ k) (.slice (some ⟨wr.heap.size, 0, none⟩) 0 0) (rowOf g i 0) from
        ⟨X1.raise.below (below_alloc (Below.refl _ _) _), hr0⟩)
      have HI := Aside0.mk hi
      clear X1 hr0
      go_wp2
      generalize hN0 : wr.heap.size = N0 at X ⊢
      go_loopg [7, 16] n (fun kq v7 v16 w' => ∃ j : Nat, j + kq = n ∧ v16 = .int .i64 j ∧ Aside0 (MInv w N0 (rowsOf g n i) u w' ∧ Kd.R (Kd.int .i64) 3 w' w.heap.size (fun k => N0 ≤ k) v7 (rowOf g i j)))
      case atStart => exact ⟨0, by omega, rfl, X⟩
      case round =>
        clear X
        obtain ⟨j, hj, rfl, X⟩ := hrel
        cases gk with
        | zero =>
          have hd2 : decide (j < n) = false := decide_eq_false (by omega)
          have hjn : j = n := by omega
          subst hjn
          obtain ⟨X1, HR⟩ := X.out
          clear X
          obtain ⟨A3, c3, rfl⟩ := Kd.R_slice HR
          obtain ⟨A2, c2, rfl⟩ := Kd.S_slice X1.s
          have hub := (Kd.S_R X1.s).1
          have hne := HR.1
          have hbb := X1.n
          have hM := Aside0.mk (Kd.M_row (e := 3) (Kd.R_tight rfl HR))
          have hokp := Aside0.mk (show ∀ k, some k = (Value.slice A3 (rowOf g i j).length c3).ownBlock → (k ≠ w.heap.size ∧ k ≠ w.heap.size + 1) ∧ some k ≠ (Value.slice A2 (rowsOf g j i).length c2).ownBlock from
            fun k hk => by
              have h1 := hne k hk.symm
              refine ⟨⟨by omega, by omega⟩, fun he => ?_⟩
              have h2 := (hub k he.symm).2
              omega)
          have hSa := Aside0.mk (Kd.S_mono (ok' := fun k => (k ≠ w.heap.size ∧ k ≠ w.heap.size + 1) ∧ ¬ some k = (Value.slice A3 (rowOf g i j).length c3).ownBlock) X1.s (fun k hk => ⟨hk.1, fun he => by have := hne k he.symm; omega⟩))
          have hfr := Aside0.mk (show ∀ k, wr.heap.size ≤ k → k ≠ w.heap.size ∧ k ≠ w.heap.size + 1 from fun k hk => by have := X1.h; omega)
          have hl := Aside0.mk (show ((rowsOf g j i).length + 1) * 24 ≤ 140737488355328 by rw [rowsOf_length]; have := HN.out; omega)
          have hc : wr.cell? ⟨w.heap.size + 1, 0, none⟩ = some (.slice A2 (rowsOf g j i).length c2) := (blk_cell X1.b1 0).trans rfl
          have hf : wr.frozen? ⟨w.heap.size + 1, 0, none⟩ = false := blk_frozen X1.b1 0
          have X := Aside0.mk X1
          have hHB := Aside0.mk X1.b
          clear X1 HR hub hne hbb
          go_wp2_with (at_builtin; refine Kd.S_append (Kd.slice 3 (Kd.int .i64)) (w0 := w) w.heap.size rfl _ _ 25 32 (.slice none 0 0) 24 rfl Tryz.underlying25 rinfo rfl (by decide) (by decide) (.slice A2 (rowsOf g j i).length c2) (rowsOf g j i) (rowOf g i j) [.slice A3 (rowOf g i j).length c3] (fun k => k ≠ w.heap.size ∧ k ≠ w.heap.size + 1) (fun k => some k = (Value.slice A3 (rowOf g i j).length c3).ownBlock) rfl rfl hM.out hokp.out hfr.out hSa.out hHB.out hHB.out.size hl.out ?_)
          intro v1 w1 hS1 hb1 hg1 hat1
          have h1 : w1.heap[w.heap.size + 1]? = some (.cells #[.slice A2 (rowsOf g j i).length c2] 27 (0, 0)) := blk_grown X.out.b1 hg1 (fun he => by have := ((Kd.S_R X.out.s).1 _ he.symm).1.2; omega)
          have h0 : w1.heap[w.heap.size]? = some (.cells #[.slice none 0 0] 27 (0, 0)) := blk_grown X.out.b0 hg1 (fun he => by have := ((Kd.S_R X.out.s).1 _ he.symm).1.1; omega)
          have hc1 : w1.cell? ⟨w.heap.size + 1, 0, none⟩ = some (.slice A2 (rowsOf g j i).length c2) := (blk_cell h1 0).trans rfl
          have hf1 : w1.frozen? ⟨w.heap.size + 1, 0, none⟩ = false := blk_frozen h1 0
          have hnn : w.heap.size + 2 ≤ w1.heap.size := Nat.le_trans X.out.n (Nat.le_trans X.out.h hg1.size)
          have Z := Aside0.mk (show ∃ N0 u, MInv w N0 (rowsOf g j (i + 1)) u (w1.setCell ⟨w.heap.size + 1, 0, none⟩ v1) from by
            refine ⟨w1.heap.size, v1, ?_, by simpa using blk_set h1 0 v1, ?_, hb1.setCell (by simp) _, hnn, by simp⟩
            · rw [Below.heap_setCell _ _ _ _ (by simp)]
              exact h0
            · rw [rowsOf_succ]
              refine Kd.S_mono (Kd.S_far (p := ⟨w.heap.size + 1, 0, none⟩) (Kd.S_bound hS1) (fun k hk => hk.1.2) v1) (fun k hk => ⟨hk.1, hk.2.2.1⟩))
          obtain ⟨A4, c4, hv1⟩ := Kd.S_slice hS1
          generalize (rowsOf g j i ++ [rowOf g i j]).length = m at hv1
          subst hv1
          clear hS1 hb1 hg1 hat1 h1 h0 hc hf X hnn
          go_wp2
          go_roundg k1
          case rel => exact ⟨i + 1, by omega, w_succ i (by have := HN.out; omega), Z⟩
          case measure => omega
        | succ k2 =>
          have hd2 : decide (j < n) = true := decide_eq_true (by omega)
          have C := Aside0.mk (VV.out i j (by omega) (by omega) wr X.out.1.b)
          go_wp2_with fail
          refine C.out.mono ?_
          rintro e w2 ⟨rfl, hb⟩
          have X2 := Aside0.mk (show MInv w N0 (rowsOf g n i) u w2 ∧ Kd.R (Kd.int .i64) 3 w2 w.heap.size (fun k => N0 ≤ k) u7 (rowOf g i j) from ⟨X.out.1.below hb, Kd.R_below X.out.2 hb⟩)
          have HJ := Aside0.mk (show ((rowOf g i j).length + 1) * 8 ≤ 140737488355328 by rw [rowOf_length]; have := HN.out; omega)
          clear X C hb
          go_wp2_with (at_builtin; refine Kd.R_append (Kd.int .i64) (w0 := w) w.heap.size rfl _ _ 32 3 (.int .i64 0) 8 rfl Tryz.underlying32 iinfo rfl (by decide) (by decide) u7 (rowOf g i j) (g i j) [.int .i64 (g i j)] (fun k => N0 ≤ k) (fun _ => False) rfl rfl rfl (fun _ hk => hk.elim) (fun k hk => Nat.le_trans X2.out.1.h hk) X2.out.2 X2.out.1.b X2.out.1.b.size HJ.out ?_)
          intro v1 w1 hR1 hb1 hg1 hat1
          have Z := Aside0.mk (show MInv w N0 (rowsOf g n i) u w1 ∧ Kd.R (Kd.int .i64) 3 w1 w.heap.size (fun k => N0 ≤ k) v1 (rowOf g i (j + 1)) from
            ⟨X2.out.1.grown hg1 hb1 (fun k hk => X2.out.2.1 k hk), by rw [rowOf_succ]; exact hR1⟩)
          clear X2 hR1 hb1 hg1 hat1
          go_wp2
          go_roundg k2
          case rel => exact ⟨j + 1, by omega, w_succ j (by have := HN.out; omega), Z⟩
          case measure => omega

theorem unit1_any (i j : Nat) (w : World) :
    Calls Tryz.prog 46 #[.int .i64 i, .int .i64 j] w fun e w' => e = .returned (.int .i64 (if i = j then 1 else 0)) ∧ Below w.heap.size w w' := by
  by_cases h : i = j
  · subst h
    have d : ((i : Int) == (i : Int)) = true := beq_self_eq_true _
    rw [if_pos rfl]
    go_enter Tryz.func46, Tryz.ntmps46
    go_wp2
    go_ret
    exact ⟨rfl, Below.refl _ _⟩
  · have d : ((i : Int) == (j : Int)) = false := beq_eq_false_iff_ne.mpr (by omega)
    rw [if_neg h]
    clear h
    go_enter Tryz.func46, Tryz.ntmps46
    go_wp2
    go_ret
    exact ⟨rfl, Below.refl _ _⟩
def unitL (n : Nat) : List (List Int) := rowsOf (fun i j => if i = j then 1 else 0) n n
theorem unit_any (n : Nat) (w : World) (hn : n ≤ 1000) :
    Calls Tryz.prog 23 #[.int .i64 n] w fun e w' => ∃ v0 : Value, e = .returned (.agg #[v0]) ∧ Kd.S (Kd.slice 3 (Kd.int .i64)) 32 w' w.heap.size (fun _ => True) v0 (unitL n) ∧ Below w.heap.size w w' := by
  have hu := Tryz.underlying27
  have CC := Aside0.mk (fun W => show Calls Tryz.prog 45 #[.int .i64 n, .func (.func 46) #[] #[]] W fun e w' => ∃ v0 : Value, e = .returned (.agg #[v0]) ∧ Kd.S (Kd.slice 3 (Kd.int .i64)) 32 w' W.heap.size (fun _ => True) v0 (unitL n) ∧ Below W.heap.size W w' from
    madeUnit_any n (fun i j => if i = j then 1 else 0) W hn (fun i j _ _ W1 _ => unit1_any i j W1))
  clear hn
  go_enter Tryz.func23, Tryz.ntmps23
  go_wp2_with fail
  have DD := CC.out (w.alloc (.cells #[.slice none 0 0] 27))
  clear CC
  refine DD.mono ?_
  rintro e w2 ⟨v0, rfl, hS, hb2⟩
  have H2 := blk_below (heap_alloc_new w (.cells #[.slice none 0 0] 27)) hb2
  have hc2 : w2.cell? ⟨w.heap.size, 0, none⟩ = some (.slice none 0 0) := (blk_cell H2 0).trans rfl
  have hf2 : w2.frozen? ⟨w.heap.size, 0, none⟩ = false := blk_frozen H2 0
  obtain ⟨A2, c2, rfl⟩ := Kd.S_slice hS
  have HB0 := Aside0.mk (show (w2.setCell ⟨w.heap.size, 0, none⟩ (.slice A2 (unitL n).length c2)).heap[w.heap.size]? = some (.cells #[.slice A2 (unitL n).length c2] 27 (0, 0)) by simpa using blk_set H2 0 (.slice A2 (unitL n).length c2))
  have Y := Aside0.mk (show Kd.S (Kd.slice 3 (Kd.int .i64)) 32 (w2.setCell ⟨w.heap.size, 0, none⟩ (.slice A2 (unitL n).length c2)) w.heap.size (fun _ => True) (.slice A2 (unitL n).length c2) (unitL n) ∧
      Below w.heap.size w (w2.setCell ⟨w.heap.size, 0, none⟩ (.slice A2 (unitL n).length c2)) from
    ⟨Kd.S_mono (Kd.S_far (p := ⟨w.heap.size, 0, none⟩) (Kd.S_lower (Kd.S_bound hS) (by simp)) (fun k hk => by have := hk.2.1; simp at this; show k ≠ w.heap.size; omega) _) (fun _ _ => trivial),
      (below_step (below_alloc (Below.refl _ _) _) hb2).setCell (Nat.le_refl _) _⟩)
  clear hS hb2 H2 DD
  generalize (unitL n).length = m at HB0 Y
  go_wp2
  refine bodyPost_ret (results_cell_row rfl _ _ w.heap.size 27 #[.slice A2 m c2] (0, 0) _ rfl HB0.out Tryz.underlying27 rfl (by kernel_rfl)) rfl ?_
  exact ⟨_, rfl, Y.out⟩
end Go.Proofs.YtljlplohicffpaaGreat.G
namespace Go.Proofs.YtljlplohicffpaaGreat.G
open Go.RowKit Go.Proofs.YtljlplohicffpaaGreatW.PrintWords
set_option linter.unusedVariables false
set_option linter.unusedSimpArgs false

theorem cell_below_ {W w' : World} {p : Addr} {v : Value} (hb : Below W.heap.size W w') (h : W.cell? p = some v) : w'.cell? p = some v := (hb.cell (World.block_lt_of_cell? W p h)).trans h
def okL (a b x : Int) : Bool := decide (x = a) || decide (x = b)
/-- The closure: is a byte another one? The captured letters lie in two blocks. -/
theorem other_any (B : Nat) (a b x : Int) (w : World) (h1 : w.cell? ⟨B, 0, none⟩ = some (.int .u8 a)) (h2 : w.cell? ⟨B + 1, 0, none⟩ = some (.int .u8 b)) :
    Calls Tryz.prog 80 #[.int .u8 x, .pointer (some ⟨B, 0, none⟩), .pointer (some ⟨B + 1, 0, none⟩)] w fun e w' => e = .returned (.bool (!(okL a b x))) ∧ w = w' := by
  unfold okL
  by_cases c1 : x = a
  · have d1 : (x == a) = true := beq_iff_eq.mpr c1
    have d2 : (x != a) = false := bne_eq_false_iff_eq.mpr c1
    have d3 : decide (x = a) = true := decide_eq_true c1
    clear c1
    go_enter Tryz.func80, Tryz.ntmps80
    go_wp2
    go_ret
    exact ⟨by simp [d3], rfl⟩
  · have d1 : (x == a) = false := beq_eq_false_iff_ne.mpr c1
    have d2 : (x != a) = true := bne_iff_ne.mpr c1
    have d3 : decide (x = a) = false := decide_eq_false c1
    clear c1
    by_cases c2 : x = b
    · have d4 : (x == b) = true := beq_iff_eq.mpr c2
      have d5 : (x != b) = false := bne_eq_false_iff_eq.mpr c2
      have d6 : decide (x = b) = true := decide_eq_true c2
      clear c2
      go_enter Tryz.func80, Tryz.ntmps80
      go_wp2
      go_ret
      exact ⟨by simp [d3, d6], rfl⟩
    · have d4 : (x == b) = false := beq_eq_false_iff_ne.mpr c2
      have d5 : (x != b) = true := bne_iff_ne.mpr c2
      have d6 : decide (x = b) = false := decide_eq_false c2
      clear c2
      go_enter Tryz.func80, Tryz.ntmps80
      go_wp2
      go_ret
      exact ⟨by simp [d3, d6], rfl⟩
/-- What the search comes to: an index from 0 on if a byte is another one. -/
def IdxPostW (b : Bool) (w : World) (e : Ending) (w' : World) : Prop := (∃ r : Int, e = .returned (.int .i64 r) ∧ decide (0 ≤ r) = b) ∧ w = w'
theorem take_allW (p : Int → Bool) (l : List Int) (k : Nat) (h : k < l.length) : (l.take (k + 1)).all p = ((l.take k).all p && p l[k]) := by
  rw [List.take_succ_eq_append_getElem h, List.all_append]
  simp
set_option maxHeartbeats 1000000 in
theorem indexW_any (B : Nat) (a b : Int) (A0 : Option Addr) (c0 : Nat) (l : List Int) (w : World) (hr0 : ReadsInt w .u8 A0 l.length l)
    (h1 : w.cell? ⟨B, 0, none⟩ = some (.int .u8 a)) (h2 : w.cell? ⟨B + 1, 0, none⟩ = some (.int .u8 b)) :
    Calls Tryz.prog 105 #[.slice A0 l.length c0, .func (.func 80) #[] #[.pointer (some ⟨B, 0, none⟩), .pointer (some ⟨B + 1, 0, none⟩)]] w (IdxPostW (!(l.all (okL a b))) w) := by
  have HR0 := Aside0.mk hr0
  have hm : l.length ≤ 9223372036854775807 := hr0.2.1
  clear hr0
  go_enter Tryz.func105, Tryz.ntmps105
  go_wp2
  go_loop [5, 8] (fun _ v => ∃ k : Nat, k ≤ l.length ∧ v = .int .i64 k ∧ Aside0 ((l.take k).all (okL a b) = true)) (fun _ v => l.length - (intOf v).toNat)
  case atStart => exact ⟨0, Nat.zero_le _, rfl, ⟨by simp⟩⟩
  case round =>
    obtain ⟨k, hk, rfl, hall⟩ := hrel
    by_cases hlt : k < l.length
    · obtain ⟨ad, e0, hx⟩ := ReadsInt.at_ HR0.out (k : Int) (by omega) (by omega)
      cases e0
      have hrd : rd l (k : Int) = l[k] := by simp [rd, List.getD_eq_getElem?_getD, List.getElem?_eq_getElem hlt]
      rw [hrd] at hx
      simp only [Int.toNat_natCast] at hx
      have TA := Aside0.mk (take_allW (okL a b) l k hlt)
      generalize l[k] = x at hx TA
      clear hrd
      cases hb : okL a b x with
      | true =>
        have hN := Aside0.mk (show (l.take (k + 1)).all (okL a b) = true by rw [TA.out, hall.out]; exact hb)
        clear TA hall
        have C := fun W (g1 : W.cell? ⟨B, 0, none⟩ = some (.int .u8 a)) (g2 : W.cell? ⟨B + 1, 0, none⟩ = some (.int .u8 b)) => other_any B a b x W g1 g2
        rw [hb] at C
        clear hb
        go_wp2_with (go_at_call 80; refine (C _ h1 h2).mono ?_; rintro e w' ⟨rfl, rfl⟩)
        go_round
        case rel => exact ⟨k + 1, by omega, by go_num, hN⟩
        case measure => simp [intOf]; omega
      | false =>
        have hN := Aside0.mk (show l.all (okL a b) = false by
          rw [← List.take_append_drop (k + 1) l, List.all_append, TA.out, hall.out]
          show (true && okL a b x && _) = false
          rw [hb]; rfl)
        clear TA hall
        have C := fun W (g1 : W.cell? ⟨B, 0, none⟩ = some (.int .u8 a)) (g2 : W.cell? ⟨B + 1, 0, none⟩ = some (.int .u8 b)) => other_any B a b x W g1 g2
        rw [hb] at C
        clear hb
        go_wp2_with (go_at_call 80; refine (C _ h1 h2).mono ?_; rintro e w' ⟨rfl, rfl⟩)
        go_ret
        exact ⟨⟨_, rfl, by rw [hN.out]; exact decide_eq_true (by omega)⟩, rfl⟩
    · have hN := Aside0.mk (show l.all (okL a b) = true by
        have h := hall.out
        rwa [List.take_of_length_le (by omega)] at h)
      clear hall
      go_wp2
      go_ret
      exact ⟨⟨_, rfl, by rw [hN.out]; rfl⟩, rfl⟩
theorem containsW_any (B : Nat) (a b : Int) (A0 : Option Addr) (n c0 : Nat) (l : List Int) (w : World) (hn : l.length = n) (hr0 : ReadsInt w .u8 A0 l.length l)
    (h1 : w.cell? ⟨B, 0, none⟩ = some (.int .u8 a)) (h2 : w.cell? ⟨B + 1, 0, none⟩ = some (.int .u8 b)) :
    Calls Tryz.prog 79 #[.slice A0 n c0, .func (.func 80) #[] #[.pointer (some ⟨B, 0, none⟩), .pointer (some ⟨B + 1, 0, none⟩)]] w fun e w' => e = .returned (.bool (!(l.all (okL a b)))) ∧ w = w' := by
  subst hn
  have C := fun W (g0 : ReadsInt W .u8 A0 l.length l) (g1 : W.cell? ⟨B, 0, none⟩ = some (.int .u8 a)) (g2 : W.cell? ⟨B + 1, 0, none⟩ = some (.int .u8 b)) => indexW_any B a b A0 c0 l W g0 g1 g2
  generalize (!(l.all (okL a b))) = r at C
  have HR0 := Aside0.mk hr0
  clear hr0
  go_enter Tryz.func79, Tryz.ntmps79
  go_wp2_with (go_at_call 105; refine (C _ HR0.out h1 h2).mono ?_; rintro e w' ⟨⟨r, rfl, hr⟩, rfl⟩; replace hr := Aside0.mk hr)
  go_ret
  exact ⟨by rw [← hr.out]; rfl, rfl⟩
/-- A text of at most 40 bytes that are one of two. -/
def isWordB (s : ByteArray) (a b : Int) : Bool := decide (s.size ≤ 40) && (bytesOf s).all (okL a b)
theorem isWord_any (s : ByteArray) (a b : Int) (w : World) :
    Calls Tryz.prog 44 #[.string s, .int .u8 a, .int .u8 b] w fun e w' => e = .returned (.bool (isWordB s a b)) ∧ Below w.heap.size w w' := by
  have hmf : ∀ (fn : Fn) (first cap : Array Value) (w : World), (Instr.makeFunc fn first cap).run Tryz.prog w = .ok (.func fn first cap) w := fun _ _ _ _ => rfl
  have HB := Aside0.mk (((Below.refl w.heap.size w).alloc (Nat.le_refl _) (.cells #[.int .u8 a] 5)).alloc (by simp) (.cells #[.int .u8 b] 5))
  unfold isWordB
  by_cases h : s.size ≤ 40
  · have d1 : decide (s.size ≤ 40) = true := decide_eq_true h
    have d2 : decide ((s.size : Int) ≤ 40) = true := decide_eq_true (by omega)
    have kb := fun W => print_bytes (P := Tryz.prog) 9 22 5 Tryz.underlying9 Tryz.underlying22 Tryz.underlying5 s W
    have M2 : ((w.alloc (.cells #[.int .u8 a] 5)).alloc (.cells #[.int .u8 b] 5)).cell? ⟨w.heap.size, 0, none⟩ = some (.int .u8 a) := by
      rw [World.cell?_alloc_past _ _ _ (by simp), World.cell?_alloc_at _ _ _ _ rfl]; rfl
    have D2 : ((w.alloc (.cells #[.int .u8 a] 5)).alloc (.cells #[.int .u8 b] 5)).cell? ⟨w.heap.size + 1, 0, none⟩ = some (.int .u8 b) := by
      rw [World.cell?_alloc_at _ _ _ _ (by simp)]; rfl
    generalize hW : (w.alloc (.cells #[.int .u8 a] 5)).alloc (.cells #[.int .u8 b] 5) = W at M2 D2 HB
    have hr : ReadsInt (Lib.bytesWorld W 5 s) .u8 (some ⟨W.heap.size, 0, none⟩) (bytesOf s).length (bytesOf s) := by
      rw [bytesOf_length]
      exact (bytes_reads W 5 s (by omega))
    have hb := bytes_below (Below.refl W.heap.size W) (Nat.le_refl _) 5 s
    have hs : W.heap.size = w.heap.size + 1 + 1 := by rw [← hW]; simp
    rw [hs] at hr
    have C := Aside0.mk (containsW_any w.heap.size a b (some ⟨w.heap.size + 1 + 1, 0, none⟩) s.size (grownCap W s.size 0 5) (bytesOf s) (Lib.bytesWorld W 5 s) (bytesOf_length s) hr (cell_below_ hb M2) (cell_below_ hb D2))
    have HB2 := Aside0.mk (below_step HB.out hb)
    clear hb hr M2 D2 h HB hs
    subst hW
    generalize (bytesOf s).all (okL a b) = r at C
    go_enter Tryz.func44, Tryz.ntmps44
    go_wp2_with fail
    refine C.out.mono ?_
    rintro e w' ⟨rfl, rfl⟩
    go_wp2
    go_ret
    exact ⟨by simp [d1], HB2.out⟩
  · have d1 : decide (s.size ≤ 40) = false := decide_eq_false h
    have d2 : decide ((s.size : Int) ≤ 40) = false := decide_eq_false (by omega)
    clear h
    generalize (bytesOf s).all (okL a b) = r
    go_enter Tryz.func44, Tryz.ntmps44
    go_wp2
    go_ret
    exact ⟨by simp [d1], HB.out⟩
end Go.Proofs.YtljlplohicffpaaGreat.G
