/- Swaps are matrices that keep the form of Descartes, and quads are where it is 0. -/
import Derived.Test.YtnaginnhccldhaaAx1
import Derived.Test.YtnaginnhccldhaaAx2
import Derived.Test.YtnaginnhccldhaaAx3
import Derived.Test.YtnaginnhccldhaaAx5
import Derived.Test.YtnaginnhccldhaaAx6
import Derived.Test.YtnaginnhccldhaaAx9
import Derived.Test.YtnaginnhccldhaaAx11
import Derived.Test.YtnaginnhccldhaaAx12
import Derived.Test.YtnaginnhccldhaaAx13
import Derived.Test.YtnaginnhccldhaaAQQuadF
import Derived.Test.YtnaginnhccldhaaAQQuadD
import Derived.Test.YtnaginnhccldhaaAQApplyM
import Derived.Test.YtnaginnhccldhaaAQBig
import Derived.Test.YtnaginnhccldhaaAQDS
namespace Go.Proofs.Ytnaginnhccldhaa.Pure
open Go.RowKit Go.Proofs.Ytnaginnhccldhaa.P Go.Proofs.YtnaginnhccldhaaW.PrintWords Go.Proofs.YtnaginnhccldhaaW.PrintLast Go.Proofs.Ytnaginnhccldhaa.Q Go.Proofs.Ytnaginnhccldhaa.G
theorem dMatrix_same {L : List (List Int)} (hn : L.length ≤ 4611686018427387904) (hx : ∀ x ∈ L, x.length ≤ 4611686018427387904) : Ev (fun k => laws_dMatrix.f k L L) true := by
  unfold laws_dMatrix.f
  exact Ev.bind (f := fun _ (t : Bool) => some t) (dLists_same hn hx) Ev_some
def formD : List (List Int) := [[-1, 1, 1, 1], [1, -1, 1, 1], [1, 1, -1, 1], [1, 1, 1, -1]]
def swM : Nat → List (List Int)
  | 0 => [[-1, 2, 2, 2], [0, 1, 0, 0], [0, 0, 1, 0], [0, 0, 0, 1]]
  | 1 => [[1, 0, 0, 0], [2, -1, 2, 2], [0, 0, 1, 0], [0, 0, 0, 1]]
  | 2 => [[1, 0, 0, 0], [0, 1, 0, 0], [2, 2, -1, 2], [0, 0, 0, 1]]
  | _ => [[1, 0, 0, 0], [0, 1, 0, 0], [0, 0, 1, 0], [2, 2, 2, -1]]
def unit4 : List (List Int) := [[1, 0, 0, 0], [0, 1, 0, 0], [0, 0, 1, 0], [0, 0, 0, 1]]
theorem form_impl : impl_DescartesForm.f = some formD := by decide +kernel
theorem form_spec0 : spec_DescartesForm.f 40 = some formD := by decide +kernel
theorem form_spec : Ev (fun k => spec_DescartesForm.f k) formD := Ev.of (fun j => spec_DescartesForm.mono j) form_spec0
theorem sw_impl : ∀ i < 4, impl_SwapMatrix.f ((i : Nat) : Int) = some (swM i, true) := by decide +kernel
theorem sw_spec0 : ∀ i < 4, spec_SwapMatrix.f 40 ((i : Nat) : Int) = some (swM i, true) := by decide +kernel
theorem sw_keeps : ∀ i < 4, impl_KeepsForm.f 40 (swM i) formD = some (true, true) := by decide +kernel
theorem sw_twice : ∀ i < 4, impl_MultiplyMatrices.f (swM i) (swM i) = some (unit4, true) := by decide +kernel
theorem unit_told : impl_UnitMatrix.f 4 = some (unit4, true) := by decide +kernel
theorem isForm_told : impl_isForm.f formD = some true := by decide +kernel
theorem sw_out (x : Int) (h : x = 4 ∨ x = -1) : impl_SwapMatrix.f x = some ([], false) ∧ spec_SwapMatrix.f 40 x = some ([], false) := by
  rcases h with rfl | rfl <;> exact ⟨by decide +kernel, by decide +kernel⟩
theorem dot4 {x y z u : Int} (hx : -1000000000000 ≤ x ∧ x ≤ 1000000000000) (hy : -1000000000000 ≤ y ∧ y ≤ 1000000000000) (hz : -1000000000000 ≤ z ∧ z ≤ 1000000000000) (hu : -1000000000000 ≤ u ∧ u ≤ 1000000000000) :
    wrap64 (wrap64 (wrap64 (wrap64 (0 + wrap64 x) + wrap64 y) + wrap64 z) + wrap64 u) = x + y + z + u := by
  rw [w64 (x := x) (by omega) (by omega), w64 (x := y) (by omega) (by omega), w64 (x := z) (by omega) (by omega), w64 (x := u) (by omega) (by omega), w64 (x := 0 + x) (by omega) (by omega), w64 (x := 0 + x + y) (by omega) (by omega), w64 (x := 0 + x + y + z) (by omega) (by omega), w64 (x := 0 + x + y + z + u) (by omega) (by omega), Int.zero_add]
theorem dotV4 (r0 r1 r2 r3 a b c d : Int) : dotV [r0, r1, r2, r3] [a, b, c, d] 4 = wrap64 (wrap64 (wrap64 (wrap64 (0 + wrap64 (r0 * a)) + wrap64 (r1 * b)) + wrap64 (r2 * c)) + wrap64 (r3 * d)) := rfl
theorem row4 {r0 r1 r2 r3 a b c d : Int} (ha : InC a) (hb : InC b) (hc : InC c) (hd : InC d) (h0 : -1 ≤ r0 ∧ r0 ≤ 2) (h1 : -1 ≤ r1 ∧ r1 ≤ 2) (h2 : -1 ≤ r2 ∧ r2 ≤ 2) (h3 : -1 ≤ r3 ∧ r3 ≤ 2) : dotV [r0, r1, r2, r3] [a, b, c, d] 4 = r0 * a + r1 * b + r2 * c + r3 * d := by
  have m : ∀ {r x : Int}, InC x → -1 ≤ r ∧ r ≤ 2 → -1000000000000 ≤ r * x ∧ r * x ≤ 1000000000000 := by
    intro r x hx hr
    obtain ⟨x1, x2⟩ := hx
    rcases (show r = -1 ∨ r = 0 ∨ r = 1 ∨ r = 2 by omega) with rfl | rfl | rfl | rfl <;> omega
  rw [dotV4, dot4 (m ha h0) (m hb h1) (m hc h2) (m hd h3)]
theorem apply_sw {a b c d : Int} (ha : InC a) (hb : InC b) (hc : InC c) (hd : InC d) {i : Nat} (hi : i < 4) : applyR (swM i) [a, b, c, d] = (swapL [a, b, c, d] i, true) := by
  have hA : applyL (swM i) [a, b, c, d] = swapL [a, b, c, d] i := by
    rcases (show i = 0 ∨ i = 1 ∨ i = 2 ∨ i = 3 by omega) with rfl | rfl | rfl | rfl
    all_goals
      simp only [swM, applyL, List.map_cons, List.map_nil, List.length_cons, List.length_nil, swapL]
      rw [row4 ha hb hc hd (by omega) (by omega) (by omega) (by omega), row4 ha hb hc hd (by omega) (by omega) (by omega) (by omega), row4 ha hb hc hd (by omega) (by omega) (by omega) (by omega), row4 ha hb hc hd (by omega) (by omega) (by omega) (by omega)]
      congr 1
      · omega
      congr 1
      · omega
      congr 1
      · omega
      congr 1
      omega
  have hM : isMat (swM i) = true ∧ (swM i).length = 4 := by
    rcases (show i = 0 ∨ i = 1 ∨ i = 2 ∨ i = 3 by omega) with rfl | rfl | rfl | rfl <;> exact ⟨by decide, rfl⟩
  obtain ⟨a1, a2⟩ := ha
  obtain ⟨b1, b2⟩ := hb
  obtain ⟨c1, c2⟩ := hc
  obtain ⟨d1, d2⟩ := hd
  have vec : ∀ {x y z u : Int}, (-1000000 ≤ x ∧ x ≤ 1000000) → (-1000000 ≤ y ∧ y ≤ 1000000) → (-1000000 ≤ z ∧ z ≤ 1000000) → (-1000000 ≤ u ∧ u ≤ 1000000) → isVec ((4 : Nat) : Int) [x, y, z, u] = true := by
    intro x y z u hx hy hz hu
    unfold isVec inB
    simp only [List.length_cons, List.length_nil, List.all_cons, List.all_nil, Bool.and_true, Bool.and_eq_true, decide_eq_true_eq]
    exact ⟨by first | trivial | omega, hx, hy, hz, hu⟩
  have v1 := vec (x := a) (y := b) (z := c) (u := d) (by omega) (by omega) (by omega) (by omega)
  have v2 : isVec ((4 : Nat) : Int) (swapL [a, b, c, d] i) = true := by
    rcases (show i = 0 ∨ i = 1 ∨ i = 2 ∨ i = 3 by omega) with rfl | rfl | rfl | rfl <;> exact vec (by omega) (by omega) (by omega) (by omega)
  unfold applyR
  rw [hM.2, hA, if_pos hM.1, if_pos v1, if_pos v2]
theorem dot_l0 {v u : List Int} (hu : v.length ≤ 1000) (hv : v.length ≤ u.length) (d : Nat) : ∀ i : Nat, i + d = v.length → Ev (fun k => impl_dot.l0 k u (dotV v u i) v (v.length : Int) (i : Int)) (dotV v u v.length) := by
  induction d with
  | zero =>
    intro i hi
    obtain rfl : i = v.length := by omega
    refine Ev_succ ?_
    simp only [impl_dot.l0]
    exact Ev_false (by omega) Ev_some
  | succ d ih =>
    intro i hi
    refine Ev_succ ?_
    simp only [impl_dot.l0]
    rw [w64 (x := (i : Int) + 1) (by omega) (by omega)]
    exact Ev_true (by omega) (Ev_true (by omega) (Ev_true (by omega) (Ev_true (by omega) (ih (i + 1) (by omega)))))
theorem dot_ev {v u : List Int} (hu : v.length ≤ 1000) (hv : v.length ≤ u.length) : Ev (fun k => impl_dot.f k v u) (dotV v u v.length) := dot_l0 hu hv v.length 0 (by omega)
theorem prod_small {x y : Int} (hx : InC x) (hy : -400000 ≤ y ∧ y ≤ 400000) : -1000000000000 ≤ x * y ∧ x * y ≤ 1000000000000 := by
  obtain ⟨x1, x2⟩ := hx
  have p1 := Int.mul_nonneg (show 0 ≤ 100000 - x by omega) (show 0 ≤ 400000 - y by omega)
  have p2 := Int.mul_nonneg (show 0 ≤ 100000 + x by omega) (show 0 ≤ 400000 + y by omega)
  have p3 := Int.mul_nonneg (show 0 ≤ 100000 - x by omega) (show 0 ≤ 400000 + y by omega)
  have p4 := Int.mul_nonneg (show 0 ≤ 100000 + x by omega) (show 0 ≤ 400000 - y by omega)
  have e1 : (100000 - x) * (400000 - y) = 40000000000 - 100000 * y - 400000 * x + x * y := by grind
  have e2 : (100000 + x) * (400000 + y) = 40000000000 + 100000 * y + 400000 * x + x * y := by grind
  have e3 : (100000 - x) * (400000 + y) = 40000000000 + 100000 * y - 400000 * x - x * y := by grind
  have e4 : (100000 + x) * (400000 - y) = 40000000000 - 100000 * y + 400000 * x - x * y := by grind
  rw [e1] at p1
  rw [e2] at p2
  rw [e3] at p3
  rw [e4] at p4
  generalize x * y = p at *
  omega
theorem formAt_zero {q : List Int} (h : Quad4 q) : Ev (fun k => impl_FormAt.f k formD q) (0, true) := by
  obtain ⟨a, b, c, d, rfl, ⟨ha, hb, hc, hd⟩, hz⟩ := h
  have hA : applyL formD [a, b, c, d] = [-a + b + c + d, a - b + c + d, a + b - c + d, a + b + c - d] := by
    simp only [formD, applyL, List.map_cons, List.map_nil, List.length_cons, List.length_nil]
    rw [row4 ha hb hc hd (by omega) (by omega) (by omega) (by omega), row4 ha hb hc hd (by omega) (by omega) (by omega) (by omega), row4 ha hb hc hd (by omega) (by omega) (by omega) (by omega), row4 ha hb hc hd (by omega) (by omega) (by omega) (by omega)]
    congr 1
    · omega
    congr 1
    · omega
    congr 1
    · omega
    congr 1
    omega
  have v1 : isVec ((4 : Nat) : Int) [a, b, c, d] = true := by
    obtain ⟨a1, a2⟩ := ha
    obtain ⟨b1, b2⟩ := hb
    obtain ⟨c1, c2⟩ := hc
    obtain ⟨d1, d2⟩ := hd
    unfold isVec inB
    simp only [List.length_cons, List.length_nil, List.all_cons, List.all_nil, Bool.and_true, Bool.and_eq_true, decide_eq_true_eq]
    exact ⟨by first | trivial | omega, by omega, by omega, by omega, by omega⟩
  have hap := apply_ev (L := formD) (v := [a, b, c, d]) (by decide) rfl
  have hdt := dot_ev (v := [a, b, c, d]) (u := applyL formD [a, b, c, d]) (by simp) (by simp [applyL, formD])
  have hval : dotV [a, b, c, d] (applyL formD [a, b, c, d]) ([a, b, c, d] : List Int).length = 0 := by
    rw [hA]
    show dotV [a, b, c, d] [-a + b + c + d, a - b + c + d, a + b - c + d, a + b + c - d] 4 = 0
    have a_ := ha
    have b_ := hb
    have c_ := hc
    have d_ := hd
    obtain ⟨a1, a2⟩ := ha
    obtain ⟨b1, b2⟩ := hb
    obtain ⟨c1, c2⟩ := hc
    obtain ⟨d1, d2⟩ := hd
    rw [dotV4, dot4 (prod_small a_ (by omega)) (prod_small b_ (by omega)) (prod_small c_ (by omega)) (prod_small d_ (by omega))]
    have := hz.sq
    grind
  rw [hval] at hdt
  unfold impl_FormAt.f impl_ProductAt.f impl_Matrix_size.f
  rw [isForm_told]
  simp only [Option.bind_some, isVector_eq]
  refine Ev.bind (f := fun _ (t : Int × Bool) => some (t.1, t.2)) (a := (0, true)) (Ev_true (by first | rfl | trivial) (Ev_true v1 (Ev_succ ?_))) Ev_some
  simp only [impl_ProductAt.j0]
  exact Ev_false (by rw [show ((formD.length : Nat) : Int) = ((4 : Nat) : Int) from rfl, v1]; simp) (Ev.bind hap (Ev.bind (f := fun _ (t : Int) => some (t, true)) hdt Ev_some))
/-! ### The law -/
theorem law_j4 (q w : List Int) : Ev (fun j => laws_FnSwapsKeepTheForm.j4 j q (followR q w).1 (followR q w).2) true := by
  refine Ev_succ ?_
  simp only [laws_FnSwapsKeepTheForm.j4]
  have no : Ev (fun k => if (([] : List Int), false).2 = true then ((impl_ScaleOf.f k q).bind fun bt537 => ((impl_ScaleOf.f k (([] : List Int), false).1).bind fun bt539 => (if bt537.2 = true then (if bt539.2 = true then (some (bt537.1 == bt539.1)) else (some false)) else (some false)))) else (some true)) true := Ev_false (by simp) Ev_some
  unfold followR
  by_cases h : Quad4 q ∧ w.length ≤ 200 ∧ (∀ x ∈ w, 0 ≤ x ∧ x ≤ 3)
  · rw [if_pos h]
    rcases follow_good w q h.1 h.2.2 with e | ⟨out, e, h2, h3⟩
    · rw [e]
      exact no
    · rw [e]
      refine Ev_true (by first | rfl | trivial) (Ev.bind (scaleOf_good h.1) (Ev.bind (scaleOf_good h2) (Ev_true (by first | rfl | trivial) (Ev_true (by first | rfl | trivial) ?_))))
      rw [h3, beq_self_eq_true]
      exact Ev_some
  · rw [if_neg h]
    exact no
theorem law_j3 {q : List Int} (h : Quad4 q) (w : List Int) {x : Int} {ok : Bool} {M : List (List Int)} (hM : ok = false ∨ ∃ i : Nat, i < 4 ∧ x = (i : Int) ∧ M = swM i ∧ ok = true) : Ev (fun j => laws_FnSwapsKeepTheForm.j3 j x ok q (followR q w).1 (followR q w).2 false M) true := by
  have h4 := law_j4 q w
  refine Ev_succ ?_
  simp only [laws_FnSwapsKeepTheForm.j3]
  refine Ev_false (by simp) ?_
  rcases hM with rfl | ⟨i, hi, rfl, rfl, rfl⟩
  · exact Ev_false (by simp) h4
  · have hs := swapAt_ev h hi
    have hap := applyMatrix_ev (swM i) q
    have hl := swap_len h i
    have he : applyR (swM i) q = (swapL q i, true) := by
      obtain ⟨a, b, c, d, rfl, ⟨ha, hb, hc, hd⟩, _⟩ := h
      exact apply_sw ha hb hc hd hi
    rw [he] at hap
    refine Ev_true (by first | rfl | trivial) (Ev.bind hap (Ev.bind hs ?_))
    unfold swapR
    by_cases hc : InC (rd (swapL q i) (i : Int))
    · rw [if_pos hc]
      exact Ev_true (by first | rfl | trivial) (Ev_true (by first | rfl | trivial) (Ev.bind (dSame_same (by show (swapL q i).length ≤ 4611686018427387904; omega)) (Ev_true (by first | rfl | trivial) h4)))
    · rw [if_neg hc]
      exact Ev_false (by simp) h4
theorem followR_len (q w : List Int) : (followR q w).1.length ≤ 4 := by
  unfold followR
  by_cases h : Quad4 q ∧ w.length ≤ 200 ∧ (∀ x ∈ w, 0 ≤ x ∧ x ≤ 3)
  · rw [if_pos h]
    rcases follow_good w q h.1 h.2.2 with e | ⟨out, e, h2, h3⟩
    · rw [e]; exact Nat.zero_le _
    · rw [e]
      show out.length ≤ 4
      rw [quad_len h2]
      exact Nat.le_refl 4
  · rw [if_neg h]
    exact Nat.zero_le _
theorem law_j1 {l : List Int} (hl : Bytes l) {x : Int} {ok : Bool} {M : List (List Int)} (hM : ok = false ∨ ∃ i : Nat, i < 4 ∧ x = (i : Int) ∧ M = swM i ∧ ok = true) : Ev (fun j => laws_FnSwapsKeepTheForm.j1 j l x ok formD M) true := by
  refine Ev_succ ?_
  simp only [laws_FnSwapsKeepTheForm.j1]
  obtain ⟨q, w, hd, hq⟩ := draw_follow hl
  have hlen := followR_len q w
  refine Ev.bind hd (Ev.bind (followSwaps_impl q w (by omega)) (Ev.bind (followSwaps_spec q w (by omega)) (Ev_false (by simp) (Ev.bind (dSame_same (by omega)) ?_))))
  refine Ev_succ ?_
  simp only [laws_FnSwapsKeepTheForm.j2]
  have hr := isQuad_ev q
  refine Ev_false (by simp) (Ev.bind hr ?_)
  by_cases h : Quad4 q
  · refine Ev_true (isQ_true h) (Ev.bind (formAt_zero h) (Ev.bind (scaleOf_good h) (Ev.bind (divisorOf_good h) (Ev_true (by first | rfl | trivial) (Ev_true (by first | rfl | trivial) (Ev_true (by first | rfl | trivial) (Ev_true (by first | rfl | trivial) ?_)))))))
    rw [bne_self_eq_false]
    exact law_j3 h w hM
  · exact Ev_false (by rw [isQ_false h]; simp) (law_j4 q w)
theorem swM_small (i : Nat) : (swM i).length = 4 ∧ ∀ z ∈ swM i, z.length ≤ 4 := by
  match i with
  | 0 => exact ⟨rfl, by decide⟩
  | 1 => exact ⟨rfl, by decide⟩
  | 2 => exact ⟨rfl, by decide⟩
  | i + 3 => exact ⟨rfl, by show ∀ z ∈ ([[1, 0, 0, 0], [0, 1, 0, 0], [0, 0, 1, 0], [2, 2, 2, -1]] : List (List Int)), z.length ≤ 4; decide⟩
theorem FnSwapsKeepTheForm : laws_FnSwapsKeepTheForm.Pure := by
  intro l m hl1 hl2 hl3 hm1 hm2 hm3
  have hl := Bytes.of hl2 hl3
  have hm := Bytes.of hm2 hm3
  refine Ev_out (g := fun k => laws_FnSwapsKeepTheForm.f k l m) ?_
  unfold laws_FnSwapsKeepTheForm.f
  obtain ⟨b, hb⟩ := big_eq l m
  rw [hb]
  simp only [Option.bind_some]
  by_cases h : b = true
  · exact Ev_true h Ev_some
  refine Ev_false h ?_
  rw [form_impl]
  simp only [Option.bind_some]
  refine Ev.bind form_spec (Ev.bind (dMatrix_same (by decide) (by decide)) (Ev_true (by first | rfl | trivial) ?_))
  obtain ⟨x, hx, hmem⟩ := draw_swap hl
  rw [hx]
  simp only [Option.bind_some]
  by_cases hr : 0 ≤ x ∧ x ≤ 3
  · obtain ⟨i, rfl⟩ := Int.eq_ofNat_of_zero_le hr.1
    have hi : i < 4 := by omega
    obtain ⟨z1, z2⟩ := swM_small i
    have hs : Ev (fun k => spec_SwapMatrix.f k (i : Int)) (swM i, true) := Ev.of (fun j => spec_SwapMatrix.mono _ j) (sw_spec0 i hi)
    have hk : Ev (fun k => impl_KeepsForm.f k (swM i) formD) (true, true) := Ev.of (fun j => impl_KeepsForm.mono _ _ j) (sw_keeps i hi)
    rw [sw_impl i hi]
    simp only [Option.bind_some]
    refine Ev.bind hs (Ev_false (by simp) (Ev.bind (dMatrix_same (by omega) (fun z hz => by have := z2 z hz; omega)) ?_))
    refine Ev_succ ?_
    simp only [laws_FnSwapsKeepTheForm.j0]
    rw [sw_twice i hi, unit_told]
    simp only [Option.bind_some]
    exact Ev_false (by simp) (Ev_true (by first | rfl | trivial) (Ev.bind hk (Ev_true (by first | rfl | trivial) (Ev_true (by first | rfl | trivial) (Ev_true (by first | rfl | trivial) (Ev_true (by first | rfl | trivial) (Ev.bind (dMatrix_same (by decide) (by decide)) (Ev_true (by first | rfl | trivial) (law_j1 hm (.inr ⟨i, hi, rfl, rfl, rfl⟩))))))))))
  · have hx4 : x = 4 ∨ x = -1 := by
      simp only [List.mem_cons, List.not_mem_nil, or_false] at hmem
      omega
    obtain ⟨e1, e2⟩ := sw_out x hx4
    have hs : Ev (fun k => spec_SwapMatrix.f k x) ([], false) := Ev.of (fun j => spec_SwapMatrix.mono _ j) e2
    rw [e1]
    simp only [Option.bind_some]
    refine Ev.bind hs (Ev_false (by simp) (Ev.bind (dMatrix_same (by simp) (by simp)) ?_))
    refine Ev_succ ?_
    simp only [laws_FnSwapsKeepTheForm.j0]
    exact Ev_false (by simp) (Ev_false (by simp) (law_j1 hm (.inl rfl)))
end Go.Proofs.Ytnaginnhccldhaa.Pure
