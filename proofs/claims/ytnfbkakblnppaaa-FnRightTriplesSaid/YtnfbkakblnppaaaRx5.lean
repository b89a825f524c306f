-- Written by a program of this session (wip/mkprint.py over the kit's print), out of the translation. Not trusted: Lean checks it.
import Derived.Test.YtnfbkakblnppaaaRx0
import Derived.Test.YtnfbkakblnppaaaRx3
import Derived.Test.YtnfbkakblnppaaaRx4
namespace Go.Proofs.Ytnfbkakblnppaaa.P
open Go.RowKit Go.Proofs.YtnfbkakblnppaaaW.PrintWords Go.Proofs.YtnfbkakblnppaaaW.PrintLast Go.Proofs.YtnfbkakblnppaaaW.PrintMore
attribute [local go_sem] max2_int min2_int max_two min_two max_three min_three max_four min_four   -- for this text's walks alone
set_option linter.unusedVariables false
set_option linter.unusedSimpArgs false

/-! ### spec_l1Cur_triple: function 78 -/
mutual
def spec_l1Cur_triple.l0 : Nat → Int → Int → Int → List Int → Int → Int → Option (List Int × Int × Int)
 | 0, _, _, _, _, _, _ => none
 | k + 1, x3, x4, x5, x1000, x1001, x1002 => if x5 > 0 then ((spec_l1Cur_pick.f x1000 x1001 x1002 3).bind fun bt201 => ((spec_riBerg.f x3 x4 bt201.1).bind fun bt204 => ((spec_riPair.f k bt204.1 bt204.2).bind fun t206 => (if t206 = true then (spec_l1Cur_triple.l0 k bt204.1 bt204.2 (wrap64 (x5 - 1)) x1000 bt201.2.1 bt201.2.2) else (spec_l1Cur_triple.l0 k x3 x4 (wrap64 (x5 - 1)) x1000 bt201.2.1 bt201.2.2))))) else ((spec_l1Cur_one.f x1000 x1001 x1002 6).bind fun bt207 => (if bt207.1 = true then ((spec_l1Cur_pick.f x1000 bt207.2.1 bt207.2.2 120).bind fun bt210 => ((spec_l1Cur_pick.f x1000 bt210.2.1 bt210.2.2 (wrap64 ((wrap64 (2 + bt210.1)) - 1))).bind fun bt213 => (spec_l1Cur_triple.j1 k (wrap64 (2 + bt210.1)) (wrap64 (1 + bt213.1)) x1000 bt213.2.1 bt213.2.2))) else (spec_l1Cur_triple.j1 k x3 x4 x1000 bt207.2.1 bt207.2.2)))
def spec_l1Cur_triple.j1 : Nat → Int → Int → List Int → Int → Int → Option (List Int × Int × Int)
 | 0, _, _, _, _, _ => none
 | k + 1, x3, x4, x1000, x1001, x1002 => (spec_riPair.f k x3 x4).bind fun t216 => (if t216 = true then ((spec_riOf.f x3 x4).bind fun t229 => ((spec_l1Cur_pick.f x1000 x1001 x1002 16).bind fun bt232 => (if bt232.1 = 0 then ((spec_l1Cur_pick.f x1000 bt232.2.1 bt232.2.2 3).bind fun bt235 => (if 0 ≤ bt235.1 then (if bt235.1 < (t229.length : Int) then ((spec_l1Cur_among.f x1000 bt235.2.1 bt235.2.2 (([(-1), 1, 1000000000] : List Int))).bind fun bt242 => (some ((t229.set (bt235.1 : Int).toNat (wrap64 ((rd t229 bt235.1) + bt242.1))), bt242.2.1, bt242.2.2))) else (none)) else (none))) else (if bt232.1 = 1 then (if 1 < (t229.length : Int) then (if 0 < (t229.length : Int) then (if 2 < (t229.length : Int) then (some ((([rd t229 1, rd t229 0, rd t229 2] : List Int)), bt232.2.1, bt232.2.2)) else (none)) else (none)) else (none)) else (if bt232.1 = 2 then (if 0 < (t229.length : Int) then (if 1 < (t229.length : Int) then (if 2 < (t229.length : Int) then (some ((([wrap64 (3 * (rd t229 0)), wrap64 (3 * (rd t229 1)), wrap64 (3 * (rd t229 2))] : List Int)), bt232.2.1, bt232.2.2)) else (none)) else (none)) else (none)) else (if bt232.1 = 3 then (if t229.length < 17592186044416 then (some ((t229 ++ [1]), bt232.2.1, bt232.2.2)) else (none)) else (some (t229, bt232.2.1, bt232.2.2)))))))) else ((spec_l1Cur_pick.f x1000 x1001 x1002 30).bind fun bt217 => ((spec_l1Cur_pick.f x1000 bt217.2.1 bt217.2.2 30).bind fun bt220 => ((spec_l1Cur_pick.f x1000 bt220.2.1 bt220.2.2 50).bind fun bt223 => (some ((([wrap64 (bt217.1 - 1), bt220.1, bt223.1] : List Int)), bt223.2.1, bt223.2.2))))))
end
def spec_l1Cur_triple.f (k : Nat) (s0_0 : List Int) (s0_1 : Int) (s0_2 : Int) : Option (List Int × Int × Int) := (spec_l1Cur_pick.f s0_0 s0_1 s0_2 9).bind fun bt198 => (spec_l1Cur_triple.l0 k 2 1 bt198.1 s0_0 bt198.2.1 bt198.2.2)
theorem spec_l1Cur_triple.mono_l : ∀ k, (∀ y0 y1 y2 y3 y4 y5, LeO (spec_l1Cur_triple.l0 k y0 y1 y2 y3 y4 y5) (spec_l1Cur_triple.l0 (k + 1) y0 y1 y2 y3 y4 y5)) ∧ (∀ y0 y1 y2 y3 y4, LeO (spec_l1Cur_triple.j1 k y0 y1 y2 y3 y4) (spec_l1Cur_triple.j1 (k + 1) y0 y1 y2 y3 y4))
 | 0 => ⟨fun _ _ _ _ _ _ r h => by simp [spec_l1Cur_triple.l0] at h, fun _ _ _ _ _ r h => by simp [spec_l1Cur_triple.j1] at h⟩
 | k + 1 => by
  obtain ⟨ih0, ih1⟩ := spec_l1Cur_triple.mono_l k
  refine ⟨?_, ?_⟩
  ·
   intro y0 y1 y2 y3 y4 y5
   unfold spec_l1Cur_triple.l0
   repeat' first
   | (with_reducible exact ih0 _ _ _ _ _ _)
   | (with_reducible exact ih1 _ _ _ _ _)
   | (with_reducible exact spec_riPair.mono _ _ _)
   | (with_reducible exact LeO.refl _)
   | (with_reducible exact LeO.none _)
   | (with_reducible refine LeO.ite ?_ ?_)
   | (with_reducible refine LeO.bind ?_ (fun _ => ?_))
   | exact ih0 _ _ _ _ _ _
   | exact ih1 _ _ _ _ _
   | exact spec_riPair.mono _ _ _
   | exact LeO.none _
   | refine LeO.ite ?_ ?_
   | refine LeO.bind ?_ (fun _ => ?_)
  ·
   intro y0 y1 y2 y3 y4
   unfold spec_l1Cur_triple.j1
   repeat' first
   | (with_reducible exact ih0 _ _ _ _ _ _)
   | (with_reducible exact ih1 _ _ _ _ _)
   | (with_reducible exact spec_riPair.mono _ _ _)
   | (with_reducible exact LeO.refl _)
   | (with_reducible exact LeO.none _)
   | (with_reducible refine LeO.ite ?_ ?_)
   | (with_reducible refine LeO.bind ?_ (fun _ => ?_))
   | exact ih0 _ _ _ _ _ _
   | exact ih1 _ _ _ _ _
   | exact spec_riPair.mono _ _ _
   | exact LeO.none _
   | refine LeO.ite ?_ ?_
   | refine LeO.bind ?_ (fun _ => ?_)
theorem spec_l1Cur_triple.mono : ∀ a0 a1 a2 k, LeO (spec_l1Cur_triple.f k a0 a1 a2) (spec_l1Cur_triple.f (k + 1) a0 a1 a2) := by
 intro a0 a1 a2 k
 obtain ⟨ih0, ih1⟩ := spec_l1Cur_triple.mono_l k
 unfold spec_l1Cur_triple.f
 repeat' first
  | (with_reducible exact ih0 _ _ _ _ _ _)
  | (with_reducible exact ih1 _ _ _ _ _)
  | (with_reducible exact spec_riPair.mono _ _ _)
  | (with_reducible exact LeO.refl _)
  | (with_reducible exact LeO.none _)
  | (with_reducible refine LeO.ite ?_ ?_)
  | (with_reducible refine LeO.bind ?_ (fun _ => ?_))
  | exact ih0 _ _ _ _ _ _
  | exact ih1 _ _ _ _ _
  | exact spec_riPair.mono _ _ _
  | exact LeO.none _
  | refine LeO.ite ?_ ?_
  | refine LeO.bind ?_ (fun _ => ?_)
def spec_l1Cur_triple.T16 : Bool × List (List Nat × List Nat) := (true, [([], []), ([], []), ([1], [1]), ([0, 2], [0, 2]), ([3], [3]), ([], []), ([], []), ([5, 6, 2], [5, 6]), ([4, 7], [4, 7]), ([0, 2, 0, 1, 2, 3, 4, 5, 6, 7, 8], [0, 2]), ([9, 8, 7, 0, 1, 2, 3, 4, 5, 6, 7, 8], [8, 9])])
def spec_l1Cur_triple.B16 : List Nat := [0, 0, 2, 7, 15, 0, 0, 102, 255, 511, 1023]
theorem spec_l1Cur_triple.tab16 : rtab .any (opsOf Try.f78 16) = spec_l1Cur_triple.T16 := by kernel_rfl
theorem spec_l1Cur_triple.bits16 : waitsOk spec_l1Cur_triple.T16.2 spec_l1Cur_triple.B16 = true := by kernel_rfl
def spec_l1Cur_triple.T18 : Bool × List (List Nat × List Nat) := (true, [([], []), ([0], [0]), ([1], [1]), ([], []), ([3], [3]), ([4], [4]), ([], []), ([6], [6]), ([7], [7]), ([2, 5, 8], [2, 5, 8]), ([9, 0, 1, 2, 3, 4, 5, 6, 7, 8, 9], [0, 3, 6, 9])])
def spec_l1Cur_triple.B18 : List Nat := [0, 1, 3, 0, 8, 24, 0, 64, 192, 511, 1023]
theorem spec_l1Cur_triple.tab18 : rtab .any (opsOf Try.f78 18) = spec_l1Cur_triple.T18 := by kernel_rfl
theorem spec_l1Cur_triple.bits18 : waitsOk spec_l1Cur_triple.T18.2 spec_l1Cur_triple.B18 = true := by kernel_rfl
def spec_l1Cur_triple.T20 : Bool × List (List Nat × List Nat) := (true, [([], []), ([0], [0]), ([1], [1]), ([2], [2]), ([], []), ([4], [4]), ([5], [5]), ([6], [6]), ([], []), ([8], [8]), ([9], [9]), ([10], [10]), ([3, 7, 11], [3, 7, 11]), ([12, 0, 1, 2, 3, 4, 5, 6, 7, 8, 9, 10, 11, 12], [0, 4, 8, 12])])
def spec_l1Cur_triple.B20 : List Nat := [0, 1, 3, 7, 0, 16, 48, 112, 0, 256, 768, 1792, 4095, 8191]
theorem spec_l1Cur_triple.tab20 : rtab .any (opsOf Try.f78 20) = spec_l1Cur_triple.T20 := by kernel_rfl
theorem spec_l1Cur_triple.bits20 : waitsOk spec_l1Cur_triple.T20.2 spec_l1Cur_triple.B20 = true := by kernel_rfl
set_option maxHeartbeats 8000000 in
set_option maxRecDepth 100000 in
theorem spec_l1Cur_triple.calls (k : Nat) (g : Nat) (s0_0 : List Int) (s0_1 : Int) (s0_2 : Int) (r1 : List Int) (r2 : Int) (r3 : Int) (w0 w : World) (hI : IsS79 w0 w g s0_0 s0_1 s0_2) (hB : Below w0.heap.size w0 w) (h : spec_l1Cur_triple.f k s0_0 s0_1 s0_2 = some (r1, r2, r3)) :
 Calls Try.prog 78 #[.pointer (some ⟨g, 0, none⟩)] w fun e w' => ∃ v0_ : Value, e = .returned (v0_) ∧ Kd.R (Kd.int .i64) 3 w' w.heap.size (fun _ => True) v0_ r1 ∧ IsS79 w0 w' g s0_0 r2 r3 ∧ Below w0.heap.size w0 w' ∧ KeepBut w w' g none := by
 have HI0 := Aside0.mk hI
 have HK := Aside0.mk (KeepBut.refl w g none)
 have HL := Aside0.mk hB.size
 clear hI
 have HW0 := Aside0.mk hB.size
 have HB := Aside0.mk hB
 clear hB
 have H : ((spec_l1Cur_pick.f s0_0 s0_1 s0_2 9).bind fun bt198 => (spec_l1Cur_triple.l0 k 2 1 bt198.1 s0_0 bt198.2.1 bt198.2.2)) = some (r1, r2, r3) := h
 clear h
 replace H := Option.bind_eq_some_iff.mp H
 obtain ⟨⟨t198, t199, t200⟩, A20, H⟩ := H
 replace H : (spec_l1Cur_triple.l0 k 2 1 t198 s0_0 t199 t200) = some (r1, r2, r3) := H
 have A2 := Aside0.mk A20
 clear A20
 have H' := Aside0.mk H
 clear H
 go_enter Try.func78, Try.ntmps78
 go_wp2_with (first | ((with_reducible refine gate_callee (f := 79) rfl ?_); refine gL (some 10) rfl rfl Try.func79 (by kernel_rfl) rfl #[.pointer (some ⟨g, 0, none⟩), .int .i64 9] rfl ?_; (with_reducible refine (spec_l1Cur_pick.calls g s0_0 s0_1 s0_2 9 t198 t199 t200 w0 _ ?side1 ?side2 A2.out).mono ?_); (case side1 => repeat (first | (with_reducible first | exact HI0.out | apply IsS79.alloc | apply IsS79.drewN | apply IsS79.drew | apply IsS79.set_1 | apply IsS79.set_2) | exact HI0.out)); (case side2 => repeat (first | (with_reducible first | exact HB.out | apply below_alloc | apply pw_below_drewN | apply below_drew1 | refine below_set ?_ (IsS79.ge HI0.out)) | exact HB.out | exact Below.refl _ _)); rintro e w3 ⟨rfl, hi, hb, hk⟩; refine ⟨_, rfl, ?_⟩; have n0_ := Aside0.mk (KeepBut.trans (kH HK) hk (.inl rfl)); have n1_ := Aside0.mk (hb); have n2_ := Aside0.mk (hi); clear HK; clear HB; clear HI0; have HK := n0_; have HB := n1_; have HI0 := n2_; clear n0_ n1_ n2_; (try clear hb); (try clear hb2); (try clear hk); (try clear hi)))
 go_loopg [3, 4, 5] k (fun kq v3 v4 v5 w' => ∃ (x3_1 : Int) (x4_1 : Int) (x5_1 : Int) (x1001_1 : Int) (x1002_1 : Int), v3 = .int .i64 x3_1 ∧ v4 = .int .i64 x4_1 ∧ v5 = .int .i64 x5_1 ∧ Aside0 (spec_l1Cur_triple.l0 kq x3_1 x4_1 x5_1 s0_0 x1001_1 x1002_1 = some (r1, r2, r3)) ∧ Aside0 (kq ≤ k) ∧ Aside0 (IsS79 w0 w' g s0_0 x1001_1 x1002_1) ∧ Aside0 (KeepBut w w' g none) ∧ Aside0 (Below w0.heap.size w0 w'))
 case atStart => exact ⟨(2), (1), (t198), (t199), (t200), e2, e2, e2, H', ⟨Nat.le_refl _⟩, ⟨by repeat (first | (with_reducible first | exact HI0.out | apply IsS79.alloc | apply IsS79.drewN | apply IsS79.drew | apply IsS79.set_1 | apply IsS79.set_2) | exact HI0.out)⟩, ⟨kH HK⟩, ⟨by repeat (first | (with_reducible first | exact HB.out | apply below_alloc | apply pw_below_drewN | apply below_drew1 | refine below_set ?_ (IsS79.ge HI0.out)) | exact HB.out | exact Below.refl _ _)⟩⟩
 case round =>
  clear H'; (try clear p2)
  obtain ⟨x3_1, x4_1, x5_1, x1001_1, x1002_1, rfl, rfl, rfl, HA, HK1, HI0, HK, HB⟩ := hrel
  cases gk with
  | zero => exact absurd HA.out (by simp [spec_l1Cur_triple.l0])
  | succ k1 =>
   have H := HA.out
   clear HA
   simp only [spec_l1Cur_triple.l0] at H
   by_cases c4 : x5_1 > 0
   ·
    rw [if_pos c4] at H
    have c4b0 : decide (0 < x5_1) = true := decide_eq_true c4
    clear c4
    replace H := Option.bind_eq_some_iff.mp H
    obtain ⟨⟨t201, t202, t203⟩, A50, H⟩ := H
    replace H : ((spec_riBerg.f x3_1 x4_1 t201).bind fun bt204 => ((spec_riPair.f k1 bt204.1 bt204.2).bind fun t206 => (if t206 = true then (spec_l1Cur_triple.l0 k1 bt204.1 bt204.2 (wrap64 (x5_1 - 1)) s0_0 t202 t203) else (spec_l1Cur_triple.l0 k1 x3_1 x4_1 (wrap64 (x5_1 - 1)) s0_0 t202 t203)))) = some (r1, r2, r3) := H
    have A5 := Aside0.mk A50
    clear A50
    replace H := Option.bind_eq_some_iff.mp H
    obtain ⟨⟨t204, t205⟩, A60, H⟩ := H
    replace H : ((spec_riPair.f k1 t204 t205).bind fun t206 => (if t206 = true then (spec_l1Cur_triple.l0 k1 t204 t205 (wrap64 (x5_1 - 1)) s0_0 t202 t203) else (spec_l1Cur_triple.l0 k1 x3_1 x4_1 (wrap64 (x5_1 - 1)) s0_0 t202 t203))) = some (r1, r2, r3) := H
    have A6 := Aside0.mk A60
    clear A60
    replace H := Option.bind_eq_some_iff.mp H
    obtain ⟨t206, A70, H⟩ := H
    replace H : (if t206 = true then (spec_l1Cur_triple.l0 k1 t204 t205 (wrap64 (x5_1 - 1)) s0_0 t202 t203) else (spec_l1Cur_triple.l0 k1 x3_1 x4_1 (wrap64 (x5_1 - 1)) s0_0 t202 t203)) = some (r1, r2, r3) := H
    have A7 := Aside0.mk A70
    clear A70
    by_cases c8 : t206 = true
    ·
     subst c8
     have H1 : (spec_l1Cur_triple.l0 k1 t204 t205 (wrap64 (x5_1 - 1)) s0_0 t202 t203) = some (r1, r2, r3) := by rw [if_pos rfl] at H; exact H
     clear H
     have H := H1
     clear H1
     have H' := Aside0.mk H
     clear H
     go_wp2_with (first | ((with_reducible refine gate_callee (f := 79) rfl ?_); refine gL (some 19) rfl rfl Try.func79 (by kernel_rfl) rfl #[.pointer (some ⟨g, 0, none⟩), .int .i64 3] rfl ?_; (with_reducible refine (spec_l1Cur_pick.calls g s0_0 x1001_1 x1002_1 3 t201 t202 t203 w0 _ ?side1 ?side2 A5.out).mono ?_); (case side1 => repeat (first | (with_reducible first | exact HI0.out | apply IsS79.alloc | apply IsS79.drewN | apply IsS79.drew | apply IsS79.set_1 | apply IsS79.set_2) | exact HI0.out)); (case side2 => repeat (first | (with_reducible first | exact HB.out | apply below_alloc | apply pw_below_drewN | apply below_drew1 | refine below_set ?_ (IsS79.ge HI0.out)) | exact HB.out | exact Below.refl _ _)); rintro e w9 ⟨rfl, hi, hb, hk⟩; refine ⟨_, rfl, ?_⟩; have n0_ := Aside0.mk (KeepBut.trans (kH HK) hk (.inl rfl)); have n1_ := Aside0.mk (hb); have n2_ := Aside0.mk (hi); clear HK; clear HB; clear HI0; have HK := n0_; have HB := n1_; have HI0 := n2_; clear n0_ n1_ n2_; (try clear hb); (try clear hb2); (try clear hk); (try clear hi)) | ((with_reducible refine gate_callee (f := 81) rfl ?_); refine gL (some 20) rfl rfl Try.func81 (by kernel_rfl) rfl #[.int .i64 x3_1, .int .i64 x4_1, .int .i64 t201] rfl ?_; (with_reducible refine (spec_riBerg.calls x3_1 x4_1 t201 t204 t205 _ A6.out).mono ?_); rintro e w' ⟨rfl, ⟨nd, rfl⟩⟩; refine ⟨_, rfl, ?_⟩) | ((with_reducible refine gate_callee (f := 94) rfl ?_); refine gL (some 25) rfl rfl Try.func94 (by kernel_rfl) rfl #[.int .i64 t204, .int .i64 t205] rfl ?_; (with_reducible refine (spec_riPair.calls k1 t204 t205 true _ A7.out).mono ?_); rintro e w' ⟨rfl, ⟨nd, rfl⟩⟩; refine ⟨_, rfl, ?_⟩))
     go_roundg k1
     case measure => have := HK1.out; omega
     case rel => exact ⟨(t204), (t205), (wrap64 (x5_1 - 1)), (t202), (t203), e2, e2, e2, H', ⟨by have := HK1.out; omega⟩, ⟨by repeat (first | (with_reducible first | exact HI0.out | apply IsS79.alloc | apply IsS79.drewN | apply IsS79.drew | apply IsS79.set_1 | apply IsS79.set_2) | exact HI0.out)⟩, ⟨kH HK⟩, ⟨by repeat (first | (with_reducible first | exact HB.out | apply below_alloc | apply pw_below_drewN | apply below_drew1 | refine below_set ?_ (IsS79.ge HI0.out)) | exact HB.out | exact Below.refl _ _)⟩⟩
    ·
     replace c8 := Bool.eq_false_iff.mpr c8
     subst c8
     have H1 : (spec_l1Cur_triple.l0 k1 x3_1 x4_1 (wrap64 (x5_1 - 1)) s0_0 t202 t203) = some (r1, r2, r3) := by rw [if_neg (show ¬ (false = true) by decide)] at H; exact H
     clear H
     have H := H1
     clear H1
     have H' := Aside0.mk H
     clear H
     go_wp2_with (first | ((with_reducible refine gate_callee (f := 79) rfl ?_); refine gL (some 19) rfl rfl Try.func79 (by kernel_rfl) rfl #[.pointer (some ⟨g, 0, none⟩), .int .i64 3] rfl ?_; (with_reducible refine (spec_l1Cur_pick.calls g s0_0 x1001_1 x1002_1 3 t201 t202 t203 w0 _ ?side1 ?side2 A5.out).mono ?_); (case side1 => repeat (first | (with_reducible first | exact HI0.out | apply IsS79.alloc | apply IsS79.drewN | apply IsS79.drew | apply IsS79.set_1 | apply IsS79.set_2) | exact HI0.out)); (case side2 => repeat (first | (with_reducible first | exact HB.out | apply below_alloc | apply pw_below_drewN | apply below_drew1 | refine below_set ?_ (IsS79.ge HI0.out)) | exact HB.out | exact Below.refl _ _)); rintro e w10 ⟨rfl, hi, hb, hk⟩; refine ⟨_, rfl, ?_⟩; have n0_ := Aside0.mk (KeepBut.trans (kH HK) hk (.inl rfl)); have n1_ := Aside0.mk (hb); have n2_ := Aside0.mk (hi); clear HK; clear HB; clear HI0; have HK := n0_; have HB := n1_; have HI0 := n2_; clear n0_ n1_ n2_; (try clear hb); (try clear hb2); (try clear hk); (try clear hi)) | ((with_reducible refine gate_callee (f := 81) rfl ?_); refine gL (some 20) rfl rfl Try.func81 (by kernel_rfl) rfl #[.int .i64 x3_1, .int .i64 x4_1, .int .i64 t201] rfl ?_; (with_reducible refine (spec_riBerg.calls x3_1 x4_1 t201 t204 t205 _ A6.out).mono ?_); rintro e w' ⟨rfl, ⟨nd, rfl⟩⟩; refine ⟨_, rfl, ?_⟩) | ((with_reducible refine gate_callee (f := 94) rfl ?_); refine gL (some 25) rfl rfl Try.func94 (by kernel_rfl) rfl #[.int .i64 t204, .int .i64 t205] rfl ?_; (with_reducible refine (spec_riPair.calls k1 t204 t205 false _ A7.out).mono ?_); rintro e w' ⟨rfl, ⟨nd, rfl⟩⟩; refine ⟨_, rfl, ?_⟩))
     go_roundg k1
     case measure => have := HK1.out; omega
     case rel => exact ⟨(x3_1), (x4_1), (wrap64 (x5_1 - 1)), (t202), (t203), e2, e2, e2, H', ⟨by have := HK1.out; omega⟩, ⟨by repeat (first | (with_reducible first | exact HI0.out | apply IsS79.alloc | apply IsS79.drewN | apply IsS79.drew | apply IsS79.set_1 | apply IsS79.set_2) | exact HI0.out)⟩, ⟨kH HK⟩, ⟨by repeat (first | (with_reducible first | exact HB.out | apply below_alloc | apply pw_below_drewN | apply below_drew1 | refine below_set ?_ (IsS79.ge HI0.out)) | exact HB.out | exact Below.refl _ _)⟩⟩
   ·
    rw [if_neg c4] at H
    have c4b0 : decide (0 < x5_1) = false := decide_eq_false c4
    clear c4
    replace H := Option.bind_eq_some_iff.mp H
    obtain ⟨⟨t207, t208, t209⟩, A110, H⟩ := H
    replace H : (if t207 = true then ((spec_l1Cur_pick.f s0_0 t208 t209 120).bind fun bt210 => ((spec_l1Cur_pick.f s0_0 bt210.2.1 bt210.2.2 (wrap64 ((wrap64 (2 + bt210.1)) - 1))).bind fun bt213 => (spec_l1Cur_triple.j1 k1 (wrap64 (2 + bt210.1)) (wrap64 (1 + bt213.1)) s0_0 bt213.2.1 bt213.2.2))) else (spec_l1Cur_triple.j1 k1 x3_1 x4_1 s0_0 t208 t209)) = some (r1, r2, r3) := H
    have A11 := Aside0.mk A110
    clear A110
    have HC12 := Aside0.mk H
    clear H
    go_upto_if 29 with (first | ((with_reducible refine gate_callee (f := 98) rfl ?_); refine gL (some 29) rfl rfl Try.func98 (by kernel_rfl) rfl #[.pointer (some ⟨g, 0, none⟩), .int .i64 6] rfl ?_; (with_reducible refine (spec_l1Cur_one.calls g s0_0 x1001_1 x1002_1 6 t207 t208 t209 w0 _ ?side1 ?side2 A11.out).mono ?_); (case side1 => repeat (first | (with_reducible first | exact HI0.out | apply IsS79.alloc | apply IsS79.drewN | apply IsS79.drew | apply IsS79.set_1 | apply IsS79.set_2) | exact HI0.out)); (case side2 => repeat (first | (with_reducible first | exact HB.out | apply below_alloc | apply pw_below_drewN | apply below_drew1 | refine below_set ?_ (IsS79.ge HI0.out)) | exact HB.out | exact Below.refl _ _)); rintro e w13 ⟨rfl, hi, hb, hk⟩; refine ⟨_, rfl, ?_⟩; have n0_ := Aside0.mk (KeepBut.trans (kH HK) hk (.inl rfl)); have n1_ := Aside0.mk (hb); have n2_ := Aside0.mk (hi); clear HK; clear HB; clear HI0; have HK := n0_; have HB := n1_; have HI0 := n2_; clear n0_ n1_ n2_; (try clear hb); (try clear hb2); (try clear hk); (try clear hi)))
    (try simp only [Act.put, List.setIfInBounds_toArray, List.set_cons_zero, List.set_cons_succ])
    go_cut [3, 4] (fun v3 v4 wc => ∃ (kq : Nat) (x3_11 : Int) (x4_11 : Int) (x1001_11 : Int) (x1002_11 : Int), v3 = .int .i64 x3_11 ∧ v4 = .int .i64 x4_11 ∧ Aside0 (spec_l1Cur_triple.j1 kq x3_11 x4_11 s0_0 x1001_11 x1002_11 = some (r1, r2, r3)) ∧ Aside0 (kq ≤ k1) ∧ Aside0 (IsS79 w0 wc g s0_0 x1001_11 x1002_11) ∧ Aside0 (KeepBut w wc g none) ∧ Aside0 (Below w0.heap.size w0 wc))
    case first =>
     have H := HC12.out
     clear HC12
     by_cases c14 : t207 = true
     ·
      subst c14
      have H1 : ((spec_l1Cur_pick.f s0_0 t208 t209 120).bind fun bt210 => ((spec_l1Cur_pick.f s0_0 bt210.2.1 bt210.2.2 (wrap64 ((wrap64 (2 + bt210.1)) - 1))).bind fun bt213 => (spec_l1Cur_triple.j1 k1 (wrap64 (2 + bt210.1)) (wrap64 (1 + bt213.1)) s0_0 bt213.2.1 bt213.2.2))) = some (r1, r2, r3) := by rw [if_pos rfl] at H; exact H
      clear H
      have H := H1
      clear H1
      replace H := Option.bind_eq_some_iff.mp H
      obtain ⟨⟨t210, t211, t212⟩, A150, H⟩ := H
      replace H : ((spec_l1Cur_pick.f s0_0 t211 t212 (wrap64 ((wrap64 (2 + t210)) - 1))).bind fun bt213 => (spec_l1Cur_triple.j1 k1 (wrap64 (2 + t210)) (wrap64 (1 + bt213.1)) s0_0 bt213.2.1 bt213.2.2)) = some (r1, r2, r3) := H
      have A15 := Aside0.mk A150
      clear A150
      replace H := Option.bind_eq_some_iff.mp H
      obtain ⟨⟨t213, t214, t215⟩, A160, H⟩ := H
      replace H : (spec_l1Cur_triple.j1 k1 (wrap64 (2 + t210)) (wrap64 (1 + t213)) s0_0 t214 t215) = some (r1, r2, r3) := H
      have A16 := Aside0.mk A160
      clear A160
      have H' := Aside0.mk H
      clear H
      go_wp2_with (first | ((with_reducible refine gate_callee (f := 79) rfl ?_); refine gL (some 31) rfl rfl Try.func79 (by kernel_rfl) rfl #[.pointer (some ⟨g, 0, none⟩), .int .i64 120] rfl ?_; (with_reducible refine (spec_l1Cur_pick.calls g s0_0 t208 t209 120 t210 t211 t212 w0 _ ?side1 ?side2 A15.out).mono ?_); (case side1 => repeat (first | (with_reducible first | exact HI0.out | apply IsS79.alloc | apply IsS79.drewN | apply IsS79.drew | apply IsS79.set_1 | apply IsS79.set_2) | exact HI0.out)); (case side2 => repeat (first | (with_reducible first | exact HB.out | apply below_alloc | apply pw_below_drewN | apply below_drew1 | refine below_set ?_ (IsS79.ge HI0.out)) | exact HB.out | exact Below.refl _ _)); rintro e w17 ⟨rfl, hi, hb, hk⟩; refine ⟨_, rfl, ?_⟩; have n0_ := Aside0.mk (KeepBut.trans (kH HK) hk (.inl rfl)); have n1_ := Aside0.mk (hb); have n2_ := Aside0.mk (hi); clear HK; clear HB; clear HI0; have HK := n0_; have HB := n1_; have HI0 := n2_; clear n0_ n1_ n2_; (try clear hb); (try clear hb2); (try clear hk); (try clear hi)) | ((with_reducible refine gate_callee (f := 79) rfl ?_); refine gL (some 36) rfl rfl Try.func79 (by kernel_rfl) rfl #[.pointer (some ⟨g, 0, none⟩), .int .i64 (wrap64 ((wrap64 (2 + t210)) - 1))] rfl ?_; (with_reducible refine (spec_l1Cur_pick.calls g s0_0 t211 t212 (wrap64 ((wrap64 (2 + t210)) - 1)) t213 t214 t215 w0 _ ?side1 ?side2 A16.out).mono ?_); (case side1 => repeat (first | (with_reducible first | exact HI0.out | apply IsS79.alloc | apply IsS79.drewN | apply IsS79.drew | apply IsS79.set_1 | apply IsS79.set_2) | exact HI0.out)); (case side2 => repeat (first | (with_reducible first | exact HB.out | apply below_alloc | apply pw_below_drewN | apply below_drew1 | refine below_set ?_ (IsS79.ge HI0.out)) | exact HB.out | exact Below.refl _ _)); rintro e w18 ⟨rfl, hi, hb, hk⟩; refine ⟨_, rfl, ?_⟩; have n0_ := Aside0.mk (KeepBut.trans (kH HK) hk (.inl rfl)); have n1_ := Aside0.mk (hb); have n2_ := Aside0.mk (hi); clear HK; clear HB; clear HI0; have HK := n0_; have HB := n1_; have HI0 := n2_; clear n0_ n1_ n2_; (try clear hb); (try clear hb2); (try clear hk); (try clear hi)))
      go_meet
      case rel => exact ⟨_, (wrap64 (2 + t210)), (wrap64 (1 + t213)), (t214), (t215), e2, e2, H', ⟨by have := HK1.out; first | omega | exact Nat.le_refl _⟩, ⟨by repeat (first | (with_reducible first | exact HI0.out | apply IsS79.alloc | apply IsS79.drewN | apply IsS79.drew | apply IsS79.set_1 | apply IsS79.set_2) | exact HI0.out)⟩, ⟨kH HK⟩, ⟨by repeat (first | (with_reducible first | exact HB.out | apply below_alloc | apply pw_below_drewN | apply below_drew1 | refine below_set ?_ (IsS79.ge HI0.out)) | exact HB.out | exact Below.refl _ _)⟩⟩
     ·
      replace c14 := Bool.eq_false_iff.mpr c14
      subst c14
      have H1 : (spec_l1Cur_triple.j1 k1 x3_1 x4_1 s0_0 t208 t209) = some (r1, r2, r3) := by rw [if_neg (show ¬ (false = true) by decide)] at H; exact H
      clear H
      have H := H1
      clear H1
      have H' := Aside0.mk H
      clear H
      go_wp2
      go_meet
      case rel => exact ⟨_, (x3_1), (x4_1), (t208), (t209), e2, e2, H', ⟨by have := HK1.out; first | omega | exact Nat.le_refl _⟩, ⟨by repeat (first | (with_reducible first | exact HI0.out | apply IsS79.alloc | apply IsS79.drewN | apply IsS79.drew | apply IsS79.set_1 | apply IsS79.set_2) | exact HI0.out)⟩, ⟨kH HK⟩, ⟨by repeat (first | (with_reducible first | exact HB.out | apply below_alloc | apply pw_below_drewN | apply below_drew1 | refine below_set ?_ (IsS79.ge HI0.out)) | exact HB.out | exact Below.refl _ _)⟩⟩
    case rest =>
     clear HC12; (try clear c1); (try clear p2); (try clear c4); (try clear c4b0); (try clear p6); (try clear c7); (try clear c8); (try clear c9); (try clear c14); (try clear p2)
     obtain ⟨kq, x3_11, x4_11, x1001_11, x1002_11, rfl, rfl, HA, HJ11, HI0, HK, HB⟩ := hcut
     cases kq with
     | zero => exact absurd HA.out (by simp [spec_l1Cur_triple.j1])
     | succ kj11 =>
      have H := HA.out
      clear HA
      simp only [spec_l1Cur_triple.j1] at H
      replace H := Option.bind_eq_some_iff.mp H
      obtain ⟨t216, A190, H⟩ := H
      replace H : (if t216 = true then ((spec_riOf.f x3_11 x4_11).bind fun t229 => ((spec_l1Cur_pick.f s0_0 x1001_11 x1002_11 16).bind fun bt232 => (if bt232.1 = 0 then ((spec_l1Cur_pick.f s0_0 bt232.2.1 bt232.2.2 3).bind fun bt235 => (if 0 ≤ bt235.1 then (if bt235.1 < (t229.length : Int) then ((spec_l1Cur_among.f s0_0 bt235.2.1 bt235.2.2 (([(-1), 1, 1000000000] : List Int))).bind fun bt242 => (some ((t229.set (bt235.1 : Int).toNat (wrap64 ((rd t229 bt235.1) + bt242.1))), bt242.2.1, bt242.2.2))) else (none)) else (none))) else (if bt232.1 = 1 then (if 1 < (t229.length : Int) then (if 0 < (t229.length : Int) then (if 2 < (t229.length : Int) then (some ((([rd t229 1, rd t229 0, rd t229 2] : List Int)), bt232.2.1, bt232.2.2)) else (none)) else (none)) else (none)) else (if bt232.1 = 2 then (if 0 < (t229.length : Int) then (if 1 < (t229.length : Int) then (if 2 < (t229.length : Int) then (some ((([wrap64 (3 * (rd t229 0)), wrap64 (3 * (rd t229 1)), wrap64 (3 * (rd t229 2))] : List Int)), bt232.2.1, bt232.2.2)) else (none)) else (none)) else (none)) else (if bt232.1 = 3 then (if t229.length < 17592186044416 then (some ((t229 ++ [1]), bt232.2.1, bt232.2.2)) else (none)) else (some (t229, bt232.2.1, bt232.2.2)))))))) else ((spec_l1Cur_pick.f s0_0 x1001_11 x1002_11 30).bind fun bt217 => ((spec_l1Cur_pick.f s0_0 bt217.2.1 bt217.2.2 30).bind fun bt220 => ((spec_l1Cur_pick.f s0_0 bt220.2.1 bt220.2.2 50).bind fun bt223 => (some ((([wrap64 (bt217.1 - 1), bt220.1, bt223.1] : List Int)), bt223.2.1, bt223.2.2)))))) = some (r1, r2, r3) := H
      have A19 := Aside0.mk A190
      clear A190
      by_cases c20 : t216 = true
      ·
       subst c20
       have H1 : ((spec_riOf.f x3_11 x4_11).bind fun t229 => ((spec_l1Cur_pick.f s0_0 x1001_11 x1002_11 16).bind fun bt232 => (if bt232.1 = 0 then ((spec_l1Cur_pick.f s0_0 bt232.2.1 bt232.2.2 3).bind fun bt235 => (if 0 ≤ bt235.1 then (if bt235.1 < (t229.length : Int) then ((spec_l1Cur_among.f s0_0 bt235.2.1 bt235.2.2 (([(-1), 1, 1000000000] : List Int))).bind fun bt242 => (some ((t229.set (bt235.1 : Int).toNat (wrap64 ((rd t229 bt235.1) + bt242.1))), bt242.2.1, bt242.2.2))) else (none)) else (none))) else (if bt232.1 = 1 then (if 1 < (t229.length : Int) then (if 0 < (t229.length : Int) then (if 2 < (t229.length : Int) then (some ((([rd t229 1, rd t229 0, rd t229 2] : List Int)), bt232.2.1, bt232.2.2)) else (none)) else (none)) else (none)) else (if bt232.1 = 2 then (if 0 < (t229.length : Int) then (if 1 < (t229.length : Int) then (if 2 < (t229.length : Int) then (some ((([wrap64 (3 * (rd t229 0)), wrap64 (3 * (rd t229 1)), wrap64 (3 * (rd t229 2))] : List Int)), bt232.2.1, bt232.2.2)) else (none)) else (none)) else (none)) else (if bt232.1 = 3 then (if t229.length < 17592186044416 then (some ((t229 ++ [1]), bt232.2.1, bt232.2.2)) else (none)) else (some (t229, bt232.2.1, bt232.2.2)))))))) = some (r1, r2, r3) := by rw [if_pos rfl] at H; exact H
       clear H
       have H := H1
       clear H1
       replace H := Option.bind_eq_some_iff.mp H
       obtain ⟨t229, A210, H⟩ := H
       replace H : ((spec_l1Cur_pick.f s0_0 x1001_11 x1002_11 16).bind fun bt232 => (if bt232.1 = 0 then ((spec_l1Cur_pick.f s0_0 bt232.2.1 bt232.2.2 3).bind fun bt235 => (if 0 ≤ bt235.1 then (if bt235.1 < (t229.length : Int) then ((spec_l1Cur_among.f s0_0 bt235.2.1 bt235.2.2 (([(-1), 1, 1000000000] : List Int))).bind fun bt242 => (some ((t229.set (bt235.1 : Int).toNat (wrap64 ((rd t229 bt235.1) + bt242.1))), bt242.2.1, bt242.2.2))) else (none)) else (none))) else (if bt232.1 = 1 then (if 1 < (t229.length : Int) then (if 0 < (t229.length : Int) then (if 2 < (t229.length : Int) then (some ((([rd t229 1, rd t229 0, rd t229 2] : List Int)), bt232.2.1, bt232.2.2)) else (none)) else (none)) else (none)) else (if bt232.1 = 2 then (if 0 < (t229.length : Int) then (if 1 < (t229.length : Int) then (if 2 < (t229.length : Int) then (some ((([wrap64 (3 * (rd t229 0)), wrap64 (3 * (rd t229 1)), wrap64 (3 * (rd t229 2))] : List Int)), bt232.2.1, bt232.2.2)) else (none)) else (none)) else (none)) else (if bt232.1 = 3 then (if t229.length < 17592186044416 then (some ((t229 ++ [1]), bt232.2.1, bt232.2.2)) else (none)) else (some (t229, bt232.2.1, bt232.2.2))))))) = some (r1, r2, r3) := H
       have A21 := Aside0.mk A210
       clear A210
       replace H := Option.bind_eq_some_iff.mp H
       obtain ⟨⟨t232, t233, t234⟩, A220, H⟩ := H
       replace H : (if t232 = 0 then ((spec_l1Cur_pick.f s0_0 t233 t234 3).bind fun bt235 => (if 0 ≤ bt235.1 then (if bt235.1 < (t229.length : Int) then ((spec_l1Cur_among.f s0_0 bt235.2.1 bt235.2.2 (([(-1), 1, 1000000000] : List Int))).bind fun bt242 => (some ((t229.set (bt235.1 : Int).toNat (wrap64 ((rd t229 bt235.1) + bt242.1))), bt242.2.1, bt242.2.2))) else (none)) else (none))) else (if t232 = 1 then (if 1 < (t229.length : Int) then (if 0 < (t229.length : Int) then (if 2 < (t229.length : Int) then (some ((([rd t229 1, rd t229 0, rd t229 2] : List Int)), t233, t234)) else (none)) else (none)) else (none)) else (if t232 = 2 then (if 0 < (t229.length : Int) then (if 1 < (t229.length : Int) then (if 2 < (t229.length : Int) then (some ((([wrap64 (3 * (rd t229 0)), wrap64 (3 * (rd t229 1)), wrap64 (3 * (rd t229 2))] : List Int)), t233, t234)) else (none)) else (none)) else (none)) else (if t232 = 3 then (if t229.length < 17592186044416 then (some ((t229 ++ [1]), t233, t234)) else (none)) else (some (t229, t233, t234)))))) = some (r1, r2, r3) := H
       have A22 := Aside0.mk A220
       clear A220
       by_cases c23 : t232 = 0
       ·
        rw [if_pos c23] at H
        have c23b0 : (t232 == 0) = true := beq_iff_eq.mpr c23
        have c23b1 : (t232 != 0) = false := bne_eq_false_iff_eq.mpr c23
        clear c23
        replace H := Option.bind_eq_some_iff.mp H
        obtain ⟨⟨t235, t236, t237⟩, A240, H⟩ := H
        replace H : (if 0 ≤ t235 then (if t235 < (t229.length : Int) then ((spec_l1Cur_among.f s0_0 t236 t237 (([(-1), 1, 1000000000] : List Int))).bind fun bt242 => (some ((t229.set (t235 : Int).toNat (wrap64 ((rd t229 t235) + bt242.1))), bt242.2.1, bt242.2.2))) else (none)) else (none)) = some (r1, r2, r3) := H
        have A24 := Aside0.mk A240
        clear A240
        by_cases c25 : 0 ≤ t235
        ·
         rw [if_pos c25] at H
         have c25b0 : decide (0 ≤ t235) = true := decide_eq_true c25
         clear c25
         by_cases c26 : t235 < (t229.length : Int)
         ·
          rw [if_pos c26] at H
          have c26b0 : decide (t235 < (t229.length : Int)) = true := decide_eq_true c26
          clear c26
          obtain ⟨y239, hy239⟩ : ∃ y_ : List Int, y_ = (([(-1), 1, 1000000000] : List Int)) := ⟨_, rfl⟩
          replace H : ((spec_l1Cur_among.f s0_0 t236 t237 y239).bind fun bt242 => (some ((t229.set (t235 : Int).toNat (wrap64 ((rd t229 t235) + bt242.1))), bt242.2.1, bt242.2.2))) = some (r1, r2, r3) := by first | (rw [hy239]; with_reducible exact H) | (have H2_ := (Option.bind_some _ _).symm.trans H; rw [hy239]; with_reducible exact H2_) | (have H2_ := (Option.bind_some _ _).symm.trans H; with_reducible exact H2_) | with_reducible exact H | (rw [hy239]; exact H) | exact H
          have Ny239 := Aside0.mk hy239
          clear hy239
          replace H := Option.bind_eq_some_iff.mp H
          obtain ⟨⟨t242, t243, t244⟩, A270, H⟩ := H
          replace H : (some ((t229.set (t235 : Int).toNat (wrap64 ((rd t229 t235) + t242))), t243, t244)) = some (r1, r2, r3) := H
          have A27 := Aside0.mk A270
          clear A270
          obtain ⟨y245, hy245⟩ : ∃ y_ : List Int, y_ = (t229.set (t235 : Int).toNat (wrap64 ((rd t229 t235) + t242))) := ⟨_, rfl⟩
          replace H : (some (y245, t243, t244)) = some (r1, r2, r3) := by first | (rw [hy245]; with_reducible exact H) | (have H2_ := (Option.bind_some _ _).symm.trans H; rw [hy245]; with_reducible exact H2_) | (have H2_ := (Option.bind_some _ _).symm.trans H; with_reducible exact H2_) | with_reducible exact H | (rw [hy245]; exact H) | exact H
          have Ny245 := Aside0.mk hy245
          clear hy245
          simp only [Option.some.injEq, Prod.mk.injEq] at H
          obtain ⟨rfl, rfl, rfl⟩ := H
          try go_wp2_with (first | ((with_reducible refine gate_callee (f := 94) rfl ?_); refine gL (some 40) rfl rfl Try.func94 (by kernel_rfl) rfl #[.int .i64 x3_11, .int .i64 x4_11] rfl ?_; (with_reducible refine (spec_riPair.calls kj11 x3_11 x4_11 true _ A19.out).mono ?_); rintro e w' ⟨rfl, ⟨nd, rfl⟩⟩; refine ⟨_, rfl, ?_⟩; (try (rw [drewN_self wc]; generalize hq_ : World.drewN wc _ = wc; have n0_ : Aside0 (IsS79 w0 wc g s0_0 x1001_11 x1002_11) := ⟨by rw [← hq_]; exact (by repeat (first | (with_reducible first | exact HI0.out | apply IsS79.alloc | apply IsS79.drewN | apply IsS79.drew | apply IsS79.set_1 | apply IsS79.set_2) | exact HI0.out))⟩; have n1_ : Aside0 (KeepBut w wc g none) := ⟨by rw [← hq_]; exact (kH HK)⟩; have n2_ : Aside0 (Below w0.heap.size w0 wc) := ⟨by rw [← hq_]; exact (by repeat (first | (with_reducible first | exact HB.out | apply below_alloc | apply pw_below_drewN | apply below_drew1 | refine below_set ?_ (IsS79.ge HI0.out)) | exact HB.out | exact Below.refl _ _))⟩; clear HI0 HK HB hq_; have HI0 := n0_; have HK := n1_; have HB := n2_; clear n0_ n1_ n2_))) | ((with_reducible refine gate_callee (f := 75) rfl ?_); refine gL (some 52) rfl rfl Try.func75 (by kernel_rfl) rfl #[.int .i64 x3_11, .int .i64 x4_11] rfl ?_; (with_reducible refine (spec_riOf.calls x3_11 x4_11 t229 _ A21.out).mono ?_); rintro e w29 ⟨v230, rfl, ho0, hb⟩; refine ⟨_, rfl, ?_⟩; have n0_ := Aside0.mk (Kd.R_lower ho0 (keep_size (w := w) (g := g) (row := none) (kH HK))); have n1_ := Aside0.mk (IsS79.below (by repeat (first | (with_reducible first | exact HI0.out | apply IsS79.alloc | apply IsS79.drewN | apply IsS79.drew | apply IsS79.set_1 | apply IsS79.set_2) | exact HI0.out)) hb); have n2_ := Aside0.mk (KeepBut.trans (kH HK) (KeepBut.of_below hb g none) (.inl rfl)); have n3_ := Aside0.mk (below_step (by repeat (first | (with_reducible first | exact HB.out | apply below_alloc | apply pw_below_drewN | apply below_drew1 | refine below_set ?_ (IsS79.ge HI0.out)) | exact HB.out | exact Below.refl _ _)) hb); clear HI0; clear HK; clear HB; have HO231 := n0_; have HI0 := n1_; have HK := n2_; have HB := n3_; clear n0_ n1_ n2_ n3_; (try clear hb); (try clear hb2); (try clear hk); (try clear hi); (try clear ho0)) | ((with_reducible refine gate_callee (f := 79) rfl ?_); refine gL (some 54) rfl rfl Try.func79 (by kernel_rfl) rfl #[.pointer (some ⟨g, 0, none⟩), .int .i64 16] rfl ?_; (with_reducible refine (spec_l1Cur_pick.calls g s0_0 x1001_11 x1002_11 16 t232 t233 t234 w0 _ ?side1 ?side2 A22.out).mono ?_); (case side1 => repeat (first | (with_reducible first | exact HI0.out | apply IsS79.alloc | apply IsS79.drewN | apply IsS79.drew | apply IsS79.set_1 | apply IsS79.set_2) | exact HI0.out)); (case side2 => repeat (first | (with_reducible first | exact HB.out | apply below_alloc | apply pw_below_drewN | apply below_drew1 | refine below_set ?_ (IsS79.ge HI0.out)) | exact HB.out | exact Below.refl _ _)); rintro e w30 ⟨rfl, hi, hb, hk⟩; refine ⟨_, rfl, ?_⟩; have n0_ := Aside0.mk (Kd.R_mono (Kd.R_keep (IsS79.apart (show IsS79 w0 _ g s0_0 x1001_11 x1002_11 from by repeat (first | (with_reducible first | exact HI0.out | apply IsS79.alloc | apply IsS79.drewN | apply IsS79.drew | apply IsS79.set_1 | apply IsS79.set_2) | exact HI0.out)) (rA HO231) (by decide)) hk (fun _ h => h.2)) (fun _ h => h.1)); have n1_ := Aside0.mk (KeepBut.trans (kH HK) hk (.inl rfl)); have n2_ := Aside0.mk (hb); have n3_ := Aside0.mk (hi); clear HO231; clear HK; clear HB; clear HI0; have HO231 := n0_; have HK := n1_; have HB := n2_; have HI0 := n3_; clear n0_ n1_ n2_ n3_; (try clear hb); (try clear hb2); (try clear hk); (try clear hi)))
          have n0_ := Aside0.mk (Kd.R_drew HO231.out)
          have n1_ := Aside0.mk (IsS79.drew HI0.out)
          have n2_ := Aside0.mk (keep_drew HK.out)
          have n3_ := Aside0.mk (below_drew1 HB.out)
          clear HO231; clear HI0; clear HK; clear HB
          have HO231 := n0_
          have HI0 := n1_
          have HK := n2_
          have HB := n3_
          clear n0_ n1_ n2_ n3_
          obtain ⟨Ao_238, co_238, eo_238⟩ := Kd.R_slice HO231.out
          subst eo_238
          have p238 : 0 ≤ (t235 : Int) := od
          have q238 : t235 < (t229.length : Int) := od
          obtain ⟨ad238, e238, hx238_0⟩ := Kd.at_int (Kd.R_reads' HO231.out).2.2 t235 p238 q238
          cases e238
          replace p238 := eq_true p238
          replace q238 := eq_true q238
          refine start_ (n := 11) (S := fun w' => w'.cell? (ad238.add (t235).toNat) = some (.int .i64 (rd t229 t235))) (ds := [10]) #[O,O,O,O,O,O,O,O,O,O,O] (by kernel_rfl) rfl rfl (hx238_0) (fun hHeld => ?_); refine with_tabW spec_l1Cur_triple.tab16 spec_l1Cur_triple.bits16 (fun HT_ HW_ => ?_)
          generalize w30.drew = w31 at HO231 HI0 HK HB hx238_0 hHeld ⊢
          refine pS 0 57 (BM 11 1) ?_
          refine pS 1 58 (BM 11 3) ?_
          refine pS 5 62 (BM 11 35) ?_
          refine join_ (σ := Value) 4 #[Y,Y,Y,Y,Y,Y,Y,O,O,O,O] (fun s_ => [(59, .int .i64 t235), (63, s_), (60, .pointer (some (ad238.add (t235).toNat))), (61, .int .i64 (rd t229 t235))]) (fun s_ w' => (w'.cell? (ad238.add (t235).toNat) = some (.int .i64 (rd t229 t235))) ∧ (Kd.R (Kd.int .i64) 3 w' w.heap.size (fun k_ => some k_ ≠ (s_ : Value).ownBlock) (.slice (some ad238) t229.length co_238 : Value) t229) ∧ (Kd.R (Kd.int .i64) 3 w' w.heap.size (fun k_ => some k_ ≠ (.slice (some ad238) t229.length co_238 : Value).ownBlock) s_ y239) ∧ (IsS79 w0 w' g s0_0 t236 t237) ∧ (KeepBut w w' g none) ∧ (Below w0.heap.size w0 w')) ?_ ?_
          rotate_left
          ·
           intro hCont
           refine two_ (i := 2) (j := 6) (Ni := some 59) (Nj := some 63) (BM 11 39) (BM 11 99) rfl rfl rfl rfl (two_of HT_.out (by kernel_rfl)) (by decide) (by decide) (fun K hK => ?_) (fun K hK => ?_)
           ·
            skip
            refine goes_ Try.func79 (by kernel_rfl) rfl #[.pointer (some ⟨g, 0, none⟩), .int .i64 3] (by rfl) rfl rfl (by (try simp only [List.map_toArray, List.map_cons, List.map_nil]); first | done | rfl | (simp only [List.length_drop, List.length_take]; rfl)) ?_
            with_reducible refine (spec_l1Cur_pick.calls g s0_0 t233 t234 3 t235 t236 t237 w0 _ ?side1 ?side2 A24.out).mono ?_
            (case side1 => repeat (first | (with_reducible first | exact HI0.out | apply IsS79.alloc | apply IsS79.drewN | apply IsS79.drew | apply IsS79.set_1 | apply IsS79.set_2) | exact HI0.out))
            (case side2 => repeat (first | (with_reducible first | exact HB.out | apply below_alloc | apply pw_below_drewN | apply below_drew1 | refine below_set ?_ (IsS79.ge HI0.out)) | exact HB.out | exact Below.refl _ _))
            rintro e w32 ⟨rfl, hi, hb, hk⟩
            have HS0_ := keep_cell hk (hHeld) (by first | (rw [add_block]; exact Kd.own_blk (IsS79.own_ne HI0.out HO231.out (by decide))) | (show (Addr.add _ _).block ≠ _; rw [add_block]; exact Kd.own_blk (IsS79.own_ne HI0.out HO231.out (by decide))) | exact Kd.own_blk (IsS79.own_ne HI0.out HO231.out (by decide)))
            refine ⟨_, rfl, ?_⟩
            have n0_ := Aside0.mk (Kd.R_mono (Kd.R_keep (IsS79.apart (show IsS79 w0 _ g s0_0 t233 t234 from by repeat (first | (with_reducible first | exact HI0.out | apply IsS79.alloc | apply IsS79.drewN | apply IsS79.drew | apply IsS79.set_1 | apply IsS79.set_2) | exact HI0.out)) (rA HO231) (by decide)) hk (fun _ h => h.2)) (fun _ h => h.1))
            have n1_ := Aside0.mk (KeepBut.trans (kH HK) hk (.inl rfl))
            have n2_ := Aside0.mk (hb)
            have n3_ := Aside0.mk (hi)
            clear HO231; clear HK; clear HB; clear HI0
            have HO231 := n0_
            have HK := n1_
            have HB := n2_
            have HI0 := n3_
            clear n0_ n1_ n2_ n3_
            (try clear hb)
            (try clear hb2)
            (try clear hk)
            (try clear hi)
            refine hK.out _ _ (HS0_) (fun hHeld => ?_)
            clear hK K
            refine norm_ (a' := ?_) ?_ ?_
            rotate_left
            ·
             show Act.put _ (some 59) _ = _
             simp only [AP]
             rfl
            refine pS 3 60 (BM 11 47) ?_
            refine take_ (i := 4) (N := some 61) (v := ?_) (a' := ?_) (BM 11 63) rfl rfl (take_ofW HT_.out HW_.out (by kernel_rfl)) (fun _ _ _ h => h) (Or.inl ⟨by rfl, ?_⟩) hHeld ?_ ?_
            rotate_left
            ·
             intro w' s0
             go_simp
             with_reducible rfl
            rotate_left
            ·
             simp only [AP]
             rfl
            refine one_ (i := 6) (N := some 63) (BM 11 127) rfl rfl (one_of HT_.out (by kernel_rfl)) (by decide) (fun K hK => ?_)
            refine Kd.R_lit_step (Kd.int .i64) _ 3 ?hg (N := 63) ?hd (xs := ([(-1), 1, 1000000000] : List Int)) (inner := [.int .i64 (-1), .int .i64 1, .int .i64 1000000000]) (ok := fun _ => True) (okp := fun _ => True) ?hr ?hp (fun _ hk => hk) trivial (Below.refl _ _) (Nat.le_refl _) (by simp) ?_; (case hd => rfl); (case hg => rfl); (case hr => first | (go_simp; done) | (go_simp; rfl)); (case hp => exact (Reps.one (show Kd.M (Kd.int .i64) _ _ _ (-1) [.int .i64 (-1)] from rfl) (Reps.one (show Kd.M (Kd.int .i64) _ _ _ 1 [.int .i64 1] from rfl) (Reps.one (show Kd.M (Kd.int .i64) _ _ _ 1000000000 [.int .i64 1000000000] from rfl) (Reps.none _ _)))))
            intro v240 w33 ho34 hb hg_ hnew_
            have HS0_ := (hb.cell (World.block_lt_of_cell? _ _ (hHeld))).trans (hHeld)
            clear hg_ hnew_
            (first | rw [← Ny239.out] at ho34 | (simp only [Int.reduceToNat] at ho34; rw [← Ny239.out] at ho34))
            have n0_ := Aside0.mk (Kd.R_elder' (rA HO231) (Kd.R_base ho34) hb)
            have n1_ := Aside0.mk (Kd.R_lower (Kd.R_new' ho34 (Kd.R_lt (rA HO231))) (keep_size (w := w) (g := g) (row := none) (kH HK)))
            have n2_ := Aside0.mk (IsS79.below (by repeat (first | (with_reducible first | exact HI0.out | apply IsS79.alloc | apply IsS79.drewN | apply IsS79.drew | apply IsS79.set_1 | apply IsS79.set_2) | exact HI0.out)) hb)
            have n3_ := Aside0.mk (KeepBut.trans (kH HK) (KeepBut.of_below hb g none) (.inl rfl))
            have n4_ := Aside0.mk (below_step (by repeat (first | (with_reducible first | exact HB.out | apply below_alloc | apply pw_below_drewN | apply below_drew1 | refine below_set ?_ (IsS79.ge HI0.out)) | exact HB.out | exact Below.refl _ _)) hb)
            clear HO231; clear HI0; clear HK; clear HB
            have HO231 := n0_
            have HO241 := n1_
            have HI0 := n2_
            have HK := n3_
            have HB := n4_
            clear n0_ n1_ n2_ n3_ n4_
            clear hb ho34
            refine hK.out _ _ (HS0_) (fun hHeld => ?_)
            clear hK K
            refine norm_ (a' := ?_) ?_ ?_
            rotate_left
            ·
             show Act.put _ (some 63) _ = _
             simp only [AP]
             rfl
            exact norm_ (by simp only [putAll, Act.put, List.setIfInBounds_toArray, List.set_cons_zero, List.set_cons_succ]) (hCont (v240) _ ⟨hHeld, (by (with_reducible repeat (first | apply Kd.R_alloc | apply Kd.R_drewN | apply Kd.R_drew)); exact Kd.R_mono HO231.out (fun _ hk => hk.2)), (by (with_reducible repeat (first | apply Kd.R_alloc | apply Kd.R_drewN | apply Kd.R_drew)); exact Kd.R_mono HO241.out (fun _ hk => hk.2)), (by repeat (first | (with_reducible first | exact HI0.out | apply IsS79.alloc | apply IsS79.drewN | apply IsS79.drew | apply IsS79.set_1 | apply IsS79.set_2) | exact HI0.out)), (kH HK), (by repeat (first | (with_reducible first | exact HB.out | apply below_alloc | apply pw_below_drewN | apply below_drew1 | refine below_set ?_ (IsS79.ge HI0.out)) | exact HB.out | exact Below.refl _ _))⟩)
           ·
            skip
            refine Kd.R_lit_step (Kd.int .i64) _ 3 ?hg (N := 63) ?hd (xs := ([(-1), 1, 1000000000] : List Int)) (inner := [.int .i64 (-1), .int .i64 1, .int .i64 1000000000]) (ok := fun _ => True) (okp := fun _ => True) ?hr ?hp (fun _ hk => hk) trivial (Below.refl _ _) (Nat.le_refl _) (by simp) ?_; (case hd => rfl); (case hg => rfl); (case hr => first | (go_simp; done) | (go_simp; rfl)); (case hp => exact (Reps.one (show Kd.M (Kd.int .i64) _ _ _ (-1) [.int .i64 (-1)] from rfl) (Reps.one (show Kd.M (Kd.int .i64) _ _ _ 1 [.int .i64 1] from rfl) (Reps.one (show Kd.M (Kd.int .i64) _ _ _ 1000000000 [.int .i64 1000000000] from rfl) (Reps.none _ _)))))
            intro v240 w32 ho33 hb hg_ hnew_
            have HS0_ := (hb.cell (World.block_lt_of_cell? _ _ (hHeld))).trans (hHeld)
            clear hg_ hnew_
            (first | rw [← Ny239.out] at ho33 | (simp only [Int.reduceToNat] at ho33; rw [← Ny239.out] at ho33))
            have n0_ := Aside0.mk (Kd.R_elder' (rA HO231) (Kd.R_base ho33) hb)
            have n1_ := Aside0.mk (Kd.R_lower (Kd.R_new' ho33 (Kd.R_lt (rA HO231))) (keep_size (w := w) (g := g) (row := none) (kH HK)))
            have n2_ := Aside0.mk (IsS79.below (by repeat (first | (with_reducible first | exact HI0.out | apply IsS79.alloc | apply IsS79.drewN | apply IsS79.drew | apply IsS79.set_1 | apply IsS79.set_2) | exact HI0.out)) hb)
            have n3_ := Aside0.mk (KeepBut.trans (kH HK) (KeepBut.of_below hb g none) (.inl rfl))
            have n4_ := Aside0.mk (below_step (by repeat (first | (with_reducible first | exact HB.out | apply below_alloc | apply pw_below_drewN | apply below_drew1 | refine below_set ?_ (IsS79.ge HI0.out)) | exact HB.out | exact Below.refl _ _)) hb)
            clear HO231; clear HI0; clear HK; clear HB
            have HO231 := n0_
            have HO241 := n1_
            have HI0 := n2_
            have HK := n3_
            have HB := n4_
            clear n0_ n1_ n2_ n3_ n4_
            clear hb ho33
            refine hK.out _ _ (HS0_) (fun hHeld => ?_)
            clear hK K
            refine norm_ (a' := ?_) ?_ ?_
            rotate_left
            ·
             show Act.put _ (some 63) _ = _
             simp only [AP]
             rfl
            refine one_ (i := 2) (N := some 59) (BM 11 103) rfl rfl (one_of HT_.out (by kernel_rfl)) (by decide) (fun K hK => ?_)
            refine goes_ Try.func79 (by kernel_rfl) rfl #[.pointer (some ⟨g, 0, none⟩), .int .i64 3] (by rfl) rfl rfl (by (try simp only [List.map_toArray, List.map_cons, List.map_nil]); first | done | rfl | (simp only [List.length_drop, List.length_take]; rfl)) ?_
            with_reducible refine (spec_l1Cur_pick.calls g s0_0 t233 t234 3 t235 t236 t237 w0 _ ?side1 ?side2 A24.out).mono ?_
            (case side1 => repeat (first | (with_reducible first | exact HI0.out | apply IsS79.alloc | apply IsS79.drewN | apply IsS79.drew | apply IsS79.set_1 | apply IsS79.set_2) | exact HI0.out))
            (case side2 => repeat (first | (with_reducible first | exact HB.out | apply below_alloc | apply pw_below_drewN | apply below_drew1 | refine below_set ?_ (IsS79.ge HI0.out)) | exact HB.out | exact Below.refl _ _))
            rintro e w34 ⟨rfl, hi, hb, hk⟩
            have HS0_ := keep_cell hk (hHeld) (by first | (rw [add_block]; exact Kd.own_blk (IsS79.own_ne HI0.out HO231.out (by decide))) | (show (Addr.add _ _).block ≠ _; rw [add_block]; exact Kd.own_blk (IsS79.own_ne HI0.out HO231.out (by decide))) | exact Kd.own_blk (IsS79.own_ne HI0.out HO231.out (by decide)))
            refine ⟨_, rfl, ?_⟩
            have n0_ := Aside0.mk (Kd.R_mono (Kd.R_keep (IsS79.apart (show IsS79 w0 _ g s0_0 t233 t234 from by repeat (first | (with_reducible first | exact HI0.out | apply IsS79.alloc | apply IsS79.drewN | apply IsS79.drew | apply IsS79.set_1 | apply IsS79.set_2) | exact HI0.out)) (rA HO231) (by decide)) hk (fun _ h => h.2)) (fun _ h => h.1))
            have n1_ := Aside0.mk (Kd.R_mono (Kd.R_keep (IsS79.apart (show IsS79 w0 _ g s0_0 t233 t234 from by repeat (first | (with_reducible first | exact HI0.out | apply IsS79.alloc | apply IsS79.drewN | apply IsS79.drew | apply IsS79.set_1 | apply IsS79.set_2) | exact HI0.out)) (rA HO241) (by decide)) hk (fun _ h => h.2)) (fun _ h => h.1))
            have n2_ := Aside0.mk (KeepBut.trans (kH HK) hk (.inl rfl))
            have n3_ := Aside0.mk (hb)
            have n4_ := Aside0.mk (hi)
            clear HO231; clear HO241; clear HK; clear HB; clear HI0
            have HO231 := n0_
            have HO241 := n1_
            have HK := n2_
            have HB := n3_
            have HI0 := n4_
            clear n0_ n1_ n2_ n3_ n4_
            (try clear hb)
            (try clear hb2)
            (try clear hk)
            (try clear hi)
            refine hK.out _ _ (HS0_) (fun hHeld => ?_)
            clear hK K
            refine norm_ (a' := ?_) ?_ ?_
            rotate_left
            ·
             show Act.put _ (some 59) _ = _
             simp only [AP]
             rfl
            refine pS 3 60 (BM 11 111) ?_
            refine take_ (i := 4) (N := some 61) (v := ?_) (a' := ?_) (BM 11 127) rfl rfl (take_ofW HT_.out HW_.out (by kernel_rfl)) (fun _ _ _ h => h) (Or.inl ⟨by rfl, ?_⟩) hHeld ?_ ?_
            rotate_left
            ·
             intro w' s0
             go_simp
             with_reducible rfl
            rotate_left
            ·
             simp only [AP]
             rfl
            exact norm_ (by simp only [putAll, Act.put, List.setIfInBounds_toArray, List.set_cons_zero, List.set_cons_succ]) (hCont (v240) _ ⟨hHeld, (by (with_reducible repeat (first | apply Kd.R_alloc | apply Kd.R_drewN | apply Kd.R_drew)); exact Kd.R_mono HO231.out (fun _ hk => hk.2)), (by (with_reducible repeat (first | apply Kd.R_alloc | apply Kd.R_drewN | apply Kd.R_drew)); exact Kd.R_mono HO241.out (fun _ hk => hk.2)), (by repeat (first | (with_reducible first | exact HI0.out | apply IsS79.alloc | apply IsS79.drewN | apply IsS79.drew | apply IsS79.set_1 | apply IsS79.set_2) | exact HI0.out)), (kH HK), (by repeat (first | (with_reducible first | exact HB.out | apply below_alloc | apply pw_below_drewN | apply below_drew1 | refine below_set ?_ (IsS79.ge HI0.out)) | exact HB.out | exact Below.refl _ _))⟩)
          rintro v240 w35 ⟨hS_, h0_, h1_, h2_, h3_, h4_⟩
          have n0_ : Aside0 (Kd.R (Kd.int .i64) 3 w35 w.heap.size (fun k_ => some k_ ≠ (v240 : Value).ownBlock) (.slice (some ad238) t229.length co_238 : Value) t229) := ⟨h0_⟩
          have n1_ : Aside0 (Kd.R (Kd.int .i64) 3 w35 w.heap.size (fun k_ => some k_ ≠ (.slice (some ad238) t229.length co_238 : Value).ownBlock) v240 y239) := ⟨h1_⟩
          have n2_ : Aside0 (IsS79 w0 w35 g s0_0 t236 t237) := ⟨h2_⟩
          have n3_ : Aside0 (KeepBut w w35 g none) := ⟨h3_⟩
          have n4_ : Aside0 (Below w0.heap.size w0 w35) := ⟨h4_⟩
          clear HO231; clear HI0; clear HK; clear HB
          clear h0_ h1_ h2_ h3_ h4_
          have HO231 := n0_
          have HO241 := n1_
          have HI0 := n2_
          have HK := n3_
          have HB := n4_
          clear n0_ n1_ n2_ n3_ n4_
          have hHeld : w35.cell? (ad238.add (t235).toNat) = some (.int .i64 (rd t229 t235)) := hS_
          obtain ⟨Ao36, co36, eo36⟩ := Kd.R_slice HO231.out
          (first | subst eo36 | (injection eo36 with f1_ f2_ f3_; have f4_ := f1_.symm; have f5_ := f3_.symm; clear f1_ f2_ f3_; subst f4_; subst f5_))
          obtain ⟨Ao37, co37, eo37⟩ := Kd.R_slice HO241.out
          (first | subst eo37 | (injection eo37 with f1_ f2_ f3_; have f4_ := f1_.symm; have f5_ := f3_.symm; clear f1_ f2_ f3_; subst f4_; subst f5_))
          refine norm_ (a' := ?_) ?_ ?_
          rotate_left
          ·
           simp only [putAll, Act.put, List.setIfInBounds_toArray, List.set_cons_zero, List.set_cons_succ]
           rfl
          refine one_ (i := 7) (N := some 64) (BM 11 255) rfl rfl (one_of HT_.out (by kernel_rfl)) (by decide) (fun K hK => ?_)
          refine goes_ Try.func99 (by kernel_rfl) rfl #[.pointer (some ⟨g, 0, none⟩), .slice Ao37 y239.length co37] (by rfl) rfl rfl (by (try simp only [List.map_toArray, List.map_cons, List.map_nil]); first | done | rfl | (simp only [List.length_drop, List.length_take]; rfl)) ?_
          with_reducible refine (spec_l1Cur_among.calls g s0_0 t236 t237 _ _ y239 t242 t243 t244 w0 _ ?side1 ?side2 ?side3 ?side4 ?side5 A27.out).mono ?_
          (case side1 => repeat (first | (with_reducible first | exact HI0.out | apply IsS79.alloc | apply IsS79.drewN | apply IsS79.drew | apply IsS79.set_1 | apply IsS79.set_2) | exact HI0.out))
          (case side2 => repeat (first | (with_reducible first | exact HB.out | apply below_alloc | apply pw_below_drewN | apply below_drew1 | refine below_set ?_ (IsS79.ge HI0.out)) | exact HB.out | exact Below.refl _ _))
          (case side3 => exact cC (Kd.R_reads' HO241.out).2.2)
          (case side4 => exact (Kd.R_reads' HO241.out).2.1)
          (case side5 => exact far_slice (IsS79.own_ne HI0.out HO241.out (by decide)))
          rintro e w38 ⟨rfl, hi, hb, hk⟩
          have HS0_ := keep_cell hk (hHeld) (by first | (rw [add_block]; exact Kd.own_blk (IsS79.own_ne HI0.out HO231.out (by decide))) | (show (Addr.add _ _).block ≠ _; rw [add_block]; exact Kd.own_blk (IsS79.own_ne HI0.out HO231.out (by decide))) | exact Kd.own_blk (IsS79.own_ne HI0.out HO231.out (by decide)))
          refine ⟨_, rfl, ?_⟩
          have n0_ := Aside0.mk (Kd.R_mono (Kd.R_keep (IsS79.apart (show IsS79 w0 _ g s0_0 t236 t237 from by repeat (first | (with_reducible first | exact HI0.out | apply IsS79.alloc | apply IsS79.drewN | apply IsS79.drew | apply IsS79.set_1 | apply IsS79.set_2) | exact HI0.out)) (rA HO231) (by decide)) hk (fun _ h => h.2)) (fun _ h => h.1))
          have n1_ := Aside0.mk (Kd.R_mono (Kd.R_keep (IsS79.apart (show IsS79 w0 _ g s0_0 t236 t237 from by repeat (first | (with_reducible first | exact HI0.out | apply IsS79.alloc | apply IsS79.drewN | apply IsS79.drew | apply IsS79.set_1 | apply IsS79.set_2) | exact HI0.out)) (rA HO241) (by decide)) hk (fun _ h => h.2)) (fun _ h => h.1))
          have n2_ := Aside0.mk (KeepBut.trans (kH HK) hk (.inl rfl))
          have n3_ := Aside0.mk (hb)
          have n4_ := Aside0.mk (hi)
          clear HO231; clear HO241; clear HK; clear HB; clear HI0
          have HO231 := n0_
          have HO241 := n1_
          have HK := n2_
          have HB := n3_
          have HI0 := n4_
          clear n0_ n1_ n2_ n3_ n4_
          (try clear hb)
          (try clear hb2)
          (try clear hk)
          (try clear hi)
          have p28 : 0 ≤ (t235 : Int) := od
          have q28 : (t235 : Int) < ((t229.length : Int) : Int) := od
          obtain ⟨go28, co28, eo28, gb28, gl28, cl28, HG28⟩ := Kd.R_form HO231.out (by omega)
          (first | cases eo28 | (injection eo28 with ea_ en_ ec_; (first | subst ea_ | (injection ea_ with ea_; subst ea_)); subst ec_; clear en_))
          have GB28 := Aside0.mk gb28
          have GG28 := Aside0.mk HG28
          clear gb28 gl28 HG28
          (first | simp only [add_plain] at hx238_0 | skip)
          obtain ⟨hx28_0, hf28_0⟩ := Kd.R_celln 0 HO231.out (t235 : Int) p28 q28
          replace p28 := eq_true p28
          replace q28 := eq_true q28
          have HN0_go28 := Aside0.mk (show g ≠ go28 from by have h_ := IsS79.own_ne HI0.out HO231.out (by decide); intro e_; exact h_ (by rw [e_]; rfl))
          have HP39 := Kd.R_putn HO231.out (t235 : Int) (wrap64 ((rd t229 t235) + t242))
          rw [← Ny245.out] at HP39
          have HQ39 := Aside0.mk HP39
          clear HP39
          refine hK.out _ _ (HS0_) (fun hHeld => ?_)
          clear hK K
          refine norm_ (a' := ?_) ?_ ?_
          rotate_left
          ·
           show Act.put _ (some 64) _ = _
           simp only [AP]
           rfl
          refine pS 8 65 (BM 11 511) ?_
          refine pS 9 66 (BM 11 1023) ?_
          refine last_ (i := 10) (N := none) (BM 11 2047) rfl rfl (one_of HT_.out (by kernel_rfl)) (by decide) (fun K hK => ?_)
          refine skip_ (w1 := ?_) (by rfl) rfl ?_ ?_
          rotate_left
          ·
           go_simp
           rfl
          refine hK.out _ _ ?_
          clear hK K
          refine done_ (done_of HT_.out (by kernel_rfl)) ?_
          try go_wp2
          go_ret
          exact ⟨_, e1, by (with_reducible repeat (first | apply Kd.R_alloc | apply Kd.R_drewN | apply Kd.R_drew)); exact Kd.R_mono HQ39.out (fun _ hk => trivial), by repeat (first | (with_reducible first | exact HI0.out | apply IsS79.alloc | apply IsS79.drewN | apply IsS79.drew | apply IsS79.set_1 | apply IsS79.set_2 | refine IsS79.far ?_ HN0_go28.out _) | exact HI0.out), by repeat (first | (with_reducible first | exact HB.out | apply below_alloc | apply pw_below_drewN | apply below_drew1 | refine below_set ?_ (Nat.le_trans HL.out GB28.out) | refine below_set ?_ (IsS79.ge HI0.out)) | exact HB.out | exact Below.refl _ _), by repeat (first | (with_reducible first | exact HK.out | apply KeepBut.set_ | apply keep_drewN | apply keep_drew | apply keep_alloc | refine keep_far ?_ GB28.out _) | exact HK.out)⟩
         ·
          rw [if_neg c26] at H
          exact absurd H (by simp)
        ·
         rw [if_neg c25] at H
         exact absurd H (by simp)
       ·
        rw [if_neg c23] at H
        have c23b0 : (t232 == 0) = false := beq_eq_false_iff_ne.mpr c23
        have c23b1 : (t232 != 0) = true := bne_iff_ne.mpr c23
        by_cases c40 : t232 = 1
        ·
         rw [if_pos c40] at H
         have c40b0 : (t232 == 1) = true := beq_iff_eq.mpr c40
         have c40b1 : (t232 != 1) = false := bne_eq_false_iff_eq.mpr c40
         clear c40
         by_cases c41 : 1 < (t229.length : Int)
         ·
          rw [if_pos c41] at H
          have c41b0 : decide (1 < (t229.length : Int)) = true := decide_eq_true c41
          have c41b1 : decide (1 < t229.length) = true := decide_eq_true (by omega)
          clear c41
          by_cases c42 : 0 < (t229.length : Int)
          ·
           rw [if_pos c42] at H
           have c42b0 : decide (0 < (t229.length : Int)) = true := decide_eq_true c42
           have c42b1 : decide (0 < t229.length) = true := decide_eq_true (by omega)
           clear c42
           by_cases c43 : 2 < (t229.length : Int)
           ·
            rw [if_pos c43] at H
            have c43b0 : decide (2 < (t229.length : Int)) = true := decide_eq_true c43
            have c43b1 : decide (2 < t229.length) = true := decide_eq_true (by omega)
            clear c43
            obtain ⟨y249, hy249⟩ : ∃ y_ : List Int, y_ = (([rd t229 1, rd t229 0, rd t229 2] : List Int)) := ⟨_, rfl⟩
            replace H : (some (y249, t233, t234)) = some (r1, r2, r3) := by first | (rw [hy249]; with_reducible exact H) | (have H2_ := (Option.bind_some _ _).symm.trans H; rw [hy249]; with_reducible exact H2_) | (have H2_ := (Option.bind_some _ _).symm.trans H; with_reducible exact H2_) | with_reducible exact H | (rw [hy249]; exact H) | exact H
            have Ny249 := Aside0.mk hy249
            clear hy249
            simp only [Option.some.injEq, Prod.mk.injEq] at H
            obtain ⟨rfl, rfl, rfl⟩ := H
            try go_wp2_with (first | ((with_reducible refine gate_callee (f := 94) rfl ?_); refine gL (some 40) rfl rfl Try.func94 (by kernel_rfl) rfl #[.int .i64 x3_11, .int .i64 x4_11] rfl ?_; (with_reducible refine (spec_riPair.calls kj11 x3_11 x4_11 true _ A19.out).mono ?_); rintro e w' ⟨rfl, ⟨nd, rfl⟩⟩; refine ⟨_, rfl, ?_⟩) | ((with_reducible refine gate_callee (f := 75) rfl ?_); refine gL (some 52) rfl rfl Try.func75 (by kernel_rfl) rfl #[.int .i64 x3_11, .int .i64 x4_11] rfl ?_; (with_reducible refine (spec_riOf.calls x3_11 x4_11 t229 _ A21.out).mono ?_); rintro e w44 ⟨v230, rfl, ho0, hb⟩; refine ⟨_, rfl, ?_⟩; have n0_ := Aside0.mk (Kd.R_lower ho0 (keep_size (w := w) (g := g) (row := none) (kH HK))); have n1_ := Aside0.mk (IsS79.below (by repeat (first | (with_reducible first | exact HI0.out | apply IsS79.alloc | apply IsS79.drewN | apply IsS79.drew | apply IsS79.set_1 | apply IsS79.set_2) | exact HI0.out)) hb); have n2_ := Aside0.mk (KeepBut.trans (kH HK) (KeepBut.of_below hb g none) (.inl rfl)); have n3_ := Aside0.mk (below_step (by repeat (first | (with_reducible first | exact HB.out | apply below_alloc | apply pw_below_drewN | apply below_drew1 | refine below_set ?_ (IsS79.ge HI0.out)) | exact HB.out | exact Below.refl _ _)) hb); clear HI0; clear HK; clear HB; have HO231 := n0_; have HI0 := n1_; have HK := n2_; have HB := n3_; clear n0_ n1_ n2_ n3_; (try clear hb); (try clear hb2); (try clear hk); (try clear hi); (try clear ho0)) | ((with_reducible refine gate_callee (f := 79) rfl ?_); refine gL (some 54) rfl rfl Try.func79 (by kernel_rfl) rfl #[.pointer (some ⟨g, 0, none⟩), .int .i64 16] rfl ?_; (with_reducible refine (spec_l1Cur_pick.calls g s0_0 x1001_11 x1002_11 16 t232 t233 t234 w0 _ ?side1 ?side2 A22.out).mono ?_); (case side1 => repeat (first | (with_reducible first | exact HI0.out | apply IsS79.alloc | apply IsS79.drewN | apply IsS79.drew | apply IsS79.set_1 | apply IsS79.set_2) | exact HI0.out)); (case side2 => repeat (first | (with_reducible first | exact HB.out | apply below_alloc | apply pw_below_drewN | apply below_drew1 | refine below_set ?_ (IsS79.ge HI0.out)) | exact HB.out | exact Below.refl _ _)); rintro e w45 ⟨rfl, hi, hb, hk⟩; refine ⟨_, rfl, ?_⟩; have n0_ := Aside0.mk (Kd.R_mono (Kd.R_keep (IsS79.apart (show IsS79 w0 _ g s0_0 x1001_11 x1002_11 from by repeat (first | (with_reducible first | exact HI0.out | apply IsS79.alloc | apply IsS79.drewN | apply IsS79.drew | apply IsS79.set_1 | apply IsS79.set_2) | exact HI0.out)) (rA HO231) (by decide)) hk (fun _ h => h.2)) (fun _ h => h.1)); have n1_ := Aside0.mk (KeepBut.trans (kH HK) hk (.inl rfl)); have n2_ := Aside0.mk (hb); have n3_ := Aside0.mk (hi); clear HO231; clear HK; clear HB; clear HI0; have HO231 := n0_; have HK := n1_; have HB := n2_; have HI0 := n3_; clear n0_ n1_ n2_ n3_; (try clear hb); (try clear hb2); (try clear hk); (try clear hi)))
            have n0_ := Aside0.mk (Kd.R_drew HO231.out)
            have n1_ := Aside0.mk (IsS79.drew HI0.out)
            have n2_ := Aside0.mk (keep_drew HK.out)
            have n3_ := Aside0.mk (below_drew1 HB.out)
            clear HO231; clear HI0; clear HK; clear HB
            have HO231 := n0_
            have HI0 := n1_
            have HK := n2_
            have HB := n3_
            clear n0_ n1_ n2_ n3_
            obtain ⟨Ao47, co47, eo47⟩ := Kd.R_slice HO231.out
            (first | subst eo47 | (injection eo47 with f1_ f2_ f3_; have f4_ := f1_.symm; have f5_ := f3_.symm; clear f1_ f2_ f3_; subst f4_; subst f5_))
            have p246 : 0 ≤ (1 : Int) := (by omega)
            have q246 : 1 < (t229.length : Int) := od
            obtain ⟨ad246, e246, hx246_0⟩ := Kd.at_int (Kd.R_reads' HO231.out).2.2 1 p246 q246
            cases e246
            (try simp only [show (1 : Int).toNat = 1 from rfl, Nat.reduceMul, Nat.reduceEqDiff, Go.Addr.add, ↓reduceIte] at hx246_0)
            have qi246 : (1 < t229.length) = True := eq_true (by omega)
            (try rw [show ((1 : Int)).toNat = 1 from rfl] at hx246_0)
            replace p246 := eq_true p246
            replace q246 := eq_true q246
            have p247 : 0 ≤ (0 : Int) := (by omega)
            have q247 : 0 < (t229.length : Int) := od
            obtain ⟨ad247, e247, hx247_0⟩ := Kd.at_int (Kd.R_reads' HO231.out).2.2 0 p247 q247
            obtain rfl : ad246 = ad247 := (by injection e247)
            have qi247 : (0 < t229.length) = True := eq_true (by omega)
            (try rw [show ((0 : Int)).toNat = 0 from rfl] at hx247_0)
            (try rw [Addr.add_zero'] at hx247_0)
            replace p247 := eq_true p247
            replace q247 := eq_true q247
            have p248 : 0 ≤ (2 : Int) := (by omega)
            have q248 : 2 < (t229.length : Int) := od
            obtain ⟨ad248, e248, hx248_0⟩ := Kd.at_int (Kd.R_reads' HO231.out).2.2 2 p248 q248
            obtain rfl : ad246 = ad248 := (by injection e248)
            (try simp only [show (2 : Int).toNat = 2 from rfl, Nat.reduceMul, Nat.reduceEqDiff, Go.Addr.add, ↓reduceIte] at hx248_0)
            have qi248 : (2 < t229.length) = True := eq_true (by omega)
            (try rw [show ((2 : Int)).toNat = 2 from rfl] at hx248_0)
            replace p248 := eq_true p248
            replace q248 := eq_true q248
            refine start_ (n := 11) (S := fun w' => w'.cell? ⟨ad246.block, ad246.off + 1, none⟩ = some (.int .i64 (rd t229 1)) ∧ w'.cell? ad246 = some (.int .i64 (rd t229 0)) ∧ w'.cell? ⟨ad246.block, ad246.off + 2, none⟩ = some (.int .i64 (rd t229 2))) (ds := []) #[O,O,O,O,O,O,O,O,O,O,O] (by kernel_rfl) rfl rfl ⟨hx246_0, hx247_0, hx248_0⟩ (fun hHeld => ?_); refine with_tabW spec_l1Cur_triple.tab18 spec_l1Cur_triple.bits18 (fun HT_ HW_ => ?_)
            generalize w45.drew = w46 at HO231 HI0 HK HB hx246_0 hx247_0 hx248_0 hHeld ⊢
            refine pS 0 69 (BM 11 1) ?_
            refine pS 1 70 (BM 11 3) ?_
            refine pS 3 72 (BM 11 11) ?_
            refine pS 4 73 (BM 11 27) ?_
            refine pS 6 75 (BM 11 91) ?_
            refine pS 7 76 (BM 11 219) ?_
            refine take_ (i := 2) (N := some 71) (v := ?_) (a' := ?_) (BM 11 223) rfl rfl (take_ofW HT_.out HW_.out (by kernel_rfl)) (fun _ _ _ h => h) (Or.inl ⟨by rfl, ?_⟩) hHeld ?_ ?_
            rotate_left
            ·
             rintro w' ⟨s0, s1, s2⟩
             go_simp
             with_reducible rfl
            rotate_left
            ·
             simp only [AP]
             rfl
            refine take_ (i := 5) (N := some 74) (v := ?_) (a' := ?_) (BM 11 255) rfl rfl (take_ofW HT_.out HW_.out (by kernel_rfl)) (fun _ _ _ h => h) (Or.inl ⟨by rfl, ?_⟩) hHeld ?_ ?_
            rotate_left
            ·
             rintro w' ⟨s0, s1, s2⟩
             go_simp
             with_reducible rfl
            rotate_left
            ·
             simp only [AP]
             rfl
            refine take_ (i := 8) (N := some 77) (v := ?_) (a' := ?_) (BM 11 511) rfl rfl (take_ofW HT_.out HW_.out (by kernel_rfl)) (fun _ _ _ h => h) (Or.inl ⟨by rfl, ?_⟩) hHeld ?_ ?_
            rotate_left
            ·
             rintro w' ⟨s0, s1, s2⟩
             go_simp
             with_reducible rfl
            rotate_left
            ·
             simp only [AP]
             rfl
            refine one_ (i := 9) (N := some 78) (BM 11 1023) rfl rfl (one_of HT_.out (by kernel_rfl)) (by decide) (fun K hK => ?_)
            refine Kd.R_lit_step (Kd.int .i64) _ 3 ?hg (N := 78) ?hd (xs := ([rd t229 1, rd t229 0, rd t229 2] : List Int)) (inner := [.int .i64 (rd t229 1), .int .i64 (rd t229 0), .int .i64 (rd t229 2)]) (ok := fun _ => True) (okp := fun _ => True) ?hr ?hp (fun _ hk => hk) trivial (Below.refl _ _) (Nat.le_refl _) (by simp) ?_; (case hd => rfl); (case hg => rfl); (case hr => first | (go_simp; done) | (go_simp; rfl)); (case hp => exact (Reps.one (show Kd.M (Kd.int .i64) _ _ _ (rd t229 1) [.int .i64 (rd t229 1)] from rfl) (Reps.one (show Kd.M (Kd.int .i64) _ _ _ (rd t229 0) [.int .i64 (rd t229 0)] from rfl) (Reps.one (show Kd.M (Kd.int .i64) _ _ _ (rd t229 2) [.int .i64 (rd t229 2)] from rfl) (Reps.none _ _)))))
            intro v250 w48 ho49 hb hg_ hnew_
            have HS0_ := (hb.cell (World.block_lt_of_cell? _ _ (hHeld.1))).trans (hHeld.1)
            have HS1_ := (hb.cell (World.block_lt_of_cell? _ _ (hHeld.2.1))).trans (hHeld.2.1)
            have HS2_ := (hb.cell (World.block_lt_of_cell? _ _ (hHeld.2.2))).trans (hHeld.2.2)
            clear hg_ hnew_
            (first | rw [← Ny249.out] at ho49 | (simp only [Int.reduceToNat] at ho49; rw [← Ny249.out] at ho49))
            have n0_ := Aside0.mk (Kd.R_elder' (rA HO231) (Kd.R_base ho49) hb)
            have n1_ := Aside0.mk (Kd.R_lower (Kd.R_new' ho49 (Kd.R_lt (rA HO231))) (keep_size (w := w) (g := g) (row := none) (kH HK)))
            have n2_ := Aside0.mk (IsS79.below (by repeat (first | (with_reducible first | exact HI0.out | apply IsS79.alloc | apply IsS79.drewN | apply IsS79.drew | apply IsS79.set_1 | apply IsS79.set_2) | exact HI0.out)) hb)
            have n3_ := Aside0.mk (KeepBut.trans (kH HK) (KeepBut.of_below hb g none) (.inl rfl))
            have n4_ := Aside0.mk (below_step (by repeat (first | (with_reducible first | exact HB.out | apply below_alloc | apply pw_below_drewN | apply below_drew1 | refine below_set ?_ (IsS79.ge HI0.out)) | exact HB.out | exact Below.refl _ _)) hb)
            clear HO231; clear HI0; clear HK; clear HB
            have HO231 := n0_
            have HO251 := n1_
            have HI0 := n2_
            have HK := n3_
            have HB := n4_
            clear n0_ n1_ n2_ n3_ n4_
            clear hb ho49
            refine hK.out _ _ ⟨HS0_, HS1_, HS2_⟩ (fun hHeld => ?_)
            clear hK K
            refine norm_ (a' := ?_) ?_ ?_
            rotate_left
            ·
             show Act.put _ (some 78) _ = _
             simp only [AP]
             rfl
            refine pS 10 8 (BM 11 2047) ?_
            refine done_ (done_of HT_.out (by kernel_rfl)) ?_
            try go_wp2
            go_ret
            exact ⟨_, e1, by (with_reducible repeat (first | apply Kd.R_alloc | apply Kd.R_drewN | apply Kd.R_drew)); exact Kd.R_mono HO251.out (fun _ hk => trivial), by repeat (first | (with_reducible first | exact HI0.out | apply IsS79.alloc | apply IsS79.drewN | apply IsS79.drew | apply IsS79.set_1 | apply IsS79.set_2) | exact HI0.out), by repeat (first | (with_reducible first | exact HB.out | apply below_alloc | apply pw_below_drewN | apply below_drew1 | refine below_set ?_ (IsS79.ge HI0.out)) | exact HB.out | exact Below.refl _ _), kH HK⟩
           ·
            rw [if_neg c43] at H
            exact absurd H (by simp)
          ·
           rw [if_neg c42] at H
           exact absurd H (by simp)
         ·
          rw [if_neg c41] at H
          exact absurd H (by simp)
        ·
         rw [if_neg c40] at H
         have c40b0 : (t232 == 1) = false := beq_eq_false_iff_ne.mpr c40
         have c40b1 : (t232 != 1) = true := bne_iff_ne.mpr c40
         by_cases c50 : t232 = 2
         ·
          rw [if_pos c50] at H
          have c50b0 : (t232 == 2) = true := beq_iff_eq.mpr c50
          have c50b1 : (t232 != 2) = false := bne_eq_false_iff_eq.mpr c50
          clear c50
          by_cases c51 : 0 < (t229.length : Int)
          ·
           rw [if_pos c51] at H
           have c51b0 : decide (0 < (t229.length : Int)) = true := decide_eq_true c51
           have c51b1 : decide (0 < t229.length) = true := decide_eq_true (by omega)
           clear c51
           by_cases c52 : 1 < (t229.length : Int)
           ·
            rw [if_pos c52] at H
            have c52b0 : decide (1 < (t229.length : Int)) = true := decide_eq_true c52
            have c52b1 : decide (1 < t229.length) = true := decide_eq_true (by omega)
            clear c52
            by_cases c53 : 2 < (t229.length : Int)
            ·
             rw [if_pos c53] at H
             have c53b0 : decide (2 < (t229.length : Int)) = true := decide_eq_true c53
             have c53b1 : decide (2 < t229.length) = true := decide_eq_true (by omega)
             clear c53
             obtain ⟨y255, hy255⟩ : ∃ y_ : List Int, y_ = (([wrap64 (3 * (rd t229 0)), wrap64 (3 * (rd t229 1)), wrap64 (3 * (rd t229 2))] : List Int)) := ⟨_, rfl⟩
             replace H : (some (y255, t233, t234)) = some (r1, r2, r3) := by first | (rw [hy255]; with_reducible exact H) | (have H2_ := (Option.bind_some _ _).symm.trans H; rw [hy255]; with_reducible exact H2_) | (have H2_ := (Option.bind_some _ _).symm.trans H; with_reducible exact H2_) | with_reducible exact H | (rw [hy255]; exact H) | exact H
             have Ny255 := Aside0.mk hy255
             clear hy255
             simp only [Option.some.injEq, Prod.mk.injEq] at H
             obtain ⟨rfl, rfl, rfl⟩ := H
             try go_wp2_with (first | ((with_reducible refine gate_callee (f := 94) rfl ?_); refine gL (some 40) rfl rfl Try.func94 (by kernel_rfl) rfl #[.int .i64 x3_11, .int .i64 x4_11] rfl ?_; (with_reducible refine (spec_riPair.calls kj11 x3_11 x4_11 true _ A19.out).mono ?_); rintro e w' ⟨rfl, ⟨nd, rfl⟩⟩; refine ⟨_, rfl, ?_⟩) | ((with_reducible refine gate_callee (f := 75) rfl ?_); refine gL (some 52) rfl rfl Try.func75 (by kernel_rfl) rfl #[.int .i64 x3_11, .int .i64 x4_11] rfl ?_; (with_reducible refine (spec_riOf.calls x3_11 x4_11 t229 _ A21.out).mono ?_); rintro e w54 ⟨v230, rfl, ho0, hb⟩; refine ⟨_, rfl, ?_⟩; have n0_ := Aside0.mk (Kd.R_lower ho0 (keep_size (w := w) (g := g) (row := none) (kH HK))); have n1_ := Aside0.mk (IsS79.below (by repeat (first | (with_reducible first | exact HI0.out | apply IsS79.alloc | apply IsS79.drewN | apply IsS79.drew | apply IsS79.set_1 | apply IsS79.set_2) | exact HI0.out)) hb); have n2_ := Aside0.mk (KeepBut.trans (kH HK) (KeepBut.of_below hb g none) (.inl rfl)); have n3_ := Aside0.mk (below_step (by repeat (first | (with_reducible first | exact HB.out | apply below_alloc | apply pw_below_drewN | apply below_drew1 | refine below_set ?_ (IsS79.ge HI0.out)) | exact HB.out | exact Below.refl _ _)) hb); clear HI0; clear HK; clear HB; have HO231 := n0_; have HI0 := n1_; have HK := n2_; have HB := n3_; clear n0_ n1_ n2_ n3_; (try clear hb); (try clear hb2); (try clear hk); (try clear hi); (try clear ho0)) | ((with_reducible refine gate_callee (f := 79) rfl ?_); refine gL (some 54) rfl rfl Try.func79 (by kernel_rfl) rfl #[.pointer (some ⟨g, 0, none⟩), .int .i64 16] rfl ?_; (with_reducible refine (spec_l1Cur_pick.calls g s0_0 x1001_11 x1002_11 16 t232 t233 t234 w0 _ ?side1 ?side2 A22.out).mono ?_); (case side1 => repeat (first | (with_reducible first | exact HI0.out | apply IsS79.alloc | apply IsS79.drewN | apply IsS79.drew | apply IsS79.set_1 | apply IsS79.set_2) | exact HI0.out)); (case side2 => repeat (first | (with_reducible first | exact HB.out | apply below_alloc | apply pw_below_drewN | apply below_drew1 | refine below_set ?_ (IsS79.ge HI0.out)) | exact HB.out | exact Below.refl _ _)); rintro e w55 ⟨rfl, hi, hb, hk⟩; refine ⟨_, rfl, ?_⟩; have n0_ := Aside0.mk (Kd.R_mono (Kd.R_keep (IsS79.apart (show IsS79 w0 _ g s0_0 x1001_11 x1002_11 from by repeat (first | (with_reducible first | exact HI0.out | apply IsS79.alloc | apply IsS79.drewN | apply IsS79.drew | apply IsS79.set_1 | apply IsS79.set_2) | exact HI0.out)) (rA HO231) (by decide)) hk (fun _ h => h.2)) (fun _ h => h.1)); have n1_ := Aside0.mk (KeepBut.trans (kH HK) hk (.inl rfl)); have n2_ := Aside0.mk (hb); have n3_ := Aside0.mk (hi); clear HO231; clear HK; clear HB; clear HI0; have HO231 := n0_; have HK := n1_; have HB := n2_; have HI0 := n3_; clear n0_ n1_ n2_ n3_; (try clear hb); (try clear hb2); (try clear hk); (try clear hi)))
             have n0_ := Aside0.mk (Kd.R_drew HO231.out)
             have n1_ := Aside0.mk (IsS79.drew HI0.out)
             have n2_ := Aside0.mk (keep_drew HK.out)
             have n3_ := Aside0.mk (below_drew1 HB.out)
             clear HO231; clear HI0; clear HK; clear HB
             have HO231 := n0_
             have HI0 := n1_
             have HK := n2_
             have HB := n3_
             clear n0_ n1_ n2_ n3_
             obtain ⟨Ao57, co57, eo57⟩ := Kd.R_slice HO231.out
             (first | subst eo57 | (injection eo57 with f1_ f2_ f3_; have f4_ := f1_.symm; have f5_ := f3_.symm; clear f1_ f2_ f3_; subst f4_; subst f5_))
             have p252 : 0 ≤ (0 : Int) := (by omega)
             have q252 : 0 < (t229.length : Int) := od
             obtain ⟨ad252, e252, hx252_0⟩ := Kd.at_int (Kd.R_reads' HO231.out).2.2 0 p252 q252
             cases e252
             have qi252 : (0 < t229.length) = True := eq_true (by omega)
             (try rw [show ((0 : Int)).toNat = 0 from rfl] at hx252_0)
             (try rw [Addr.add_zero'] at hx252_0)
             replace p252 := eq_true p252
             replace q252 := eq_true q252
             have p253 : 0 ≤ (1 : Int) := (by omega)
             have q253 : 1 < (t229.length : Int) := od
             obtain ⟨ad253, e253, hx253_0⟩ := Kd.at_int (Kd.R_reads' HO231.out).2.2 1 p253 q253
             obtain rfl : ad252 = ad253 := (by injection e253)
             (try simp only [show (1 : Int).toNat = 1 from rfl, Nat.reduceMul, Nat.reduceEqDiff, Go.Addr.add, ↓reduceIte] at hx253_0)
             have qi253 : (1 < t229.length) = True := eq_true (by omega)
             (try rw [show ((1 : Int)).toNat = 1 from rfl] at hx253_0)
             replace p253 := eq_true p253
             replace q253 := eq_true q253
             have p254 : 0 ≤ (2 : Int) := (by omega)
             have q254 : 2 < (t229.length : Int) := od
             obtain ⟨ad254, e254, hx254_0⟩ := Kd.at_int (Kd.R_reads' HO231.out).2.2 2 p254 q254
             obtain rfl : ad252 = ad254 := (by injection e254)
             (try simp only [show (2 : Int).toNat = 2 from rfl, Nat.reduceMul, Nat.reduceEqDiff, Go.Addr.add, ↓reduceIte] at hx254_0)
             have qi254 : (2 < t229.length) = True := eq_true (by omega)
             (try rw [show ((2 : Int)).toNat = 2 from rfl] at hx254_0)
             replace p254 := eq_true p254
             replace q254 := eq_true q254
             refine start_ (n := 14) (S := fun w' => w'.cell? ad252 = some (.int .i64 (rd t229 0)) ∧ w'.cell? ⟨ad252.block, ad252.off + 1, none⟩ = some (.int .i64 (rd t229 1)) ∧ w'.cell? ⟨ad252.block, ad252.off + 2, none⟩ = some (.int .i64 (rd t229 2))) (ds := []) #[O,O,O,O,O,O,O,O,O,O,O,O,O,O] (by kernel_rfl) rfl rfl ⟨hx252_0, hx253_0, hx254_0⟩ (fun hHeld => ?_); refine with_tabW spec_l1Cur_triple.tab20 spec_l1Cur_triple.bits20 (fun HT_ HW_ => ?_)
             generalize w55.drew = w56 at HO231 HI0 HK HB hx252_0 hx253_0 hx254_0 hHeld ⊢
             refine pS 0 81 (BM 14 1) ?_
             refine pS 1 82 (BM 14 3) ?_
             refine pS 4 85 (BM 14 19) ?_
             refine pS 5 86 (BM 14 51) ?_
             refine pS 8 89 (BM 14 307) ?_
             refine pS 9 90 (BM 14 819) ?_
             refine take_ (i := 2) (N := some 83) (v := ?_) (a' := ?_) (BM 14 823) rfl rfl (take_ofW HT_.out HW_.out (by kernel_rfl)) (fun _ _ _ h => h) (Or.inl ⟨by rfl, ?_⟩) hHeld ?_ ?_
             rotate_left
             ·
              rintro w' ⟨s0, s1, s2⟩
              go_simp
              with_reducible rfl
             rotate_left
             ·
              simp only [AP]
              rfl
             refine pS 3 84 (BM 14 831) ?_
             refine take_ (i := 6) (N := some 87) (v := ?_) (a' := ?_) (BM 14 895) rfl rfl (take_ofW HT_.out HW_.out (by kernel_rfl)) (fun _ _ _ h => h) (Or.inl ⟨by rfl, ?_⟩) hHeld ?_ ?_
             rotate_left
             ·
              rintro w' ⟨s0, s1, s2⟩
              go_simp
              with_reducible rfl
             rotate_left
             ·
              simp only [AP]
              rfl
             refine pS 7 88 (BM 14 1023) ?_
             refine take_ (i := 10) (N := some 91) (v := ?_) (a' := ?_) (BM 14 2047) rfl rfl (take_ofW HT_.out HW_.out (by kernel_rfl)) (fun _ _ _ h => h) (Or.inl ⟨by rfl, ?_⟩) hHeld ?_ ?_
             rotate_left
             ·
              rintro w' ⟨s0, s1, s2⟩
              go_simp
              with_reducible rfl
             rotate_left
             ·
              simp only [AP]
              rfl
             refine pS 11 92 (BM 14 4095) ?_
             refine one_ (i := 12) (N := some 93) (BM 14 8191) rfl rfl (one_of HT_.out (by kernel_rfl)) (by decide) (fun K hK => ?_)
             refine Kd.R_lit_step (Kd.int .i64) _ 3 ?hg (N := 93) ?hd (xs := ([wrap64 (3 * (rd t229 0)), wrap64 (3 * (rd t229 1)), wrap64 (3 * (rd t229 2))] : List Int)) (inner := [.int .i64 (wrap64 (3 * (rd t229 0))), .int .i64 (wrap64 (3 * (rd t229 1))), .int .i64 (wrap64 (3 * (rd t229 2)))]) (ok := fun _ => True) (okp := fun _ => True) ?hr ?hp (fun _ hk => hk) trivial (Below.refl _ _) (Nat.le_refl _) (by simp) ?_; (case hd => rfl); (case hg => rfl); (case hr => first | (go_simp; done) | (go_simp; rfl)); (case hp => exact (Reps.one (show Kd.M (Kd.int .i64) _ _ _ (wrap64 (3 * (rd t229 0))) [.int .i64 (wrap64 (3 * (rd t229 0)))] from rfl) (Reps.one (show Kd.M (Kd.int .i64) _ _ _ (wrap64 (3 * (rd t229 1))) [.int .i64 (wrap64 (3 * (rd t229 1)))] from rfl) (Reps.one (show Kd.M (Kd.int .i64) _ _ _ (wrap64 (3 * (rd t229 2))) [.int .i64 (wrap64 (3 * (rd t229 2)))] from rfl) (Reps.none _ _)))))
             intro v256 w58 ho59 hb hg_ hnew_
             have HS0_ := (hb.cell (World.block_lt_of_cell? _ _ (hHeld.1))).trans (hHeld.1)
             have HS1_ := (hb.cell (World.block_lt_of_cell? _ _ (hHeld.2.1))).trans (hHeld.2.1)
             have HS2_ := (hb.cell (World.block_lt_of_cell? _ _ (hHeld.2.2))).trans (hHeld.2.2)
             clear hg_ hnew_
             (first | rw [← Ny255.out] at ho59 | (simp only [Int.reduceToNat] at ho59; rw [← Ny255.out] at ho59))
             have n0_ := Aside0.mk (Kd.R_elder' (rA HO231) (Kd.R_base ho59) hb)
             have n1_ := Aside0.mk (Kd.R_lower (Kd.R_new' ho59 (Kd.R_lt (rA HO231))) (keep_size (w := w) (g := g) (row := none) (kH HK)))
             have n2_ := Aside0.mk (IsS79.below (by repeat (first | (with_reducible first | exact HI0.out | apply IsS79.alloc | apply IsS79.drewN | apply IsS79.drew | apply IsS79.set_1 | apply IsS79.set_2) | exact HI0.out)) hb)
             have n3_ := Aside0.mk (KeepBut.trans (kH HK) (KeepBut.of_below hb g none) (.inl rfl))
             have n4_ := Aside0.mk (below_step (by repeat (first | (with_reducible first | exact HB.out | apply below_alloc | apply pw_below_drewN | apply below_drew1 | refine below_set ?_ (IsS79.ge HI0.out)) | exact HB.out | exact Below.refl _ _)) hb)
             clear HO231; clear HI0; clear HK; clear HB
             have HO231 := n0_
             have HO257 := n1_
             have HI0 := n2_
             have HK := n3_
             have HB := n4_
             clear n0_ n1_ n2_ n3_ n4_
             clear hb ho59
             refine hK.out _ _ ⟨HS0_, HS1_, HS2_⟩ (fun hHeld => ?_)
             clear hK K
             refine norm_ (a' := ?_) ?_ ?_
             rotate_left
             ·
              show Act.put _ (some 93) _ = _
              simp only [AP]
              rfl
             refine pS 13 8 (BM 14 16383) ?_
             refine done_ (done_of HT_.out (by kernel_rfl)) ?_
             try go_wp2
             go_ret
             exact ⟨_, e1, by (with_reducible repeat (first | apply Kd.R_alloc | apply Kd.R_drewN | apply Kd.R_drew)); exact Kd.R_mono HO257.out (fun _ hk => trivial), by repeat (first | (with_reducible first | exact HI0.out | apply IsS79.alloc | apply IsS79.drewN | apply IsS79.drew | apply IsS79.set_1 | apply IsS79.set_2) | exact HI0.out), by repeat (first | (with_reducible first | exact HB.out | apply below_alloc | apply pw_below_drewN | apply below_drew1 | refine below_set ?_ (IsS79.ge HI0.out)) | exact HB.out | exact Below.refl _ _), kH HK⟩
            ·
             rw [if_neg c53] at H
             exact absurd H (by simp)
           ·
            rw [if_neg c52] at H
            exact absurd H (by simp)
          ·
           rw [if_neg c51] at H
           exact absurd H (by simp)
         ·
          rw [if_neg c50] at H
          have c50b0 : (t232 == 2) = false := beq_eq_false_iff_ne.mpr c50
          have c50b1 : (t232 != 2) = true := bne_iff_ne.mpr c50
          by_cases c60 : t232 = 3
          ·
           rw [if_pos c60] at H
           have c60b0 : (t232 == 3) = true := beq_iff_eq.mpr c60
           have c60b1 : (t232 != 3) = false := bne_eq_false_iff_eq.mpr c60
           clear c60
           by_cases c61 : t229.length < 17592186044416
           ·
            rw [if_pos c61] at H
            have LMc61 := Aside0.mk c61
            clear c61
            obtain ⟨y258, hy258⟩ : ∃ y_ : List Int, y_ = (t229 ++ [1]) := ⟨_, rfl⟩
            replace H : (some (y258, t233, t234)) = some (r1, r2, r3) := by first | (rw [hy258]; with_reducible exact H) | (have H2_ := (Option.bind_some _ _).symm.trans H; rw [hy258]; with_reducible exact H2_) | (have H2_ := (Option.bind_some _ _).symm.trans H; with_reducible exact H2_) | with_reducible exact H | (rw [hy258]; exact H) | exact H
            have Ny258 := Aside0.mk hy258
            clear hy258
            simp only [Option.some.injEq, Prod.mk.injEq] at H
            obtain ⟨rfl, rfl, rfl⟩ := H
            go_wp2_with (first | ((with_reducible refine gate_callee (f := 94) rfl ?_); refine gL (some 40) rfl rfl Try.func94 (by kernel_rfl) rfl #[.int .i64 x3_11, .int .i64 x4_11] rfl ?_; (with_reducible refine (spec_riPair.calls kj11 x3_11 x4_11 true _ A19.out).mono ?_); rintro e w' ⟨rfl, ⟨nd, rfl⟩⟩; refine ⟨_, rfl, ?_⟩) | ((with_reducible refine gate_callee (f := 75) rfl ?_); refine gL (some 52) rfl rfl Try.func75 (by kernel_rfl) rfl #[.int .i64 x3_11, .int .i64 x4_11] rfl ?_; (with_reducible refine (spec_riOf.calls x3_11 x4_11 t229 _ A21.out).mono ?_); rintro e w62 ⟨v230, rfl, ho0, hb⟩; refine ⟨_, rfl, ?_⟩; have n0_ := Aside0.mk (Kd.R_lower ho0 (keep_size (w := w) (g := g) (row := none) (kH HK))); have n1_ := Aside0.mk (IsS79.below (by repeat (first | (with_reducible first | exact HI0.out | apply IsS79.alloc | apply IsS79.drewN | apply IsS79.drew | apply IsS79.set_1 | apply IsS79.set_2) | exact HI0.out)) hb); have n2_ := Aside0.mk (KeepBut.trans (kH HK) (KeepBut.of_below hb g none) (.inl rfl)); have n3_ := Aside0.mk (below_step (by repeat (first | (with_reducible first | exact HB.out | apply below_alloc | apply pw_below_drewN | apply below_drew1 | refine below_set ?_ (IsS79.ge HI0.out)) | exact HB.out | exact Below.refl _ _)) hb); clear HI0; clear HK; clear HB; have HO231 := n0_; have HI0 := n1_; have HK := n2_; have HB := n3_; clear n0_ n1_ n2_ n3_; (try clear hb); (try clear hb2); (try clear hk); (try clear hi); (try clear ho0)) | ((with_reducible refine gate_callee (f := 79) rfl ?_); refine gL (some 54) rfl rfl Try.func79 (by kernel_rfl) rfl #[.pointer (some ⟨g, 0, none⟩), .int .i64 16] rfl ?_; (with_reducible refine (spec_l1Cur_pick.calls g s0_0 x1001_11 x1002_11 16 t232 t233 t234 w0 _ ?side1 ?side2 A22.out).mono ?_); (case side1 => repeat (first | (with_reducible first | exact HI0.out | apply IsS79.alloc | apply IsS79.drewN | apply IsS79.drew | apply IsS79.set_1 | apply IsS79.set_2) | exact HI0.out)); (case side2 => repeat (first | (with_reducible first | exact HB.out | apply below_alloc | apply pw_below_drewN | apply below_drew1 | refine below_set ?_ (IsS79.ge HI0.out)) | exact HB.out | exact Below.refl _ _)); rintro e w63 ⟨rfl, hi, hb, hk⟩; refine ⟨_, rfl, ?_⟩; have n0_ := Aside0.mk (Kd.R_mono (Kd.R_keep (IsS79.apart (show IsS79 w0 _ g s0_0 x1001_11 x1002_11 from by repeat (first | (with_reducible first | exact HI0.out | apply IsS79.alloc | apply IsS79.drewN | apply IsS79.drew | apply IsS79.set_1 | apply IsS79.set_2) | exact HI0.out)) (rA HO231) (by decide)) hk (fun _ h => h.2)) (fun _ h => h.1)); have n1_ := Aside0.mk (KeepBut.trans (kH HK) hk (.inl rfl)); have n2_ := Aside0.mk (hb); have n3_ := Aside0.mk (hi); clear HO231; clear HK; clear HB; clear HI0; have HO231 := n0_; have HK := n1_; have HB := n2_; have HI0 := n3_; clear n0_ n1_ n2_ n3_; (try clear hb); (try clear hb2); (try clear hk); (try clear hi)) | ((with_reducible refine gate_builtin (b := .append) (xs := #[.tmp 96, .tmp 97]) rfl ?_); at_builtin; refine Kd.R_append (Kd.int .i64) w.heap.size rfl (.tmp 96) (.tmp 97) 24 3 (.int .i64 0) 8 rfl Try.underlying24 info3 rfl (by decide) (by omega) v230 t229 1 [.int .i64 1] (fun _ => True) (fun _ => False) rfl rfl ?aP (fun _ hk => hk.elim) ?aF ?aO (Below.refl _ _) ?aS ?aL ?_; (case aP => exact rfl); (case aF => exact (fun _ _ => trivial)); (case aO => exact (rA HO231)); (case aS => exact (keep_size (w := w) (g := g) (row := none) (kH HK))); (case aL => have := LMc61.out; omega); intro v259 w64 ho hb hg hat; rw [← Ny258.out] at ho; have n0_ := Aside0.mk (IsS79.grown (by repeat (first | (with_reducible first | exact HI0.out | apply IsS79.alloc | apply IsS79.drewN | apply IsS79.drew | apply IsS79.set_1 | apply IsS79.set_2) | exact HI0.out)) hg (IsS79.own_ne HI0.out HO231.out (by decide))); have n1_ := Aside0.mk (below_weaken (by repeat (first | (with_reducible first | exact HB.out | apply below_alloc | apply pw_below_drewN | apply below_drew1 | refine below_set ?_ (IsS79.ge HI0.out)) | exact HB.out | exact Below.refl _ _)) HL.out hb); have n2_ := Aside0.mk (KeepBut.trans (kH HK) (KeepBut.of_grown hg g) (Kd.R_base2 HO231.out)); have n3_ := Aside0.mk (ho); clear HI0; clear HB; clear HK; clear HO231; have HI0 := n0_; have HB := n1_; have HK := n2_; have HO260 := n3_; clear n0_ n1_ n2_ n3_; clear ho hb hg hat))
            go_ret
            exact ⟨_, e1, by (with_reducible repeat (first | apply Kd.R_alloc | apply Kd.R_drewN | apply Kd.R_drew)); exact HO260.out, by repeat (first | (with_reducible first | exact HI0.out | apply IsS79.alloc | apply IsS79.drewN | apply IsS79.drew | apply IsS79.set_1 | apply IsS79.set_2) | exact HI0.out), by repeat (first | (with_reducible first | exact HB.out | apply below_alloc | apply pw_below_drewN | apply below_drew1 | refine below_set ?_ (IsS79.ge HI0.out)) | exact HB.out | exact Below.refl _ _), kH HK⟩
           ·
            rw [if_neg c61] at H
            exact absurd H (by simp)
          ·
           rw [if_neg c60] at H
           have c60b0 : (t232 == 3) = false := beq_eq_false_iff_ne.mpr c60
           have c60b1 : (t232 != 3) = true := bne_iff_ne.mpr c60
           simp only [Option.some.injEq, Prod.mk.injEq] at H
           obtain ⟨rfl, rfl, rfl⟩ := H
           go_wp2_with (first | ((with_reducible refine gate_callee (f := 94) rfl ?_); refine gL (some 40) rfl rfl Try.func94 (by kernel_rfl) rfl #[.int .i64 x3_11, .int .i64 x4_11] rfl ?_; (with_reducible refine (spec_riPair.calls kj11 x3_11 x4_11 true _ A19.out).mono ?_); rintro e w' ⟨rfl, ⟨nd, rfl⟩⟩; refine ⟨_, rfl, ?_⟩) | ((with_reducible refine gate_callee (f := 75) rfl ?_); refine gL (some 52) rfl rfl Try.func75 (by kernel_rfl) rfl #[.int .i64 x3_11, .int .i64 x4_11] rfl ?_; (with_reducible refine (spec_riOf.calls x3_11 x4_11 t229 _ A21.out).mono ?_); rintro e w65 ⟨v230, rfl, ho0, hb⟩; refine ⟨_, rfl, ?_⟩; have n0_ := Aside0.mk (Kd.R_lower ho0 (keep_size (w := w) (g := g) (row := none) (kH HK))); have n1_ := Aside0.mk (IsS79.below (by repeat (first | (with_reducible first | exact HI0.out | apply IsS79.alloc | apply IsS79.drewN | apply IsS79.drew | apply IsS79.set_1 | apply IsS79.set_2) | exact HI0.out)) hb); have n2_ := Aside0.mk (KeepBut.trans (kH HK) (KeepBut.of_below hb g none) (.inl rfl)); have n3_ := Aside0.mk (below_step (by repeat (first | (with_reducible first | exact HB.out | apply below_alloc | apply pw_below_drewN | apply below_drew1 | refine below_set ?_ (IsS79.ge HI0.out)) | exact HB.out | exact Below.refl _ _)) hb); clear HI0; clear HK; clear HB; have HO231 := n0_; have HI0 := n1_; have HK := n2_; have HB := n3_; clear n0_ n1_ n2_ n3_; (try clear hb); (try clear hb2); (try clear hk); (try clear hi); (try clear ho0)) | ((with_reducible refine gate_callee (f := 79) rfl ?_); refine gL (some 54) rfl rfl Try.func79 (by kernel_rfl) rfl #[.pointer (some ⟨g, 0, none⟩), .int .i64 16] rfl ?_; (with_reducible refine (spec_l1Cur_pick.calls g s0_0 x1001_11 x1002_11 16 t232 t233 t234 w0 _ ?side1 ?side2 A22.out).mono ?_); (case side1 => repeat (first | (with_reducible first | exact HI0.out | apply IsS79.alloc | apply IsS79.drewN | apply IsS79.drew | apply IsS79.set_1 | apply IsS79.set_2) | exact HI0.out)); (case side2 => repeat (first | (with_reducible first | exact HB.out | apply below_alloc | apply pw_below_drewN | apply below_drew1 | refine below_set ?_ (IsS79.ge HI0.out)) | exact HB.out | exact Below.refl _ _)); rintro e w66 ⟨rfl, hi, hb, hk⟩; refine ⟨_, rfl, ?_⟩; have n0_ := Aside0.mk (Kd.R_mono (Kd.R_keep (IsS79.apart (show IsS79 w0 _ g s0_0 x1001_11 x1002_11 from by repeat (first | (with_reducible first | exact HI0.out | apply IsS79.alloc | apply IsS79.drewN | apply IsS79.drew | apply IsS79.set_1 | apply IsS79.set_2) | exact HI0.out)) (rA HO231) (by decide)) hk (fun _ h => h.2)) (fun _ h => h.1)); have n1_ := Aside0.mk (KeepBut.trans (kH HK) hk (.inl rfl)); have n2_ := Aside0.mk (hb); have n3_ := Aside0.mk (hi); clear HO231; clear HK; clear HB; clear HI0; have HO231 := n0_; have HK := n1_; have HB := n2_; have HI0 := n3_; clear n0_ n1_ n2_ n3_; (try clear hb); (try clear hb2); (try clear hk); (try clear hi)))
           go_ret
           exact ⟨_, e1, by (with_reducible repeat (first | apply Kd.R_alloc | apply Kd.R_drewN | apply Kd.R_drew)); exact HO231.out, by repeat (first | (with_reducible first | exact HI0.out | apply IsS79.alloc | apply IsS79.drewN | apply IsS79.drew | apply IsS79.set_1 | apply IsS79.set_2) | exact HI0.out), by repeat (first | (with_reducible first | exact HB.out | apply below_alloc | apply pw_below_drewN | apply below_drew1 | refine below_set ?_ (IsS79.ge HI0.out)) | exact HB.out | exact Below.refl _ _), kH HK⟩
      ·
       replace c20 := Bool.eq_false_iff.mpr c20
       subst c20
       have H1 : ((spec_l1Cur_pick.f s0_0 x1001_11 x1002_11 30).bind fun bt217 => ((spec_l1Cur_pick.f s0_0 bt217.2.1 bt217.2.2 30).bind fun bt220 => ((spec_l1Cur_pick.f s0_0 bt220.2.1 bt220.2.2 50).bind fun bt223 => (some ((([wrap64 (bt217.1 - 1), bt220.1, bt223.1] : List Int)), bt223.2.1, bt223.2.2))))) = some (r1, r2, r3) := by rw [if_neg (show ¬ (false = true) by decide)] at H; exact H
       clear H
       have H := H1
       clear H1
       replace H := Option.bind_eq_some_iff.mp H
       obtain ⟨⟨t217, t218, t219⟩, A670, H⟩ := H
       replace H : ((spec_l1Cur_pick.f s0_0 t218 t219 30).bind fun bt220 => ((spec_l1Cur_pick.f s0_0 bt220.2.1 bt220.2.2 50).bind fun bt223 => (some ((([wrap64 (t217 - 1), bt220.1, bt223.1] : List Int)), bt223.2.1, bt223.2.2)))) = some (r1, r2, r3) := H
       have A67 := Aside0.mk A670
       clear A670
       replace H := Option.bind_eq_some_iff.mp H
       obtain ⟨⟨t220, t221, t222⟩, A680, H⟩ := H
       replace H : ((spec_l1Cur_pick.f s0_0 t221 t222 50).bind fun bt223 => (some ((([wrap64 (t217 - 1), t220, bt223.1] : List Int)), bt223.2.1, bt223.2.2))) = some (r1, r2, r3) := H
       have A68 := Aside0.mk A680
       clear A680
       replace H := Option.bind_eq_some_iff.mp H
       obtain ⟨⟨t223, t224, t225⟩, A690, H⟩ := H
       replace H : (some ((([wrap64 (t217 - 1), t220, t223] : List Int)), t224, t225)) = some (r1, r2, r3) := H
       have A69 := Aside0.mk A690
       clear A690
       obtain ⟨y226, hy226⟩ : ∃ y_ : List Int, y_ = (([wrap64 (t217 - 1), t220, t223] : List Int)) := ⟨_, rfl⟩
       replace H : (some (y226, t224, t225)) = some (r1, r2, r3) := by first | (rw [hy226]; with_reducible exact H) | (have H2_ := (Option.bind_some _ _).symm.trans H; rw [hy226]; with_reducible exact H2_) | (have H2_ := (Option.bind_some _ _).symm.trans H; with_reducible exact H2_) | with_reducible exact H | (rw [hy226]; exact H) | exact H
       have Ny226 := Aside0.mk hy226
       clear hy226
       simp only [Option.some.injEq, Prod.mk.injEq] at H
       obtain ⟨rfl, rfl, rfl⟩ := H
       go_wp2_with (first | ((with_reducible refine gate_callee (f := 94) rfl ?_); refine gL (some 40) rfl rfl Try.func94 (by kernel_rfl) rfl #[.int .i64 x3_11, .int .i64 x4_11] rfl ?_; (with_reducible refine (spec_riPair.calls kj11 x3_11 x4_11 false _ A19.out).mono ?_); rintro e w' ⟨rfl, ⟨nd, rfl⟩⟩; refine ⟨_, rfl, ?_⟩) | ((with_reducible refine gate_callee (f := 79) rfl ?_); refine gL (some 43) rfl rfl Try.func79 (by kernel_rfl) rfl #[.pointer (some ⟨g, 0, none⟩), .int .i64 30] rfl ?_; (with_reducible refine (spec_l1Cur_pick.calls g s0_0 x1001_11 x1002_11 30 t217 t218 t219 w0 _ ?side1 ?side2 A67.out).mono ?_); (case side1 => repeat (first | (with_reducible first | exact HI0.out | apply IsS79.alloc | apply IsS79.drewN | apply IsS79.drew | apply IsS79.set_1 | apply IsS79.set_2) | exact HI0.out)); (case side2 => repeat (first | (with_reducible first | exact HB.out | apply below_alloc | apply pw_below_drewN | apply below_drew1 | refine below_set ?_ (IsS79.ge HI0.out)) | exact HB.out | exact Below.refl _ _)); rintro e w70 ⟨rfl, hi, hb, hk⟩; refine ⟨_, rfl, ?_⟩; have n0_ := Aside0.mk (KeepBut.trans (kH HK) hk (.inl rfl)); have n1_ := Aside0.mk (hb); have n2_ := Aside0.mk (hi); clear HK; clear HB; clear HI0; have HK := n0_; have HB := n1_; have HI0 := n2_; clear n0_ n1_ n2_; (try clear hb); (try clear hb2); (try clear hk); (try clear hi)) | ((with_reducible refine gate_callee (f := 79) rfl ?_); refine gL (some 46) rfl rfl Try.func79 (by kernel_rfl) rfl #[.pointer (some ⟨g, 0, none⟩), .int .i64 30] rfl ?_; (with_reducible refine (spec_l1Cur_pick.calls g s0_0 t218 t219 30 t220 t221 t222 w0 _ ?side1 ?side2 A68.out).mono ?_); (case side1 => repeat (first | (with_reducible first | exact HI0.out | apply IsS79.alloc | apply IsS79.drewN | apply IsS79.drew | apply IsS79.set_1 | apply IsS79.set_2) | exact HI0.out)); (case side2 => repeat (first | (with_reducible first | exact HB.out | apply below_alloc | apply pw_below_drewN | apply below_drew1 | refine below_set ?_ (IsS79.ge HI0.out)) | exact HB.out | exact Below.refl _ _)); rintro e w71 ⟨rfl, hi, hb, hk⟩; refine ⟨_, rfl, ?_⟩; have n0_ := Aside0.mk (KeepBut.trans (kH HK) hk (.inl rfl)); have n1_ := Aside0.mk (hb); have n2_ := Aside0.mk (hi); clear HK; clear HB; clear HI0; have HK := n0_; have HB := n1_; have HI0 := n2_; clear n0_ n1_ n2_; (try clear hb); (try clear hb2); (try clear hk); (try clear hi)) | ((with_reducible refine gate_callee (f := 79) rfl ?_); refine gL (some 48) rfl rfl Try.func79 (by kernel_rfl) rfl #[.pointer (some ⟨g, 0, none⟩), .int .i64 50] rfl ?_; (with_reducible refine (spec_l1Cur_pick.calls g s0_0 t221 t222 50 t223 t224 t225 w0 _ ?side1 ?side2 A69.out).mono ?_); (case side1 => repeat (first | (with_reducible first | exact HI0.out | apply IsS79.alloc | apply IsS79.drewN | apply IsS79.drew | apply IsS79.set_1 | apply IsS79.set_2) | exact HI0.out)); (case side2 => repeat (first | (with_reducible first | exact HB.out | apply below_alloc | apply pw_below_drewN | apply below_drew1 | refine below_set ?_ (IsS79.ge HI0.out)) | exact HB.out | exact Below.refl _ _)); rintro e w72 ⟨rfl, hi, hb, hk⟩; refine ⟨_, rfl, ?_⟩; have n0_ := Aside0.mk (KeepBut.trans (kH HK) hk (.inl rfl)); have n1_ := Aside0.mk (hb); have n2_ := Aside0.mk (hi); clear HK; clear HB; clear HI0; have HK := n0_; have HB := n1_; have HI0 := n2_; clear n0_ n1_ n2_; (try clear hb); (try clear hb2); (try clear hk); (try clear hi)) | ((with_reducible refine gate_dst (N := 49) rfl ?_); refine Kd.R_lit (Kd.int .i64) _ 3 ?hg (N := 49) ?hd (xs := ([wrap64 (t217 - 1), t220, t223] : List Int)) (inner := [.int .i64 (wrap64 (t217 - 1)), .int .i64 t220, .int .i64 t223]) (ok := fun _ => True) (okp := fun _ => True) ?hr ?hp (fun _ hk => hk) trivial (Below.refl _ _) (Nat.le_refl _) (by simp) ?_; (case hd => rfl); (case hg => rfl); (case hr => first | (go_simp; done) | (go_simp; rfl)); (case hp => exact (Reps.one (show Kd.M (Kd.int .i64) _ _ _ (wrap64 (t217 - 1)) [.int .i64 (wrap64 (t217 - 1))] from rfl) (Reps.one (show Kd.M (Kd.int .i64) _ _ _ t220 [.int .i64 t220] from rfl) (Reps.one (show Kd.M (Kd.int .i64) _ _ _ t223 [.int .i64 t223] from rfl) (Reps.none _ _))))); intro v227 w73 ho74 hb hg_ hnew_; clear hg_ hnew_; (first | rw [← Ny226.out] at ho74 | (simp only [Int.reduceToNat] at ho74; rw [← Ny226.out] at ho74)); have n0_ := Aside0.mk (Kd.R_lower ho74 (keep_size (w := w) (g := g) (row := none) (kH HK))); have n1_ := Aside0.mk (IsS79.below (by repeat (first | (with_reducible first | exact HI0.out | apply IsS79.alloc | apply IsS79.drewN | apply IsS79.drew | apply IsS79.set_1 | apply IsS79.set_2) | exact HI0.out)) hb); have n2_ := Aside0.mk (KeepBut.trans (kH HK) (KeepBut.of_below hb g none) (.inl rfl)); have n3_ := Aside0.mk (below_step (by repeat (first | (with_reducible first | exact HB.out | apply below_alloc | apply pw_below_drewN | apply below_drew1 | refine below_set ?_ (IsS79.ge HI0.out)) | exact HB.out | exact Below.refl _ _)) hb); clear HI0; clear HK; clear HB; have HO228 := n0_; have HI0 := n1_; have HK := n2_; have HB := n3_; clear n0_ n1_ n2_ n3_; clear hb ho74))
       go_ret
       exact ⟨_, e1, by (with_reducible repeat (first | apply Kd.R_alloc | apply Kd.R_drewN | apply Kd.R_drew)); exact HO228.out, by repeat (first | (with_reducible first | exact HI0.out | apply IsS79.alloc | apply IsS79.drewN | apply IsS79.drew | apply IsS79.set_1 | apply IsS79.set_2) | exact HI0.out), by repeat (first | (with_reducible first | exact HB.out | apply below_alloc | apply pw_below_drewN | apply below_drew1 | refine below_set ?_ (IsS79.ge HI0.out)) | exact HB.out | exact Below.refl _ _), kH HK⟩

end Go.Proofs.Ytnfbkakblnppaaa.P
