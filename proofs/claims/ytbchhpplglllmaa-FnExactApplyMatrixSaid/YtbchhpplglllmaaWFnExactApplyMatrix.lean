/- The law FnExactApplyMatrix, walked by hand, out of what both programs' functions come to. Written by a program of this session (wip/mkwalk.py). -/
import Derived.Test.YtbchhpplglllmaaGLaw
namespace Go.Proofs.Ytbchhpplglllmaa.G
open Go.RowKit Go.Proofs.Ytbchhpplglllmaa.P Go.Proofs.YtbchhpplglllmaaW.PrintWords Go.Proofs.YtbchhpplglllmaaW.PrintLast Go.Proofs.Ytbchhpplglllmaa.Q
set_option linter.unusedVariables false
set_option linter.unusedSimpArgs false
theorem FnExactApplyMatrix_out1 (A0 : Option Addr) (c0 : Nat) (l0 : List (List Int)) (A1 : Option Addr) (c1 : Nat) (l1 : List Int) (w : World) (h : 1048576 < l1.length) :
    Calls Try.prog 6 #[.agg #[.slice A0 l0.length c0], .slice A1 l1.length c1] w fun e w' => e = .returned (.bool true) ∧ Below w.heap.size w w' := by
  have t1 : decide (1048576 < (l1.length : Int)) = true := decide_eq_true (by omega)
  have u1 : decide (1048576 < l1.length) = true := decide_eq_true (by omega)
  clear h
  go_enter Try.func6, Try.ntmps6
  go_wp2
  go_ret
  exact ⟨rfl, by repeat (first | exact Below.refl _ _ | apply below_alloc)⟩
theorem FnExactApplyMatrix_less0 (A0 : Option Addr) (c0 : Nat) (l0 : List (List Int)) (A1 : Option Addr) (c1 : Nat) (l1 : List Int) (w : World) (hr0 : Kd.C (Kd.slice 3 (Kd.int .i64)) w A0 l0.length l0) (hc0 : l0.length ≤ c0) (hr1 : Kd.C (Kd.int .i64) w A1 l1.length l1) (hc1 : l1.length ≤ c1) (f1 : l1.length ≤ 1048576) (k0 : Nat) (r0 : Int) (hz0 : laws_szMatrix.f k0 l0 1048576 = some r0) (h : r0 < 0) :
    Calls Try.prog 6 #[.agg #[.slice A0 l0.length c0], .slice A1 l1.length c1] w fun e w' => e = .returned (.bool true) ∧ Below w.heap.size w w' := by
  have t1 : decide (1048576 < (l1.length : Int)) = false := decide_eq_false (by omega)
  have u1 : decide (1048576 < l1.length) = false := decide_eq_false (by omega)
  have e0 : decide (r0 < 0) = true := decide_eq_true h
  have HZ0 := Aside0.mk hz0
  clear h hz0 f1
  have HR0 := Aside0.mk hr0
  have HC0 := Aside0.mk hc0
  have HR1 := Aside0.mk hr1
  have HC1 := Aside0.mk hc1
  clear hr0 hc0 hr1 hc1
  have BW := Aside0.mk (Below.refl w.heap.size w)
  have hu := Try.underlying24
  have hu2 := Try.underlying27
  go_enter Try.func6, Try.ntmps6
  have BZ := Aside0.mk (Nat.le_refl w.heap.size)
  go_wp2_with (first | ((with_reducible refine gate_dst (N := 2) rfl ?_); refine box_event ?hg (N := 2) ?hd (cs := #[.slice A0 l0.length c0]) (t := 24) ?hr ?_; (case hd => rfl); (case hg => rfl); (case hr => first | (go_simp; done) | (go_simp; rfl)); intro g1 hg w1 hbox hb; replace BW := Aside0.mk (below_step BW.out hb); have Z1 := Aside0.mk (show w.heap.size ≤ w1.heap.size from hb.size); have K1 := Aside0.mk hbox; have G1 := Aside0.mk (show g1 = w.heap.size ∧ g1 < w1.heap.size from ⟨hg, blk_lt hbox⟩); clear hb hbox hg; have hz1 : w1.cell? ⟨g1, 0, none⟩ = some (.slice A0 l0.length c0) := (blk_cell K1.out 0).trans rfl; have hf1 := blk_frozen K1.out 0))
  clear hz1 hf1
  refine (laws_szMatrix.calls k0 A0 c0 l0 _ r0 _ (Kd.C_below HR0.out BW.out) HC0.out HZ0.out).mono ?_
  rintro e w2 ⟨rfl, hb⟩
  replace K1 := Aside0.mk (blk_below K1.out hb)
  replace BW := Aside0.mk (below_step BW.out hb)
  have Z2 := Aside0.mk (show w1.heap.size ≤ w2.heap.size from hb.size)
  clear hb
  have hz1 : w2.cell? ⟨g1, 0, none⟩ = some (.slice A0 l0.length c0) := (blk_cell K1.out 0).trans rfl
  have hf1 := blk_frozen K1.out 0
  go_wp2
  go_ret
  exact ⟨rfl, BW.out⟩
set_option maxHeartbeats 8000000 in
set_option maxRecDepth 100000 in
theorem FnExactApplyMatrix_calls (A0 : Option Addr) (c0 : Nat) (l0 : List (List Int)) (A1 : Option Addr) (c1 : Nat) (l1 : List Int) (G : List Int) (b : Bool) (w : World) (hr0 : Kd.C (Kd.slice 3 (Kd.int .i64)) w A0 l0.length l0) (hc0 : l0.length ≤ c0) (hr1 : Kd.C (Kd.int .i64) w A1 l1.length l1) (hc1 : l1.length ≤ c1) (f0 : Fits l0) (f1 : l1.length ≤ 1048576) (k0 : Nat) (r0 : Int) (hz0 : laws_szMatrix.f k0 l0 1048576 = some r0) (hp0 : 0 ≤ r0)
    (hs : ∀ (W : World) (B0 : Option Addr) (d0 : Nat) (B1 : Option Addr) (d1 : Nat), Kd.C (Kd.slice 3 (Kd.int .i64)) W B0 l0.length l0 → l0.length ≤ d0 → Kd.C (Kd.int .i64) W B1 l1.length l1 → l1.length ≤ d1 → Calls Try.prog 21 #[.agg #[.slice B0 l0.length d0], .slice B1 l1.length d1] W fun e w' => ∃ A c, e = .returned (.tuple #[.slice A G.length c, .bool b]) ∧ G.length ≤ c ∧ Kd.C (Kd.int .i64) w' A G.length G ∧ Below W.heap.size W w')
    (hi : ∀ (W : World) (B0 : Option Addr) (d0 : Nat) (B1 : Option Addr) (d1 : Nat), Kd.C (Kd.slice 3 (Kd.int .i64)) W B0 l0.length l0 → l0.length ≤ d0 → Kd.C (Kd.int .i64) W B1 l1.length l1 → l1.length ≤ d1 → Calls Try.prog 23 #[.agg #[.slice B0 l0.length d0], .slice B1 l1.length d1] W fun e w' => ∃ v, e = .returned (.tuple #[v, .bool b]) ∧ Kd.R (Kd.int .i64) 3 w' W.heap.size (fun _ => True) v G ∧ Below W.heap.size W w')
    (hg : G.length ≤ 1000000000000) :
    Calls Try.prog 6 #[.agg #[.slice A0 l0.length c0], .slice A1 l1.length c1] w fun e w' => e = .returned (.bool true) ∧ Below w.heap.size w w' := by
  have ft0 : tot l0 ≤ 1048576 * 1048576 := Nat.le_trans (tot_bound l0 f0.2) (Nat.mul_le_mul_right _ f0.1)
  have fl0 := f0.1
  have t1 : decide (1048576 < (l1.length : Int)) = false := decide_eq_false (by omega)
  have u1 : decide (1048576 < l1.length) = false := decide_eq_false (by omega)
  have e0 : decide (r0 < 0) = false := decide_eq_false (by omega)
  have hg1 : G.length ≤ 4611686018427387904 := by omega
  have hg2 : (1 : Int) + (G.length : Nat) ≤ 4611686018427387904 := by omega
  have HN0 := Aside0.mk (show l0.length ≤ 4611686018427387904 by omega)
  have HA0 := Aside0.mk (show (0 : Int) ≤ 1 ∧ 1 + ((tot l0 : Nat) : Int) ≤ 4611686018427387904 by omega)
  have HN1 := Aside0.mk (show l1.length ≤ 4611686018427387904 by omega)
  have HA1 := Aside0.mk (show (0 : Int) ≤ 1 + ((tot l0 : Nat) : Int) ∧ 1 + ((tot l0 : Nat) : Int) + ((l1.length : Nat) : Int) ≤ 4611686018427387904 by omega)
  have ek : decide (1 + ((tot l0 : Nat) : Int) + ((l1.length : Nat) : Int) < 0) = false := decide_eq_false (by omega)
  have eg : decide (1 + ((G.length : Nat) : Int) < 0) = false := decide_eq_false (by omega)
  have HG1 := Aside0.mk hg1
  have HG2 := Aside0.mk hg2
  have HS := Aside0.mk hs
  have HI := Aside0.mk hi
  have HF0 := Aside0.mk f0
  have HF1 := Aside0.mk f1
  have HZ0 := Aside0.mk hz0
  clear hs hi hg hg1 hg2 f0 f1 hz0 ft0 fl0 hp0
  have HR0 := Aside0.mk hr0
  have HC0 := Aside0.mk hc0
  have HR1 := Aside0.mk hr1
  have HC1 := Aside0.mk hc1
  clear hr0 hc0 hr1 hc1
  have BW := Aside0.mk (Below.refl w.heap.size w)
  have hu := Try.underlying24
  have hu2 := Try.underlying27
  go_enter Try.func6, Try.ntmps6
  have BZ := Aside0.mk (Nat.le_refl w.heap.size)
  go_wp2_with (first | ((with_reducible refine gate_dst (N := 2) rfl ?_); refine box_event ?hg (N := 2) ?hd (cs := #[.slice A0 l0.length c0]) (t := 24) ?hr ?_; (case hd => rfl); (case hg => rfl); (case hr => first | (go_simp; done) | (go_simp; rfl)); intro g1 hg w1 hbox hb; replace BW := Aside0.mk (below_step BW.out hb); have Z1 := Aside0.mk (show w.heap.size ≤ w1.heap.size from hb.size); have K1 := Aside0.mk hbox; have G1 := Aside0.mk (show g1 = w.heap.size ∧ g1 < w1.heap.size from ⟨hg, blk_lt hbox⟩); clear hb hbox hg; have hz1 : w1.cell? ⟨g1, 0, none⟩ = some (.slice A0 l0.length c0) := (blk_cell K1.out 0).trans rfl; have hf1 := blk_frozen K1.out 0))
  clear hz1 hf1
  refine (laws_szMatrix.calls k0 A0 c0 l0 _ r0 _ (Kd.C_below HR0.out BW.out) HC0.out HZ0.out).mono ?_
  rintro e w2 ⟨rfl, hb⟩
  replace K1 := Aside0.mk (blk_below K1.out hb)
  replace BW := Aside0.mk (below_step BW.out hb)
  have Z2 := Aside0.mk (show w1.heap.size ≤ w2.heap.size from hb.size)
  clear hb
  have hz1 : w2.cell? ⟨g1, 0, none⟩ = some (.slice A0 l0.length c0) := (blk_cell K1.out 0).trans rfl
  have hf1 := blk_frozen K1.out 0
  go_wp2_with (fail)
  clear hz1 hf1
  refine (copyM_any A0 c0 l0 _ HF0.out (Kd.C_below HR0.out BW.out) HC0.out).mono ?_
  rintro e w3 ⟨Ac3, cc3, rfl, hl, hO, hb⟩
  replace K1 := Aside0.mk (blk_below K1.out hb)
  replace BW := Aside0.mk (below_step BW.out hb)
  have Z3 := Aside0.mk (show w2.heap.size ≤ w3.heap.size from hb.size)
  have Oc3 := Aside0.mk hO
  have Lc3 := Aside0.mk hl
  clear hb hl hO
  have hz1 : w3.cell? ⟨g1, 0, none⟩ = some (.slice A0 l0.length c0) := (blk_cell K1.out 0).trans rfl
  have hf1 := blk_frozen K1.out 0
  go_wp2_with (fail)
  clear hz1 hf1
  refine (copyI_any A1 c1 l1 _ HF1.out (Kd.C_below HR1.out BW.out) HC1.out).mono ?_
  rintro e w4 ⟨Ac4, cc4, rfl, hl, hO, hb⟩
  replace Oc3 := Aside0.mk (Oc3.out.below hb)
  replace K1 := Aside0.mk (blk_below K1.out hb)
  replace BW := Aside0.mk (below_step BW.out hb)
  have Z4 := Aside0.mk (show w3.heap.size ≤ w4.heap.size from hb.size)
  have Oc4 := Aside0.mk hO
  have Lc4 := Aside0.mk hl
  clear hb hl hO
  have hz1 : w4.cell? ⟨g1, 0, none⟩ = some (.slice A0 l0.length c0) := (blk_cell K1.out 0).trans rfl
  have hf1 := blk_frozen K1.out 0
  go_wp2_with (fail)
  clear hz1 hf1
  refine (HS.out _ Ac3 cc3 Ac4 cc4 Oc3.out.C Lc3.out Oc4.out.C Lc4.out).mono ?_
  rintro e w5 ⟨Aw, cw, rfl, hlw, hCw, hb⟩
  replace Oc3 := Aside0.mk (Oc3.out.below hb)
  replace Oc4 := Aside0.mk (Oc4.out.below hb)
  replace K1 := Aside0.mk (blk_below K1.out hb)
  replace BW := Aside0.mk (below_step BW.out hb)
  have Z5 := Aside0.mk (show w4.heap.size ≤ w5.heap.size from hb.size)
  have LW := Aside0.mk hlw
  have CW := Aside0.mk hCw
  have B0 := Aside0.mk BW.out
  have BS := Aside0.mk (Below.refl w5.heap.size w5)
  replace BZ := Aside0.mk BW.out.size
  clear hb hlw hCw HS
  clear Oc3 Lc3
  clear Oc4 Lc4
  have G1_ := Aside0.mk (show g1 < w5.heap.size from blk_lt K1.out)
  have hz1 : w5.cell? ⟨g1, 0, none⟩ = some (.slice A0 l0.length c0) := (blk_cell K1.out 0).trans rfl
  have hf1 := blk_frozen K1.out 0
  go_wp2_with (fail)
  clear hz1 hf1
  refine (copyM_any A0 c0 l0 _ HF0.out (Kd.C_below HR0.out BW.out) HC0.out).mono ?_
  rintro e w6 ⟨Ac6, cc6, rfl, hl, hO, hb⟩
  replace K1 := Aside0.mk (blk_below K1.out hb)
  replace BW := Aside0.mk (below_step BW.out hb)
  replace BS := Aside0.mk (below_step BS.out hb)
  have Z6 := Aside0.mk (show w5.heap.size ≤ w6.heap.size from hb.size)
  have Oc6 := Aside0.mk (hO.lower (base' := w5.heap.size) (by have := G1_.out; have := Z6.out; omega))
  have Lc6 := Aside0.mk hl
  clear hb hl hO
  have hz1 : w6.cell? ⟨g1, 0, none⟩ = some (.slice A0 l0.length c0) := (blk_cell K1.out 0).trans rfl
  have hf1 := blk_frozen K1.out 0
  go_wp2_with (first | ((with_reducible refine gate_dst (N := 8) rfl ?_); refine box_event ?hg (N := 8) ?hd (cs := #[.slice none 0 0]) (t := 27) ?hr ?_; (case hd => rfl); (case hg => rfl); (case hr => first | (go_simp; done) | (go_simp; rfl)); intro g2 hg w7 hbox hb; clear hz1 hf1; replace Oc6 := Aside0.mk (Oc6.out.below hb); replace K1 := Aside0.mk (blk_below K1.out hb); replace BW := Aside0.mk (below_step BW.out hb); replace BS := Aside0.mk (below_step BS.out hb); have Z7 := Aside0.mk (show w6.heap.size ≤ w7.heap.size from hb.size); have K2 := Aside0.mk hbox; have G2 := Aside0.mk (show g2 = w6.heap.size ∧ g2 < w7.heap.size from ⟨hg, blk_lt hbox⟩); clear hb hbox hg; have hz1 : w7.cell? ⟨g1, 0, none⟩ = some (.slice A0 l0.length c0) := (blk_cell K1.out 0).trans rfl; have hf1 := blk_frozen K1.out 0; have hz2 : w7.cell? ⟨g2, 0, none⟩ = some (.slice none 0 0) := (blk_cell K2.out 0).trans rfl; have hf2 := blk_frozen K2.out 0; have hn1_2 : g1 ≠ g2 := (by have := G1_.out; have := Z6.out; have := Z7.out; have := G2.out; omega); have hn2_1 : g2 ≠ g1 := (by have := G1_.out; have := Z6.out; have := Z7.out; have := G2.out; omega)))
  clear hz1 hf1 hz2 hf2 hn1_2 hn2_1
  obtain ⟨w8, hw⟩ : ∃ x, x = w7.setCell ⟨g2, 0, none⟩ (.slice Ac6 l0.length cc6) := ⟨_, rfl⟩
  rw [← hw]
  have hk : Kept w7 w8 (fun k => g2 ≤ k ∧ k < g2 + 1) := by
    rw [hw]
    exact Kept.setCell (Kept.refl _ _) (.inl ⟨Nat.le_refl _, Nat.lt_succ_self _⟩) _
  have hkb : w8.heap[g2]? = some (.cells #[.slice Ac6 l0.length cc6] 27 (0, 0)) := by
    rw [hw]
    simpa using blk_set K2.out 0 (.slice Ac6 l0.length cc6)
  replace BW := Aside0.mk (show Below w.heap.size w w8 by
    rw [hw]
    exact below_set BW.out (by have := BZ.out; have := G1_.out; have := Z6.out; have := Z7.out; have := G2.out; omega))
  replace BS := Aside0.mk (show Below w5.heap.size w5 w8 by
    rw [hw]
    exact below_set BS.out (by have := G1_.out; have := Z6.out; have := Z7.out; have := G2.out; omega))
  have Z8 := Aside0.mk (show w7.heap.size ≤ w8.heap.size from hk.1)
  clear hw
  replace Oc6 := Aside0.mk (Oc6.out.kept hk (by have := G1_.out; have := Z6.out; have := Z7.out; have := G2.out; have := Z8.out; omega))
  replace K1 := Aside0.mk (blk_kept K1.out hk (fun hh => by have := G1_.out; have := Z6.out; have := Z7.out; have := G2.out; have := Z8.out; obtain ⟨h1, h2⟩ := hh; omega))
  replace K2 := Aside0.mk hkb
  clear hk hkb
  refine (copyI_any A1 c1 l1 _ HF1.out (Kd.C_below HR1.out BW.out) HC1.out).mono ?_
  rintro e w9 ⟨Ac9, cc9, rfl, hl, hO, hb⟩
  replace Oc6 := Aside0.mk (Oc6.out.below hb)
  replace K1 := Aside0.mk (blk_below K1.out hb)
  replace K2 := Aside0.mk (blk_below K2.out hb)
  replace BW := Aside0.mk (below_step BW.out hb)
  replace BS := Aside0.mk (below_step BS.out hb)
  have Z9 := Aside0.mk (show w8.heap.size ≤ w9.heap.size from hb.size)
  have Oc9 := Aside0.mk (hO.lower (base' := w5.heap.size) (by have := G1_.out; have := Z6.out; have := Z7.out; have := G2.out; have := Z8.out; have := Z9.out; omega))
  have Lc9 := Aside0.mk hl
  clear hb hl hO
  have hz1 : w9.cell? ⟨g1, 0, none⟩ = some (.slice A0 l0.length c0) := (blk_cell K1.out 0).trans rfl
  have hf1 := blk_frozen K1.out 0
  have hz2 : w9.cell? ⟨g2, 0, none⟩ = some (.slice Ac6 l0.length cc6) := (blk_cell K2.out 0).trans rfl
  have hf2 := blk_frozen K2.out 0
  have hn1_2 : g1 ≠ g2 := (by have := G1_.out; have := Z6.out; have := Z7.out; have := G2.out; have := Z8.out; have := Z9.out; omega)
  have hn2_1 : g2 ≠ g1 := (by have := G1_.out; have := Z6.out; have := Z7.out; have := G2.out; have := Z8.out; have := Z9.out; omega)
  go_wp2_with (fail)
  clear hz1 hf1 hz2 hf2 hn1_2 hn2_1
  refine (HI.out _ Ac6 cc6 Ac9 cc9 Oc6.out.C Lc6.out Oc9.out.C Lc9.out).mono ?_
  rintro e w10 ⟨vg10, rfl, hS, hb⟩
  replace Oc6 := Aside0.mk (Oc6.out.below hb)
  replace Oc9 := Aside0.mk (Oc9.out.below hb)
  replace K1 := Aside0.mk (blk_below K1.out hb)
  replace K2 := Aside0.mk (blk_below K2.out hb)
  replace BW := Aside0.mk (below_step BW.out hb)
  replace BS := Aside0.mk (below_step BS.out hb)
  have Z10 := Aside0.mk (show w9.heap.size ≤ w10.heap.size from hb.size)
  obtain ⟨Ag10, cg10, rfl, hl, hO⟩ := OwnI.of hS
  clear hS
  have Og10 := Aside0.mk (hO.lower (base' := w5.heap.size) (by have := G1_.out; have := Z6.out; have := Z7.out; have := G2.out; have := Z8.out; have := Z9.out; have := Z10.out; omega))
  have Lg10 := Aside0.mk hl
  clear hb hl hO
  have hz1 : w10.cell? ⟨g1, 0, none⟩ = some (.slice A0 l0.length c0) := (blk_cell K1.out 0).trans rfl
  have hf1 := blk_frozen K1.out 0
  have hz2 : w10.cell? ⟨g2, 0, none⟩ = some (.slice Ac6 l0.length cc6) := (blk_cell K2.out 0).trans rfl
  have hf2 := blk_frozen K2.out 0
  have hn1_2 : g1 ≠ g2 := (by have := G1_.out; have := Z6.out; have := Z7.out; have := G2.out; have := Z8.out; have := Z9.out; have := Z10.out; omega)
  have hn2_1 : g2 ≠ g1 := (by have := G1_.out; have := Z6.out; have := Z7.out; have := G2.out; have := Z8.out; have := Z9.out; have := Z10.out; omega)
  go_wp2_with (fail)
  clear hz1 hf1 hz2 hf2 hn1_2 hn2_1
  refine (sameI_any Ag10 Aw cg10 cw G _ HG1.out Og10.out.C Lg10.out (Kd.C_below CW.out BS.out) LW.out).mono ?_
  rintro e w11 ⟨rfl, hb⟩
  replace Oc6 := Aside0.mk (Oc6.out.below hb)
  replace Oc9 := Aside0.mk (Oc9.out.below hb)
  replace Og10 := Aside0.mk (Og10.out.below hb)
  replace K1 := Aside0.mk (blk_below K1.out hb)
  replace K2 := Aside0.mk (blk_below K2.out hb)
  replace BW := Aside0.mk (below_step BW.out hb)
  replace BS := Aside0.mk (below_step BS.out hb)
  have Z11 := Aside0.mk (show w10.heap.size ≤ w11.heap.size from hb.size)
  clear hb
  have hz1 : w11.cell? ⟨g1, 0, none⟩ = some (.slice A0 l0.length c0) := (blk_cell K1.out 0).trans rfl
  have hf1 := blk_frozen K1.out 0
  have hz2 : w11.cell? ⟨g2, 0, none⟩ = some (.slice Ac6 l0.length cc6) := (blk_cell K2.out 0).trans rfl
  have hf2 := blk_frozen K2.out 0
  have hn1_2 : g1 ≠ g2 := (by have := G1_.out; have := Z6.out; have := Z7.out; have := G2.out; have := Z8.out; have := Z9.out; have := Z10.out; have := Z11.out; omega)
  have hn2_1 : g2 ≠ g1 := (by have := G1_.out; have := Z6.out; have := Z7.out; have := G2.out; have := Z8.out; have := Z9.out; have := Z10.out; have := Z11.out; omega)
  go_wp2_with (fail)
  clear hz1 hf1 hz2 hf2 hn1_2 hn2_1
  replace Oc6 := Aside0.mk (Oc6.out.drew)
  replace Oc9 := Aside0.mk (Oc9.out.drew)
  replace Og10 := Aside0.mk (Og10.out.drew)
  replace K1 := Aside0.mk (blk_drew K1.out)
  replace K2 := Aside0.mk (blk_drew K2.out)
  replace BW := Aside0.mk (below_drew1 BW.out)
  replace BS := Aside0.mk (below_drew1 BS.out)
  have Z12 := Aside0.mk (show w11.heap.size ≤ w11.drew.heap.size from Nat.le_refl _)
  refine start_ (n := 5) (S := fun w' => w'.cell? ⟨g2, 0, none⟩ = some (.slice Ac6 l0.length cc6) ∧ w'.cell? ⟨g1, 0, none⟩ = some (.slice A0 l0.length c0)) (ds := []) #[false, false, false, false, false] (by kernel_rfl) rfl rfl ⟨(blk_cell K2.out 0).trans rfl, (blk_cell K1.out 0).trans rfl⟩ (fun hHeld => ?_)
  generalize w11.drew = w12 at Oc6 Oc9 Og10 K1 K2 BW Z12 BS hHeld ⊢
  refine take_ (i := 0) (N := some 52) (v := ?_) (a' := ?_) #[true, false, false, false, false] rfl rfl (by kernel_rfl) (fun _ _ _ h => h) (Or.inl ⟨by rfl, ?_⟩) hHeld ?_ ?_
  rotate_left
  · rintro w' ⟨s0, s1⟩
    go_simp
    with_reducible rfl
  rotate_left
  · simp only [Act.put, List.setIfInBounds_toArray, List.set_cons_zero, List.set_cons_succ, i64_w, i32_w]
    rfl
  refine take_ (i := 1) (N := some 53) (v := ?_) (a' := ?_) #[true, true, false, false, false] rfl rfl (by kernel_rfl) (fun _ _ _ h => h) (Or.inl ⟨by rfl, ?_⟩) hHeld ?_ ?_
  rotate_left
  · rintro w' ⟨s0, s1⟩
    go_simp
    with_reducible rfl
  rotate_left
  · simp only [Act.put, List.setIfInBounds_toArray, List.set_cons_zero, List.set_cons_succ, i64_w, i32_w]
    rfl
  refine one_ (i := 2) (N := some 54) #[true, true, true, false, false] rfl rfl (by kernel_rfl) (by decide) (fun K hK => ?_)
  refine goes_ Try.func14 (by kernel_rfl) rfl #[.agg #[.slice A0 l0.length c0]] (by rfl) rfl rfl (by (try simp only [List.map_toArray, List.map_cons, List.map_nil]); first | done | rfl | (simp only [List.length_drop, List.length_take]; rfl)) ?_
  refine (copyM_any A0 c0 l0 _ HF0.out (Kd.C_below HR0.out BW.out) HC0.out).mono ?_
  rintro e w13 ⟨Ac13, cc13, rfl, hl, hO, hb⟩
  refine ⟨_, rfl, ?_⟩
  replace Oc6 := Aside0.mk (Oc6.out.below hb)
  replace Oc9 := Aside0.mk (Oc9.out.below hb)
  replace Og10 := Aside0.mk (Og10.out.below hb)
  replace K1 := Aside0.mk (blk_below K1.out hb)
  replace K2 := Aside0.mk (blk_below K2.out hb)
  replace BW := Aside0.mk (below_step BW.out hb)
  replace BS := Aside0.mk (below_step BS.out hb)
  have Z13 := Aside0.mk (show w12.heap.size ≤ w13.heap.size from hb.size)
  have Oc13 := Aside0.mk (hO.lower (base' := w5.heap.size) (by have := G1_.out; have := Z6.out; have := Z7.out; have := G2.out; have := Z8.out; have := Z9.out; have := Z10.out; have := Z11.out; have := Z12.out; have := Z13.out; omega))
  have Lc13 := Aside0.mk hl
  clear hb hl hO
  refine hK.out _ _ ⟨(blk_cell K2.out 0).trans rfl, (blk_cell K1.out 0).trans rfl⟩ (fun hHeld => ?_)
  clear hK K
  refine norm_ (a' := ?_) ?_ ?_
  rotate_left
  · show Act.put _ (some 54) _ = _
    simp only [Act.put, List.setIfInBounds_toArray, List.set_cons_zero, List.set_cons_succ, i64_w, i32_w]
    rfl
  refine one_ (i := 3) (N := some 55) #[true, true, true, true, false] rfl rfl (by kernel_rfl) (by decide) (fun K hK => ?_)
  refine goes_ Try.func16 (by kernel_rfl) rfl #[.agg #[.slice Ac6 l0.length cc6], .agg #[.slice Ac13 l0.length cc13]] (by rfl) rfl rfl (by (try simp only [List.map_toArray, List.map_cons, List.map_nil]); first | done | rfl | (simp only [List.length_drop, List.length_take]; rfl)) ?_
  refine (sameM_any Ac6 Ac13 cc6 cc13 l0 _ HF0.out Oc6.out.C Lc6.out Oc13.out.C Lc13.out).mono ?_
  rintro e w14 ⟨rfl, hb⟩
  refine ⟨_, rfl, ?_⟩
  replace Oc6 := Aside0.mk (Oc6.out.below hb)
  replace Oc9 := Aside0.mk (Oc9.out.below hb)
  replace Og10 := Aside0.mk (Og10.out.below hb)
  replace Oc13 := Aside0.mk (Oc13.out.below hb)
  replace K1 := Aside0.mk (blk_below K1.out hb)
  replace K2 := Aside0.mk (blk_below K2.out hb)
  replace BW := Aside0.mk (below_step BW.out hb)
  replace BS := Aside0.mk (below_step BS.out hb)
  have Z14 := Aside0.mk (show w13.heap.size ≤ w14.heap.size from hb.size)
  clear hb
  refine hK.out _ _ ⟨(blk_cell K2.out 0).trans rfl, (blk_cell K1.out 0).trans rfl⟩ (fun hHeld => ?_)
  clear hK K
  refine norm_ (a' := ?_) ?_ ?_
  rotate_left
  · show Act.put _ (some 55) _ = _
    simp only [Act.put, List.setIfInBounds_toArray, List.set_cons_zero, List.set_cons_succ, i64_w, i32_w]
    rfl
  refine pure_ (i := 4) (N := some 56) (v := ?_) (a' := ?_) #[true, true, true, true, true] rfl rfl (by kernel_rfl) (fun _ _ _ h => h) (Or.inl ⟨by rfl, ?_⟩) ?_ ?_
  rotate_left
  · intro w'
    go_simp
    with_reducible rfl
  rotate_left
  · simp only [Act.put, List.setIfInBounds_toArray, List.set_cons_zero, List.set_cons_succ, i64_w, i32_w]
    rfl
  refine done_ (by kernel_rfl) ?_
  have hz1 : w14.cell? ⟨g1, 0, none⟩ = some (.slice A0 l0.length c0) := (blk_cell K1.out 0).trans rfl
  have hf1 := blk_frozen K1.out 0
  have hz2 : w14.cell? ⟨g2, 0, none⟩ = some (.slice Ac6 l0.length cc6) := (blk_cell K2.out 0).trans rfl
  have hf2 := blk_frozen K2.out 0
  have hn1_2 : g1 ≠ g2 := (by have := G1_.out; have := Z6.out; have := Z7.out; have := G2.out; have := Z8.out; have := Z9.out; have := Z10.out; have := Z11.out; have := Z12.out; have := Z13.out; have := Z14.out; omega)
  have hn2_1 : g2 ≠ g1 := (by have := G1_.out; have := Z6.out; have := Z7.out; have := G2.out; have := Z8.out; have := Z9.out; have := Z10.out; have := Z11.out; have := Z12.out; have := Z13.out; have := Z14.out; omega)
  go_wp2_with (fail)
  clear hz1 hf1 hz2 hf2 hn1_2 hn2_1
  refine (copyI_any A1 c1 l1 _ HF1.out (Kd.C_below HR1.out BW.out) HC1.out).mono ?_
  rintro e w15 ⟨Ac15, cc15, rfl, hl, hO, hb⟩
  replace Oc6 := Aside0.mk (Oc6.out.below hb)
  replace Oc9 := Aside0.mk (Oc9.out.below hb)
  replace Og10 := Aside0.mk (Og10.out.below hb)
  replace Oc13 := Aside0.mk (Oc13.out.below hb)
  replace K1 := Aside0.mk (blk_below K1.out hb)
  replace K2 := Aside0.mk (blk_below K2.out hb)
  replace BW := Aside0.mk (below_step BW.out hb)
  replace BS := Aside0.mk (below_step BS.out hb)
  have Z15 := Aside0.mk (show w14.heap.size ≤ w15.heap.size from hb.size)
  have Oc15 := Aside0.mk (hO.lower (base' := w5.heap.size) (by have := G1_.out; have := Z6.out; have := Z7.out; have := G2.out; have := Z8.out; have := Z9.out; have := Z10.out; have := Z11.out; have := Z12.out; have := Z13.out; have := Z14.out; have := Z15.out; omega))
  have Lc15 := Aside0.mk hl
  clear hb hl hO
  have hz1 : w15.cell? ⟨g1, 0, none⟩ = some (.slice A0 l0.length c0) := (blk_cell K1.out 0).trans rfl
  have hf1 := blk_frozen K1.out 0
  have hz2 : w15.cell? ⟨g2, 0, none⟩ = some (.slice Ac6 l0.length cc6) := (blk_cell K2.out 0).trans rfl
  have hf2 := blk_frozen K2.out 0
  have hn1_2 : g1 ≠ g2 := (by have := G1_.out; have := Z6.out; have := Z7.out; have := G2.out; have := Z8.out; have := Z9.out; have := Z10.out; have := Z11.out; have := Z12.out; have := Z13.out; have := Z14.out; have := Z15.out; omega)
  have hn2_1 : g2 ≠ g1 := (by have := G1_.out; have := Z6.out; have := Z7.out; have := G2.out; have := Z8.out; have := Z9.out; have := Z10.out; have := Z11.out; have := Z12.out; have := Z13.out; have := Z14.out; have := Z15.out; omega)
  go_wp2_with (fail)
  clear hz1 hf1 hz2 hf2 hn1_2 hn2_1
  refine (sameI_any Ac9 Ac15 cc9 cc15 l1 _ HN1.out Oc9.out.C Lc9.out Oc15.out.C Lc15.out).mono ?_
  rintro e w16 ⟨rfl, hb⟩
  replace Oc6 := Aside0.mk (Oc6.out.below hb)
  replace Oc9 := Aside0.mk (Oc9.out.below hb)
  replace Og10 := Aside0.mk (Og10.out.below hb)
  replace Oc13 := Aside0.mk (Oc13.out.below hb)
  replace Oc15 := Aside0.mk (Oc15.out.below hb)
  replace K1 := Aside0.mk (blk_below K1.out hb)
  replace K2 := Aside0.mk (blk_below K2.out hb)
  replace BW := Aside0.mk (below_step BW.out hb)
  replace BS := Aside0.mk (below_step BS.out hb)
  have Z16 := Aside0.mk (show w15.heap.size ≤ w16.heap.size from hb.size)
  clear hb
  have hz1 : w16.cell? ⟨g1, 0, none⟩ = some (.slice A0 l0.length c0) := (blk_cell K1.out 0).trans rfl
  have hf1 := blk_frozen K1.out 0
  have hz2 : w16.cell? ⟨g2, 0, none⟩ = some (.slice Ac6 l0.length cc6) := (blk_cell K2.out 0).trans rfl
  have hf2 := blk_frozen K2.out 0
  have hn1_2 : g1 ≠ g2 := (by have := G1_.out; have := Z6.out; have := Z7.out; have := G2.out; have := Z8.out; have := Z9.out; have := Z10.out; have := Z11.out; have := Z12.out; have := Z13.out; have := Z14.out; have := Z15.out; have := Z16.out; omega)
  have hn2_1 : g2 ≠ g1 := (by have := G1_.out; have := Z6.out; have := Z7.out; have := G2.out; have := Z8.out; have := Z9.out; have := Z10.out; have := Z11.out; have := Z12.out; have := Z13.out; have := Z14.out; have := Z15.out; have := Z16.out; omega)
  go_wp2_with (fail)
  clear hz1 hf1 hz2 hf2 hn1_2 hn2_1
  refine (markM_any w5 w5.heap.size w6.heap.size Ac6 cc6 l0 (1) _ BS.out Oc6.out HN0.out HA0.out.1 HA0.out.2 (by have := G1_.out; have := Z6.out; have := Z7.out; have := G2.out; have := Z8.out; have := Z9.out; have := Z10.out; have := Z11.out; have := Z12.out; have := Z13.out; have := Z14.out; have := Z15.out; have := Z16.out; omega)).mono ?_
  rintro e w17 ⟨rfl, hO, hb, hk⟩
  replace BS := Aside0.mk hb
  replace BW := Aside0.mk (below_step B0.out hb)
  have Z17 := Aside0.mk (show w16.heap.size ≤ w17.heap.size from hk.1)
  replace Oc9 := Aside0.mk (Oc9.out.kept hk (by have := G1_.out; have := Z6.out; have := Z7.out; have := G2.out; have := Z8.out; have := Z9.out; have := Z10.out; have := Z11.out; have := Z12.out; have := Z13.out; have := Z14.out; have := Z15.out; have := Z16.out; have := Z17.out; omega))
  replace Og10 := Aside0.mk (Og10.out.kept hk (by have := G1_.out; have := Z6.out; have := Z7.out; have := G2.out; have := Z8.out; have := Z9.out; have := Z10.out; have := Z11.out; have := Z12.out; have := Z13.out; have := Z14.out; have := Z15.out; have := Z16.out; have := Z17.out; omega))
  replace Oc13 := Aside0.mk (Oc13.out.kept hk (by have := G1_.out; have := Z6.out; have := Z7.out; have := G2.out; have := Z8.out; have := Z9.out; have := Z10.out; have := Z11.out; have := Z12.out; have := Z13.out; have := Z14.out; have := Z15.out; have := Z16.out; have := Z17.out; omega))
  replace Oc15 := Aside0.mk (Oc15.out.kept hk (by have := G1_.out; have := Z6.out; have := Z7.out; have := G2.out; have := Z8.out; have := Z9.out; have := Z10.out; have := Z11.out; have := Z12.out; have := Z13.out; have := Z14.out; have := Z15.out; have := Z16.out; have := Z17.out; omega))
  replace K1 := Aside0.mk (blk_kept K1.out hk (fun hh => by have := G1_.out; have := Z6.out; have := Z7.out; have := G2.out; have := Z8.out; have := Z9.out; have := Z10.out; have := Z11.out; have := Z12.out; have := Z13.out; have := Z14.out; have := Z15.out; have := Z16.out; have := Z17.out; obtain ⟨h1, h2⟩ := hh; omega))
  replace K2 := Aside0.mk (blk_kept K2.out hk (fun hh => by have := G1_.out; have := Z6.out; have := Z7.out; have := G2.out; have := Z8.out; have := Z9.out; have := Z10.out; have := Z11.out; have := Z12.out; have := Z13.out; have := Z14.out; have := Z15.out; have := Z16.out; have := Z17.out; obtain ⟨h1, h2⟩ := hh; omega))
  replace Oc6 := Aside0.mk hO
  clear hb hO hk
  have hz1 : w17.cell? ⟨g1, 0, none⟩ = some (.slice A0 l0.length c0) := (blk_cell K1.out 0).trans rfl
  have hf1 := blk_frozen K1.out 0
  have hz2 : w17.cell? ⟨g2, 0, none⟩ = some (.slice Ac6 l0.length cc6) := (blk_cell K2.out 0).trans rfl
  have hf2 := blk_frozen K2.out 0
  have hn1_2 : g1 ≠ g2 := (by have := G1_.out; have := Z6.out; have := Z7.out; have := G2.out; have := Z8.out; have := Z9.out; have := Z10.out; have := Z11.out; have := Z12.out; have := Z13.out; have := Z14.out; have := Z15.out; have := Z16.out; have := Z17.out; omega)
  have hn2_1 : g2 ≠ g1 := (by have := G1_.out; have := Z6.out; have := Z7.out; have := G2.out; have := Z8.out; have := Z9.out; have := Z10.out; have := Z11.out; have := Z12.out; have := Z13.out; have := Z14.out; have := Z15.out; have := Z16.out; have := Z17.out; omega)
  go_wp2_with (fail)
  clear hz1 hf1 hz2 hf2 hn1_2 hn2_1
  refine (markI_any w5 w8.heap.size w9.heap.size Ac9 cc9 l1 (1 + ((tot l0 : Nat) : Int)) _ BS.out Oc9.out HN1.out HA1.out.1 HA1.out.2 (by have := G1_.out; have := Z6.out; have := Z7.out; have := G2.out; have := Z8.out; have := Z9.out; have := Z10.out; have := Z11.out; have := Z12.out; have := Z13.out; have := Z14.out; have := Z15.out; have := Z16.out; have := Z17.out; omega)).mono ?_
  rintro e w18 ⟨rfl, hO, hb, hk⟩
  replace BS := Aside0.mk hb
  replace BW := Aside0.mk (below_step B0.out hb)
  have Z18 := Aside0.mk (show w17.heap.size ≤ w18.heap.size from hk.1)
  replace Og10 := Aside0.mk (Og10.out.kept hk (by have := G1_.out; have := Z6.out; have := Z7.out; have := G2.out; have := Z8.out; have := Z9.out; have := Z10.out; have := Z11.out; have := Z12.out; have := Z13.out; have := Z14.out; have := Z15.out; have := Z16.out; have := Z17.out; have := Z18.out; omega))
  replace Oc13 := Aside0.mk (Oc13.out.kept hk (by have := G1_.out; have := Z6.out; have := Z7.out; have := G2.out; have := Z8.out; have := Z9.out; have := Z10.out; have := Z11.out; have := Z12.out; have := Z13.out; have := Z14.out; have := Z15.out; have := Z16.out; have := Z17.out; have := Z18.out; omega))
  replace Oc15 := Aside0.mk (Oc15.out.kept hk (by have := G1_.out; have := Z6.out; have := Z7.out; have := G2.out; have := Z8.out; have := Z9.out; have := Z10.out; have := Z11.out; have := Z12.out; have := Z13.out; have := Z14.out; have := Z15.out; have := Z16.out; have := Z17.out; have := Z18.out; omega))
  replace Oc6 := Aside0.mk (Oc6.out.kept hk (by have := G1_.out; have := Z6.out; have := Z7.out; have := G2.out; have := Z8.out; have := Z9.out; have := Z10.out; have := Z11.out; have := Z12.out; have := Z13.out; have := Z14.out; have := Z15.out; have := Z16.out; have := Z17.out; have := Z18.out; omega))
  replace K1 := Aside0.mk (blk_kept K1.out hk (fun hh => by have := G1_.out; have := Z6.out; have := Z7.out; have := G2.out; have := Z8.out; have := Z9.out; have := Z10.out; have := Z11.out; have := Z12.out; have := Z13.out; have := Z14.out; have := Z15.out; have := Z16.out; have := Z17.out; have := Z18.out; obtain ⟨h1, h2⟩ := hh; omega))
  replace K2 := Aside0.mk (blk_kept K2.out hk (fun hh => by have := G1_.out; have := Z6.out; have := Z7.out; have := G2.out; have := Z8.out; have := Z9.out; have := Z10.out; have := Z11.out; have := Z12.out; have := Z13.out; have := Z14.out; have := Z15.out; have := Z16.out; have := Z17.out; have := Z18.out; obtain ⟨h1, h2⟩ := hh; omega))
  replace Oc9 := Aside0.mk hO
  clear hb hO hk
  have hz1 : w18.cell? ⟨g1, 0, none⟩ = some (.slice A0 l0.length c0) := (blk_cell K1.out 0).trans rfl
  have hf1 := blk_frozen K1.out 0
  have hz2 : w18.cell? ⟨g2, 0, none⟩ = some (.slice Ac6 l0.length cc6) := (blk_cell K2.out 0).trans rfl
  have hf2 := blk_frozen K2.out 0
  have hn1_2 : g1 ≠ g2 := (by have := G1_.out; have := Z6.out; have := Z7.out; have := G2.out; have := Z8.out; have := Z9.out; have := Z10.out; have := Z11.out; have := Z12.out; have := Z13.out; have := Z14.out; have := Z15.out; have := Z16.out; have := Z17.out; have := Z18.out; omega)
  have hn2_1 : g2 ≠ g1 := (by have := G1_.out; have := Z6.out; have := Z7.out; have := G2.out; have := Z8.out; have := Z9.out; have := Z10.out; have := Z11.out; have := Z12.out; have := Z13.out; have := Z14.out; have := Z15.out; have := Z16.out; have := Z17.out; have := Z18.out; omega)
  go_wp2_with (fail)
  clear hz1 hf1 hz2 hf2 hn1_2 hn2_1
  refine (sameI_any Ag10 Aw cg10 cw G _ HG1.out Og10.out.C Lg10.out (Kd.C_below CW.out BS.out) LW.out).mono ?_
  rintro e w19 ⟨rfl, hb⟩
  replace Og10 := Aside0.mk (Og10.out.below hb)
  replace Oc13 := Aside0.mk (Oc13.out.below hb)
  replace Oc15 := Aside0.mk (Oc15.out.below hb)
  replace Oc6 := Aside0.mk (Oc6.out.below hb)
  replace Oc9 := Aside0.mk (Oc9.out.below hb)
  replace K1 := Aside0.mk (blk_below K1.out hb)
  replace K2 := Aside0.mk (blk_below K2.out hb)
  replace BW := Aside0.mk (below_step BW.out hb)
  replace BS := Aside0.mk (below_step BS.out hb)
  have Z19 := Aside0.mk (show w18.heap.size ≤ w19.heap.size from hb.size)
  clear hb
  have hz1 : w19.cell? ⟨g1, 0, none⟩ = some (.slice A0 l0.length c0) := (blk_cell K1.out 0).trans rfl
  have hf1 := blk_frozen K1.out 0
  have hz2 : w19.cell? ⟨g2, 0, none⟩ = some (.slice Ac6 l0.length cc6) := (blk_cell K2.out 0).trans rfl
  have hf2 := blk_frozen K2.out 0
  have hn1_2 : g1 ≠ g2 := (by have := G1_.out; have := Z6.out; have := Z7.out; have := G2.out; have := Z8.out; have := Z9.out; have := Z10.out; have := Z11.out; have := Z12.out; have := Z13.out; have := Z14.out; have := Z15.out; have := Z16.out; have := Z17.out; have := Z18.out; have := Z19.out; omega)
  have hn2_1 : g2 ≠ g1 := (by have := G1_.out; have := Z6.out; have := Z7.out; have := G2.out; have := Z8.out; have := Z9.out; have := Z10.out; have := Z11.out; have := Z12.out; have := Z13.out; have := Z14.out; have := Z15.out; have := Z16.out; have := Z17.out; have := Z18.out; have := Z19.out; omega)
  go_wp2_with (fail)
  clear hz1 hf1 hz2 hf2 hn1_2 hn2_1
  refine (markI_any w5 w9.heap.size w10.heap.size Ag10 cg10 G 1 _ BS.out Og10.out HG1.out (by omega) HG2.out (by have := G1_.out; have := Z6.out; have := Z7.out; have := G2.out; have := Z8.out; have := Z9.out; have := Z10.out; have := Z11.out; have := Z12.out; have := Z13.out; have := Z14.out; have := Z15.out; have := Z16.out; have := Z17.out; have := Z18.out; have := Z19.out; omega)).mono ?_
  rintro e w20 ⟨rfl, hO, hb, hk⟩
  replace BS := Aside0.mk hb
  replace BW := Aside0.mk (below_step B0.out hb)
  have Z20 := Aside0.mk (show w19.heap.size ≤ w20.heap.size from hk.1)
  replace Oc13 := Aside0.mk (Oc13.out.kept hk (by have := G1_.out; have := Z6.out; have := Z7.out; have := G2.out; have := Z8.out; have := Z9.out; have := Z10.out; have := Z11.out; have := Z12.out; have := Z13.out; have := Z14.out; have := Z15.out; have := Z16.out; have := Z17.out; have := Z18.out; have := Z19.out; have := Z20.out; omega))
  replace Oc15 := Aside0.mk (Oc15.out.kept hk (by have := G1_.out; have := Z6.out; have := Z7.out; have := G2.out; have := Z8.out; have := Z9.out; have := Z10.out; have := Z11.out; have := Z12.out; have := Z13.out; have := Z14.out; have := Z15.out; have := Z16.out; have := Z17.out; have := Z18.out; have := Z19.out; have := Z20.out; omega))
  replace Oc6 := Aside0.mk (Oc6.out.kept hk (by have := G1_.out; have := Z6.out; have := Z7.out; have := G2.out; have := Z8.out; have := Z9.out; have := Z10.out; have := Z11.out; have := Z12.out; have := Z13.out; have := Z14.out; have := Z15.out; have := Z16.out; have := Z17.out; have := Z18.out; have := Z19.out; have := Z20.out; omega))
  replace Oc9 := Aside0.mk (Oc9.out.kept hk (by have := G1_.out; have := Z6.out; have := Z7.out; have := G2.out; have := Z8.out; have := Z9.out; have := Z10.out; have := Z11.out; have := Z12.out; have := Z13.out; have := Z14.out; have := Z15.out; have := Z16.out; have := Z17.out; have := Z18.out; have := Z19.out; have := Z20.out; omega))
  replace K1 := Aside0.mk (blk_kept K1.out hk (fun hh => by have := G1_.out; have := Z6.out; have := Z7.out; have := G2.out; have := Z8.out; have := Z9.out; have := Z10.out; have := Z11.out; have := Z12.out; have := Z13.out; have := Z14.out; have := Z15.out; have := Z16.out; have := Z17.out; have := Z18.out; have := Z19.out; have := Z20.out; obtain ⟨h1, h2⟩ := hh; omega))
  replace K2 := Aside0.mk (blk_kept K2.out hk (fun hh => by have := G1_.out; have := Z6.out; have := Z7.out; have := G2.out; have := Z8.out; have := Z9.out; have := Z10.out; have := Z11.out; have := Z12.out; have := Z13.out; have := Z14.out; have := Z15.out; have := Z16.out; have := Z17.out; have := Z18.out; have := Z19.out; have := Z20.out; obtain ⟨h1, h2⟩ := hh; omega))
  replace Og10 := Aside0.mk hO
  clear hb hO hk
  have hz1 : w20.cell? ⟨g1, 0, none⟩ = some (.slice A0 l0.length c0) := (blk_cell K1.out 0).trans rfl
  have hf1 := blk_frozen K1.out 0
  have hz2 : w20.cell? ⟨g2, 0, none⟩ = some (.slice Ac6 l0.length cc6) := (blk_cell K2.out 0).trans rfl
  have hf2 := blk_frozen K2.out 0
  have hn1_2 : g1 ≠ g2 := (by have := G1_.out; have := Z6.out; have := Z7.out; have := G2.out; have := Z8.out; have := Z9.out; have := Z10.out; have := Z11.out; have := Z12.out; have := Z13.out; have := Z14.out; have := Z15.out; have := Z16.out; have := Z17.out; have := Z18.out; have := Z19.out; have := Z20.out; omega)
  have hn2_1 : g2 ≠ g1 := (by have := G1_.out; have := Z6.out; have := Z7.out; have := G2.out; have := Z8.out; have := Z9.out; have := Z10.out; have := Z11.out; have := Z12.out; have := Z13.out; have := Z14.out; have := Z15.out; have := Z16.out; have := Z17.out; have := Z18.out; have := Z19.out; have := Z20.out; omega)
  go_wp2_with (fail)
  clear hz1 hf1 hz2 hf2 hn1_2 hn2_1
  refine (heldI_any Ag10 cg10 G 1 _ HG1.out (by omega) HG2.out Og10.out.C Lg10.out).mono ?_
  rintro e w21 ⟨rfl, hb⟩
  replace Oc13 := Aside0.mk (Oc13.out.below hb)
  replace Oc15 := Aside0.mk (Oc15.out.below hb)
  replace Oc6 := Aside0.mk (Oc6.out.below hb)
  replace Oc9 := Aside0.mk (Oc9.out.below hb)
  replace Og10 := Aside0.mk (Og10.out.below hb)
  replace K1 := Aside0.mk (blk_below K1.out hb)
  replace K2 := Aside0.mk (blk_below K2.out hb)
  replace BW := Aside0.mk (below_step BW.out hb)
  replace BS := Aside0.mk (below_step BS.out hb)
  have Z21 := Aside0.mk (show w20.heap.size ≤ w21.heap.size from hb.size)
  clear hb
  have hz1 : w21.cell? ⟨g1, 0, none⟩ = some (.slice A0 l0.length c0) := (blk_cell K1.out 0).trans rfl
  have hf1 := blk_frozen K1.out 0
  have hz2 : w21.cell? ⟨g2, 0, none⟩ = some (.slice Ac6 l0.length cc6) := (blk_cell K2.out 0).trans rfl
  have hf2 := blk_frozen K2.out 0
  have hn1_2 : g1 ≠ g2 := (by have := G1_.out; have := Z6.out; have := Z7.out; have := G2.out; have := Z8.out; have := Z9.out; have := Z10.out; have := Z11.out; have := Z12.out; have := Z13.out; have := Z14.out; have := Z15.out; have := Z16.out; have := Z17.out; have := Z18.out; have := Z19.out; have := Z20.out; have := Z21.out; omega)
  have hn2_1 : g2 ≠ g1 := (by have := G1_.out; have := Z6.out; have := Z7.out; have := G2.out; have := Z8.out; have := Z9.out; have := Z10.out; have := Z11.out; have := Z12.out; have := Z13.out; have := Z14.out; have := Z15.out; have := Z16.out; have := Z17.out; have := Z18.out; have := Z19.out; have := Z20.out; have := Z21.out; omega)
  go_wp2_with (fail)
  clear hz1 hf1 hz2 hf2 hn1_2 hn2_1
  refine (copyM_any A0 c0 l0 _ HF0.out (Kd.C_below HR0.out BW.out) HC0.out).mono ?_
  rintro e w22 ⟨Ac22, cc22, rfl, hl, hO, hb⟩
  replace Oc13 := Aside0.mk (Oc13.out.below hb)
  replace Oc15 := Aside0.mk (Oc15.out.below hb)
  replace Oc6 := Aside0.mk (Oc6.out.below hb)
  replace Oc9 := Aside0.mk (Oc9.out.below hb)
  replace Og10 := Aside0.mk (Og10.out.below hb)
  replace K1 := Aside0.mk (blk_below K1.out hb)
  replace K2 := Aside0.mk (blk_below K2.out hb)
  replace BW := Aside0.mk (below_step BW.out hb)
  replace BS := Aside0.mk (below_step BS.out hb)
  have Z22 := Aside0.mk (show w21.heap.size ≤ w22.heap.size from hb.size)
  have Oc22 := Aside0.mk (hO.lower (base' := w5.heap.size) (by have := G1_.out; have := Z6.out; have := Z7.out; have := G2.out; have := Z8.out; have := Z9.out; have := Z10.out; have := Z11.out; have := Z12.out; have := Z13.out; have := Z14.out; have := Z15.out; have := Z16.out; have := Z17.out; have := Z18.out; have := Z19.out; have := Z20.out; have := Z21.out; have := Z22.out; omega))
  have Lc22 := Aside0.mk hl
  clear hb hl hO
  have hz1 : w22.cell? ⟨g1, 0, none⟩ = some (.slice A0 l0.length c0) := (blk_cell K1.out 0).trans rfl
  have hf1 := blk_frozen K1.out 0
  have hz2 : w22.cell? ⟨g2, 0, none⟩ = some (.slice Ac6 l0.length cc6) := (blk_cell K2.out 0).trans rfl
  have hf2 := blk_frozen K2.out 0
  have hn1_2 : g1 ≠ g2 := (by have := G1_.out; have := Z6.out; have := Z7.out; have := G2.out; have := Z8.out; have := Z9.out; have := Z10.out; have := Z11.out; have := Z12.out; have := Z13.out; have := Z14.out; have := Z15.out; have := Z16.out; have := Z17.out; have := Z18.out; have := Z19.out; have := Z20.out; have := Z21.out; have := Z22.out; omega)
  have hn2_1 : g2 ≠ g1 := (by have := G1_.out; have := Z6.out; have := Z7.out; have := G2.out; have := Z8.out; have := Z9.out; have := Z10.out; have := Z11.out; have := Z12.out; have := Z13.out; have := Z14.out; have := Z15.out; have := Z16.out; have := Z17.out; have := Z18.out; have := Z19.out; have := Z20.out; have := Z21.out; have := Z22.out; omega)
  go_wp2_with (fail)
  clear hz1 hf1 hz2 hf2 hn1_2 hn2_1
  refine (copyI_any A1 c1 l1 _ HF1.out (Kd.C_below HR1.out BW.out) HC1.out).mono ?_
  rintro e w23 ⟨Ac23, cc23, rfl, hl, hO, hb⟩
  replace Oc13 := Aside0.mk (Oc13.out.below hb)
  replace Oc15 := Aside0.mk (Oc15.out.below hb)
  replace Oc6 := Aside0.mk (Oc6.out.below hb)
  replace Oc9 := Aside0.mk (Oc9.out.below hb)
  replace Og10 := Aside0.mk (Og10.out.below hb)
  replace Oc22 := Aside0.mk (Oc22.out.below hb)
  replace K1 := Aside0.mk (blk_below K1.out hb)
  replace K2 := Aside0.mk (blk_below K2.out hb)
  replace BW := Aside0.mk (below_step BW.out hb)
  replace BS := Aside0.mk (below_step BS.out hb)
  have Z23 := Aside0.mk (show w22.heap.size ≤ w23.heap.size from hb.size)
  have Oc23 := Aside0.mk (hO.lower (base' := w5.heap.size) (by have := G1_.out; have := Z6.out; have := Z7.out; have := G2.out; have := Z8.out; have := Z9.out; have := Z10.out; have := Z11.out; have := Z12.out; have := Z13.out; have := Z14.out; have := Z15.out; have := Z16.out; have := Z17.out; have := Z18.out; have := Z19.out; have := Z20.out; have := Z21.out; have := Z22.out; have := Z23.out; omega))
  have Lc23 := Aside0.mk hl
  clear hb hl hO
  have hz1 : w23.cell? ⟨g1, 0, none⟩ = some (.slice A0 l0.length c0) := (blk_cell K1.out 0).trans rfl
  have hf1 := blk_frozen K1.out 0
  have hz2 : w23.cell? ⟨g2, 0, none⟩ = some (.slice Ac6 l0.length cc6) := (blk_cell K2.out 0).trans rfl
  have hf2 := blk_frozen K2.out 0
  have hn1_2 : g1 ≠ g2 := (by have := G1_.out; have := Z6.out; have := Z7.out; have := G2.out; have := Z8.out; have := Z9.out; have := Z10.out; have := Z11.out; have := Z12.out; have := Z13.out; have := Z14.out; have := Z15.out; have := Z16.out; have := Z17.out; have := Z18.out; have := Z19.out; have := Z20.out; have := Z21.out; have := Z22.out; have := Z23.out; omega)
  have hn2_1 : g2 ≠ g1 := (by have := G1_.out; have := Z6.out; have := Z7.out; have := G2.out; have := Z8.out; have := Z9.out; have := Z10.out; have := Z11.out; have := Z12.out; have := Z13.out; have := Z14.out; have := Z15.out; have := Z16.out; have := Z17.out; have := Z18.out; have := Z19.out; have := Z20.out; have := Z21.out; have := Z22.out; have := Z23.out; omega)
  go_wp2_with (fail)
  clear hz1 hf1 hz2 hf2 hn1_2 hn2_1
  refine (HI.out _ Ac22 cc22 Ac23 cc23 Oc22.out.C Lc22.out Oc23.out.C Lc23.out).mono ?_
  rintro e w24 ⟨vg24, rfl, hS, hb⟩
  replace Oc13 := Aside0.mk (Oc13.out.below hb)
  replace Oc15 := Aside0.mk (Oc15.out.below hb)
  replace Oc6 := Aside0.mk (Oc6.out.below hb)
  replace Oc9 := Aside0.mk (Oc9.out.below hb)
  replace Og10 := Aside0.mk (Og10.out.below hb)
  replace Oc22 := Aside0.mk (Oc22.out.below hb)
  replace Oc23 := Aside0.mk (Oc23.out.below hb)
  replace K1 := Aside0.mk (blk_below K1.out hb)
  replace K2 := Aside0.mk (blk_below K2.out hb)
  replace BW := Aside0.mk (below_step BW.out hb)
  replace BS := Aside0.mk (below_step BS.out hb)
  have Z24 := Aside0.mk (show w23.heap.size ≤ w24.heap.size from hb.size)
  obtain ⟨Ag24, cg24, rfl, hl, hO⟩ := OwnI.of hS
  clear hS
  have Og24 := Aside0.mk (hO.lower (base' := w5.heap.size) (by have := G1_.out; have := Z6.out; have := Z7.out; have := G2.out; have := Z8.out; have := Z9.out; have := Z10.out; have := Z11.out; have := Z12.out; have := Z13.out; have := Z14.out; have := Z15.out; have := Z16.out; have := Z17.out; have := Z18.out; have := Z19.out; have := Z20.out; have := Z21.out; have := Z22.out; have := Z23.out; have := Z24.out; omega))
  have Lg24 := Aside0.mk hl
  clear hb hl hO
  have hz1 : w24.cell? ⟨g1, 0, none⟩ = some (.slice A0 l0.length c0) := (blk_cell K1.out 0).trans rfl
  have hf1 := blk_frozen K1.out 0
  have hz2 : w24.cell? ⟨g2, 0, none⟩ = some (.slice Ac6 l0.length cc6) := (blk_cell K2.out 0).trans rfl
  have hf2 := blk_frozen K2.out 0
  have hn1_2 : g1 ≠ g2 := (by have := G1_.out; have := Z6.out; have := Z7.out; have := G2.out; have := Z8.out; have := Z9.out; have := Z10.out; have := Z11.out; have := Z12.out; have := Z13.out; have := Z14.out; have := Z15.out; have := Z16.out; have := Z17.out; have := Z18.out; have := Z19.out; have := Z20.out; have := Z21.out; have := Z22.out; have := Z23.out; have := Z24.out; omega)
  have hn2_1 : g2 ≠ g1 := (by have := G1_.out; have := Z6.out; have := Z7.out; have := G2.out; have := Z8.out; have := Z9.out; have := Z10.out; have := Z11.out; have := Z12.out; have := Z13.out; have := Z14.out; have := Z15.out; have := Z16.out; have := Z17.out; have := Z18.out; have := Z19.out; have := Z20.out; have := Z21.out; have := Z22.out; have := Z23.out; have := Z24.out; omega)
  go_wp2_with (fail)
  clear hz1 hf1 hz2 hf2 hn1_2 hn2_1
  refine (sameI_any Ag24 Aw cg24 cw G _ HG1.out Og24.out.C Lg24.out (Kd.C_below CW.out BS.out) LW.out).mono ?_
  rintro e w25 ⟨rfl, hb⟩
  replace Oc13 := Aside0.mk (Oc13.out.below hb)
  replace Oc15 := Aside0.mk (Oc15.out.below hb)
  replace Oc6 := Aside0.mk (Oc6.out.below hb)
  replace Oc9 := Aside0.mk (Oc9.out.below hb)
  replace Og10 := Aside0.mk (Og10.out.below hb)
  replace Oc22 := Aside0.mk (Oc22.out.below hb)
  replace Oc23 := Aside0.mk (Oc23.out.below hb)
  replace Og24 := Aside0.mk (Og24.out.below hb)
  replace K1 := Aside0.mk (blk_below K1.out hb)
  replace K2 := Aside0.mk (blk_below K2.out hb)
  replace BW := Aside0.mk (below_step BW.out hb)
  replace BS := Aside0.mk (below_step BS.out hb)
  have Z25 := Aside0.mk (show w24.heap.size ≤ w25.heap.size from hb.size)
  clear hb
  have hz1 : w25.cell? ⟨g1, 0, none⟩ = some (.slice A0 l0.length c0) := (blk_cell K1.out 0).trans rfl
  have hf1 := blk_frozen K1.out 0
  have hz2 : w25.cell? ⟨g2, 0, none⟩ = some (.slice Ac6 l0.length cc6) := (blk_cell K2.out 0).trans rfl
  have hf2 := blk_frozen K2.out 0
  have hn1_2 : g1 ≠ g2 := (by have := G1_.out; have := Z6.out; have := Z7.out; have := G2.out; have := Z8.out; have := Z9.out; have := Z10.out; have := Z11.out; have := Z12.out; have := Z13.out; have := Z14.out; have := Z15.out; have := Z16.out; have := Z17.out; have := Z18.out; have := Z19.out; have := Z20.out; have := Z21.out; have := Z22.out; have := Z23.out; have := Z24.out; have := Z25.out; omega)
  have hn2_1 : g2 ≠ g1 := (by have := G1_.out; have := Z6.out; have := Z7.out; have := G2.out; have := Z8.out; have := Z9.out; have := Z10.out; have := Z11.out; have := Z12.out; have := Z13.out; have := Z14.out; have := Z15.out; have := Z16.out; have := Z17.out; have := Z18.out; have := Z19.out; have := Z20.out; have := Z21.out; have := Z22.out; have := Z23.out; have := Z24.out; have := Z25.out; omega)
  go_wp2_with (fail)
  clear hz1 hf1 hz2 hf2 hn1_2 hn2_1
  refine (heldI_any Ag10 cg10 G 1 _ HG1.out (by omega) HG2.out Og10.out.C Lg10.out).mono ?_
  rintro e w26 ⟨rfl, hb⟩
  replace Oc13 := Aside0.mk (Oc13.out.below hb)
  replace Oc15 := Aside0.mk (Oc15.out.below hb)
  replace Oc6 := Aside0.mk (Oc6.out.below hb)
  replace Oc9 := Aside0.mk (Oc9.out.below hb)
  replace Og10 := Aside0.mk (Og10.out.below hb)
  replace Oc22 := Aside0.mk (Oc22.out.below hb)
  replace Oc23 := Aside0.mk (Oc23.out.below hb)
  replace Og24 := Aside0.mk (Og24.out.below hb)
  replace K1 := Aside0.mk (blk_below K1.out hb)
  replace K2 := Aside0.mk (blk_below K2.out hb)
  replace BW := Aside0.mk (below_step BW.out hb)
  replace BS := Aside0.mk (below_step BS.out hb)
  have Z26 := Aside0.mk (show w25.heap.size ≤ w26.heap.size from hb.size)
  clear hb
  have hz1 : w26.cell? ⟨g1, 0, none⟩ = some (.slice A0 l0.length c0) := (blk_cell K1.out 0).trans rfl
  have hf1 := blk_frozen K1.out 0
  have hz2 : w26.cell? ⟨g2, 0, none⟩ = some (.slice Ac6 l0.length cc6) := (blk_cell K2.out 0).trans rfl
  have hf2 := blk_frozen K2.out 0
  have hn1_2 : g1 ≠ g2 := (by have := G1_.out; have := Z6.out; have := Z7.out; have := G2.out; have := Z8.out; have := Z9.out; have := Z10.out; have := Z11.out; have := Z12.out; have := Z13.out; have := Z14.out; have := Z15.out; have := Z16.out; have := Z17.out; have := Z18.out; have := Z19.out; have := Z20.out; have := Z21.out; have := Z22.out; have := Z23.out; have := Z24.out; have := Z25.out; have := Z26.out; omega)
  have hn2_1 : g2 ≠ g1 := (by have := G1_.out; have := Z6.out; have := Z7.out; have := G2.out; have := Z8.out; have := Z9.out; have := Z10.out; have := Z11.out; have := Z12.out; have := Z13.out; have := Z14.out; have := Z15.out; have := Z16.out; have := Z17.out; have := Z18.out; have := Z19.out; have := Z20.out; have := Z21.out; have := Z22.out; have := Z23.out; have := Z24.out; have := Z25.out; have := Z26.out; omega)
  go_wp2
  go_ret
  exact ⟨rfl, BW.out⟩
end Go.Proofs.Ytbchhpplglllmaa.G
