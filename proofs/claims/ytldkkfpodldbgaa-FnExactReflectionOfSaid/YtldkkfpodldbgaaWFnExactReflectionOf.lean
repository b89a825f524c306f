/- The law FnExactReflectionOf, walked by hand, out of what both programs' functions come to. Written by a program of this session (wip/mkwalk.py). -/
import Derived.Test.YtldkkfpodldbgaaGLaw
namespace Go.Proofs.Ytldkkfpodldbgaa.G
open Go.RowKit Go.Proofs.Ytldkkfpodldbgaa.P Go.Proofs.YtldkkfpodldbgaaW.PrintWords Go.Proofs.YtldkkfpodldbgaaW.PrintLast Go.Proofs.Ytldkkfpodldbgaa.Q
set_option linter.unusedVariables false
set_option linter.unusedSimpArgs false
theorem FnExactReflectionOf_out1 (A0 : Option Addr) (c0 : Nat) (l0 : List (List Int)) (A1 : Option Addr) (c1 : Nat) (l1 : List Int) (w : World) (h : 1048576 < l1.length) :
    Calls Try.prog 5 #[.agg #[.slice A0 l0.length c0], .slice A1 l1.length c1] w fun e w' => e = .returned (.bool true) ∧ Below w.heap.size w w' := by
  have t1 : decide (1048576 < (l1.length : Int)) = true := decide_eq_true (by omega)
  have u1 : decide (1048576 < l1.length) = true := decide_eq_true (by omega)
  clear h
  go_enter Try.func5, Try.ntmps5
  go_wp2
  go_ret
  exact ⟨rfl, by repeat (first | exact Below.refl _ _ | apply below_alloc)⟩
theorem FnExactReflectionOf_less0 (A0 : Option Addr) (c0 : Nat) (l0 : List (List Int)) (A1 : Option Addr) (c1 : Nat) (l1 : List Int) (w : World) (hr0 : Kd.C (Kd.slice 3 (Kd.int .i64)) w A0 l0.length l0) (hc0 : l0.length ≤ c0) (hr1 : Kd.C (Kd.int .i64) w A1 l1.length l1) (hc1 : l1.length ≤ c1) (f1 : l1.length ≤ 1048576) (k0 : Nat) (r0 : Int) (hz0 : laws_szMatrix.f k0 l0 1048576 = some r0) (h : r0 < 0) :
    Calls Try.prog 5 #[.agg #[.slice A0 l0.length c0], .slice A1 l1.length c1] w fun e w' => e = .returned (.bool true) ∧ Below w.heap.size w w' := by
  have t1 : decide (1048576 < (l1.length : Int)) = false := decide_eq_false (by omega)
  have u1 : decide (1048576 < l1.length) = false := decide_eq_false (by omega)
  have e0 : decide (r0 < 0) = true := decide_eq_true h
  have HZ0 := Aside0.mk hz0
  clear h hz0 f1
  have HR0 := Aside0.mk hr0
  have HC0 := Aside0.mk hc0
  have HR1 := Aside0.mk hr1
  have HC1 := Aside0.mk hc1
  clear hr0 hc0 hr1 hc1
  have BW := Aside0.mk (Below.refl w.heap.size w)
  have hu := Try.underlying24
  have hu2 := Try.underlying26
  go_enter Try.func5, Try.ntmps5
  have BZ := Aside0.mk (Nat.le_refl w.heap.size)
  go_wp2_with (first | ((with_reducible refine gate_dst (N := 2) rfl ?_); refine box_event ?hg (N := 2) ?hd (cs := #[.slice A0 l0.length c0]) (t := 24) ?hr ?_; (case hd => rfl); (case hg => rfl); (case hr => first | (go_simp; done) | (go_simp; rfl)); intro g1 hg w1 hbox hb; replace BW := Aside0.mk (below_step BW.out hb); have Z1 := Aside0.mk (show w.heap.size ≤ w1.heap.size from hb.size); have K1 := Aside0.mk hbox; have G1 := Aside0.mk (show g1 = w.heap.size ∧ g1 < w1.heap.size from ⟨hg, blk_lt hbox⟩); clear hb hbox hg; have hz1 : w1.cell? ⟨g1, 0, none⟩ = some (.slice A0 l0.length c0) := (blk_cell K1.out 0).trans rfl; have hf1 := blk_frozen K1.out 0))
  clear hz1 hf1
  refine (laws_szMatrix.calls k0 A0 c0 l0 _ r0 _ (Kd.C_below HR0.out BW.out) HC0.out HZ0.out).mono ?_
  rintro e w2 ⟨rfl, hb⟩
  replace K1 := Aside0.mk (blk_below K1.out hb)
  replace BW := Aside0.mk (below_step BW.out hb)
  have Z2 := Aside0.mk (show w1.heap.size ≤ w2.heap.size from hb.size)
  clear hb
  have hz1 : w2.cell? ⟨g1, 0, none⟩ = some (.slice A0 l0.length c0) := (blk_cell K1.out 0).trans rfl
  have hf1 := blk_frozen K1.out 0
  go_wp2
  go_ret
  exact ⟨rfl, BW.out⟩
set_option maxHeartbeats 8000000 in
set_option maxRecDepth 100000 in
theorem FnExactReflectionOf_calls (A0 : Option Addr) (c0 : Nat) (l0 : List (List Int)) (A1 : Option Addr) (c1 : Nat) (l1 : List Int) (G : List (List Int)) (b : Bool) (w : World) (hr0 : Kd.C (Kd.slice 3 (Kd.int .i64)) w A0 l0.length l0) (hc0 : l0.length ≤ c0) (hr1 : Kd.C (Kd.int .i64) w A1 l1.length l1) (hc1 : l1.length ≤ c1) (f0 : Fits l0) (f1 : l1.length ≤ 1048576) (k0 : Nat) (r0 : Int) (hz0 : laws_szMatrix.f k0 l0 1048576 = some r0) (hp0 : 0 ≤ r0)
    (hs : ∀ (W : World) (B0 : Option Addr) (d0 : Nat) (B1 : Option Addr) (d1 : Nat), Kd.C (Kd.slice 3 (Kd.int .i64)) W B0 l0.length l0 → l0.length ≤ d0 → Kd.C (Kd.int .i64) W B1 l1.length l1 → l1.length ≤ d1 → Calls Try.prog 25 #[.agg #[.slice B0 l0.length d0], .slice B1 l1.length d1] W fun e w' => ∃ A c, e = .returned (.tuple #[.agg #[.slice A G.length c], .bool b]) ∧ G.length ≤ c ∧ Kd.C (Kd.slice 3 (Kd.int .i64)) w' A G.length G ∧ Below W.heap.size W w')
    (hi : ∀ (W : World) (B0 : Option Addr) (d0 : Nat) (B1 : Option Addr) (d1 : Nat), Kd.C (Kd.slice 3 (Kd.int .i64)) W B0 l0.length l0 → l0.length ≤ d0 → Kd.C (Kd.int .i64) W B1 l1.length l1 → l1.length ≤ d1 → Calls Try.prog 26 #[.agg #[.slice B0 l0.length d0], .slice B1 l1.length d1] W fun e w' => ∃ v, e = .returned (.tuple #[.agg #[v], .bool b]) ∧ Kd.S (Kd.slice 3 (Kd.int .i64)) 34 w' W.heap.size (fun _ => True) v G ∧ Below W.heap.size W w')
    (hg : G.length ≤ 4611686018427387904 ∧ (1 : Int) + tot G ≤ 4611686018427387904 ∧ Fits G) :
    Calls Try.prog 5 #[.agg #[.slice A0 l0.length c0], .slice A1 l1.length c1] w fun e w' => e = .returned (.bool true) ∧ Below w.heap.size w w' := by
  have ft0 : tot l0 ≤ 1048576 * 1048576 := Nat.le_trans (tot_bound l0 f0.2) (Nat.mul_le_mul_right _ f0.1)
  have fl0 := f0.1
  have t1 : decide (1048576 < (l1.length : Int)) = false := decide_eq_false (by omega)
  have u1 : decide (1048576 < l1.length) = false := decide_eq_false (by omega)
  have e0 : decide (r0 < 0) = false := decide_eq_false (by omega)
  have hg1 := hg.1
  have hg2 := hg.2.1
  have HF := Aside0.mk hg.2.2
  have HN0 := Aside0.mk (show l0.length ≤ 4611686018427387904 by omega)
  have HA0 := Aside0.mk (show (0 : Int) ≤ 1 ∧ 1 + ((tot l0 : Nat) : Int) ≤ 4611686018427387904 by omega)
  have HN1 := Aside0.mk (show l1.length ≤ 4611686018427387904 by omega)
  have HA1 := Aside0.mk (show (0 : Int) ≤ 1 + ((tot l0 : Nat) : Int) ∧ 1 + ((tot l0 : Nat) : Int) + ((l1.length : Nat) : Int) ≤ 4611686018427387904 by omega)
  have ek : decide (1 + ((tot l0 : Nat) : Int) + ((l1.length : Nat) : Int) < 0) = false := decide_eq_false (by omega)
  have eg : decide (1 + ((tot G : Nat) : Int) < 0) = false := decide_eq_false (by omega)
  have HG1 := Aside0.mk hg1
  have HG2 := Aside0.mk hg2
  have HS := Aside0.mk hs
  have HI := Aside0.mk hi
  have HF0 := Aside0.mk f0
  have HF1 := Aside0.mk f1
  have HZ0 := Aside0.mk hz0
  clear hs hi hg hg1 hg2 f0 f1 hz0 ft0 fl0 hp0
  have HR0 := Aside0.mk hr0
  have HC0 := Aside0.mk hc0
  have HR1 := Aside0.mk hr1
  have HC1 := Aside0.mk hc1
  clear hr0 hc0 hr1 hc1
  have BW := Aside0.mk (Below.refl w.heap.size w)
  have hu := Try.underlying24
  have hu2 := Try.underlying26
  go_enter Try.func5, Try.ntmps5
  have BZ := Aside0.mk (Nat.le_refl w.heap.size)
  go_wp2_with (first | ((with_reducible refine gate_dst (N := 2) rfl ?_); refine box_event ?hg (N := 2) ?hd (cs := #[.slice A0 l0.length c0]) (t := 24) ?hr ?_; (case hd => rfl); (case hg => rfl); (case hr => first | (go_simp; done) | (go_simp; rfl)); intro g1 hg w1 hbox hb; replace BW := Aside0.mk (below_step BW.out hb); have Z1 := Aside0.mk (show w.heap.size ≤ w1.heap.size from hb.size); have K1 := Aside0.mk hbox; have G1 := Aside0.mk (show g1 = w.heap.size ∧ g1 < w1.heap.size from ⟨hg, blk_lt hbox⟩); clear hb hbox hg; have hz1 : w1.cell? ⟨g1, 0, none⟩ = some (.slice A0 l0.length c0) := (blk_cell K1.out 0).trans rfl; have hf1 := blk_frozen K1.out 0))
  clear hz1 hf1
  refine (laws_szMatrix.calls k0 A0 c0 l0 _ r0 _ (Kd.C_below HR0.out BW.out) HC0.out HZ0.out).mono ?_
  rintro e w2 ⟨rfl, hb⟩
  replace K1 := Aside0.mk (blk_below K1.out hb)
  replace BW := Aside0.mk (below_step BW.out hb)
  have Z2 := Aside0.mk (show w1.heap.size ≤ w2.heap.size from hb.size)
  clear hb
  have hz1 : w2.cell? ⟨g1, 0, none⟩ = some (.slice A0 l0.length c0) := (blk_cell K1.out 0).trans rfl
  have hf1 := blk_frozen K1.out 0
  go_wp2_with (fail)
  clear hz1 hf1
  refine (copyM_any A0 c0 l0 _ HF0.out (Kd.C_below HR0.out BW.out) HC0.out).mono ?_
  rintro e w3 ⟨Ac3, cc3, rfl, hl, hO, hb⟩
  replace K1 := Aside0.mk (blk_below K1.out hb)
  replace BW := Aside0.mk (below_step BW.out hb)
  have Z3 := Aside0.mk (show w2.heap.size ≤ w3.heap.size from hb.size)
  have Oc3 := Aside0.mk hO
  have Lc3 := Aside0.mk hl
  clear hb hl hO
  have hz1 : w3.cell? ⟨g1, 0, none⟩ = some (.slice A0 l0.length c0) := (blk_cell K1.out 0).trans rfl
  have hf1 := blk_frozen K1.out 0
  go_wp2_with (fail)
  clear hz1 hf1
  refine (copyI_any A1 c1 l1 _ HF1.out (Kd.C_below HR1.out BW.out) HC1.out).mono ?_
  rintro e w4 ⟨Ac4, cc4, rfl, hl, hO, hb⟩
  replace Oc3 := Aside0.mk (Oc3.out.below hb)
  replace K1 := Aside0.mk (blk_below K1.out hb)
  replace BW := Aside0.mk (below_step BW.out hb)
  have Z4 := Aside0.mk (show w3.heap.size ≤ w4.heap.size from hb.size)
  have Oc4 := Aside0.mk hO
  have Lc4 := Aside0.mk hl
  clear hb hl hO
  have hz1 : w4.cell? ⟨g1, 0, none⟩ = some (.slice A0 l0.length c0) := (blk_cell K1.out 0).trans rfl
  have hf1 := blk_frozen K1.out 0
  go_wp2_with (fail)
  clear hz1 hf1
  refine (HS.out _ Ac3 cc3 Ac4 cc4 Oc3.out.C Lc3.out Oc4.out.C Lc4.out).mono ?_
  rintro e w5 ⟨Aw, cw, rfl, hlw, hCw, hb⟩
  replace Oc3 := Aside0.mk (Oc3.out.below hb)
  replace Oc4 := Aside0.mk (Oc4.out.below hb)
  replace K1 := Aside0.mk (blk_below K1.out hb)
  replace BW := Aside0.mk (below_step BW.out hb)
  have Z5 := Aside0.mk (show w4.heap.size ≤ w5.heap.size from hb.size)
  have LW := Aside0.mk hlw
  have CW := Aside0.mk hCw
  have B0 := Aside0.mk BW.out
  have BS := Aside0.mk (Below.refl w5.heap.size w5)
  replace BZ := Aside0.mk BW.out.size
  clear hb hlw hCw HS
  clear Oc3 Lc3
  clear Oc4 Lc4
  have G1_ := Aside0.mk (show g1 < w5.heap.size from blk_lt K1.out)
  have hz1 : w5.cell? ⟨g1, 0, none⟩ = some (.slice A0 l0.length c0) := (blk_cell K1.out 0).trans rfl
  have hf1 := blk_frozen K1.out 0
  go_wp2_with (first | ((with_reducible refine gate_dst (N := 6) rfl ?_); refine box_event ?hg (N := 6) ?hd (cs := #[.slice none 0 0]) (t := 26) ?hr ?_; (case hd => rfl); (case hg => rfl); (case hr => first | (go_simp; done) | (go_simp; rfl)); intro g2 hg w6 hbox hb; clear hz1 hf1; replace K1 := Aside0.mk (blk_below K1.out hb); replace BW := Aside0.mk (below_step BW.out hb); replace BS := Aside0.mk (below_step BS.out hb); have Z6 := Aside0.mk (show w5.heap.size ≤ w6.heap.size from hb.size); have K2 := Aside0.mk hbox; have G2 := Aside0.mk (show g2 = w5.heap.size ∧ g2 < w6.heap.size from ⟨hg, blk_lt hbox⟩); clear hb hbox hg; have E2_1 := Aside0.mk (show g2 ≠ g1 from (by have := G1_.out; have := Z6.out; have := G2.out; omega)); have E1_2 := Aside0.mk (Ne.symm E2_1.out); have hz1 : w6.cell? ⟨g1, 0, none⟩ = some (.slice A0 l0.length c0) := (blk_cell K1.out 0).trans rfl; have hf1 := blk_frozen K1.out 0; have hz2 : w6.cell? ⟨g2, 0, none⟩ = some (.slice none 0 0) := (blk_cell K2.out 0).trans rfl; have hf2 := blk_frozen K2.out 0; have hn1_2 := E1_2.out; have hn2_1 := E2_1.out))
  clear hz1 hf1 hz2 hf2 hn1_2 hn2_1
  obtain ⟨w7, hw⟩ : ∃ x, x = w6.setCell ⟨g2, 0, none⟩ (.slice Aw G.length cw) := ⟨_, rfl⟩
  rw [← hw]
  have hk : Kept w6 w7 (fun k => g2 ≤ k ∧ k < g2 + 1) := by
    rw [hw]
    exact Kept.setCell (Kept.refl _ _) (.inl ⟨Nat.le_refl _, Nat.lt_succ_self _⟩) _
  have hkb : w7.heap[g2]? = some (.cells #[.slice Aw G.length cw] 26 (0, 0)) := by
    rw [hw]
    simpa using blk_set K2.out 0 (.slice Aw G.length cw)
  replace BW := Aside0.mk (show Below w.heap.size w w7 by
    rw [hw]
    exact below_set BW.out (by have := BZ.out; have := G1_.out; have := Z6.out; have := G2.out; omega))
  replace BS := Aside0.mk (show Below w5.heap.size w5 w7 by
    rw [hw]
    exact below_set BS.out (by have := G1_.out; have := Z6.out; have := G2.out; omega))
  have Z7 := Aside0.mk (show w6.heap.size ≤ w7.heap.size from hk.1)
  clear hw
  replace K1 := Aside0.mk (blk_kept K1.out hk (fun hh => by have := G1_.out; have := Z6.out; have := G2.out; have := Z7.out; obtain ⟨h1, h2⟩ := hh; omega))
  replace K2 := Aside0.mk hkb
  clear hk hkb
  refine (copyM_any A0 c0 l0 _ HF0.out (Kd.C_below HR0.out BW.out) HC0.out).mono ?_
  rintro e w8 ⟨Ac8, cc8, rfl, hl, hO, hb⟩
  replace K1 := Aside0.mk (blk_below K1.out hb)
  replace K2 := Aside0.mk (blk_below K2.out hb)
  replace BW := Aside0.mk (below_step BW.out hb)
  replace BS := Aside0.mk (below_step BS.out hb)
  have Z8 := Aside0.mk (show w7.heap.size ≤ w8.heap.size from hb.size)
  have Oc8 := Aside0.mk (hO.lower (base' := w5.heap.size) (by have := G1_.out; have := Z6.out; have := G2.out; have := Z7.out; have := Z8.out; omega))
  have Lc8 := Aside0.mk hl
  clear hb hl hO
  have hz1 : w8.cell? ⟨g1, 0, none⟩ = some (.slice A0 l0.length c0) := (blk_cell K1.out 0).trans rfl
  have hf1 := blk_frozen K1.out 0
  have hz2 : w8.cell? ⟨g2, 0, none⟩ = some (.slice Aw G.length cw) := (blk_cell K2.out 0).trans rfl
  have hf2 := blk_frozen K2.out 0
  have hn1_2 := E1_2.out
  have hn2_1 := E2_1.out
  go_wp2_with (first | ((with_reducible refine gate_dst (N := 8) rfl ?_); refine box_event ?hg (N := 8) ?hd (cs := #[.slice none 0 0]) (t := 26) ?hr ?_; (case hd => rfl); (case hg => rfl); (case hr => first | (go_simp; done) | (go_simp; rfl)); intro g3 hg w9 hbox hb; clear hz1 hf1 hz2 hf2 hn1_2 hn2_1; replace Oc8 := Aside0.mk (Oc8.out.below hb); replace K1 := Aside0.mk (blk_below K1.out hb); replace K2 := Aside0.mk (blk_below K2.out hb); replace BW := Aside0.mk (below_step BW.out hb); replace BS := Aside0.mk (below_step BS.out hb); have Z9 := Aside0.mk (show w8.heap.size ≤ w9.heap.size from hb.size); have K3 := Aside0.mk hbox; have G3 := Aside0.mk (show g3 = w8.heap.size ∧ g3 < w9.heap.size from ⟨hg, blk_lt hbox⟩); clear hb hbox hg; have E3_1 := Aside0.mk (show g3 ≠ g1 from (by have := G1_.out; have := Z6.out; have := G2.out; have := Z7.out; have := Z8.out; have := Z9.out; have := G3.out; omega)); have E1_3 := Aside0.mk (Ne.symm E3_1.out); have E3_2 := Aside0.mk (show g3 ≠ g2 from (by have := G1_.out; have := Z6.out; have := G2.out; have := Z7.out; have := Z8.out; have := Z9.out; have := G3.out; omega)); have E2_3 := Aside0.mk (Ne.symm E3_2.out); have hz1 : w9.cell? ⟨g1, 0, none⟩ = some (.slice A0 l0.length c0) := (blk_cell K1.out 0).trans rfl; have hf1 := blk_frozen K1.out 0; have hz2 : w9.cell? ⟨g2, 0, none⟩ = some (.slice Aw G.length cw) := (blk_cell K2.out 0).trans rfl; have hf2 := blk_frozen K2.out 0; have hz3 : w9.cell? ⟨g3, 0, none⟩ = some (.slice none 0 0) := (blk_cell K3.out 0).trans rfl; have hf3 := blk_frozen K3.out 0; have hn1_2 := E1_2.out; have hn1_3 := E1_3.out; have hn2_1 := E2_1.out; have hn2_3 := E2_3.out; have hn3_1 := E3_1.out; have hn3_2 := E3_2.out))
  clear hz1 hf1 hz2 hf2 hz3 hf3 hn1_2 hn1_3 hn2_1 hn2_3 hn3_1 hn3_2
  obtain ⟨w10, hw⟩ : ∃ x, x = w9.setCell ⟨g3, 0, none⟩ (.slice Ac8 l0.length cc8) := ⟨_, rfl⟩
  rw [← hw]
  have hk : Kept w9 w10 (fun k => g3 ≤ k ∧ k < g3 + 1) := by
    rw [hw]
    exact Kept.setCell (Kept.refl _ _) (.inl ⟨Nat.le_refl _, Nat.lt_succ_self _⟩) _
  have hkb : w10.heap[g3]? = some (.cells #[.slice Ac8 l0.length cc8] 26 (0, 0)) := by
    rw [hw]
    simpa using blk_set K3.out 0 (.slice Ac8 l0.length cc8)
  replace BW := Aside0.mk (show Below w.heap.size w w10 by
    rw [hw]
    exact below_set BW.out (by have := BZ.out; have := G1_.out; have := Z6.out; have := G2.out; have := Z7.out; have := Z8.out; have := Z9.out; have := G3.out; omega))
  replace BS := Aside0.mk (show Below w5.heap.size w5 w10 by
    rw [hw]
    exact below_set BS.out (by have := G1_.out; have := Z6.out; have := G2.out; have := Z7.out; have := Z8.out; have := Z9.out; have := G3.out; omega))
  have Z10 := Aside0.mk (show w9.heap.size ≤ w10.heap.size from hk.1)
  clear hw
  replace Oc8 := Aside0.mk (Oc8.out.kept hk (by have := G1_.out; have := Z6.out; have := G2.out; have := Z7.out; have := Z8.out; have := Z9.out; have := G3.out; have := Z10.out; omega))
  replace K1 := Aside0.mk (blk_kept K1.out hk (fun hh => by have := G1_.out; have := Z6.out; have := G2.out; have := Z7.out; have := Z8.out; have := Z9.out; have := G3.out; have := Z10.out; obtain ⟨h1, h2⟩ := hh; omega))
  replace K2 := Aside0.mk (blk_kept K2.out hk (fun hh => by have := G1_.out; have := Z6.out; have := G2.out; have := Z7.out; have := Z8.out; have := Z9.out; have := G3.out; have := Z10.out; obtain ⟨h1, h2⟩ := hh; omega))
  replace K3 := Aside0.mk hkb
  clear hk hkb
  refine (copyI_any A1 c1 l1 _ HF1.out (Kd.C_below HR1.out BW.out) HC1.out).mono ?_
  rintro e w11 ⟨Ac11, cc11, rfl, hl, hO, hb⟩
  replace Oc8 := Aside0.mk (Oc8.out.below hb)
  replace K1 := Aside0.mk (blk_below K1.out hb)
  replace K2 := Aside0.mk (blk_below K2.out hb)
  replace K3 := Aside0.mk (blk_below K3.out hb)
  replace BW := Aside0.mk (below_step BW.out hb)
  replace BS := Aside0.mk (below_step BS.out hb)
  have Z11 := Aside0.mk (show w10.heap.size ≤ w11.heap.size from hb.size)
  have Oc11 := Aside0.mk (hO.lower (base' := w5.heap.size) (by have := G1_.out; have := Z6.out; have := G2.out; have := Z7.out; have := Z8.out; have := Z9.out; have := G3.out; have := Z10.out; have := Z11.out; omega))
  have Lc11 := Aside0.mk hl
  clear hb hl hO
  have hz1 : w11.cell? ⟨g1, 0, none⟩ = some (.slice A0 l0.length c0) := (blk_cell K1.out 0).trans rfl
  have hf1 := blk_frozen K1.out 0
  have hz2 : w11.cell? ⟨g2, 0, none⟩ = some (.slice Aw G.length cw) := (blk_cell K2.out 0).trans rfl
  have hf2 := blk_frozen K2.out 0
  have hz3 : w11.cell? ⟨g3, 0, none⟩ = some (.slice Ac8 l0.length cc8) := (blk_cell K3.out 0).trans rfl
  have hf3 := blk_frozen K3.out 0
  have hn1_2 := E1_2.out
  have hn1_3 := E1_3.out
  have hn2_1 := E2_1.out
  have hn2_3 := E2_3.out
  have hn3_1 := E3_1.out
  have hn3_2 := E3_2.out
  go_wp2_with (fail)
  clear hz1 hf1 hz2 hf2 hz3 hf3 hn1_2 hn1_3 hn2_1 hn2_3 hn3_1 hn3_2
  refine (HI.out _ Ac8 cc8 Ac11 cc11 Oc8.out.C Lc8.out Oc11.out.C Lc11.out).mono ?_
  rintro e w12 ⟨vg12, rfl, hS, hb⟩
  replace Oc8 := Aside0.mk (Oc8.out.below hb)
  replace Oc11 := Aside0.mk (Oc11.out.below hb)
  replace K1 := Aside0.mk (blk_below K1.out hb)
  replace K2 := Aside0.mk (blk_below K2.out hb)
  replace K3 := Aside0.mk (blk_below K3.out hb)
  replace BW := Aside0.mk (below_step BW.out hb)
  replace BS := Aside0.mk (below_step BS.out hb)
  have Z12 := Aside0.mk (show w11.heap.size ≤ w12.heap.size from hb.size)
  obtain ⟨Ag12, cg12, rfl, hl, hO⟩ := OwnM.of hS
  clear hS
  have Og12 := Aside0.mk (hO.lower (base' := w5.heap.size) (by have := G1_.out; have := Z6.out; have := G2.out; have := Z7.out; have := Z8.out; have := Z9.out; have := G3.out; have := Z10.out; have := Z11.out; have := Z12.out; omega))
  have Lg12 := Aside0.mk hl
  clear hb hl hO
  have hz1 : w12.cell? ⟨g1, 0, none⟩ = some (.slice A0 l0.length c0) := (blk_cell K1.out 0).trans rfl
  have hf1 := blk_frozen K1.out 0
  have hz2 : w12.cell? ⟨g2, 0, none⟩ = some (.slice Aw G.length cw) := (blk_cell K2.out 0).trans rfl
  have hf2 := blk_frozen K2.out 0
  have hz3 : w12.cell? ⟨g3, 0, none⟩ = some (.slice Ac8 l0.length cc8) := (blk_cell K3.out 0).trans rfl
  have hf3 := blk_frozen K3.out 0
  have hn1_2 := E1_2.out
  have hn1_3 := E1_3.out
  have hn2_1 := E2_1.out
  have hn2_3 := E2_3.out
  have hn3_1 := E3_1.out
  have hn3_2 := E3_2.out
  go_wp2_with (first | ((with_reducible refine gate_dst (N := 10) rfl ?_); refine box_event ?hg (N := 10) ?hd (cs := #[.slice none 0 0]) (t := 26) ?hr ?_; (case hd => rfl); (case hg => rfl); (case hr => first | (go_simp; done) | (go_simp; rfl)); intro g4 hg w13 hbox hb; clear hz1 hf1 hz2 hf2 hz3 hf3 hn1_2 hn1_3 hn2_1 hn2_3 hn3_1 hn3_2; replace Oc8 := Aside0.mk (Oc8.out.below hb); replace Oc11 := Aside0.mk (Oc11.out.below hb); replace Og12 := Aside0.mk (Og12.out.below hb); replace K1 := Aside0.mk (blk_below K1.out hb); replace K2 := Aside0.mk (blk_below K2.out hb); replace K3 := Aside0.mk (blk_below K3.out hb); replace BW := Aside0.mk (below_step BW.out hb); replace BS := Aside0.mk (below_step BS.out hb); have Z13 := Aside0.mk (show w12.heap.size ≤ w13.heap.size from hb.size); have K4 := Aside0.mk hbox; have G4 := Aside0.mk (show g4 = w12.heap.size ∧ g4 < w13.heap.size from ⟨hg, blk_lt hbox⟩); clear hb hbox hg; have E4_1 := Aside0.mk (show g4 ≠ g1 from (by have := G1_.out; have := Z6.out; have := G2.out; have := Z7.out; have := Z8.out; have := Z9.out; have := G3.out; have := Z10.out; have := Z11.out; have := Z12.out; have := Z13.out; have := G4.out; omega)); have E1_4 := Aside0.mk (Ne.symm E4_1.out); have E4_2 := Aside0.mk (show g4 ≠ g2 from (by have := G1_.out; have := Z6.out; have := G2.out; have := Z7.out; have := Z8.out; have := Z9.out; have := G3.out; have := Z10.out; have := Z11.out; have := Z12.out; have := Z13.out; have := G4.out; omega)); have E2_4 := Aside0.mk (Ne.symm E4_2.out); have E4_3 := Aside0.mk (show g4 ≠ g3 from (by have := G1_.out; have := Z6.out; have := G2.out; have := Z7.out; have := Z8.out; have := Z9.out; have := G3.out; have := Z10.out; have := Z11.out; have := Z12.out; have := Z13.out; have := G4.out; omega)); have E3_4 := Aside0.mk (Ne.symm E4_3.out); have hz1 : w13.cell? ⟨g1, 0, none⟩ = some (.slice A0 l0.length c0) := (blk_cell K1.out 0).trans rfl; have hf1 := blk_frozen K1.out 0; have hz2 : w13.cell? ⟨g2, 0, none⟩ = some (.slice Aw G.length cw) := (blk_cell K2.out 0).trans rfl; have hf2 := blk_frozen K2.out 0; have hz3 : w13.cell? ⟨g3, 0, none⟩ = some (.slice Ac8 l0.length cc8) := (blk_cell K3.out 0).trans rfl; have hf3 := blk_frozen K3.out 0; have hz4 : w13.cell? ⟨g4, 0, none⟩ = some (.slice none 0 0) := (blk_cell K4.out 0).trans rfl; have hf4 := blk_frozen K4.out 0; have hn1_2 := E1_2.out; have hn1_3 := E1_3.out; have hn1_4 := E1_4.out; have hn2_1 := E2_1.out; have hn2_3 := E2_3.out; have hn2_4 := E2_4.out; have hn3_1 := E3_1.out; have hn3_2 := E3_2.out; have hn3_4 := E3_4.out; have hn4_1 := E4_1.out; have hn4_2 := E4_2.out; have hn4_3 := E4_3.out))
  clear hz1 hf1 hz2 hf2 hz3 hf3 hz4 hf4 hn1_2 hn1_3 hn1_4 hn2_1 hn2_3 hn2_4 hn3_1 hn3_2 hn3_4 hn4_1 hn4_2 hn4_3
  obtain ⟨w14, hw⟩ : ∃ x, x = w13.setCell ⟨g4, 0, none⟩ (.slice Ag12 G.length cg12) := ⟨_, rfl⟩
  rw [← hw]
  have hk : Kept w13 w14 (fun k => g4 ≤ k ∧ k < g4 + 1) := by
    rw [hw]
    exact Kept.setCell (Kept.refl _ _) (.inl ⟨Nat.le_refl _, Nat.lt_succ_self _⟩) _
  have hkb : w14.heap[g4]? = some (.cells #[.slice Ag12 G.length cg12] 26 (0, 0)) := by
    rw [hw]
    simpa using blk_set K4.out 0 (.slice Ag12 G.length cg12)
  replace BW := Aside0.mk (show Below w.heap.size w w14 by
    rw [hw]
    exact below_set BW.out (by have := BZ.out; have := G1_.out; have := Z6.out; have := G2.out; have := Z7.out; have := Z8.out; have := Z9.out; have := G3.out; have := Z10.out; have := Z11.out; have := Z12.out; have := Z13.out; have := G4.out; omega))
  replace BS := Aside0.mk (show Below w5.heap.size w5 w14 by
    rw [hw]
    exact below_set BS.out (by have := G1_.out; have := Z6.out; have := G2.out; have := Z7.out; have := Z8.out; have := Z9.out; have := G3.out; have := Z10.out; have := Z11.out; have := Z12.out; have := Z13.out; have := G4.out; omega))
  have Z14 := Aside0.mk (show w13.heap.size ≤ w14.heap.size from hk.1)
  clear hw
  replace Oc8 := Aside0.mk (Oc8.out.kept hk (by have := G1_.out; have := Z6.out; have := G2.out; have := Z7.out; have := Z8.out; have := Z9.out; have := G3.out; have := Z10.out; have := Z11.out; have := Z12.out; have := Z13.out; have := G4.out; have := Z14.out; omega))
  replace Oc11 := Aside0.mk (Oc11.out.kept hk (by have := G1_.out; have := Z6.out; have := G2.out; have := Z7.out; have := Z8.out; have := Z9.out; have := G3.out; have := Z10.out; have := Z11.out; have := Z12.out; have := Z13.out; have := G4.out; have := Z14.out; omega))
  replace Og12 := Aside0.mk (Og12.out.kept hk (by have := G1_.out; have := Z6.out; have := G2.out; have := Z7.out; have := Z8.out; have := Z9.out; have := G3.out; have := Z10.out; have := Z11.out; have := Z12.out; have := Z13.out; have := G4.out; have := Z14.out; omega))
  replace K1 := Aside0.mk (blk_kept K1.out hk (fun hh => by have := G1_.out; have := Z6.out; have := G2.out; have := Z7.out; have := Z8.out; have := Z9.out; have := G3.out; have := Z10.out; have := Z11.out; have := Z12.out; have := Z13.out; have := G4.out; have := Z14.out; obtain ⟨h1, h2⟩ := hh; omega))
  replace K2 := Aside0.mk (blk_kept K2.out hk (fun hh => by have := G1_.out; have := Z6.out; have := G2.out; have := Z7.out; have := Z8.out; have := Z9.out; have := G3.out; have := Z10.out; have := Z11.out; have := Z12.out; have := Z13.out; have := G4.out; have := Z14.out; obtain ⟨h1, h2⟩ := hh; omega))
  replace K3 := Aside0.mk (blk_kept K3.out hk (fun hh => by have := G1_.out; have := Z6.out; have := G2.out; have := Z7.out; have := Z8.out; have := Z9.out; have := G3.out; have := Z10.out; have := Z11.out; have := Z12.out; have := Z13.out; have := G4.out; have := Z14.out; obtain ⟨h1, h2⟩ := hh; omega))
  replace K4 := Aside0.mk hkb
  clear hk hkb
  refine (sameM_any Ag12 Aw cg12 cw G _ HF.out Og12.out.C Lg12.out (Kd.C_below CW.out BS.out) LW.out).mono ?_
  rintro e w15 ⟨rfl, hb⟩
  replace Oc8 := Aside0.mk (Oc8.out.below hb)
  replace Oc11 := Aside0.mk (Oc11.out.below hb)
  replace Og12 := Aside0.mk (Og12.out.below hb)
  replace K1 := Aside0.mk (blk_below K1.out hb)
  replace K2 := Aside0.mk (blk_below K2.out hb)
  replace K3 := Aside0.mk (blk_below K3.out hb)
  replace K4 := Aside0.mk (blk_below K4.out hb)
  replace BW := Aside0.mk (below_step BW.out hb)
  replace BS := Aside0.mk (below_step BS.out hb)
  have Z15 := Aside0.mk (show w14.heap.size ≤ w15.heap.size from hb.size)
  clear hb
  have hz1 : w15.cell? ⟨g1, 0, none⟩ = some (.slice A0 l0.length c0) := (blk_cell K1.out 0).trans rfl
  have hf1 := blk_frozen K1.out 0
  have hz2 : w15.cell? ⟨g2, 0, none⟩ = some (.slice Aw G.length cw) := (blk_cell K2.out 0).trans rfl
  have hf2 := blk_frozen K2.out 0
  have hz3 : w15.cell? ⟨g3, 0, none⟩ = some (.slice Ac8 l0.length cc8) := (blk_cell K3.out 0).trans rfl
  have hf3 := blk_frozen K3.out 0
  have hz4 : w15.cell? ⟨g4, 0, none⟩ = some (.slice Ag12 G.length cg12) := (blk_cell K4.out 0).trans rfl
  have hf4 := blk_frozen K4.out 0
  have hn1_2 := E1_2.out
  have hn1_3 := E1_3.out
  have hn1_4 := E1_4.out
  have hn2_1 := E2_1.out
  have hn2_3 := E2_3.out
  have hn2_4 := E2_4.out
  have hn3_1 := E3_1.out
  have hn3_2 := E3_2.out
  have hn3_4 := E3_4.out
  have hn4_1 := E4_1.out
  have hn4_2 := E4_2.out
  have hn4_3 := E4_3.out
  go_wp2_with (fail)
  clear hz1 hf1 hz2 hf2 hz3 hf3 hz4 hf4 hn1_2 hn1_3 hn1_4 hn2_1 hn2_3 hn2_4 hn3_1 hn3_2 hn3_4 hn4_1 hn4_2 hn4_3
  replace Oc8 := Aside0.mk (Oc8.out.drew)
  replace Oc11 := Aside0.mk (Oc11.out.drew)
  replace Og12 := Aside0.mk (Og12.out.drew)
  replace K1 := Aside0.mk (blk_drew K1.out)
  replace K2 := Aside0.mk (blk_drew K2.out)
  replace K3 := Aside0.mk (blk_drew K3.out)
  replace K4 := Aside0.mk (blk_drew K4.out)
  replace BW := Aside0.mk (below_drew1 BW.out)
  replace BS := Aside0.mk (below_drew1 BS.out)
  have Z16 := Aside0.mk (show w15.heap.size ≤ w15.drew.heap.size from Nat.le_refl _)
  refine start_ (n := 5) (S := fun w' => w'.cell? ⟨g3, 0, none⟩ = some (.slice Ac8 l0.length cc8) ∧ w'.cell? ⟨g1, 0, none⟩ = some (.slice A0 l0.length c0)) (ds := []) #[false, false, false, false, false] (by kernel_rfl) rfl rfl ⟨(blk_cell K3.out 0).trans rfl, (blk_cell K1.out 0).trans rfl⟩ (fun hHeld => ?_)
  generalize w15.drew = w16 at Oc8 Oc11 Og12 K1 K2 K3 K4 BW Z16 BS hHeld ⊢
  refine take_ (i := 0) (N := some 52) (v := ?_) (a' := ?_) #[true, false, false, false, false] rfl rfl (by kernel_rfl) (fun _ _ _ h => h) (Or.inl ⟨by rfl, ?_⟩) hHeld ?_ ?_
  rotate_left
  · rintro w' ⟨s0, s1⟩
    go_simp
    with_reducible rfl
  rotate_left
  · simp only [Act.put, List.setIfInBounds_toArray, List.set_cons_zero, List.set_cons_succ, i64_w, i32_w]
    rfl
  refine take_ (i := 1) (N := some 53) (v := ?_) (a' := ?_) #[true, true, false, false, false] rfl rfl (by kernel_rfl) (fun _ _ _ h => h) (Or.inl ⟨by rfl, ?_⟩) hHeld ?_ ?_
  rotate_left
  · rintro w' ⟨s0, s1⟩
    go_simp
    with_reducible rfl
  rotate_left
  · simp only [Act.put, List.setIfInBounds_toArray, List.set_cons_zero, List.set_cons_succ, i64_w, i32_w]
    rfl
  refine one_ (i := 2) (N := some 54) #[true, true, true, false, false] rfl rfl (by kernel_rfl) (by decide) (fun K hK => ?_)
  refine goes_ Try.func11 (by kernel_rfl) rfl #[.agg #[.slice A0 l0.length c0]] (by rfl) rfl rfl (by (try simp only [List.map_toArray, List.map_cons, List.map_nil]); first | done | rfl | (simp only [List.length_drop, List.length_take]; rfl)) ?_
  refine (copyM_any A0 c0 l0 _ HF0.out (Kd.C_below HR0.out BW.out) HC0.out).mono ?_
  rintro e w17 ⟨Ac17, cc17, rfl, hl, hO, hb⟩
  refine ⟨_, rfl, ?_⟩
  replace Oc8 := Aside0.mk (Oc8.out.below hb)
  replace Oc11 := Aside0.mk (Oc11.out.below hb)
  replace Og12 := Aside0.mk (Og12.out.below hb)
  replace K1 := Aside0.mk (blk_below K1.out hb)
  replace K2 := Aside0.mk (blk_below K2.out hb)
  replace K3 := Aside0.mk (blk_below K3.out hb)
  replace K4 := Aside0.mk (blk_below K4.out hb)
  replace BW := Aside0.mk (below_step BW.out hb)
  replace BS := Aside0.mk (below_step BS.out hb)
  have Z17 := Aside0.mk (show w16.heap.size ≤ w17.heap.size from hb.size)
  have Oc17 := Aside0.mk (hO.lower (base' := w5.heap.size) (by have := G1_.out; have := Z6.out; have := G2.out; have := Z7.out; have := Z8.out; have := Z9.out; have := G3.out; have := Z10.out; have := Z11.out; have := Z12.out; have := Z13.out; have := G4.out; have := Z14.out; have := Z15.out; have := Z16.out; have := Z17.out; omega))
  have Lc17 := Aside0.mk hl
  clear hb hl hO
  refine hK.out _ _ ⟨(blk_cell K3.out 0).trans rfl, (blk_cell K1.out 0).trans rfl⟩ (fun hHeld => ?_)
  clear hK K
  refine norm_ (a' := ?_) ?_ ?_
  rotate_left
  · show Act.put _ (some 54) _ = _
    simp only [Act.put, List.setIfInBounds_toArray, List.set_cons_zero, List.set_cons_succ, i64_w, i32_w]
    rfl
  refine one_ (i := 3) (N := some 55) #[true, true, true, true, false] rfl rfl (by kernel_rfl) (by decide) (fun K hK => ?_)
  refine goes_ Try.func13 (by kernel_rfl) rfl #[.agg #[.slice Ac8 l0.length cc8], .agg #[.slice Ac17 l0.length cc17]] (by rfl) rfl rfl (by (try simp only [List.map_toArray, List.map_cons, List.map_nil]); first | done | rfl | (simp only [List.length_drop, List.length_take]; rfl)) ?_
  refine (sameM_any Ac8 Ac17 cc8 cc17 l0 _ HF0.out Oc8.out.C Lc8.out Oc17.out.C Lc17.out).mono ?_
  rintro e w18 ⟨rfl, hb⟩
  refine ⟨_, rfl, ?_⟩
  replace Oc8 := Aside0.mk (Oc8.out.below hb)
  replace Oc11 := Aside0.mk (Oc11.out.below hb)
  replace Og12 := Aside0.mk (Og12.out.below hb)
  replace Oc17 := Aside0.mk (Oc17.out.below hb)
  replace K1 := Aside0.mk (blk_below K1.out hb)
  replace K2 := Aside0.mk (blk_below K2.out hb)
  replace K3 := Aside0.mk (blk_below K3.out hb)
  replace K4 := Aside0.mk (blk_below K4.out hb)
  replace BW := Aside0.mk (below_step BW.out hb)
  replace BS := Aside0.mk (below_step BS.out hb)
  have Z18 := Aside0.mk (show w17.heap.size ≤ w18.heap.size from hb.size)
  clear hb
  refine hK.out _ _ ⟨(blk_cell K3.out 0).trans rfl, (blk_cell K1.out 0).trans rfl⟩ (fun hHeld => ?_)
  clear hK K
  refine norm_ (a' := ?_) ?_ ?_
  rotate_left
  · show Act.put _ (some 55) _ = _
    simp only [Act.put, List.setIfInBounds_toArray, List.set_cons_zero, List.set_cons_succ, i64_w, i32_w]
    rfl
  refine pure_ (i := 4) (N := some 56) (v := ?_) (a' := ?_) #[true, true, true, true, true] rfl rfl (by kernel_rfl) (fun _ _ _ h => h) (Or.inl ⟨by rfl, ?_⟩) ?_ ?_
  rotate_left
  · intro w'
    go_simp
    with_reducible rfl
  rotate_left
  · simp only [Act.put, List.setIfInBounds_toArray, List.set_cons_zero, List.set_cons_succ, i64_w, i32_w]
    rfl
  refine done_ (by kernel_rfl) ?_
  have hz1 : w18.cell? ⟨g1, 0, none⟩ = some (.slice A0 l0.length c0) := (blk_cell K1.out 0).trans rfl
  have hf1 := blk_frozen K1.out 0
  have hz2 : w18.cell? ⟨g2, 0, none⟩ = some (.slice Aw G.length cw) := (blk_cell K2.out 0).trans rfl
  have hf2 := blk_frozen K2.out 0
  have hz3 : w18.cell? ⟨g3, 0, none⟩ = some (.slice Ac8 l0.length cc8) := (blk_cell K3.out 0).trans rfl
  have hf3 := blk_frozen K3.out 0
  have hz4 : w18.cell? ⟨g4, 0, none⟩ = some (.slice Ag12 G.length cg12) := (blk_cell K4.out 0).trans rfl
  have hf4 := blk_frozen K4.out 0
  have hn1_2 := E1_2.out
  have hn1_3 := E1_3.out
  have hn1_4 := E1_4.out
  have hn2_1 := E2_1.out
  have hn2_3 := E2_3.out
  have hn2_4 := E2_4.out
  have hn3_1 := E3_1.out
  have hn3_2 := E3_2.out
  have hn3_4 := E3_4.out
  have hn4_1 := E4_1.out
  have hn4_2 := E4_2.out
  have hn4_3 := E4_3.out
  go_wp2_with (fail)
  clear hz1 hf1 hz2 hf2 hz3 hf3 hz4 hf4 hn1_2 hn1_3 hn1_4 hn2_1 hn2_3 hn2_4 hn3_1 hn3_2 hn3_4 hn4_1 hn4_2 hn4_3
  refine (copyI_any A1 c1 l1 _ HF1.out (Kd.C_below HR1.out BW.out) HC1.out).mono ?_
  rintro e w19 ⟨Ac19, cc19, rfl, hl, hO, hb⟩
  replace Oc8 := Aside0.mk (Oc8.out.below hb)
  replace Oc11 := Aside0.mk (Oc11.out.below hb)
  replace Og12 := Aside0.mk (Og12.out.below hb)
  replace Oc17 := Aside0.mk (Oc17.out.below hb)
  replace K1 := Aside0.mk (blk_below K1.out hb)
  replace K2 := Aside0.mk (blk_below K2.out hb)
  replace K3 := Aside0.mk (blk_below K3.out hb)
  replace K4 := Aside0.mk (blk_below K4.out hb)
  replace BW := Aside0.mk (below_step BW.out hb)
  replace BS := Aside0.mk (below_step BS.out hb)
  have Z19 := Aside0.mk (show w18.heap.size ≤ w19.heap.size from hb.size)
  have Oc19 := Aside0.mk (hO.lower (base' := w5.heap.size) (by have := G1_.out; have := Z6.out; have := G2.out; have := Z7.out; have := Z8.out; have := Z9.out; have := G3.out; have := Z10.out; have := Z11.out; have := Z12.out; have := Z13.out; have := G4.out; have := Z14.out; have := Z15.out; have := Z16.out; have := Z17.out; have := Z18.out; have := Z19.out; omega))
  have Lc19 := Aside0.mk hl
  clear hb hl hO
  have hz1 : w19.cell? ⟨g1, 0, none⟩ = some (.slice A0 l0.length c0) := (blk_cell K1.out 0).trans rfl
  have hf1 := blk_frozen K1.out 0
  have hz2 : w19.cell? ⟨g2, 0, none⟩ = some (.slice Aw G.length cw) := (blk_cell K2.out 0).trans rfl
  have hf2 := blk_frozen K2.out 0
  have hz3 : w19.cell? ⟨g3, 0, none⟩ = some (.slice Ac8 l0.length cc8) := (blk_cell K3.out 0).trans rfl
  have hf3 := blk_frozen K3.out 0
  have hz4 : w19.cell? ⟨g4, 0, none⟩ = some (.slice Ag12 G.length cg12) := (blk_cell K4.out 0).trans rfl
  have hf4 := blk_frozen K4.out 0
  have hn1_2 := E1_2.out
  have hn1_3 := E1_3.out
  have hn1_4 := E1_4.out
  have hn2_1 := E2_1.out
  have hn2_3 := E2_3.out
  have hn2_4 := E2_4.out
  have hn3_1 := E3_1.out
  have hn3_2 := E3_2.out
  have hn3_4 := E3_4.out
  have hn4_1 := E4_1.out
  have hn4_2 := E4_2.out
  have hn4_3 := E4_3.out
  go_wp2_with (fail)
  clear hz1 hf1 hz2 hf2 hz3 hf3 hz4 hf4 hn1_2 hn1_3 hn1_4 hn2_1 hn2_3 hn2_4 hn3_1 hn3_2 hn3_4 hn4_1 hn4_2 hn4_3
  refine (sameI_any Ac11 Ac19 cc11 cc19 l1 _ HN1.out Oc11.out.C Lc11.out Oc19.out.C Lc19.out).mono ?_
  rintro e w20 ⟨rfl, hb⟩
  replace Oc8 := Aside0.mk (Oc8.out.below hb)
  replace Oc11 := Aside0.mk (Oc11.out.below hb)
  replace Og12 := Aside0.mk (Og12.out.below hb)
  replace Oc17 := Aside0.mk (Oc17.out.below hb)
  replace Oc19 := Aside0.mk (Oc19.out.below hb)
  replace K1 := Aside0.mk (blk_below K1.out hb)
  replace K2 := Aside0.mk (blk_below K2.out hb)
  replace K3 := Aside0.mk (blk_below K3.out hb)
  replace K4 := Aside0.mk (blk_below K4.out hb)
  replace BW := Aside0.mk (below_step BW.out hb)
  replace BS := Aside0.mk (below_step BS.out hb)
  have Z20 := Aside0.mk (show w19.heap.size ≤ w20.heap.size from hb.size)
  clear hb
  have hz1 : w20.cell? ⟨g1, 0, none⟩ = some (.slice A0 l0.length c0) := (blk_cell K1.out 0).trans rfl
  have hf1 := blk_frozen K1.out 0
  have hz2 : w20.cell? ⟨g2, 0, none⟩ = some (.slice Aw G.length cw) := (blk_cell K2.out 0).trans rfl
  have hf2 := blk_frozen K2.out 0
  have hz3 : w20.cell? ⟨g3, 0, none⟩ = some (.slice Ac8 l0.length cc8) := (blk_cell K3.out 0).trans rfl
  have hf3 := blk_frozen K3.out 0
  have hz4 : w20.cell? ⟨g4, 0, none⟩ = some (.slice Ag12 G.length cg12) := (blk_cell K4.out 0).trans rfl
  have hf4 := blk_frozen K4.out 0
  have hn1_2 := E1_2.out
  have hn1_3 := E1_3.out
  have hn1_4 := E1_4.out
  have hn2_1 := E2_1.out
  have hn2_3 := E2_3.out
  have hn2_4 := E2_4.out
  have hn3_1 := E3_1.out
  have hn3_2 := E3_2.out
  have hn3_4 := E3_4.out
  have hn4_1 := E4_1.out
  have hn4_2 := E4_2.out
  have hn4_3 := E4_3.out
  go_wp2_with (fail)
  clear hz1 hf1 hz2 hf2 hz3 hf3 hz4 hf4 hn1_2 hn1_3 hn1_4 hn2_1 hn2_3 hn2_4 hn3_1 hn3_2 hn3_4 hn4_1 hn4_2 hn4_3
  refine (markM_any w5 w7.heap.size w8.heap.size Ac8 cc8 l0 (1) _ BS.out Oc8.out HN0.out HA0.out.1 HA0.out.2 (by have := G1_.out; have := Z6.out; have := G2.out; have := Z7.out; have := Z8.out; have := Z9.out; have := G3.out; have := Z10.out; have := Z11.out; have := Z12.out; have := Z13.out; have := G4.out; have := Z14.out; have := Z15.out; have := Z16.out; have := Z17.out; have := Z18.out; have := Z19.out; have := Z20.out; omega)).mono ?_
  rintro e w21 ⟨rfl, hO, hb, hk⟩
  replace BS := Aside0.mk hb
  replace BW := Aside0.mk (below_step B0.out hb)
  have Z21 := Aside0.mk (show w20.heap.size ≤ w21.heap.size from hk.1)
  replace Oc11 := Aside0.mk (Oc11.out.kept hk (by have := G1_.out; have := Z6.out; have := G2.out; have := Z7.out; have := Z8.out; have := Z9.out; have := G3.out; have := Z10.out; have := Z11.out; have := Z12.out; have := Z13.out; have := G4.out; have := Z14.out; have := Z15.out; have := Z16.out; have := Z17.out; have := Z18.out; have := Z19.out; have := Z20.out; have := Z21.out; omega))
  replace Og12 := Aside0.mk (Og12.out.kept hk (by have := G1_.out; have := Z6.out; have := G2.out; have := Z7.out; have := Z8.out; have := Z9.out; have := G3.out; have := Z10.out; have := Z11.out; have := Z12.out; have := Z13.out; have := G4.out; have := Z14.out; have := Z15.out; have := Z16.out; have := Z17.out; have := Z18.out; have := Z19.out; have := Z20.out; have := Z21.out; omega))
  replace Oc17 := Aside0.mk (Oc17.out.kept hk (by have := G1_.out; have := Z6.out; have := G2.out; have := Z7.out; have := Z8.out; have := Z9.out; have := G3.out; have := Z10.out; have := Z11.out; have := Z12.out; have := Z13.out; have := G4.out; have := Z14.out; have := Z15.out; have := Z16.out; have := Z17.out; have := Z18.out; have := Z19.out; have := Z20.out; have := Z21.out; omega))
  replace Oc19 := Aside0.mk (Oc19.out.kept hk (by have := G1_.out; have := Z6.out; have := G2.out; have := Z7.out; have := Z8.out; have := Z9.out; have := G3.out; have := Z10.out; have := Z11.out; have := Z12.out; have := Z13.out; have := G4.out; have := Z14.out; have := Z15.out; have := Z16.out; have := Z17.out; have := Z18.out; have := Z19.out; have := Z20.out; have := Z21.out; omega))
  replace K1 := Aside0.mk (blk_kept K1.out hk (fun hh => by have := G1_.out; have := Z6.out; have := G2.out; have := Z7.out; have := Z8.out; have := Z9.out; have := G3.out; have := Z10.out; have := Z11.out; have := Z12.out; have := Z13.out; have := G4.out; have := Z14.out; have := Z15.out; have := Z16.out; have := Z17.out; have := Z18.out; have := Z19.out; have := Z20.out; have := Z21.out; obtain ⟨h1, h2⟩ := hh; omega))
  replace K2 := Aside0.mk (blk_kept K2.out hk (fun hh => by have := G1_.out; have := Z6.out; have := G2.out; have := Z7.out; have := Z8.out; have := Z9.out; have := G3.out; have := Z10.out; have := Z11.out; have := Z12.out; have := Z13.out; have := G4.out; have := Z14.out; have := Z15.out; have := Z16.out; have := Z17.out; have := Z18.out; have := Z19.out; have := Z20.out; have := Z21.out; obtain ⟨h1, h2⟩ := hh; omega))
  replace K3 := Aside0.mk (blk_kept K3.out hk (fun hh => by have := G1_.out; have := Z6.out; have := G2.out; have := Z7.out; have := Z8.out; have := Z9.out; have := G3.out; have := Z10.out; have := Z11.out; have := Z12.out; have := Z13.out; have := G4.out; have := Z14.out; have := Z15.out; have := Z16.out; have := Z17.out; have := Z18.out; have := Z19.out; have := Z20.out; have := Z21.out; obtain ⟨h1, h2⟩ := hh; omega))
  replace K4 := Aside0.mk (blk_kept K4.out hk (fun hh => by have := G1_.out; have := Z6.out; have := G2.out; have := Z7.out; have := Z8.out; have := Z9.out; have := G3.out; have := Z10.out; have := Z11.out; have := Z12.out; have := Z13.out; have := G4.out; have := Z14.out; have := Z15.out; have := Z16.out; have := Z17.out; have := Z18.out; have := Z19.out; have := Z20.out; have := Z21.out; obtain ⟨h1, h2⟩ := hh; omega))
  replace Oc8 := Aside0.mk hO
  clear hb hO hk
  have hz1 : w21.cell? ⟨g1, 0, none⟩ = some (.slice A0 l0.length c0) := (blk_cell K1.out 0).trans rfl
  have hf1 := blk_frozen K1.out 0
  have hz2 : w21.cell? ⟨g2, 0, none⟩ = some (.slice Aw G.length cw) := (blk_cell K2.out 0).trans rfl
  have hf2 := blk_frozen K2.out 0
  have hz3 : w21.cell? ⟨g3, 0, none⟩ = some (.slice Ac8 l0.length cc8) := (blk_cell K3.out 0).trans rfl
  have hf3 := blk_frozen K3.out 0
  have hz4 : w21.cell? ⟨g4, 0, none⟩ = some (.slice Ag12 G.length cg12) := (blk_cell K4.out 0).trans rfl
  have hf4 := blk_frozen K4.out 0
  have hn1_2 := E1_2.out
  have hn1_3 := E1_3.out
  have hn1_4 := E1_4.out
  have hn2_1 := E2_1.out
  have hn2_3 := E2_3.out
  have hn2_4 := E2_4.out
  have hn3_1 := E3_1.out
  have hn3_2 := E3_2.out
  have hn3_4 := E3_4.out
  have hn4_1 := E4_1.out
  have hn4_2 := E4_2.out
  have hn4_3 := E4_3.out
  go_wp2_with (fail)
  clear hz1 hf1 hz2 hf2 hz3 hf3 hz4 hf4 hn1_2 hn1_3 hn1_4 hn2_1 hn2_3 hn2_4 hn3_1 hn3_2 hn3_4 hn4_1 hn4_2 hn4_3
  refine (markI_any w5 w10.heap.size w11.heap.size Ac11 cc11 l1 (1 + ((tot l0 : Nat) : Int)) _ BS.out Oc11.out HN1.out HA1.out.1 HA1.out.2 (by have := G1_.out; have := Z6.out; have := G2.out; have := Z7.out; have := Z8.out; have := Z9.out; have := G3.out; have := Z10.out; have := Z11.out; have := Z12.out; have := Z13.out; have := G4.out; have := Z14.out; have := Z15.out; have := Z16.out; have := Z17.out; have := Z18.out; have := Z19.out; have := Z20.out; have := Z21.out; omega)).mono ?_
  rintro e w22 ⟨rfl, hO, hb, hk⟩
  replace BS := Aside0.mk hb
  replace BW := Aside0.mk (below_step B0.out hb)
  have Z22 := Aside0.mk (show w21.heap.size ≤ w22.heap.size from hk.1)
  replace Og12 := Aside0.mk (Og12.out.kept hk (by have := G1_.out; have := Z6.out; have := G2.out; have := Z7.out; have := Z8.out; have := Z9.out; have := G3.out; have := Z10.out; have := Z11.out; have := Z12.out; have := Z13.out; have := G4.out; have := Z14.out; have := Z15.out; have := Z16.out; have := Z17.out; have := Z18.out; have := Z19.out; have := Z20.out; have := Z21.out; have := Z22.out; omega))
  replace Oc17 := Aside0.mk (Oc17.out.kept hk (by have := G1_.out; have := Z6.out; have := G2.out; have := Z7.out; have := Z8.out; have := Z9.out; have := G3.out; have := Z10.out; have := Z11.out; have := Z12.out; have := Z13.out; have := G4.out; have := Z14.out; have := Z15.out; have := Z16.out; have := Z17.out; have := Z18.out; have := Z19.out; have := Z20.out; have := Z21.out; have := Z22.out; omega))
  replace Oc19 := Aside0.mk (Oc19.out.kept hk (by have := G1_.out; have := Z6.out; have := G2.out; have := Z7.out; have := Z8.out; have := Z9.out; have := G3.out; have := Z10.out; have := Z11.out; have := Z12.out; have := Z13.out; have := G4.out; have := Z14.out; have := Z15.out; have := Z16.out; have := Z17.out; have := Z18.out; have := Z19.out; have := Z20.out; have := Z21.out; have := Z22.out; omega))
  replace Oc8 := Aside0.mk (Oc8.out.kept hk (by have := G1_.out; have := Z6.out; have := G2.out; have := Z7.out; have := Z8.out; have := Z9.out; have := G3.out; have := Z10.out; have := Z11.out; have := Z12.out; have := Z13.out; have := G4.out; have := Z14.out; have := Z15.out; have := Z16.out; have := Z17.out; have := Z18.out; have := Z19.out; have := Z20.out; have := Z21.out; have := Z22.out; omega))
  replace K1 := Aside0.mk (blk_kept K1.out hk (fun hh => by have := G1_.out; have := Z6.out; have := G2.out; have := Z7.out; have := Z8.out; have := Z9.out; have := G3.out; have := Z10.out; have := Z11.out; have := Z12.out; have := Z13.out; have := G4.out; have := Z14.out; have := Z15.out; have := Z16.out; have := Z17.out; have := Z18.out; have := Z19.out; have := Z20.out; have := Z21.out; have := Z22.out; obtain ⟨h1, h2⟩ := hh; omega))
  replace K2 := Aside0.mk (blk_kept K2.out hk (fun hh => by have := G1_.out; have := Z6.out; have := G2.out; have := Z7.out; have := Z8.out; have := Z9.out; have := G3.out; have := Z10.out; have := Z11.out; have := Z12.out; have := Z13.out; have := G4.out; have := Z14.out; have := Z15.out; have := Z16.out; have := Z17.out; have := Z18.out; have := Z19.out; have := Z20.out; have := Z21.out; have := Z22.out; obtain ⟨h1, h2⟩ := hh; omega))
  replace K3 := Aside0.mk (blk_kept K3.out hk (fun hh => by have := G1_.out; have := Z6.out; have := G2.out; have := Z7.out; have := Z8.out; have := Z9.out; have := G3.out; have := Z10.out; have := Z11.out; have := Z12.out; have := Z13.out; have := G4.out; have := Z14.out; have := Z15.out; have := Z16.out; have := Z17.out; have := Z18.out; have := Z19.out; have := Z20.out; have := Z21.out; have := Z22.out; obtain ⟨h1, h2⟩ := hh; omega))
  replace K4 := Aside0.mk (blk_kept K4.out hk (fun hh => by have := G1_.out; have := Z6.out; have := G2.out; have := Z7.out; have := Z8.out; have := Z9.out; have := G3.out; have := Z10.out; have := Z11.out; have := Z12.out; have := Z13.out; have := G4.out; have := Z14.out; have := Z15.out; have := Z16.out; have := Z17.out; have := Z18.out; have := Z19.out; have := Z20.out; have := Z21.out; have := Z22.out; obtain ⟨h1, h2⟩ := hh; omega))
  replace Oc11 := Aside0.mk hO
  clear hb hO hk
  have hz1 : w22.cell? ⟨g1, 0, none⟩ = some (.slice A0 l0.length c0) := (blk_cell K1.out 0).trans rfl
  have hf1 := blk_frozen K1.out 0
  have hz2 : w22.cell? ⟨g2, 0, none⟩ = some (.slice Aw G.length cw) := (blk_cell K2.out 0).trans rfl
  have hf2 := blk_frozen K2.out 0
  have hz3 : w22.cell? ⟨g3, 0, none⟩ = some (.slice Ac8 l0.length cc8) := (blk_cell K3.out 0).trans rfl
  have hf3 := blk_frozen K3.out 0
  have hz4 : w22.cell? ⟨g4, 0, none⟩ = some (.slice Ag12 G.length cg12) := (blk_cell K4.out 0).trans rfl
  have hf4 := blk_frozen K4.out 0
  have hn1_2 := E1_2.out
  have hn1_3 := E1_3.out
  have hn1_4 := E1_4.out
  have hn2_1 := E2_1.out
  have hn2_3 := E2_3.out
  have hn2_4 := E2_4.out
  have hn3_1 := E3_1.out
  have hn3_2 := E3_2.out
  have hn3_4 := E3_4.out
  have hn4_1 := E4_1.out
  have hn4_2 := E4_2.out
  have hn4_3 := E4_3.out
  go_wp2_with (fail)
  clear hz1 hf1 hz2 hf2 hz3 hf3 hz4 hf4 hn1_2 hn1_3 hn1_4 hn2_1 hn2_3 hn2_4 hn3_1 hn3_2 hn3_4 hn4_1 hn4_2 hn4_3
  refine (sameM_any Ag12 Aw cg12 cw G _ HF.out Og12.out.C Lg12.out (Kd.C_below CW.out BS.out) LW.out).mono ?_
  rintro e w23 ⟨rfl, hb⟩
  replace Og12 := Aside0.mk (Og12.out.below hb)
  replace Oc17 := Aside0.mk (Oc17.out.below hb)
  replace Oc19 := Aside0.mk (Oc19.out.below hb)
  replace Oc8 := Aside0.mk (Oc8.out.below hb)
  replace Oc11 := Aside0.mk (Oc11.out.below hb)
  replace K1 := Aside0.mk (blk_below K1.out hb)
  replace K2 := Aside0.mk (blk_below K2.out hb)
  replace K3 := Aside0.mk (blk_below K3.out hb)
  replace K4 := Aside0.mk (blk_below K4.out hb)
  replace BW := Aside0.mk (below_step BW.out hb)
  replace BS := Aside0.mk (below_step BS.out hb)
  have Z23 := Aside0.mk (show w22.heap.size ≤ w23.heap.size from hb.size)
  clear hb
  have hz1 : w23.cell? ⟨g1, 0, none⟩ = some (.slice A0 l0.length c0) := (blk_cell K1.out 0).trans rfl
  have hf1 := blk_frozen K1.out 0
  have hz2 : w23.cell? ⟨g2, 0, none⟩ = some (.slice Aw G.length cw) := (blk_cell K2.out 0).trans rfl
  have hf2 := blk_frozen K2.out 0
  have hz3 : w23.cell? ⟨g3, 0, none⟩ = some (.slice Ac8 l0.length cc8) := (blk_cell K3.out 0).trans rfl
  have hf3 := blk_frozen K3.out 0
  have hz4 : w23.cell? ⟨g4, 0, none⟩ = some (.slice Ag12 G.length cg12) := (blk_cell K4.out 0).trans rfl
  have hf4 := blk_frozen K4.out 0
  have hn1_2 := E1_2.out
  have hn1_3 := E1_3.out
  have hn1_4 := E1_4.out
  have hn2_1 := E2_1.out
  have hn2_3 := E2_3.out
  have hn2_4 := E2_4.out
  have hn3_1 := E3_1.out
  have hn3_2 := E3_2.out
  have hn3_4 := E3_4.out
  have hn4_1 := E4_1.out
  have hn4_2 := E4_2.out
  have hn4_3 := E4_3.out
  go_wp2_with (fail)
  clear hz1 hf1 hz2 hf2 hz3 hf3 hz4 hf4 hn1_2 hn1_3 hn1_4 hn2_1 hn2_3 hn2_4 hn3_1 hn3_2 hn3_4 hn4_1 hn4_2 hn4_3
  refine (markM_any w5 w11.heap.size w12.heap.size Ag12 cg12 G 1 _ BS.out Og12.out HG1.out (by omega) HG2.out (by have := G1_.out; have := Z6.out; have := G2.out; have := Z7.out; have := Z8.out; have := Z9.out; have := G3.out; have := Z10.out; have := Z11.out; have := Z12.out; have := Z13.out; have := G4.out; have := Z14.out; have := Z15.out; have := Z16.out; have := Z17.out; have := Z18.out; have := Z19.out; have := Z20.out; have := Z21.out; have := Z22.out; have := Z23.out; omega)).mono ?_
  rintro e w24 ⟨rfl, hO, hb, hk⟩
  replace BS := Aside0.mk hb
  replace BW := Aside0.mk (below_step B0.out hb)
  have Z24 := Aside0.mk (show w23.heap.size ≤ w24.heap.size from hk.1)
  replace Oc17 := Aside0.mk (Oc17.out.kept hk (by have := G1_.out; have := Z6.out; have := G2.out; have := Z7.out; have := Z8.out; have := Z9.out; have := G3.out; have := Z10.out; have := Z11.out; have := Z12.out; have := Z13.out; have := G4.out; have := Z14.out; have := Z15.out; have := Z16.out; have := Z17.out; have := Z18.out; have := Z19.out; have := Z20.out; have := Z21.out; have := Z22.out; have := Z23.out; have := Z24.out; omega))
  replace Oc19 := Aside0.mk (Oc19.out.kept hk (by have := G1_.out; have := Z6.out; have := G2.out; have := Z7.out; have := Z8.out; have := Z9.out; have := G3.out; have := Z10.out; have := Z11.out; have := Z12.out; have := Z13.out; have := G4.out; have := Z14.out; have := Z15.out; have := Z16.out; have := Z17.out; have := Z18.out; have := Z19.out; have := Z20.out; have := Z21.out; have := Z22.out; have := Z23.out; have := Z24.out; omega))
  replace Oc8 := Aside0.mk (Oc8.out.kept hk (by have := G1_.out; have := Z6.out; have := G2.out; have := Z7.out; have := Z8.out; have := Z9.out; have := G3.out; have := Z10.out; have := Z11.out; have := Z12.out; have := Z13.out; have := G4.out; have := Z14.out; have := Z15.out; have := Z16.out; have := Z17.out; have := Z18.out; have := Z19.out; have := Z20.out; have := Z21.out; have := Z22.out; have := Z23.out; have := Z24.out; omega))
  replace Oc11 := Aside0.mk (Oc11.out.kept hk (by have := G1_.out; have := Z6.out; have := G2.out; have := Z7.out; have := Z8.out; have := Z9.out; have := G3.out; have := Z10.out; have := Z11.out; have := Z12.out; have := Z13.out; have := G4.out; have := Z14.out; have := Z15.out; have := Z16.out; have := Z17.out; have := Z18.out; have := Z19.out; have := Z20.out; have := Z21.out; have := Z22.out; have := Z23.out; have := Z24.out; omega))
  replace K1 := Aside0.mk (blk_kept K1.out hk (fun hh => by have := G1_.out; have := Z6.out; have := G2.out; have := Z7.out; have := Z8.out; have := Z9.out; have := G3.out; have := Z10.out; have := Z11.out; have := Z12.out; have := Z13.out; have := G4.out; have := Z14.out; have := Z15.out; have := Z16.out; have := Z17.out; have := Z18.out; have := Z19.out; have := Z20.out; have := Z21.out; have := Z22.out; have := Z23.out; have := Z24.out; obtain ⟨h1, h2⟩ := hh; omega))
  replace K2 := Aside0.mk (blk_kept K2.out hk (fun hh => by have := G1_.out; have := Z6.out; have := G2.out; have := Z7.out; have := Z8.out; have := Z9.out; have := G3.out; have := Z10.out; have := Z11.out; have := Z12.out; have := Z13.out; have := G4.out; have := Z14.out; have := Z15.out; have := Z16.out; have := Z17.out; have := Z18.out; have := Z19.out; have := Z20.out; have := Z21.out; have := Z22.out; have := Z23.out; have := Z24.out; obtain ⟨h1, h2⟩ := hh; omega))
  replace K3 := Aside0.mk (blk_kept K3.out hk (fun hh => by have := G1_.out; have := Z6.out; have := G2.out; have := Z7.out; have := Z8.out; have := Z9.out; have := G3.out; have := Z10.out; have := Z11.out; have := Z12.out; have := Z13.out; have := G4.out; have := Z14.out; have := Z15.out; have := Z16.out; have := Z17.out; have := Z18.out; have := Z19.out; have := Z20.out; have := Z21.out; have := Z22.out; have := Z23.out; have := Z24.out; obtain ⟨h1, h2⟩ := hh; omega))
  replace K4 := Aside0.mk (blk_kept K4.out hk (fun hh => by have := G1_.out; have := Z6.out; have := G2.out; have := Z7.out; have := Z8.out; have := Z9.out; have := G3.out; have := Z10.out; have := Z11.out; have := Z12.out; have := Z13.out; have := G4.out; have := Z14.out; have := Z15.out; have := Z16.out; have := Z17.out; have := Z18.out; have := Z19.out; have := Z20.out; have := Z21.out; have := Z22.out; have := Z23.out; have := Z24.out; obtain ⟨h1, h2⟩ := hh; omega))
  replace Og12 := Aside0.mk hO
  clear hb hO hk
  have hz1 : w24.cell? ⟨g1, 0, none⟩ = some (.slice A0 l0.length c0) := (blk_cell K1.out 0).trans rfl
  have hf1 := blk_frozen K1.out 0
  have hz2 : w24.cell? ⟨g2, 0, none⟩ = some (.slice Aw G.length cw) := (blk_cell K2.out 0).trans rfl
  have hf2 := blk_frozen K2.out 0
  have hz3 : w24.cell? ⟨g3, 0, none⟩ = some (.slice Ac8 l0.length cc8) := (blk_cell K3.out 0).trans rfl
  have hf3 := blk_frozen K3.out 0
  have hz4 : w24.cell? ⟨g4, 0, none⟩ = some (.slice Ag12 G.length cg12) := (blk_cell K4.out 0).trans rfl
  have hf4 := blk_frozen K4.out 0
  have hn1_2 := E1_2.out
  have hn1_3 := E1_3.out
  have hn1_4 := E1_4.out
  have hn2_1 := E2_1.out
  have hn2_3 := E2_3.out
  have hn2_4 := E2_4.out
  have hn3_1 := E3_1.out
  have hn3_2 := E3_2.out
  have hn3_4 := E3_4.out
  have hn4_1 := E4_1.out
  have hn4_2 := E4_2.out
  have hn4_3 := E4_3.out
  go_wp2_with (fail)
  clear hz1 hf1 hz2 hf2 hz3 hf3 hz4 hf4 hn1_2 hn1_3 hn1_4 hn2_1 hn2_3 hn2_4 hn3_1 hn3_2 hn3_4 hn4_1 hn4_2 hn4_3
  refine (heldM_any Ag12 cg12 G 1 _ HG1.out (by omega) HG2.out Og12.out.C Lg12.out).mono ?_
  rintro e w25 ⟨rfl, hb⟩
  replace Oc17 := Aside0.mk (Oc17.out.below hb)
  replace Oc19 := Aside0.mk (Oc19.out.below hb)
  replace Oc8 := Aside0.mk (Oc8.out.below hb)
  replace Oc11 := Aside0.mk (Oc11.out.below hb)
  replace Og12 := Aside0.mk (Og12.out.below hb)
  replace K1 := Aside0.mk (blk_below K1.out hb)
  replace K2 := Aside0.mk (blk_below K2.out hb)
  replace K3 := Aside0.mk (blk_below K3.out hb)
  replace K4 := Aside0.mk (blk_below K4.out hb)
  replace BW := Aside0.mk (below_step BW.out hb)
  replace BS := Aside0.mk (below_step BS.out hb)
  have Z25 := Aside0.mk (show w24.heap.size ≤ w25.heap.size from hb.size)
  clear hb
  have hz1 : w25.cell? ⟨g1, 0, none⟩ = some (.slice A0 l0.length c0) := (blk_cell K1.out 0).trans rfl
  have hf1 := blk_frozen K1.out 0
  have hz2 : w25.cell? ⟨g2, 0, none⟩ = some (.slice Aw G.length cw) := (blk_cell K2.out 0).trans rfl
  have hf2 := blk_frozen K2.out 0
  have hz3 : w25.cell? ⟨g3, 0, none⟩ = some (.slice Ac8 l0.length cc8) := (blk_cell K3.out 0).trans rfl
  have hf3 := blk_frozen K3.out 0
  have hz4 : w25.cell? ⟨g4, 0, none⟩ = some (.slice Ag12 G.length cg12) := (blk_cell K4.out 0).trans rfl
  have hf4 := blk_frozen K4.out 0
  have hn1_2 := E1_2.out
  have hn1_3 := E1_3.out
  have hn1_4 := E1_4.out
  have hn2_1 := E2_1.out
  have hn2_3 := E2_3.out
  have hn2_4 := E2_4.out
  have hn3_1 := E3_1.out
  have hn3_2 := E3_2.out
  have hn3_4 := E3_4.out
  have hn4_1 := E4_1.out
  have hn4_2 := E4_2.out
  have hn4_3 := E4_3.out
  go_wp2_with (fail)
  clear hz1 hf1 hz2 hf2 hz3 hf3 hz4 hf4 hn1_2 hn1_3 hn1_4 hn2_1 hn2_3 hn2_4 hn3_1 hn3_2 hn3_4 hn4_1 hn4_2 hn4_3
  refine (copyM_any A0 c0 l0 _ HF0.out (Kd.C_below HR0.out BW.out) HC0.out).mono ?_
  rintro e w26 ⟨Ac26, cc26, rfl, hl, hO, hb⟩
  replace Oc17 := Aside0.mk (Oc17.out.below hb)
  replace Oc19 := Aside0.mk (Oc19.out.below hb)
  replace Oc8 := Aside0.mk (Oc8.out.below hb)
  replace Oc11 := Aside0.mk (Oc11.out.below hb)
  replace Og12 := Aside0.mk (Og12.out.below hb)
  replace K1 := Aside0.mk (blk_below K1.out hb)
  replace K2 := Aside0.mk (blk_below K2.out hb)
  replace K3 := Aside0.mk (blk_below K3.out hb)
  replace K4 := Aside0.mk (blk_below K4.out hb)
  replace BW := Aside0.mk (below_step BW.out hb)
  replace BS := Aside0.mk (below_step BS.out hb)
  have Z26 := Aside0.mk (show w25.heap.size ≤ w26.heap.size from hb.size)
  have Oc26 := Aside0.mk (hO.lower (base' := w5.heap.size) (by have := G1_.out; have := Z6.out; have := G2.out; have := Z7.out; have := Z8.out; have := Z9.out; have := G3.out; have := Z10.out; have := Z11.out; have := Z12.out; have := Z13.out; have := G4.out; have := Z14.out; have := Z15.out; have := Z16.out; have := Z17.out; have := Z18.out; have := Z19.out; have := Z20.out; have := Z21.out; have := Z22.out; have := Z23.out; have := Z24.out; have := Z25.out; have := Z26.out; omega))
  have Lc26 := Aside0.mk hl
  clear hb hl hO
  have hz1 : w26.cell? ⟨g1, 0, none⟩ = some (.slice A0 l0.length c0) := (blk_cell K1.out 0).trans rfl
  have hf1 := blk_frozen K1.out 0
  have hz2 : w26.cell? ⟨g2, 0, none⟩ = some (.slice Aw G.length cw) := (blk_cell K2.out 0).trans rfl
  have hf2 := blk_frozen K2.out 0
  have hz3 : w26.cell? ⟨g3, 0, none⟩ = some (.slice Ac8 l0.length cc8) := (blk_cell K3.out 0).trans rfl
  have hf3 := blk_frozen K3.out 0
  have hz4 : w26.cell? ⟨g4, 0, none⟩ = some (.slice Ag12 G.length cg12) := (blk_cell K4.out 0).trans rfl
  have hf4 := blk_frozen K4.out 0
  have hn1_2 := E1_2.out
  have hn1_3 := E1_3.out
  have hn1_4 := E1_4.out
  have hn2_1 := E2_1.out
  have hn2_3 := E2_3.out
  have hn2_4 := E2_4.out
  have hn3_1 := E3_1.out
  have hn3_2 := E3_2.out
  have hn3_4 := E3_4.out
  have hn4_1 := E4_1.out
  have hn4_2 := E4_2.out
  have hn4_3 := E4_3.out
  go_wp2_with (fail)
  clear hz1 hf1 hz2 hf2 hz3 hf3 hz4 hf4 hn1_2 hn1_3 hn1_4 hn2_1 hn2_3 hn2_4 hn3_1 hn3_2 hn3_4 hn4_1 hn4_2 hn4_3
  refine (copyI_any A1 c1 l1 _ HF1.out (Kd.C_below HR1.out BW.out) HC1.out).mono ?_
  rintro e w27 ⟨Ac27, cc27, rfl, hl, hO, hb⟩
  replace Oc17 := Aside0.mk (Oc17.out.below hb)
  replace Oc19 := Aside0.mk (Oc19.out.below hb)
  replace Oc8 := Aside0.mk (Oc8.out.below hb)
  replace Oc11 := Aside0.mk (Oc11.out.below hb)
  replace Og12 := Aside0.mk (Og12.out.below hb)
  replace Oc26 := Aside0.mk (Oc26.out.below hb)
  replace K1 := Aside0.mk (blk_below K1.out hb)
  replace K2 := Aside0.mk (blk_below K2.out hb)
  replace K3 := Aside0.mk (blk_below K3.out hb)
  replace K4 := Aside0.mk (blk_below K4.out hb)
  replace BW := Aside0.mk (below_step BW.out hb)
  replace BS := Aside0.mk (below_step BS.out hb)
  have Z27 := Aside0.mk (show w26.heap.size ≤ w27.heap.size from hb.size)
  have Oc27 := Aside0.mk (hO.lower (base' := w5.heap.size) (by have := G1_.out; have := Z6.out; have := G2.out; have := Z7.out; have := Z8.out; have := Z9.out; have := G3.out; have := Z10.out; have := Z11.out; have := Z12.out; have := Z13.out; have := G4.out; have := Z14.out; have := Z15.out; have := Z16.out; have := Z17.out; have := Z18.out; have := Z19.out; have := Z20.out; have := Z21.out; have := Z22.out; have := Z23.out; have := Z24.out; have := Z25.out; have := Z26.out; have := Z27.out; omega))
  have Lc27 := Aside0.mk hl
  clear hb hl hO
  have hz1 : w27.cell? ⟨g1, 0, none⟩ = some (.slice A0 l0.length c0) := (blk_cell K1.out 0).trans rfl
  have hf1 := blk_frozen K1.out 0
  have hz2 : w27.cell? ⟨g2, 0, none⟩ = some (.slice Aw G.length cw) := (blk_cell K2.out 0).trans rfl
  have hf2 := blk_frozen K2.out 0
  have hz3 : w27.cell? ⟨g3, 0, none⟩ = some (.slice Ac8 l0.length cc8) := (blk_cell K3.out 0).trans rfl
  have hf3 := blk_frozen K3.out 0
  have hz4 : w27.cell? ⟨g4, 0, none⟩ = some (.slice Ag12 G.length cg12) := (blk_cell K4.out 0).trans rfl
  have hf4 := blk_frozen K4.out 0
  have hn1_2 := E1_2.out
  have hn1_3 := E1_3.out
  have hn1_4 := E1_4.out
  have hn2_1 := E2_1.out
  have hn2_3 := E2_3.out
  have hn2_4 := E2_4.out
  have hn3_1 := E3_1.out
  have hn3_2 := E3_2.out
  have hn3_4 := E3_4.out
  have hn4_1 := E4_1.out
  have hn4_2 := E4_2.out
  have hn4_3 := E4_3.out
  go_wp2_with (fail)
  clear hz1 hf1 hz2 hf2 hz3 hf3 hz4 hf4 hn1_2 hn1_3 hn1_4 hn2_1 hn2_3 hn2_4 hn3_1 hn3_2 hn3_4 hn4_1 hn4_2 hn4_3
  refine (HI.out _ Ac26 cc26 Ac27 cc27 Oc26.out.C Lc26.out Oc27.out.C Lc27.out).mono ?_
  rintro e w28 ⟨vg28, rfl, hS, hb⟩
  replace Oc17 := Aside0.mk (Oc17.out.below hb)
  replace Oc19 := Aside0.mk (Oc19.out.below hb)
  replace Oc8 := Aside0.mk (Oc8.out.below hb)
  replace Oc11 := Aside0.mk (Oc11.out.below hb)
  replace Og12 := Aside0.mk (Og12.out.below hb)
  replace Oc26 := Aside0.mk (Oc26.out.below hb)
  replace Oc27 := Aside0.mk (Oc27.out.below hb)
  replace K1 := Aside0.mk (blk_below K1.out hb)
  replace K2 := Aside0.mk (blk_below K2.out hb)
  replace K3 := Aside0.mk (blk_below K3.out hb)
  replace K4 := Aside0.mk (blk_below K4.out hb)
  replace BW := Aside0.mk (below_step BW.out hb)
  replace BS := Aside0.mk (below_step BS.out hb)
  have Z28 := Aside0.mk (show w27.heap.size ≤ w28.heap.size from hb.size)
  obtain ⟨Ag28, cg28, rfl, hl, hO⟩ := OwnM.of hS
  clear hS
  have Og28 := Aside0.mk (hO.lower (base' := w5.heap.size) (by have := G1_.out; have := Z6.out; have := G2.out; have := Z7.out; have := Z8.out; have := Z9.out; have := G3.out; have := Z10.out; have := Z11.out; have := Z12.out; have := Z13.out; have := G4.out; have := Z14.out; have := Z15.out; have := Z16.out; have := Z17.out; have := Z18.out; have := Z19.out; have := Z20.out; have := Z21.out; have := Z22.out; have := Z23.out; have := Z24.out; have := Z25.out; have := Z26.out; have := Z27.out; have := Z28.out; omega))
  have Lg28 := Aside0.mk hl
  clear hb hl hO
  have hz1 : w28.cell? ⟨g1, 0, none⟩ = some (.slice A0 l0.length c0) := (blk_cell K1.out 0).trans rfl
  have hf1 := blk_frozen K1.out 0
  have hz2 : w28.cell? ⟨g2, 0, none⟩ = some (.slice Aw G.length cw) := (blk_cell K2.out 0).trans rfl
  have hf2 := blk_frozen K2.out 0
  have hz3 : w28.cell? ⟨g3, 0, none⟩ = some (.slice Ac8 l0.length cc8) := (blk_cell K3.out 0).trans rfl
  have hf3 := blk_frozen K3.out 0
  have hz4 : w28.cell? ⟨g4, 0, none⟩ = some (.slice Ag12 G.length cg12) := (blk_cell K4.out 0).trans rfl
  have hf4 := blk_frozen K4.out 0
  have hn1_2 := E1_2.out
  have hn1_3 := E1_3.out
  have hn1_4 := E1_4.out
  have hn2_1 := E2_1.out
  have hn2_3 := E2_3.out
  have hn2_4 := E2_4.out
  have hn3_1 := E3_1.out
  have hn3_2 := E3_2.out
  have hn3_4 := E3_4.out
  have hn4_1 := E4_1.out
  have hn4_2 := E4_2.out
  have hn4_3 := E4_3.out
  go_wp2_with (first | ((with_reducible refine gate_dst (N := 15) rfl ?_); refine box_event ?hg (N := 15) ?hd (cs := #[.slice none 0 0]) (t := 26) ?hr ?_; (case hd => rfl); (case hg => rfl); (case hr => first | (go_simp; done) | (go_simp; rfl)); intro g5 hg w29 hbox hb; clear hz1 hf1 hz2 hf2 hz3 hf3 hz4 hf4 hn1_2 hn1_3 hn1_4 hn2_1 hn2_3 hn2_4 hn3_1 hn3_2 hn3_4 hn4_1 hn4_2 hn4_3; replace Oc17 := Aside0.mk (Oc17.out.below hb); replace Oc19 := Aside0.mk (Oc19.out.below hb); replace Oc8 := Aside0.mk (Oc8.out.below hb); replace Oc11 := Aside0.mk (Oc11.out.below hb); replace Og12 := Aside0.mk (Og12.out.below hb); replace Oc26 := Aside0.mk (Oc26.out.below hb); replace Oc27 := Aside0.mk (Oc27.out.below hb); replace Og28 := Aside0.mk (Og28.out.below hb); replace K1 := Aside0.mk (blk_below K1.out hb); replace K2 := Aside0.mk (blk_below K2.out hb); replace K3 := Aside0.mk (blk_below K3.out hb); replace K4 := Aside0.mk (blk_below K4.out hb); replace BW := Aside0.mk (below_step BW.out hb); replace BS := Aside0.mk (below_step BS.out hb); have Z29 := Aside0.mk (show w28.heap.size ≤ w29.heap.size from hb.size); have K5 := Aside0.mk hbox; have G5 := Aside0.mk (show g5 = w28.heap.size ∧ g5 < w29.heap.size from ⟨hg, blk_lt hbox⟩); clear hb hbox hg; have E5_1 := Aside0.mk (show g5 ≠ g1 from (by have := G1_.out; have := Z6.out; have := G2.out; have := Z7.out; have := Z8.out; have := Z9.out; have := G3.out; have := Z10.out; have := Z11.out; have := Z12.out; have := Z13.out; have := G4.out; have := Z14.out; have := Z15.out; have := Z16.out; have := Z17.out; have := Z18.out; have := Z19.out; have := Z20.out; have := Z21.out; have := Z22.out; have := Z23.out; have := Z24.out; have := Z25.out; have := Z26.out; have := Z27.out; have := Z28.out; have := Z29.out; have := G5.out; omega)); have E1_5 := Aside0.mk (Ne.symm E5_1.out); have E5_2 := Aside0.mk (show g5 ≠ g2 from (by have := G1_.out; have := Z6.out; have := G2.out; have := Z7.out; have := Z8.out; have := Z9.out; have := G3.out; have := Z10.out; have := Z11.out; have := Z12.out; have := Z13.out; have := G4.out; have := Z14.out; have := Z15.out; have := Z16.out; have := Z17.out; have := Z18.out; have := Z19.out; have := Z20.out; have := Z21.out; have := Z22.out; have := Z23.out; have := Z24.out; have := Z25.out; have := Z26.out; have := Z27.out; have := Z28.out; have := Z29.out; have := G5.out; omega)); have E2_5 := Aside0.mk (Ne.symm E5_2.out); have E5_3 := Aside0.mk (show g5 ≠ g3 from (by have := G1_.out; have := Z6.out; have := G2.out; have := Z7.out; have := Z8.out; have := Z9.out; have := G3.out; have := Z10.out; have := Z11.out; have := Z12.out; have := Z13.out; have := G4.out; have := Z14.out; have := Z15.out; have := Z16.out; have := Z17.out; have := Z18.out; have := Z19.out; have := Z20.out; have := Z21.out; have := Z22.out; have := Z23.out; have := Z24.out; have := Z25.out; have := Z26.out; have := Z27.out; have := Z28.out; have := Z29.out; have := G5.out; omega)); have E3_5 := Aside0.mk (Ne.symm E5_3.out); have E5_4 := Aside0.mk (show g5 ≠ g4 from (by have := G1_.out; have := Z6.out; have := G2.out; have := Z7.out; have := Z8.out; have := Z9.out; have := G3.out; have := Z10.out; have := Z11.out; have := Z12.out; have := Z13.out; have := G4.out; have := Z14.out; have := Z15.out; have := Z16.out; have := Z17.out; have := Z18.out; have := Z19.out; have := Z20.out; have := Z21.out; have := Z22.out; have := Z23.out; have := Z24.out; have := Z25.out; have := Z26.out; have := Z27.out; have := Z28.out; have := Z29.out; have := G5.out; omega)); have E4_5 := Aside0.mk (Ne.symm E5_4.out); have hz1 : w29.cell? ⟨g1, 0, none⟩ = some (.slice A0 l0.length c0) := (blk_cell K1.out 0).trans rfl; have hf1 := blk_frozen K1.out 0; have hz2 : w29.cell? ⟨g2, 0, none⟩ = some (.slice Aw G.length cw) := (blk_cell K2.out 0).trans rfl; have hf2 := blk_frozen K2.out 0; have hz3 : w29.cell? ⟨g3, 0, none⟩ = some (.slice Ac8 l0.length cc8) := (blk_cell K3.out 0).trans rfl; have hf3 := blk_frozen K3.out 0; have hz4 : w29.cell? ⟨g4, 0, none⟩ = some (.slice Ag12 G.length cg12) := (blk_cell K4.out 0).trans rfl; have hf4 := blk_frozen K4.out 0; have hz5 : w29.cell? ⟨g5, 0, none⟩ = some (.slice none 0 0) := (blk_cell K5.out 0).trans rfl; have hf5 := blk_frozen K5.out 0; have hn1_2 := E1_2.out; have hn1_3 := E1_3.out; have hn1_4 := E1_4.out; have hn1_5 := E1_5.out; have hn2_1 := E2_1.out; have hn2_3 := E2_3.out; have hn2_4 := E2_4.out; have hn2_5 := E2_5.out; have hn3_1 := E3_1.out; have hn3_2 := E3_2.out; have hn3_4 := E3_4.out; have hn3_5 := E3_5.out; have hn4_1 := E4_1.out; have hn4_2 := E4_2.out; have hn4_3 := E4_3.out; have hn4_5 := E4_5.out; have hn5_1 := E5_1.out; have hn5_2 := E5_2.out; have hn5_3 := E5_3.out; have hn5_4 := E5_4.out))
  clear hz1 hf1 hz2 hf2 hz3 hf3 hz4 hf4 hz5 hf5 hn1_2 hn1_3 hn1_4 hn1_5 hn2_1 hn2_3 hn2_4 hn2_5 hn3_1 hn3_2 hn3_4 hn3_5 hn4_1 hn4_2 hn4_3 hn4_5 hn5_1 hn5_2 hn5_3 hn5_4
  obtain ⟨w30, hw⟩ : ∃ x, x = w29.setCell ⟨g5, 0, none⟩ (.slice Ag28 G.length cg28) := ⟨_, rfl⟩
  rw [← hw]
  have hk : Kept w29 w30 (fun k => g5 ≤ k ∧ k < g5 + 1) := by
    rw [hw]
    exact Kept.setCell (Kept.refl _ _) (.inl ⟨Nat.le_refl _, Nat.lt_succ_self _⟩) _
  have hkb : w30.heap[g5]? = some (.cells #[.slice Ag28 G.length cg28] 26 (0, 0)) := by
    rw [hw]
    simpa using blk_set K5.out 0 (.slice Ag28 G.length cg28)
  replace BW := Aside0.mk (show Below w.heap.size w w30 by
    rw [hw]
    exact below_set BW.out (by have := BZ.out; have := G1_.out; have := Z6.out; have := G2.out; have := Z7.out; have := Z8.out; have := Z9.out; have := G3.out; have := Z10.out; have := Z11.out; have := Z12.out; have := Z13.out; have := G4.out; have := Z14.out; have := Z15.out; have := Z16.out; have := Z17.out; have := Z18.out; have := Z19.out; have := Z20.out; have := Z21.out; have := Z22.out; have := Z23.out; have := Z24.out; have := Z25.out; have := Z26.out; have := Z27.out; have := Z28.out; have := Z29.out; have := G5.out; omega))
  replace BS := Aside0.mk (show Below w5.heap.size w5 w30 by
    rw [hw]
    exact below_set BS.out (by have := G1_.out; have := Z6.out; have := G2.out; have := Z7.out; have := Z8.out; have := Z9.out; have := G3.out; have := Z10.out; have := Z11.out; have := Z12.out; have := Z13.out; have := G4.out; have := Z14.out; have := Z15.out; have := Z16.out; have := Z17.out; have := Z18.out; have := Z19.out; have := Z20.out; have := Z21.out; have := Z22.out; have := Z23.out; have := Z24.out; have := Z25.out; have := Z26.out; have := Z27.out; have := Z28.out; have := Z29.out; have := G5.out; omega))
  have Z30 := Aside0.mk (show w29.heap.size ≤ w30.heap.size from hk.1)
  clear hw
  replace Oc17 := Aside0.mk (Oc17.out.kept hk (by have := G1_.out; have := Z6.out; have := G2.out; have := Z7.out; have := Z8.out; have := Z9.out; have := G3.out; have := Z10.out; have := Z11.out; have := Z12.out; have := Z13.out; have := G4.out; have := Z14.out; have := Z15.out; have := Z16.out; have := Z17.out; have := Z18.out; have := Z19.out; have := Z20.out; have := Z21.out; have := Z22.out; have := Z23.out; have := Z24.out; have := Z25.out; have := Z26.out; have := Z27.out; have := Z28.out; have := Z29.out; have := G5.out; have := Z30.out; omega))
  replace Oc19 := Aside0.mk (Oc19.out.kept hk (by have := G1_.out; have := Z6.out; have := G2.out; have := Z7.out; have := Z8.out; have := Z9.out; have := G3.out; have := Z10.out; have := Z11.out; have := Z12.out; have := Z13.out; have := G4.out; have := Z14.out; have := Z15.out; have := Z16.out; have := Z17.out; have := Z18.out; have := Z19.out; have := Z20.out; have := Z21.out; have := Z22.out; have := Z23.out; have := Z24.out; have := Z25.out; have := Z26.out; have := Z27.out; have := Z28.out; have := Z29.out; have := G5.out; have := Z30.out; omega))
  replace Oc8 := Aside0.mk (Oc8.out.kept hk (by have := G1_.out; have := Z6.out; have := G2.out; have := Z7.out; have := Z8.out; have := Z9.out; have := G3.out; have := Z10.out; have := Z11.out; have := Z12.out; have := Z13.out; have := G4.out; have := Z14.out; have := Z15.out; have := Z16.out; have := Z17.out; have := Z18.out; have := Z19.out; have := Z20.out; have := Z21.out; have := Z22.out; have := Z23.out; have := Z24.out; have := Z25.out; have := Z26.out; have := Z27.out; have := Z28.out; have := Z29.out; have := G5.out; have := Z30.out; omega))
  replace Oc11 := Aside0.mk (Oc11.out.kept hk (by have := G1_.out; have := Z6.out; have := G2.out; have := Z7.out; have := Z8.out; have := Z9.out; have := G3.out; have := Z10.out; have := Z11.out; have := Z12.out; have := Z13.out; have := G4.out; have := Z14.out; have := Z15.out; have := Z16.out; have := Z17.out; have := Z18.out; have := Z19.out; have := Z20.out; have := Z21.out; have := Z22.out; have := Z23.out; have := Z24.out; have := Z25.out; have := Z26.out; have := Z27.out; have := Z28.out; have := Z29.out; have := G5.out; have := Z30.out; omega))
  replace Og12 := Aside0.mk (Og12.out.kept hk (by have := G1_.out; have := Z6.out; have := G2.out; have := Z7.out; have := Z8.out; have := Z9.out; have := G3.out; have := Z10.out; have := Z11.out; have := Z12.out; have := Z13.out; have := G4.out; have := Z14.out; have := Z15.out; have := Z16.out; have := Z17.out; have := Z18.out; have := Z19.out; have := Z20.out; have := Z21.out; have := Z22.out; have := Z23.out; have := Z24.out; have := Z25.out; have := Z26.out; have := Z27.out; have := Z28.out; have := Z29.out; have := G5.out; have := Z30.out; omega))
  replace Oc26 := Aside0.mk (Oc26.out.kept hk (by have := G1_.out; have := Z6.out; have := G2.out; have := Z7.out; have := Z8.out; have := Z9.out; have := G3.out; have := Z10.out; have := Z11.out; have := Z12.out; have := Z13.out; have := G4.out; have := Z14.out; have := Z15.out; have := Z16.out; have := Z17.out; have := Z18.out; have := Z19.out; have := Z20.out; have := Z21.out; have := Z22.out; have := Z23.out; have := Z24.out; have := Z25.out; have := Z26.out; have := Z27.out; have := Z28.out; have := Z29.out; have := G5.out; have := Z30.out; omega))
  replace Oc27 := Aside0.mk (Oc27.out.kept hk (by have := G1_.out; have := Z6.out; have := G2.out; have := Z7.out; have := Z8.out; have := Z9.out; have := G3.out; have := Z10.out; have := Z11.out; have := Z12.out; have := Z13.out; have := G4.out; have := Z14.out; have := Z15.out; have := Z16.out; have := Z17.out; have := Z18.out; have := Z19.out; have := Z20.out; have := Z21.out; have := Z22.out; have := Z23.out; have := Z24.out; have := Z25.out; have := Z26.out; have := Z27.out; have := Z28.out; have := Z29.out; have := G5.out; have := Z30.out; omega))
  replace Og28 := Aside0.mk (Og28.out.kept hk (by have := G1_.out; have := Z6.out; have := G2.out; have := Z7.out; have := Z8.out; have := Z9.out; have := G3.out; have := Z10.out; have := Z11.out; have := Z12.out; have := Z13.out; have := G4.out; have := Z14.out; have := Z15.out; have := Z16.out; have := Z17.out; have := Z18.out; have := Z19.out; have := Z20.out; have := Z21.out; have := Z22.out; have := Z23.out; have := Z24.out; have := Z25.out; have := Z26.out; have := Z27.out; have := Z28.out; have := Z29.out; have := G5.out; have := Z30.out; omega))
  replace K1 := Aside0.mk (blk_kept K1.out hk (fun hh => by have := G1_.out; have := Z6.out; have := G2.out; have := Z7.out; have := Z8.out; have := Z9.out; have := G3.out; have := Z10.out; have := Z11.out; have := Z12.out; have := Z13.out; have := G4.out; have := Z14.out; have := Z15.out; have := Z16.out; have := Z17.out; have := Z18.out; have := Z19.out; have := Z20.out; have := Z21.out; have := Z22.out; have := Z23.out; have := Z24.out; have := Z25.out; have := Z26.out; have := Z27.out; have := Z28.out; have := Z29.out; have := G5.out; have := Z30.out; obtain ⟨h1, h2⟩ := hh; omega))
  replace K2 := Aside0.mk (blk_kept K2.out hk (fun hh => by have := G1_.out; have := Z6.out; have := G2.out; have := Z7.out; have := Z8.out; have := Z9.out; have := G3.out; have := Z10.out; have := Z11.out; have := Z12.out; have := Z13.out; have := G4.out; have := Z14.out; have := Z15.out; have := Z16.out; have := Z17.out; have := Z18.out; have := Z19.out; have := Z20.out; have := Z21.out; have := Z22.out; have := Z23.out; have := Z24.out; have := Z25.out; have := Z26.out; have := Z27.out; have := Z28.out; have := Z29.out; have := G5.out; have := Z30.out; obtain ⟨h1, h2⟩ := hh; omega))
  replace K3 := Aside0.mk (blk_kept K3.out hk (fun hh => by have := G1_.out; have := Z6.out; have := G2.out; have := Z7.out; have := Z8.out; have := Z9.out; have := G3.out; have := Z10.out; have := Z11.out; have := Z12.out; have := Z13.out; have := G4.out; have := Z14.out; have := Z15.out; have := Z16.out; have := Z17.out; have := Z18.out; have := Z19.out; have := Z20.out; have := Z21.out; have := Z22.out; have := Z23.out; have := Z24.out; have := Z25.out; have := Z26.out; have := Z27.out; have := Z28.out; have := Z29.out; have := G5.out; have := Z30.out; obtain ⟨h1, h2⟩ := hh; omega))
  replace K4 := Aside0.mk (blk_kept K4.out hk (fun hh => by have := G1_.out; have := Z6.out; have := G2.out; have := Z7.out; have := Z8.out; have := Z9.out; have := G3.out; have := Z10.out; have := Z11.out; have := Z12.out; have := Z13.out; have := G4.out; have := Z14.out; have := Z15.out; have := Z16.out; have := Z17.out; have := Z18.out; have := Z19.out; have := Z20.out; have := Z21.out; have := Z22.out; have := Z23.out; have := Z24.out; have := Z25.out; have := Z26.out; have := Z27.out; have := Z28.out; have := Z29.out; have := G5.out; have := Z30.out; obtain ⟨h1, h2⟩ := hh; omega))
  replace K5 := Aside0.mk hkb
  clear hk hkb
  refine (sameM_any Ag28 Aw cg28 cw G _ HF.out Og28.out.C Lg28.out (Kd.C_below CW.out BS.out) LW.out).mono ?_
  rintro e w31 ⟨rfl, hb⟩
  replace Oc17 := Aside0.mk (Oc17.out.below hb)
  replace Oc19 := Aside0.mk (Oc19.out.below hb)
  replace Oc8 := Aside0.mk (Oc8.out.below hb)
  replace Oc11 := Aside0.mk (Oc11.out.below hb)
  replace Og12 := Aside0.mk (Og12.out.below hb)
  replace Oc26 := Aside0.mk (Oc26.out.below hb)
  replace Oc27 := Aside0.mk (Oc27.out.below hb)
  replace Og28 := Aside0.mk (Og28.out.below hb)
  replace K1 := Aside0.mk (blk_below K1.out hb)
  replace K2 := Aside0.mk (blk_below K2.out hb)
  replace K3 := Aside0.mk (blk_below K3.out hb)
  replace K4 := Aside0.mk (blk_below K4.out hb)
  replace K5 := Aside0.mk (blk_below K5.out hb)
  replace BW := Aside0.mk (below_step BW.out hb)
  replace BS := Aside0.mk (below_step BS.out hb)
  have Z31 := Aside0.mk (show w30.heap.size ≤ w31.heap.size from hb.size)
  clear hb
  have hz1 : w31.cell? ⟨g1, 0, none⟩ = some (.slice A0 l0.length c0) := (blk_cell K1.out 0).trans rfl
  have hf1 := blk_frozen K1.out 0
  have hz2 : w31.cell? ⟨g2, 0, none⟩ = some (.slice Aw G.length cw) := (blk_cell K2.out 0).trans rfl
  have hf2 := blk_frozen K2.out 0
  have hz3 : w31.cell? ⟨g3, 0, none⟩ = some (.slice Ac8 l0.length cc8) := (blk_cell K3.out 0).trans rfl
  have hf3 := blk_frozen K3.out 0
  have hz4 : w31.cell? ⟨g4, 0, none⟩ = some (.slice Ag12 G.length cg12) := (blk_cell K4.out 0).trans rfl
  have hf4 := blk_frozen K4.out 0
  have hz5 : w31.cell? ⟨g5, 0, none⟩ = some (.slice Ag28 G.length cg28) := (blk_cell K5.out 0).trans rfl
  have hf5 := blk_frozen K5.out 0
  have hn1_2 := E1_2.out
  have hn1_3 := E1_3.out
  have hn1_4 := E1_4.out
  have hn1_5 := E1_5.out
  have hn2_1 := E2_1.out
  have hn2_3 := E2_3.out
  have hn2_4 := E2_4.out
  have hn2_5 := E2_5.out
  have hn3_1 := E3_1.out
  have hn3_2 := E3_2.out
  have hn3_4 := E3_4.out
  have hn3_5 := E3_5.out
  have hn4_1 := E4_1.out
  have hn4_2 := E4_2.out
  have hn4_3 := E4_3.out
  have hn4_5 := E4_5.out
  have hn5_1 := E5_1.out
  have hn5_2 := E5_2.out
  have hn5_3 := E5_3.out
  have hn5_4 := E5_4.out
  go_wp2_with (fail)
  clear hz1 hf1 hz2 hf2 hz3 hf3 hz4 hf4 hz5 hf5 hn1_2 hn1_3 hn1_4 hn1_5 hn2_1 hn2_3 hn2_4 hn2_5 hn3_1 hn3_2 hn3_4 hn3_5 hn4_1 hn4_2 hn4_3 hn4_5 hn5_1 hn5_2 hn5_3 hn5_4
  refine (heldM_any Ag12 cg12 G 1 _ HG1.out (by omega) HG2.out Og12.out.C Lg12.out).mono ?_
  rintro e w32 ⟨rfl, hb⟩
  replace Oc17 := Aside0.mk (Oc17.out.below hb)
  replace Oc19 := Aside0.mk (Oc19.out.below hb)
  replace Oc8 := Aside0.mk (Oc8.out.below hb)
  replace Oc11 := Aside0.mk (Oc11.out.below hb)
  replace Og12 := Aside0.mk (Og12.out.below hb)
  replace Oc26 := Aside0.mk (Oc26.out.below hb)
  replace Oc27 := Aside0.mk (Oc27.out.below hb)
  replace Og28 := Aside0.mk (Og28.out.below hb)
  replace K1 := Aside0.mk (blk_below K1.out hb)
  replace K2 := Aside0.mk (blk_below K2.out hb)
  replace K3 := Aside0.mk (blk_below K3.out hb)
  replace K4 := Aside0.mk (blk_below K4.out hb)
  replace K5 := Aside0.mk (blk_below K5.out hb)
  replace BW := Aside0.mk (below_step BW.out hb)
  replace BS := Aside0.mk (below_step BS.out hb)
  have Z32 := Aside0.mk (show w31.heap.size ≤ w32.heap.size from hb.size)
  clear hb
  have hz1 : w32.cell? ⟨g1, 0, none⟩ = some (.slice A0 l0.length c0) := (blk_cell K1.out 0).trans rfl
  have hf1 := blk_frozen K1.out 0
  have hz2 : w32.cell? ⟨g2, 0, none⟩ = some (.slice Aw G.length cw) := (blk_cell K2.out 0).trans rfl
  have hf2 := blk_frozen K2.out 0
  have hz3 : w32.cell? ⟨g3, 0, none⟩ = some (.slice Ac8 l0.length cc8) := (blk_cell K3.out 0).trans rfl
  have hf3 := blk_frozen K3.out 0
  have hz4 : w32.cell? ⟨g4, 0, none⟩ = some (.slice Ag12 G.length cg12) := (blk_cell K4.out 0).trans rfl
  have hf4 := blk_frozen K4.out 0
  have hz5 : w32.cell? ⟨g5, 0, none⟩ = some (.slice Ag28 G.length cg28) := (blk_cell K5.out 0).trans rfl
  have hf5 := blk_frozen K5.out 0
  have hn1_2 := E1_2.out
  have hn1_3 := E1_3.out
  have hn1_4 := E1_4.out
  have hn1_5 := E1_5.out
  have hn2_1 := E2_1.out
  have hn2_3 := E2_3.out
  have hn2_4 := E2_4.out
  have hn2_5 := E2_5.out
  have hn3_1 := E3_1.out
  have hn3_2 := E3_2.out
  have hn3_4 := E3_4.out
  have hn3_5 := E3_5.out
  have hn4_1 := E4_1.out
  have hn4_2 := E4_2.out
  have hn4_3 := E4_3.out
  have hn4_5 := E4_5.out
  have hn5_1 := E5_1.out
  have hn5_2 := E5_2.out
  have hn5_3 := E5_3.out
  have hn5_4 := E5_4.out
  go_wp2
  go_ret
  exact ⟨rfl, BW.out⟩
end Go.Proofs.Ytldkkfpodldbgaa.G
