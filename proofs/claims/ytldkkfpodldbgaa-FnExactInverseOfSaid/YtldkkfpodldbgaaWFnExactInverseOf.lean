/- The law FnExactInverseOf, walked by hand, out of what both programs' functions come to. Written by a program of this session (wip/mkwalk.py). -/
import Derived.Test.YtldkkfpodldbgaaGLaw
namespace Go.Proofs.Ytldkkfpodldbgaa.G
open Go.RowKit Go.Proofs.Ytldkkfpodldbgaa.P Go.Proofs.YtldkkfpodldbgaaW.PrintWords Go.Proofs.YtldkkfpodldbgaaW.PrintLast Go.Proofs.Ytldkkfpodldbgaa.Q
set_option linter.unusedVariables false
set_option linter.unusedSimpArgs false
theorem FnExactInverseOf_less0 (A0 : Option Addr) (c0 : Nat) (l0 : List (List Int)) (w : World) (hr0 : Kd.C (Kd.slice 3 (Kd.int .i64)) w A0 l0.length l0) (hc0 : l0.length ≤ c0) (k0 : Nat) (r0 : Int) (hz0 : laws_szMatrix.f k0 l0 1048576 = some r0) (h : r0 < 0) :
    Calls Try.prog 3 #[.agg #[.slice A0 l0.length c0]] w fun e w' => e = .returned (.bool true) ∧ Below w.heap.size w w' := by
  have e0 : decide (r0 < 0) = true := decide_eq_true h
  have HZ0 := Aside0.mk hz0
  clear h hz0
  have HR0 := Aside0.mk hr0
  have HC0 := Aside0.mk hc0
  clear hr0 hc0
  have BW := Aside0.mk (Below.refl w.heap.size w)
  have hu := Try.underlying24
  have hu2 := Try.underlying26
  go_enter Try.func3, Try.ntmps3
  have BZ := Aside0.mk (Nat.le_refl w.heap.size)
  go_wp2_with (first | ((with_reducible refine gate_dst (N := 1) rfl ?_); refine box_event ?hg (N := 1) ?hd (cs := #[.slice A0 l0.length c0]) (t := 24) ?hr ?_; (case hd => rfl); (case hg => rfl); (case hr => first | (go_simp; done) | (go_simp; rfl)); intro g1 hg w1 hbox hb; replace BW := Aside0.mk (below_step BW.out hb); have Z1 := Aside0.mk (show w.heap.size ≤ w1.heap.size from hb.size); have K1 := Aside0.mk hbox; have G1 := Aside0.mk (show g1 = w.heap.size ∧ g1 < w1.heap.size from ⟨hg, blk_lt hbox⟩); clear hb hbox hg; have hz1 : w1.cell? ⟨g1, 0, none⟩ = some (.slice A0 l0.length c0) := (blk_cell K1.out 0).trans rfl; have hf1 := blk_frozen K1.out 0))
  clear hz1 hf1
  refine (laws_szMatrix.calls k0 A0 c0 l0 _ r0 _ (Kd.C_below HR0.out BW.out) HC0.out HZ0.out).mono ?_
  rintro e w2 ⟨rfl, hb⟩
  replace K1 := Aside0.mk (blk_below K1.out hb)
  replace BW := Aside0.mk (below_step BW.out hb)
  have Z2 := Aside0.mk (show w1.heap.size ≤ w2.heap.size from hb.size)
  clear hb
  have hz1 : w2.cell? ⟨g1, 0, none⟩ = some (.slice A0 l0.length c0) := (blk_cell K1.out 0).trans rfl
  have hf1 := blk_frozen K1.out 0
  go_wp2
  go_ret
  exact ⟨rfl, BW.out⟩
set_option maxHeartbeats 8000000 in
set_option maxRecDepth 100000 in
theorem FnExactInverseOf_calls (A0 : Option Addr) (c0 : Nat) (l0 : List (List Int)) (G : List (List Int)) (b : Bool) (w : World) (hr0 : Kd.C (Kd.slice 3 (Kd.int .i64)) w A0 l0.length l0) (hc0 : l0.length ≤ c0) (f0 : Fits l0) (k0 : Nat) (r0 : Int) (hz0 : laws_szMatrix.f k0 l0 1048576 = some r0) (hp0 : 0 ≤ r0)
    (hs : ∀ (W : World) (B0 : Option Addr) (d0 : Nat), Kd.C (Kd.slice 3 (Kd.int .i64)) W B0 l0.length l0 → l0.length ≤ d0 → Calls Try.prog 10 #[.agg #[.slice B0 l0.length d0]] W fun e w' => ∃ A c, e = .returned (.tuple #[.agg #[.slice A G.length c], .bool b]) ∧ G.length ≤ c ∧ Kd.C (Kd.slice 3 (Kd.int .i64)) w' A G.length G ∧ Below W.heap.size W w')
    (hi : ∀ (W : World) (B0 : Option Addr) (d0 : Nat), Kd.C (Kd.slice 3 (Kd.int .i64)) W B0 l0.length l0 → l0.length ≤ d0 → Calls Try.prog 12 #[.agg #[.slice B0 l0.length d0]] W fun e w' => ∃ v, e = .returned (.tuple #[.agg #[v], .bool b]) ∧ Kd.S (Kd.slice 3 (Kd.int .i64)) 34 w' W.heap.size (fun _ => True) v G ∧ Below W.heap.size W w')
    (hg : G.length ≤ 4611686018427387904 ∧ (1 : Int) + tot G ≤ 4611686018427387904 ∧ Fits G) :
    Calls Try.prog 3 #[.agg #[.slice A0 l0.length c0]] w fun e w' => e = .returned (.bool true) ∧ Below w.heap.size w w' := by
  have ft0 : tot l0 ≤ 1048576 * 1048576 := Nat.le_trans (tot_bound l0 f0.2) (Nat.mul_le_mul_right _ f0.1)
  have fl0 := f0.1
  have e0 : decide (r0 < 0) = false := decide_eq_false (by omega)
  have hg1 := hg.1
  have hg2 := hg.2.1
  have HF := Aside0.mk hg.2.2
  have HN0 := Aside0.mk (show l0.length ≤ 4611686018427387904 by omega)
  have HA0 := Aside0.mk (show (0 : Int) ≤ 1 ∧ 1 + ((tot l0 : Nat) : Int) ≤ 4611686018427387904 by omega)
  have ek : decide (1 + ((tot l0 : Nat) : Int) < 0) = false := decide_eq_false (by omega)
  have eg : decide (1 + ((tot G : Nat) : Int) < 0) = false := decide_eq_false (by omega)
  have HG1 := Aside0.mk hg1
  have HG2 := Aside0.mk hg2
  have HS := Aside0.mk hs
  have HI := Aside0.mk hi
  have HF0 := Aside0.mk f0
  have HZ0 := Aside0.mk hz0
  clear hs hi hg hg1 hg2 f0 hz0 ft0 fl0 hp0
  have HR0 := Aside0.mk hr0
  have HC0 := Aside0.mk hc0
  clear hr0 hc0
  have BW := Aside0.mk (Below.refl w.heap.size w)
  have hu := Try.underlying24
  have hu2 := Try.underlying26
  go_enter Try.func3, Try.ntmps3
  have BZ := Aside0.mk (Nat.le_refl w.heap.size)
  go_wp2_with (first | ((with_reducible refine gate_dst (N := 1) rfl ?_); refine box_event ?hg (N := 1) ?hd (cs := #[.slice A0 l0.length c0]) (t := 24) ?hr ?_; (case hd => rfl); (case hg => rfl); (case hr => first | (go_simp; done) | (go_simp; rfl)); intro g1 hg w1 hbox hb; replace BW := Aside0.mk (below_step BW.out hb); have Z1 := Aside0.mk (show w.heap.size ≤ w1.heap.size from hb.size); have K1 := Aside0.mk hbox; have G1 := Aside0.mk (show g1 = w.heap.size ∧ g1 < w1.heap.size from ⟨hg, blk_lt hbox⟩); clear hb hbox hg; have hz1 : w1.cell? ⟨g1, 0, none⟩ = some (.slice A0 l0.length c0) := (blk_cell K1.out 0).trans rfl; have hf1 := blk_frozen K1.out 0))
  clear hz1 hf1
  refine (laws_szMatrix.calls k0 A0 c0 l0 _ r0 _ (Kd.C_below HR0.out BW.out) HC0.out HZ0.out).mono ?_
  rintro e w2 ⟨rfl, hb⟩
  replace K1 := Aside0.mk (blk_below K1.out hb)
  replace BW := Aside0.mk (below_step BW.out hb)
  have Z2 := Aside0.mk (show w1.heap.size ≤ w2.heap.size from hb.size)
  clear hb
  have hz1 : w2.cell? ⟨g1, 0, none⟩ = some (.slice A0 l0.length c0) := (blk_cell K1.out 0).trans rfl
  have hf1 := blk_frozen K1.out 0
  go_wp2_with (fail)
  clear hz1 hf1
  refine (copyM_any A0 c0 l0 _ HF0.out (Kd.C_below HR0.out BW.out) HC0.out).mono ?_
  rintro e w3 ⟨Ac3, cc3, rfl, hl, hO, hb⟩
  replace K1 := Aside0.mk (blk_below K1.out hb)
  replace BW := Aside0.mk (below_step BW.out hb)
  have Z3 := Aside0.mk (show w2.heap.size ≤ w3.heap.size from hb.size)
  have Oc3 := Aside0.mk hO
  have Lc3 := Aside0.mk hl
  clear hb hl hO
  have hz1 : w3.cell? ⟨g1, 0, none⟩ = some (.slice A0 l0.length c0) := (blk_cell K1.out 0).trans rfl
  have hf1 := blk_frozen K1.out 0
  go_wp2_with (fail)
  clear hz1 hf1
  refine (HS.out _ Ac3 cc3 Oc3.out.C Lc3.out).mono ?_
  rintro e w4 ⟨Aw, cw, rfl, hlw, hCw, hb⟩
  replace Oc3 := Aside0.mk (Oc3.out.below hb)
  replace K1 := Aside0.mk (blk_below K1.out hb)
  replace BW := Aside0.mk (below_step BW.out hb)
  have Z4 := Aside0.mk (show w3.heap.size ≤ w4.heap.size from hb.size)
  have LW := Aside0.mk hlw
  have CW := Aside0.mk hCw
  have B0 := Aside0.mk BW.out
  have BS := Aside0.mk (Below.refl w4.heap.size w4)
  replace BZ := Aside0.mk BW.out.size
  clear hb hlw hCw HS
  clear Oc3 Lc3
  have G1_ := Aside0.mk (show g1 < w4.heap.size from blk_lt K1.out)
  have hz1 : w4.cell? ⟨g1, 0, none⟩ = some (.slice A0 l0.length c0) := (blk_cell K1.out 0).trans rfl
  have hf1 := blk_frozen K1.out 0
  go_wp2_with (first | ((with_reducible refine gate_dst (N := 4) rfl ?_); refine box_event ?hg (N := 4) ?hd (cs := #[.slice none 0 0]) (t := 26) ?hr ?_; (case hd => rfl); (case hg => rfl); (case hr => first | (go_simp; done) | (go_simp; rfl)); intro g2 hg w5 hbox hb; clear hz1 hf1; replace K1 := Aside0.mk (blk_below K1.out hb); replace BW := Aside0.mk (below_step BW.out hb); replace BS := Aside0.mk (below_step BS.out hb); have Z5 := Aside0.mk (show w4.heap.size ≤ w5.heap.size from hb.size); have K2 := Aside0.mk hbox; have G2 := Aside0.mk (show g2 = w4.heap.size ∧ g2 < w5.heap.size from ⟨hg, blk_lt hbox⟩); clear hb hbox hg; have E2_1 := Aside0.mk (show g2 ≠ g1 from (by have := G1_.out; have := Z5.out; have := G2.out; omega)); have E1_2 := Aside0.mk (Ne.symm E2_1.out); have hz1 : w5.cell? ⟨g1, 0, none⟩ = some (.slice A0 l0.length c0) := (blk_cell K1.out 0).trans rfl; have hf1 := blk_frozen K1.out 0; have hz2 : w5.cell? ⟨g2, 0, none⟩ = some (.slice none 0 0) := (blk_cell K2.out 0).trans rfl; have hf2 := blk_frozen K2.out 0; have hn1_2 := E1_2.out; have hn2_1 := E2_1.out))
  clear hz1 hf1 hz2 hf2 hn1_2 hn2_1
  obtain ⟨w6, hw⟩ : ∃ x, x = w5.setCell ⟨g2, 0, none⟩ (.slice Aw G.length cw) := ⟨_, rfl⟩
  rw [← hw]
  have hk : Kept w5 w6 (fun k => g2 ≤ k ∧ k < g2 + 1) := by
    rw [hw]
    exact Kept.setCell (Kept.refl _ _) (.inl ⟨Nat.le_refl _, Nat.lt_succ_self _⟩) _
  have hkb : w6.heap[g2]? = some (.cells #[.slice Aw G.length cw] 26 (0, 0)) := by
    rw [hw]
    simpa using blk_set K2.out 0 (.slice Aw G.length cw)
  replace BW := Aside0.mk (show Below w.heap.size w w6 by
    rw [hw]
    exact below_set BW.out (by have := BZ.out; have := G1_.out; have := Z5.out; have := G2.out; omega))
  replace BS := Aside0.mk (show Below w4.heap.size w4 w6 by
    rw [hw]
    exact below_set BS.out (by have := G1_.out; have := Z5.out; have := G2.out; omega))
  have Z6 := Aside0.mk (show w5.heap.size ≤ w6.heap.size from hk.1)
  clear hw
  replace K1 := Aside0.mk (blk_kept K1.out hk (fun hh => by have := G1_.out; have := Z5.out; have := G2.out; have := Z6.out; obtain ⟨h1, h2⟩ := hh; omega))
  replace K2 := Aside0.mk hkb
  clear hk hkb
  refine (copyM_any A0 c0 l0 _ HF0.out (Kd.C_below HR0.out BW.out) HC0.out).mono ?_
  rintro e w7 ⟨Ac7, cc7, rfl, hl, hO, hb⟩
  replace K1 := Aside0.mk (blk_below K1.out hb)
  replace K2 := Aside0.mk (blk_below K2.out hb)
  replace BW := Aside0.mk (below_step BW.out hb)
  replace BS := Aside0.mk (below_step BS.out hb)
  have Z7 := Aside0.mk (show w6.heap.size ≤ w7.heap.size from hb.size)
  have Oc7 := Aside0.mk (hO.lower (base' := w4.heap.size) (by have := G1_.out; have := Z5.out; have := G2.out; have := Z6.out; have := Z7.out; omega))
  have Lc7 := Aside0.mk hl
  clear hb hl hO
  have hz1 : w7.cell? ⟨g1, 0, none⟩ = some (.slice A0 l0.length c0) := (blk_cell K1.out 0).trans rfl
  have hf1 := blk_frozen K1.out 0
  have hz2 : w7.cell? ⟨g2, 0, none⟩ = some (.slice Aw G.length cw) := (blk_cell K2.out 0).trans rfl
  have hf2 := blk_frozen K2.out 0
  have hn1_2 := E1_2.out
  have hn2_1 := E2_1.out
  go_wp2_with (first | ((with_reducible refine gate_dst (N := 6) rfl ?_); refine box_event ?hg (N := 6) ?hd (cs := #[.slice none 0 0]) (t := 26) ?hr ?_; (case hd => rfl); (case hg => rfl); (case hr => first | (go_simp; done) | (go_simp; rfl)); intro g3 hg w8 hbox hb; clear hz1 hf1 hz2 hf2 hn1_2 hn2_1; replace Oc7 := Aside0.mk (Oc7.out.below hb); replace K1 := Aside0.mk (blk_below K1.out hb); replace K2 := Aside0.mk (blk_below K2.out hb); replace BW := Aside0.mk (below_step BW.out hb); replace BS := Aside0.mk (below_step BS.out hb); have Z8 := Aside0.mk (show w7.heap.size ≤ w8.heap.size from hb.size); have K3 := Aside0.mk hbox; have G3 := Aside0.mk (show g3 = w7.heap.size ∧ g3 < w8.heap.size from ⟨hg, blk_lt hbox⟩); clear hb hbox hg; have E3_1 := Aside0.mk (show g3 ≠ g1 from (by have := G1_.out; have := Z5.out; have := G2.out; have := Z6.out; have := Z7.out; have := Z8.out; have := G3.out; omega)); have E1_3 := Aside0.mk (Ne.symm E3_1.out); have E3_2 := Aside0.mk (show g3 ≠ g2 from (by have := G1_.out; have := Z5.out; have := G2.out; have := Z6.out; have := Z7.out; have := Z8.out; have := G3.out; omega)); have E2_3 := Aside0.mk (Ne.symm E3_2.out); have hz1 : w8.cell? ⟨g1, 0, none⟩ = some (.slice A0 l0.length c0) := (blk_cell K1.out 0).trans rfl; have hf1 := blk_frozen K1.out 0; have hz2 : w8.cell? ⟨g2, 0, none⟩ = some (.slice Aw G.length cw) := (blk_cell K2.out 0).trans rfl; have hf2 := blk_frozen K2.out 0; have hz3 : w8.cell? ⟨g3, 0, none⟩ = some (.slice none 0 0) := (blk_cell K3.out 0).trans rfl; have hf3 := blk_frozen K3.out 0; have hn1_2 := E1_2.out; have hn1_3 := E1_3.out; have hn2_1 := E2_1.out; have hn2_3 := E2_3.out; have hn3_1 := E3_1.out; have hn3_2 := E3_2.out))
  clear hz1 hf1 hz2 hf2 hz3 hf3 hn1_2 hn1_3 hn2_1 hn2_3 hn3_1 hn3_2
  obtain ⟨w9, hw⟩ : ∃ x, x = w8.setCell ⟨g3, 0, none⟩ (.slice Ac7 l0.length cc7) := ⟨_, rfl⟩
  rw [← hw]
  have hk : Kept w8 w9 (fun k => g3 ≤ k ∧ k < g3 + 1) := by
    rw [hw]
    exact Kept.setCell (Kept.refl _ _) (.inl ⟨Nat.le_refl _, Nat.lt_succ_self _⟩) _
  have hkb : w9.heap[g3]? = some (.cells #[.slice Ac7 l0.length cc7] 26 (0, 0)) := by
    rw [hw]
    simpa using blk_set K3.out 0 (.slice Ac7 l0.length cc7)
  replace BW := Aside0.mk (show Below w.heap.size w w9 by
    rw [hw]
    exact below_set BW.out (by have := BZ.out; have := G1_.out; have := Z5.out; have := G2.out; have := Z6.out; have := Z7.out; have := Z8.out; have := G3.out; omega))
  replace BS := Aside0.mk (show Below w4.heap.size w4 w9 by
    rw [hw]
    exact below_set BS.out (by have := G1_.out; have := Z5.out; have := G2.out; have := Z6.out; have := Z7.out; have := Z8.out; have := G3.out; omega))
  have Z9 := Aside0.mk (show w8.heap.size ≤ w9.heap.size from hk.1)
  clear hw
  replace Oc7 := Aside0.mk (Oc7.out.kept hk (by have := G1_.out; have := Z5.out; have := G2.out; have := Z6.out; have := Z7.out; have := Z8.out; have := G3.out; have := Z9.out; omega))
  replace K1 := Aside0.mk (blk_kept K1.out hk (fun hh => by have := G1_.out; have := Z5.out; have := G2.out; have := Z6.out; have := Z7.out; have := Z8.out; have := G3.out; have := Z9.out; obtain ⟨h1, h2⟩ := hh; omega))
  replace K2 := Aside0.mk (blk_kept K2.out hk (fun hh => by have := G1_.out; have := Z5.out; have := G2.out; have := Z6.out; have := Z7.out; have := Z8.out; have := G3.out; have := Z9.out; obtain ⟨h1, h2⟩ := hh; omega))
  replace K3 := Aside0.mk hkb
  clear hk hkb
  refine (HI.out _ Ac7 cc7 Oc7.out.C Lc7.out).mono ?_
  rintro e w10 ⟨vg10, rfl, hS, hb⟩
  replace Oc7 := Aside0.mk (Oc7.out.below hb)
  replace K1 := Aside0.mk (blk_below K1.out hb)
  replace K2 := Aside0.mk (blk_below K2.out hb)
  replace K3 := Aside0.mk (blk_below K3.out hb)
  replace BW := Aside0.mk (below_step BW.out hb)
  replace BS := Aside0.mk (below_step BS.out hb)
  have Z10 := Aside0.mk (show w9.heap.size ≤ w10.heap.size from hb.size)
  obtain ⟨Ag10, cg10, rfl, hl, hO⟩ := OwnM.of hS
  clear hS
  have Og10 := Aside0.mk (hO.lower (base' := w4.heap.size) (by have := G1_.out; have := Z5.out; have := G2.out; have := Z6.out; have := Z7.out; have := Z8.out; have := G3.out; have := Z9.out; have := Z10.out; omega))
  have Lg10 := Aside0.mk hl
  clear hb hl hO
  have hz1 : w10.cell? ⟨g1, 0, none⟩ = some (.slice A0 l0.length c0) := (blk_cell K1.out 0).trans rfl
  have hf1 := blk_frozen K1.out 0
  have hz2 : w10.cell? ⟨g2, 0, none⟩ = some (.slice Aw G.length cw) := (blk_cell K2.out 0).trans rfl
  have hf2 := blk_frozen K2.out 0
  have hz3 : w10.cell? ⟨g3, 0, none⟩ = some (.slice Ac7 l0.length cc7) := (blk_cell K3.out 0).trans rfl
  have hf3 := blk_frozen K3.out 0
  have hn1_2 := E1_2.out
  have hn1_3 := E1_3.out
  have hn2_1 := E2_1.out
  have hn2_3 := E2_3.out
  have hn3_1 := E3_1.out
  have hn3_2 := E3_2.out
  go_wp2_with (first | ((with_reducible refine gate_dst (N := 7) rfl ?_); refine box_event ?hg (N := 7) ?hd (cs := #[.slice none 0 0]) (t := 26) ?hr ?_; (case hd => rfl); (case hg => rfl); (case hr => first | (go_simp; done) | (go_simp; rfl)); intro g4 hg w11 hbox hb; clear hz1 hf1 hz2 hf2 hz3 hf3 hn1_2 hn1_3 hn2_1 hn2_3 hn3_1 hn3_2; replace Oc7 := Aside0.mk (Oc7.out.below hb); replace Og10 := Aside0.mk (Og10.out.below hb); replace K1 := Aside0.mk (blk_below K1.out hb); replace K2 := Aside0.mk (blk_below K2.out hb); replace K3 := Aside0.mk (blk_below K3.out hb); replace BW := Aside0.mk (below_step BW.out hb); replace BS := Aside0.mk (below_step BS.out hb); have Z11 := Aside0.mk (show w10.heap.size ≤ w11.heap.size from hb.size); have K4 := Aside0.mk hbox; have G4 := Aside0.mk (show g4 = w10.heap.size ∧ g4 < w11.heap.size from ⟨hg, blk_lt hbox⟩); clear hb hbox hg; have E4_1 := Aside0.mk (show g4 ≠ g1 from (by have := G1_.out; have := Z5.out; have := G2.out; have := Z6.out; have := Z7.out; have := Z8.out; have := G3.out; have := Z9.out; have := Z10.out; have := Z11.out; have := G4.out; omega)); have E1_4 := Aside0.mk (Ne.symm E4_1.out); have E4_2 := Aside0.mk (show g4 ≠ g2 from (by have := G1_.out; have := Z5.out; have := G2.out; have := Z6.out; have := Z7.out; have := Z8.out; have := G3.out; have := Z9.out; have := Z10.out; have := Z11.out; have := G4.out; omega)); have E2_4 := Aside0.mk (Ne.symm E4_2.out); have E4_3 := Aside0.mk (show g4 ≠ g3 from (by have := G1_.out; have := Z5.out; have := G2.out; have := Z6.out; have := Z7.out; have := Z8.out; have := G3.out; have := Z9.out; have := Z10.out; have := Z11.out; have := G4.out; omega)); have E3_4 := Aside0.mk (Ne.symm E4_3.out); have hz1 : w11.cell? ⟨g1, 0, none⟩ = some (.slice A0 l0.length c0) := (blk_cell K1.out 0).trans rfl; have hf1 := blk_frozen K1.out 0; have hz2 : w11.cell? ⟨g2, 0, none⟩ = some (.slice Aw G.length cw) := (blk_cell K2.out 0).trans rfl; have hf2 := blk_frozen K2.out 0; have hz3 : w11.cell? ⟨g3, 0, none⟩ = some (.slice Ac7 l0.length cc7) := (blk_cell K3.out 0).trans rfl; have hf3 := blk_frozen K3.out 0; have hz4 : w11.cell? ⟨g4, 0, none⟩ = some (.slice none 0 0) := (blk_cell K4.out 0).trans rfl; have hf4 := blk_frozen K4.out 0; have hn1_2 := E1_2.out; have hn1_3 := E1_3.out; have hn1_4 := E1_4.out; have hn2_1 := E2_1.out; have hn2_3 := E2_3.out; have hn2_4 := E2_4.out; have hn3_1 := E3_1.out; have hn3_2 := E3_2.out; have hn3_4 := E3_4.out; have hn4_1 := E4_1.out; have hn4_2 := E4_2.out; have hn4_3 := E4_3.out))
  clear hz1 hf1 hz2 hf2 hz3 hf3 hz4 hf4 hn1_2 hn1_3 hn1_4 hn2_1 hn2_3 hn2_4 hn3_1 hn3_2 hn3_4 hn4_1 hn4_2 hn4_3
  obtain ⟨w12, hw⟩ : ∃ x, x = w11.setCell ⟨g4, 0, none⟩ (.slice Ag10 G.length cg10) := ⟨_, rfl⟩
  rw [← hw]
  have hk : Kept w11 w12 (fun k => g4 ≤ k ∧ k < g4 + 1) := by
    rw [hw]
    exact Kept.setCell (Kept.refl _ _) (.inl ⟨Nat.le_refl _, Nat.lt_succ_self _⟩) _
  have hkb : w12.heap[g4]? = some (.cells #[.slice Ag10 G.length cg10] 26 (0, 0)) := by
    rw [hw]
    simpa using blk_set K4.out 0 (.slice Ag10 G.length cg10)
  replace BW := Aside0.mk (show Below w.heap.size w w12 by
    rw [hw]
    exact below_set BW.out (by have := BZ.out; have := G1_.out; have := Z5.out; have := G2.out; have := Z6.out; have := Z7.out; have := Z8.out; have := G3.out; have := Z9.out; have := Z10.out; have := Z11.out; have := G4.out; omega))
  replace BS := Aside0.mk (show Below w4.heap.size w4 w12 by
    rw [hw]
    exact below_set BS.out (by have := G1_.out; have := Z5.out; have := G2.out; have := Z6.out; have := Z7.out; have := Z8.out; have := G3.out; have := Z9.out; have := Z10.out; have := Z11.out; have := G4.out; omega))
  have Z12 := Aside0.mk (show w11.heap.size ≤ w12.heap.size from hk.1)
  clear hw
  replace Oc7 := Aside0.mk (Oc7.out.kept hk (by have := G1_.out; have := Z5.out; have := G2.out; have := Z6.out; have := Z7.out; have := Z8.out; have := G3.out; have := Z9.out; have := Z10.out; have := Z11.out; have := G4.out; have := Z12.out; omega))
  replace Og10 := Aside0.mk (Og10.out.kept hk (by have := G1_.out; have := Z5.out; have := G2.out; have := Z6.out; have := Z7.out; have := Z8.out; have := G3.out; have := Z9.out; have := Z10.out; have := Z11.out; have := G4.out; have := Z12.out; omega))
  replace K1 := Aside0.mk (blk_kept K1.out hk (fun hh => by have := G1_.out; have := Z5.out; have := G2.out; have := Z6.out; have := Z7.out; have := Z8.out; have := G3.out; have := Z9.out; have := Z10.out; have := Z11.out; have := G4.out; have := Z12.out; obtain ⟨h1, h2⟩ := hh; omega))
  replace K2 := Aside0.mk (blk_kept K2.out hk (fun hh => by have := G1_.out; have := Z5.out; have := G2.out; have := Z6.out; have := Z7.out; have := Z8.out; have := G3.out; have := Z9.out; have := Z10.out; have := Z11.out; have := G4.out; have := Z12.out; obtain ⟨h1, h2⟩ := hh; omega))
  replace K3 := Aside0.mk (blk_kept K3.out hk (fun hh => by have := G1_.out; have := Z5.out; have := G2.out; have := Z6.out; have := Z7.out; have := Z8.out; have := G3.out; have := Z9.out; have := Z10.out; have := Z11.out; have := G4.out; have := Z12.out; obtain ⟨h1, h2⟩ := hh; omega))
  replace K4 := Aside0.mk hkb
  clear hk hkb
  refine (sameM_any Ag10 Aw cg10 cw G _ HF.out Og10.out.C Lg10.out (Kd.C_below CW.out BS.out) LW.out).mono ?_
  rintro e w13 ⟨rfl, hb⟩
  replace Oc7 := Aside0.mk (Oc7.out.below hb)
  replace Og10 := Aside0.mk (Og10.out.below hb)
  replace K1 := Aside0.mk (blk_below K1.out hb)
  replace K2 := Aside0.mk (blk_below K2.out hb)
  replace K3 := Aside0.mk (blk_below K3.out hb)
  replace K4 := Aside0.mk (blk_below K4.out hb)
  replace BW := Aside0.mk (below_step BW.out hb)
  replace BS := Aside0.mk (below_step BS.out hb)
  have Z13 := Aside0.mk (show w12.heap.size ≤ w13.heap.size from hb.size)
  clear hb
  have hz1 : w13.cell? ⟨g1, 0, none⟩ = some (.slice A0 l0.length c0) := (blk_cell K1.out 0).trans rfl
  have hf1 := blk_frozen K1.out 0
  have hz2 : w13.cell? ⟨g2, 0, none⟩ = some (.slice Aw G.length cw) := (blk_cell K2.out 0).trans rfl
  have hf2 := blk_frozen K2.out 0
  have hz3 : w13.cell? ⟨g3, 0, none⟩ = some (.slice Ac7 l0.length cc7) := (blk_cell K3.out 0).trans rfl
  have hf3 := blk_frozen K3.out 0
  have hz4 : w13.cell? ⟨g4, 0, none⟩ = some (.slice Ag10 G.length cg10) := (blk_cell K4.out 0).trans rfl
  have hf4 := blk_frozen K4.out 0
  have hn1_2 := E1_2.out
  have hn1_3 := E1_3.out
  have hn1_4 := E1_4.out
  have hn2_1 := E2_1.out
  have hn2_3 := E2_3.out
  have hn2_4 := E2_4.out
  have hn3_1 := E3_1.out
  have hn3_2 := E3_2.out
  have hn3_4 := E3_4.out
  have hn4_1 := E4_1.out
  have hn4_2 := E4_2.out
  have hn4_3 := E4_3.out
  go_wp2_with (fail)
  clear hz1 hf1 hz2 hf2 hz3 hf3 hz4 hf4 hn1_2 hn1_3 hn1_4 hn2_1 hn2_3 hn2_4 hn3_1 hn3_2 hn3_4 hn4_1 hn4_2 hn4_3
  replace Oc7 := Aside0.mk (Oc7.out.drew)
  replace Og10 := Aside0.mk (Og10.out.drew)
  replace K1 := Aside0.mk (blk_drew K1.out)
  replace K2 := Aside0.mk (blk_drew K2.out)
  replace K3 := Aside0.mk (blk_drew K3.out)
  replace K4 := Aside0.mk (blk_drew K4.out)
  replace BW := Aside0.mk (below_drew1 BW.out)
  replace BS := Aside0.mk (below_drew1 BS.out)
  have Z14 := Aside0.mk (show w13.heap.size ≤ w13.drew.heap.size from Nat.le_refl _)
  refine start_ (n := 5) (S := fun w' => w'.cell? ⟨g3, 0, none⟩ = some (.slice Ac7 l0.length cc7) ∧ w'.cell? ⟨g1, 0, none⟩ = some (.slice A0 l0.length c0)) (ds := []) #[false, false, false, false, false] (by kernel_rfl) rfl rfl ⟨(blk_cell K3.out 0).trans rfl, (blk_cell K1.out 0).trans rfl⟩ (fun hHeld => ?_)
  generalize w13.drew = w14 at Oc7 Og10 K1 K2 K3 K4 BW Z14 BS hHeld ⊢
  refine take_ (i := 0) (N := some 41) (v := ?_) (a' := ?_) #[true, false, false, false, false] rfl rfl (by kernel_rfl) (fun _ _ _ h => h) (Or.inl ⟨by rfl, ?_⟩) hHeld ?_ ?_
  rotate_left
  · rintro w' ⟨s0, s1⟩
    go_simp
    with_reducible rfl
  rotate_left
  · simp only [Act.put, List.setIfInBounds_toArray, List.set_cons_zero, List.set_cons_succ, i64_w, i32_w]
    rfl
  refine take_ (i := 1) (N := some 42) (v := ?_) (a' := ?_) #[true, true, false, false, false] rfl rfl (by kernel_rfl) (fun _ _ _ h => h) (Or.inl ⟨by rfl, ?_⟩) hHeld ?_ ?_
  rotate_left
  · rintro w' ⟨s0, s1⟩
    go_simp
    with_reducible rfl
  rotate_left
  · simp only [Act.put, List.setIfInBounds_toArray, List.set_cons_zero, List.set_cons_succ, i64_w, i32_w]
    rfl
  refine one_ (i := 2) (N := some 43) #[true, true, true, false, false] rfl rfl (by kernel_rfl) (by decide) (fun K hK => ?_)
  refine goes_ Try.func11 (by kernel_rfl) rfl #[.agg #[.slice A0 l0.length c0]] (by rfl) rfl rfl (by (try simp only [List.map_toArray, List.map_cons, List.map_nil]); first | done | rfl | (simp only [List.length_drop, List.length_take]; rfl)) ?_
  refine (copyM_any A0 c0 l0 _ HF0.out (Kd.C_below HR0.out BW.out) HC0.out).mono ?_
  rintro e w15 ⟨Ac15, cc15, rfl, hl, hO, hb⟩
  refine ⟨_, rfl, ?_⟩
  replace Oc7 := Aside0.mk (Oc7.out.below hb)
  replace Og10 := Aside0.mk (Og10.out.below hb)
  replace K1 := Aside0.mk (blk_below K1.out hb)
  replace K2 := Aside0.mk (blk_below K2.out hb)
  replace K3 := Aside0.mk (blk_below K3.out hb)
  replace K4 := Aside0.mk (blk_below K4.out hb)
  replace BW := Aside0.mk (below_step BW.out hb)
  replace BS := Aside0.mk (below_step BS.out hb)
  have Z15 := Aside0.mk (show w14.heap.size ≤ w15.heap.size from hb.size)
  have Oc15 := Aside0.mk (hO.lower (base' := w4.heap.size) (by have := G1_.out; have := Z5.out; have := G2.out; have := Z6.out; have := Z7.out; have := Z8.out; have := G3.out; have := Z9.out; have := Z10.out; have := Z11.out; have := G4.out; have := Z12.out; have := Z13.out; have := Z14.out; have := Z15.out; omega))
  have Lc15 := Aside0.mk hl
  clear hb hl hO
  refine hK.out _ _ ⟨(blk_cell K3.out 0).trans rfl, (blk_cell K1.out 0).trans rfl⟩ (fun hHeld => ?_)
  clear hK K
  refine norm_ (a' := ?_) ?_ ?_
  rotate_left
  · show Act.put _ (some 43) _ = _
    simp only [Act.put, List.setIfInBounds_toArray, List.set_cons_zero, List.set_cons_succ, i64_w, i32_w]
    rfl
  refine one_ (i := 3) (N := some 44) #[true, true, true, true, false] rfl rfl (by kernel_rfl) (by decide) (fun K hK => ?_)
  refine goes_ Try.func13 (by kernel_rfl) rfl #[.agg #[.slice Ac7 l0.length cc7], .agg #[.slice Ac15 l0.length cc15]] (by rfl) rfl rfl (by (try simp only [List.map_toArray, List.map_cons, List.map_nil]); first | done | rfl | (simp only [List.length_drop, List.length_take]; rfl)) ?_
  refine (sameM_any Ac7 Ac15 cc7 cc15 l0 _ HF0.out Oc7.out.C Lc7.out Oc15.out.C Lc15.out).mono ?_
  rintro e w16 ⟨rfl, hb⟩
  refine ⟨_, rfl, ?_⟩
  replace Oc7 := Aside0.mk (Oc7.out.below hb)
  replace Og10 := Aside0.mk (Og10.out.below hb)
  replace Oc15 := Aside0.mk (Oc15.out.below hb)
  replace K1 := Aside0.mk (blk_below K1.out hb)
  replace K2 := Aside0.mk (blk_below K2.out hb)
  replace K3 := Aside0.mk (blk_below K3.out hb)
  replace K4 := Aside0.mk (blk_below K4.out hb)
  replace BW := Aside0.mk (below_step BW.out hb)
  replace BS := Aside0.mk (below_step BS.out hb)
  have Z16 := Aside0.mk (show w15.heap.size ≤ w16.heap.size from hb.size)
  clear hb
  refine hK.out _ _ ⟨(blk_cell K3.out 0).trans rfl, (blk_cell K1.out 0).trans rfl⟩ (fun hHeld => ?_)
  clear hK K
  refine norm_ (a' := ?_) ?_ ?_
  rotate_left
  · show Act.put _ (some 44) _ = _
    simp only [Act.put, List.setIfInBounds_toArray, List.set_cons_zero, List.set_cons_succ, i64_w, i32_w]
    rfl
  refine pure_ (i := 4) (N := some 45) (v := ?_) (a' := ?_) #[true, true, true, true, true] rfl rfl (by kernel_rfl) (fun _ _ _ h => h) (Or.inl ⟨by rfl, ?_⟩) ?_ ?_
  rotate_left
  · intro w'
    go_simp
    with_reducible rfl
  rotate_left
  · simp only [Act.put, List.setIfInBounds_toArray, List.set_cons_zero, List.set_cons_succ, i64_w, i32_w]
    rfl
  refine done_ (by kernel_rfl) ?_
  have hz1 : w16.cell? ⟨g1, 0, none⟩ = some (.slice A0 l0.length c0) := (blk_cell K1.out 0).trans rfl
  have hf1 := blk_frozen K1.out 0
  have hz2 : w16.cell? ⟨g2, 0, none⟩ = some (.slice Aw G.length cw) := (blk_cell K2.out 0).trans rfl
  have hf2 := blk_frozen K2.out 0
  have hz3 : w16.cell? ⟨g3, 0, none⟩ = some (.slice Ac7 l0.length cc7) := (blk_cell K3.out 0).trans rfl
  have hf3 := blk_frozen K3.out 0
  have hz4 : w16.cell? ⟨g4, 0, none⟩ = some (.slice Ag10 G.length cg10) := (blk_cell K4.out 0).trans rfl
  have hf4 := blk_frozen K4.out 0
  have hn1_2 := E1_2.out
  have hn1_3 := E1_3.out
  have hn1_4 := E1_4.out
  have hn2_1 := E2_1.out
  have hn2_3 := E2_3.out
  have hn2_4 := E2_4.out
  have hn3_1 := E3_1.out
  have hn3_2 := E3_2.out
  have hn3_4 := E3_4.out
  have hn4_1 := E4_1.out
  have hn4_2 := E4_2.out
  have hn4_3 := E4_3.out
  go_wp2_with (fail)
  clear hz1 hf1 hz2 hf2 hz3 hf3 hz4 hf4 hn1_2 hn1_3 hn1_4 hn2_1 hn2_3 hn2_4 hn3_1 hn3_2 hn3_4 hn4_1 hn4_2 hn4_3
  refine (markM_any w4 w6.heap.size w7.heap.size Ac7 cc7 l0 (1) _ BS.out Oc7.out HN0.out HA0.out.1 HA0.out.2 (by have := G1_.out; have := Z5.out; have := G2.out; have := Z6.out; have := Z7.out; have := Z8.out; have := G3.out; have := Z9.out; have := Z10.out; have := Z11.out; have := G4.out; have := Z12.out; have := Z13.out; have := Z14.out; have := Z15.out; have := Z16.out; omega)).mono ?_
  rintro e w17 ⟨rfl, hO, hb, hk⟩
  replace BS := Aside0.mk hb
  replace BW := Aside0.mk (below_step B0.out hb)
  have Z17 := Aside0.mk (show w16.heap.size ≤ w17.heap.size from hk.1)
  replace Og10 := Aside0.mk (Og10.out.kept hk (by have := G1_.out; have := Z5.out; have := G2.out; have := Z6.out; have := Z7.out; have := Z8.out; have := G3.out; have := Z9.out; have := Z10.out; have := Z11.out; have := G4.out; have := Z12.out; have := Z13.out; have := Z14.out; have := Z15.out; have := Z16.out; have := Z17.out; omega))
  replace Oc15 := Aside0.mk (Oc15.out.kept hk (by have := G1_.out; have := Z5.out; have := G2.out; have := Z6.out; have := Z7.out; have := Z8.out; have := G3.out; have := Z9.out; have := Z10.out; have := Z11.out; have := G4.out; have := Z12.out; have := Z13.out; have := Z14.out; have := Z15.out; have := Z16.out; have := Z17.out; omega))
  replace K1 := Aside0.mk (blk_kept K1.out hk (fun hh => by have := G1_.out; have := Z5.out; have := G2.out; have := Z6.out; have := Z7.out; have := Z8.out; have := G3.out; have := Z9.out; have := Z10.out; have := Z11.out; have := G4.out; have := Z12.out; have := Z13.out; have := Z14.out; have := Z15.out; have := Z16.out; have := Z17.out; obtain ⟨h1, h2⟩ := hh; omega))
  replace K2 := Aside0.mk (blk_kept K2.out hk (fun hh => by have := G1_.out; have := Z5.out; have := G2.out; have := Z6.out; have := Z7.out; have := Z8.out; have := G3.out; have := Z9.out; have := Z10.out; have := Z11.out; have := G4.out; have := Z12.out; have := Z13.out; have := Z14.out; have := Z15.out; have := Z16.out; have := Z17.out; obtain ⟨h1, h2⟩ := hh; omega))
  replace K3 := Aside0.mk (blk_kept K3.out hk (fun hh => by have := G1_.out; have := Z5.out; have := G2.out; have := Z6.out; have := Z7.out; have := Z8.out; have := G3.out; have := Z9.out; have := Z10.out; have := Z11.out; have := G4.out; have := Z12.out; have := Z13.out; have := Z14.out; have := Z15.out; have := Z16.out; have := Z17.out; obtain ⟨h1, h2⟩ := hh; omega))
  replace K4 := Aside0.mk (blk_kept K4.out hk (fun hh => by have := G1_.out; have := Z5.out; have := G2.out; have := Z6.out; have := Z7.out; have := Z8.out; have := G3.out; have := Z9.out; have := Z10.out; have := Z11.out; have := G4.out; have := Z12.out; have := Z13.out; have := Z14.out; have := Z15.out; have := Z16.out; have := Z17.out; obtain ⟨h1, h2⟩ := hh; omega))
  replace Oc7 := Aside0.mk hO
  clear hb hO hk
  have hz1 : w17.cell? ⟨g1, 0, none⟩ = some (.slice A0 l0.length c0) := (blk_cell K1.out 0).trans rfl
  have hf1 := blk_frozen K1.out 0
  have hz2 : w17.cell? ⟨g2, 0, none⟩ = some (.slice Aw G.length cw) := (blk_cell K2.out 0).trans rfl
  have hf2 := blk_frozen K2.out 0
  have hz3 : w17.cell? ⟨g3, 0, none⟩ = some (.slice Ac7 l0.length cc7) := (blk_cell K3.out 0).trans rfl
  have hf3 := blk_frozen K3.out 0
  have hz4 : w17.cell? ⟨g4, 0, none⟩ = some (.slice Ag10 G.length cg10) := (blk_cell K4.out 0).trans rfl
  have hf4 := blk_frozen K4.out 0
  have hn1_2 := E1_2.out
  have hn1_3 := E1_3.out
  have hn1_4 := E1_4.out
  have hn2_1 := E2_1.out
  have hn2_3 := E2_3.out
  have hn2_4 := E2_4.out
  have hn3_1 := E3_1.out
  have hn3_2 := E3_2.out
  have hn3_4 := E3_4.out
  have hn4_1 := E4_1.out
  have hn4_2 := E4_2.out
  have hn4_3 := E4_3.out
  go_wp2_with (fail)
  clear hz1 hf1 hz2 hf2 hz3 hf3 hz4 hf4 hn1_2 hn1_3 hn1_4 hn2_1 hn2_3 hn2_4 hn3_1 hn3_2 hn3_4 hn4_1 hn4_2 hn4_3
  refine (sameM_any Ag10 Aw cg10 cw G _ HF.out Og10.out.C Lg10.out (Kd.C_below CW.out BS.out) LW.out).mono ?_
  rintro e w18 ⟨rfl, hb⟩
  replace Og10 := Aside0.mk (Og10.out.below hb)
  replace Oc15 := Aside0.mk (Oc15.out.below hb)
  replace Oc7 := Aside0.mk (Oc7.out.below hb)
  replace K1 := Aside0.mk (blk_below K1.out hb)
  replace K2 := Aside0.mk (blk_below K2.out hb)
  replace K3 := Aside0.mk (blk_below K3.out hb)
  replace K4 := Aside0.mk (blk_below K4.out hb)
  replace BW := Aside0.mk (below_step BW.out hb)
  replace BS := Aside0.mk (below_step BS.out hb)
  have Z18 := Aside0.mk (show w17.heap.size ≤ w18.heap.size from hb.size)
  clear hb
  have hz1 : w18.cell? ⟨g1, 0, none⟩ = some (.slice A0 l0.length c0) := (blk_cell K1.out 0).trans rfl
  have hf1 := blk_frozen K1.out 0
  have hz2 : w18.cell? ⟨g2, 0, none⟩ = some (.slice Aw G.length cw) := (blk_cell K2.out 0).trans rfl
  have hf2 := blk_frozen K2.out 0
  have hz3 : w18.cell? ⟨g3, 0, none⟩ = some (.slice Ac7 l0.length cc7) := (blk_cell K3.out 0).trans rfl
  have hf3 := blk_frozen K3.out 0
  have hz4 : w18.cell? ⟨g4, 0, none⟩ = some (.slice Ag10 G.length cg10) := (blk_cell K4.out 0).trans rfl
  have hf4 := blk_frozen K4.out 0
  have hn1_2 := E1_2.out
  have hn1_3 := E1_3.out
  have hn1_4 := E1_4.out
  have hn2_1 := E2_1.out
  have hn2_3 := E2_3.out
  have hn2_4 := E2_4.out
  have hn3_1 := E3_1.out
  have hn3_2 := E3_2.out
  have hn3_4 := E3_4.out
  have hn4_1 := E4_1.out
  have hn4_2 := E4_2.out
  have hn4_3 := E4_3.out
  go_wp2_with (fail)
  clear hz1 hf1 hz2 hf2 hz3 hf3 hz4 hf4 hn1_2 hn1_3 hn1_4 hn2_1 hn2_3 hn2_4 hn3_1 hn3_2 hn3_4 hn4_1 hn4_2 hn4_3
  refine (markM_any w4 w9.heap.size w10.heap.size Ag10 cg10 G 1 _ BS.out Og10.out HG1.out (by omega) HG2.out (by have := G1_.out; have := Z5.out; have := G2.out; have := Z6.out; have := Z7.out; have := Z8.out; have := G3.out; have := Z9.out; have := Z10.out; have := Z11.out; have := G4.out; have := Z12.out; have := Z13.out; have := Z14.out; have := Z15.out; have := Z16.out; have := Z17.out; have := Z18.out; omega)).mono ?_
  rintro e w19 ⟨rfl, hO, hb, hk⟩
  replace BS := Aside0.mk hb
  replace BW := Aside0.mk (below_step B0.out hb)
  have Z19 := Aside0.mk (show w18.heap.size ≤ w19.heap.size from hk.1)
  replace Oc15 := Aside0.mk (Oc15.out.kept hk (by have := G1_.out; have := Z5.out; have := G2.out; have := Z6.out; have := Z7.out; have := Z8.out; have := G3.out; have := Z9.out; have := Z10.out; have := Z11.out; have := G4.out; have := Z12.out; have := Z13.out; have := Z14.out; have := Z15.out; have := Z16.out; have := Z17.out; have := Z18.out; have := Z19.out; omega))
  replace Oc7 := Aside0.mk (Oc7.out.kept hk (by have := G1_.out; have := Z5.out; have := G2.out; have := Z6.out; have := Z7.out; have := Z8.out; have := G3.out; have := Z9.out; have := Z10.out; have := Z11.out; have := G4.out; have := Z12.out; have := Z13.out; have := Z14.out; have := Z15.out; have := Z16.out; have := Z17.out; have := Z18.out; have := Z19.out; omega))
  replace K1 := Aside0.mk (blk_kept K1.out hk (fun hh => by have := G1_.out; have := Z5.out; have := G2.out; have := Z6.out; have := Z7.out; have := Z8.out; have := G3.out; have := Z9.out; have := Z10.out; have := Z11.out; have := G4.out; have := Z12.out; have := Z13.out; have := Z14.out; have := Z15.out; have := Z16.out; have := Z17.out; have := Z18.out; have := Z19.out; obtain ⟨h1, h2⟩ := hh; omega))
  replace K2 := Aside0.mk (blk_kept K2.out hk (fun hh => by have := G1_.out; have := Z5.out; have := G2.out; have := Z6.out; have := Z7.out; have := Z8.out; have := G3.out; have := Z9.out; have := Z10.out; have := Z11.out; have := G4.out; have := Z12.out; have := Z13.out; have := Z14.out; have := Z15.out; have := Z16.out; have := Z17.out; have := Z18.out; have := Z19.out; obtain ⟨h1, h2⟩ := hh; omega))
  replace K3 := Aside0.mk (blk_kept K3.out hk (fun hh => by have := G1_.out; have := Z5.out; have := G2.out; have := Z6.out; have := Z7.out; have := Z8.out; have := G3.out; have := Z9.out; have := Z10.out; have := Z11.out; have := G4.out; have := Z12.out; have := Z13.out; have := Z14.out; have := Z15.out; have := Z16.out; have := Z17.out; have := Z18.out; have := Z19.out; obtain ⟨h1, h2⟩ := hh; omega))
  replace K4 := Aside0.mk (blk_kept K4.out hk (fun hh => by have := G1_.out; have := Z5.out; have := G2.out; have := Z6.out; have := Z7.out; have := Z8.out; have := G3.out; have := Z9.out; have := Z10.out; have := Z11.out; have := G4.out; have := Z12.out; have := Z13.out; have := Z14.out; have := Z15.out; have := Z16.out; have := Z17.out; have := Z18.out; have := Z19.out; obtain ⟨h1, h2⟩ := hh; omega))
  replace Og10 := Aside0.mk hO
  clear hb hO hk
  have hz1 : w19.cell? ⟨g1, 0, none⟩ = some (.slice A0 l0.length c0) := (blk_cell K1.out 0).trans rfl
  have hf1 := blk_frozen K1.out 0
  have hz2 : w19.cell? ⟨g2, 0, none⟩ = some (.slice Aw G.length cw) := (blk_cell K2.out 0).trans rfl
  have hf2 := blk_frozen K2.out 0
  have hz3 : w19.cell? ⟨g3, 0, none⟩ = some (.slice Ac7 l0.length cc7) := (blk_cell K3.out 0).trans rfl
  have hf3 := blk_frozen K3.out 0
  have hz4 : w19.cell? ⟨g4, 0, none⟩ = some (.slice Ag10 G.length cg10) := (blk_cell K4.out 0).trans rfl
  have hf4 := blk_frozen K4.out 0
  have hn1_2 := E1_2.out
  have hn1_3 := E1_3.out
  have hn1_4 := E1_4.out
  have hn2_1 := E2_1.out
  have hn2_3 := E2_3.out
  have hn2_4 := E2_4.out
  have hn3_1 := E3_1.out
  have hn3_2 := E3_2.out
  have hn3_4 := E3_4.out
  have hn4_1 := E4_1.out
  have hn4_2 := E4_2.out
  have hn4_3 := E4_3.out
  go_wp2_with (fail)
  clear hz1 hf1 hz2 hf2 hz3 hf3 hz4 hf4 hn1_2 hn1_3 hn1_4 hn2_1 hn2_3 hn2_4 hn3_1 hn3_2 hn3_4 hn4_1 hn4_2 hn4_3
  refine (heldM_any Ag10 cg10 G 1 _ HG1.out (by omega) HG2.out Og10.out.C Lg10.out).mono ?_
  rintro e w20 ⟨rfl, hb⟩
  replace Oc15 := Aside0.mk (Oc15.out.below hb)
  replace Oc7 := Aside0.mk (Oc7.out.below hb)
  replace Og10 := Aside0.mk (Og10.out.below hb)
  replace K1 := Aside0.mk (blk_below K1.out hb)
  replace K2 := Aside0.mk (blk_below K2.out hb)
  replace K3 := Aside0.mk (blk_below K3.out hb)
  replace K4 := Aside0.mk (blk_below K4.out hb)
  replace BW := Aside0.mk (below_step BW.out hb)
  replace BS := Aside0.mk (below_step BS.out hb)
  have Z20 := Aside0.mk (show w19.heap.size ≤ w20.heap.size from hb.size)
  clear hb
  have hz1 : w20.cell? ⟨g1, 0, none⟩ = some (.slice A0 l0.length c0) := (blk_cell K1.out 0).trans rfl
  have hf1 := blk_frozen K1.out 0
  have hz2 : w20.cell? ⟨g2, 0, none⟩ = some (.slice Aw G.length cw) := (blk_cell K2.out 0).trans rfl
  have hf2 := blk_frozen K2.out 0
  have hz3 : w20.cell? ⟨g3, 0, none⟩ = some (.slice Ac7 l0.length cc7) := (blk_cell K3.out 0).trans rfl
  have hf3 := blk_frozen K3.out 0
  have hz4 : w20.cell? ⟨g4, 0, none⟩ = some (.slice Ag10 G.length cg10) := (blk_cell K4.out 0).trans rfl
  have hf4 := blk_frozen K4.out 0
  have hn1_2 := E1_2.out
  have hn1_3 := E1_3.out
  have hn1_4 := E1_4.out
  have hn2_1 := E2_1.out
  have hn2_3 := E2_3.out
  have hn2_4 := E2_4.out
  have hn3_1 := E3_1.out
  have hn3_2 := E3_2.out
  have hn3_4 := E3_4.out
  have hn4_1 := E4_1.out
  have hn4_2 := E4_2.out
  have hn4_3 := E4_3.out
  go_wp2_with (fail)
  clear hz1 hf1 hz2 hf2 hz3 hf3 hz4 hf4 hn1_2 hn1_3 hn1_4 hn2_1 hn2_3 hn2_4 hn3_1 hn3_2 hn3_4 hn4_1 hn4_2 hn4_3
  refine (copyM_any A0 c0 l0 _ HF0.out (Kd.C_below HR0.out BW.out) HC0.out).mono ?_
  rintro e w21 ⟨Ac21, cc21, rfl, hl, hO, hb⟩
  replace Oc15 := Aside0.mk (Oc15.out.below hb)
  replace Oc7 := Aside0.mk (Oc7.out.below hb)
  replace Og10 := Aside0.mk (Og10.out.below hb)
  replace K1 := Aside0.mk (blk_below K1.out hb)
  replace K2 := Aside0.mk (blk_below K2.out hb)
  replace K3 := Aside0.mk (blk_below K3.out hb)
  replace K4 := Aside0.mk (blk_below K4.out hb)
  replace BW := Aside0.mk (below_step BW.out hb)
  replace BS := Aside0.mk (below_step BS.out hb)
  have Z21 := Aside0.mk (show w20.heap.size ≤ w21.heap.size from hb.size)
  have Oc21 := Aside0.mk (hO.lower (base' := w4.heap.size) (by have := G1_.out; have := Z5.out; have := G2.out; have := Z6.out; have := Z7.out; have := Z8.out; have := G3.out; have := Z9.out; have := Z10.out; have := Z11.out; have := G4.out; have := Z12.out; have := Z13.out; have := Z14.out; have := Z15.out; have := Z16.out; have := Z17.out; have := Z18.out; have := Z19.out; have := Z20.out; have := Z21.out; omega))
  have Lc21 := Aside0.mk hl
  clear hb hl hO
  have hz1 : w21.cell? ⟨g1, 0, none⟩ = some (.slice A0 l0.length c0) := (blk_cell K1.out 0).trans rfl
  have hf1 := blk_frozen K1.out 0
  have hz2 : w21.cell? ⟨g2, 0, none⟩ = some (.slice Aw G.length cw) := (blk_cell K2.out 0).trans rfl
  have hf2 := blk_frozen K2.out 0
  have hz3 : w21.cell? ⟨g3, 0, none⟩ = some (.slice Ac7 l0.length cc7) := (blk_cell K3.out 0).trans rfl
  have hf3 := blk_frozen K3.out 0
  have hz4 : w21.cell? ⟨g4, 0, none⟩ = some (.slice Ag10 G.length cg10) := (blk_cell K4.out 0).trans rfl
  have hf4 := blk_frozen K4.out 0
  have hn1_2 := E1_2.out
  have hn1_3 := E1_3.out
  have hn1_4 := E1_4.out
  have hn2_1 := E2_1.out
  have hn2_3 := E2_3.out
  have hn2_4 := E2_4.out
  have hn3_1 := E3_1.out
  have hn3_2 := E3_2.out
  have hn3_4 := E3_4.out
  have hn4_1 := E4_1.out
  have hn4_2 := E4_2.out
  have hn4_3 := E4_3.out
  go_wp2_with (fail)
  clear hz1 hf1 hz2 hf2 hz3 hf3 hz4 hf4 hn1_2 hn1_3 hn1_4 hn2_1 hn2_3 hn2_4 hn3_1 hn3_2 hn3_4 hn4_1 hn4_2 hn4_3
  refine (HI.out _ Ac21 cc21 Oc21.out.C Lc21.out).mono ?_
  rintro e w22 ⟨vg22, rfl, hS, hb⟩
  replace Oc15 := Aside0.mk (Oc15.out.below hb)
  replace Oc7 := Aside0.mk (Oc7.out.below hb)
  replace Og10 := Aside0.mk (Og10.out.below hb)
  replace Oc21 := Aside0.mk (Oc21.out.below hb)
  replace K1 := Aside0.mk (blk_below K1.out hb)
  replace K2 := Aside0.mk (blk_below K2.out hb)
  replace K3 := Aside0.mk (blk_below K3.out hb)
  replace K4 := Aside0.mk (blk_below K4.out hb)
  replace BW := Aside0.mk (below_step BW.out hb)
  replace BS := Aside0.mk (below_step BS.out hb)
  have Z22 := Aside0.mk (show w21.heap.size ≤ w22.heap.size from hb.size)
  obtain ⟨Ag22, cg22, rfl, hl, hO⟩ := OwnM.of hS
  clear hS
  have Og22 := Aside0.mk (hO.lower (base' := w4.heap.size) (by have := G1_.out; have := Z5.out; have := G2.out; have := Z6.out; have := Z7.out; have := Z8.out; have := G3.out; have := Z9.out; have := Z10.out; have := Z11.out; have := G4.out; have := Z12.out; have := Z13.out; have := Z14.out; have := Z15.out; have := Z16.out; have := Z17.out; have := Z18.out; have := Z19.out; have := Z20.out; have := Z21.out; have := Z22.out; omega))
  have Lg22 := Aside0.mk hl
  clear hb hl hO
  have hz1 : w22.cell? ⟨g1, 0, none⟩ = some (.slice A0 l0.length c0) := (blk_cell K1.out 0).trans rfl
  have hf1 := blk_frozen K1.out 0
  have hz2 : w22.cell? ⟨g2, 0, none⟩ = some (.slice Aw G.length cw) := (blk_cell K2.out 0).trans rfl
  have hf2 := blk_frozen K2.out 0
  have hz3 : w22.cell? ⟨g3, 0, none⟩ = some (.slice Ac7 l0.length cc7) := (blk_cell K3.out 0).trans rfl
  have hf3 := blk_frozen K3.out 0
  have hz4 : w22.cell? ⟨g4, 0, none⟩ = some (.slice Ag10 G.length cg10) := (blk_cell K4.out 0).trans rfl
  have hf4 := blk_frozen K4.out 0
  have hn1_2 := E1_2.out
  have hn1_3 := E1_3.out
  have hn1_4 := E1_4.out
  have hn2_1 := E2_1.out
  have hn2_3 := E2_3.out
  have hn2_4 := E2_4.out
  have hn3_1 := E3_1.out
  have hn3_2 := E3_2.out
  have hn3_4 := E3_4.out
  have hn4_1 := E4_1.out
  have hn4_2 := E4_2.out
  have hn4_3 := E4_3.out
  go_wp2_with (first | ((with_reducible refine gate_dst (N := 12) rfl ?_); refine box_event ?hg (N := 12) ?hd (cs := #[.slice none 0 0]) (t := 26) ?hr ?_; (case hd => rfl); (case hg => rfl); (case hr => first | (go_simp; done) | (go_simp; rfl)); intro g5 hg w23 hbox hb; clear hz1 hf1 hz2 hf2 hz3 hf3 hz4 hf4 hn1_2 hn1_3 hn1_4 hn2_1 hn2_3 hn2_4 hn3_1 hn3_2 hn3_4 hn4_1 hn4_2 hn4_3; replace Oc15 := Aside0.mk (Oc15.out.below hb); replace Oc7 := Aside0.mk (Oc7.out.below hb); replace Og10 := Aside0.mk (Og10.out.below hb); replace Oc21 := Aside0.mk (Oc21.out.below hb); replace Og22 := Aside0.mk (Og22.out.below hb); replace K1 := Aside0.mk (blk_below K1.out hb); replace K2 := Aside0.mk (blk_below K2.out hb); replace K3 := Aside0.mk (blk_below K3.out hb); replace K4 := Aside0.mk (blk_below K4.out hb); replace BW := Aside0.mk (below_step BW.out hb); replace BS := Aside0.mk (below_step BS.out hb); have Z23 := Aside0.mk (show w22.heap.size ≤ w23.heap.size from hb.size); have K5 := Aside0.mk hbox; have G5 := Aside0.mk (show g5 = w22.heap.size ∧ g5 < w23.heap.size from ⟨hg, blk_lt hbox⟩); clear hb hbox hg; have E5_1 := Aside0.mk (show g5 ≠ g1 from (by have := G1_.out; have := Z5.out; have := G2.out; have := Z6.out; have := Z7.out; have := Z8.out; have := G3.out; have := Z9.out; have := Z10.out; have := Z11.out; have := G4.out; have := Z12.out; have := Z13.out; have := Z14.out; have := Z15.out; have := Z16.out; have := Z17.out; have := Z18.out; have := Z19.out; have := Z20.out; have := Z21.out; have := Z22.out; have := Z23.out; have := G5.out; omega)); have E1_5 := Aside0.mk (Ne.symm E5_1.out); have E5_2 := Aside0.mk (show g5 ≠ g2 from (by have := G1_.out; have := Z5.out; have := G2.out; have := Z6.out; have := Z7.out; have := Z8.out; have := G3.out; have := Z9.out; have := Z10.out; have := Z11.out; have := G4.out; have := Z12.out; have := Z13.out; have := Z14.out; have := Z15.out; have := Z16.out; have := Z17.out; have := Z18.out; have := Z19.out; have := Z20.out; have := Z21.out; have := Z22.out; have := Z23.out; have := G5.out; omega)); have E2_5 := Aside0.mk (Ne.symm E5_2.out); have E5_3 := Aside0.mk (show g5 ≠ g3 from (by have := G1_.out; have := Z5.out; have := G2.out; have := Z6.out; have := Z7.out; have := Z8.out; have := G3.out; have := Z9.out; have := Z10.out; have := Z11.out; have := G4.out; have := Z12.out; have := Z13.out; have := Z14.out; have := Z15.out; have := Z16.out; have := Z17.out; have := Z18.out; have := Z19.out; have := Z20.out; have := Z21.out; have := Z22.out; have := Z23.out; have := G5.out; omega)); have E3_5 := Aside0.mk (Ne.symm E5_3.out); have E5_4 := Aside0.mk (show g5 ≠ g4 from (by have := G1_.out; have := Z5.out; have := G2.out; have := Z6.out; have := Z7.out; have := Z8.out; have := G3.out; have := Z9.out; have := Z10.out; have := Z11.out; have := G4.out; have := Z12.out; have := Z13.out; have := Z14.out; have := Z15.out; have := Z16.out; have := Z17.out; have := Z18.out; have := Z19.out; have := Z20.out; have := Z21.out; have := Z22.out; have := Z23.out; have := G5.out; omega)); have E4_5 := Aside0.mk (Ne.symm E5_4.out); have hz1 : w23.cell? ⟨g1, 0, none⟩ = some (.slice A0 l0.length c0) := (blk_cell K1.out 0).trans rfl; have hf1 := blk_frozen K1.out 0; have hz2 : w23.cell? ⟨g2, 0, none⟩ = some (.slice Aw G.length cw) := (blk_cell K2.out 0).trans rfl; have hf2 := blk_frozen K2.out 0; have hz3 : w23.cell? ⟨g3, 0, none⟩ = some (.slice Ac7 l0.length cc7) := (blk_cell K3.out 0).trans rfl; have hf3 := blk_frozen K3.out 0; have hz4 : w23.cell? ⟨g4, 0, none⟩ = some (.slice Ag10 G.length cg10) := (blk_cell K4.out 0).trans rfl; have hf4 := blk_frozen K4.out 0; have hz5 : w23.cell? ⟨g5, 0, none⟩ = some (.slice none 0 0) := (blk_cell K5.out 0).trans rfl; have hf5 := blk_frozen K5.out 0; have hn1_2 := E1_2.out; have hn1_3 := E1_3.out; have hn1_4 := E1_4.out; have hn1_5 := E1_5.out; have hn2_1 := E2_1.out; have hn2_3 := E2_3.out; have hn2_4 := E2_4.out; have hn2_5 := E2_5.out; have hn3_1 := E3_1.out; have hn3_2 := E3_2.out; have hn3_4 := E3_4.out; have hn3_5 := E3_5.out; have hn4_1 := E4_1.out; have hn4_2 := E4_2.out; have hn4_3 := E4_3.out; have hn4_5 := E4_5.out; have hn5_1 := E5_1.out; have hn5_2 := E5_2.out; have hn5_3 := E5_3.out; have hn5_4 := E5_4.out))
  clear hz1 hf1 hz2 hf2 hz3 hf3 hz4 hf4 hz5 hf5 hn1_2 hn1_3 hn1_4 hn1_5 hn2_1 hn2_3 hn2_4 hn2_5 hn3_1 hn3_2 hn3_4 hn3_5 hn4_1 hn4_2 hn4_3 hn4_5 hn5_1 hn5_2 hn5_3 hn5_4
  obtain ⟨w24, hw⟩ : ∃ x, x = w23.setCell ⟨g5, 0, none⟩ (.slice Ag22 G.length cg22) := ⟨_, rfl⟩
  rw [← hw]
  have hk : Kept w23 w24 (fun k => g5 ≤ k ∧ k < g5 + 1) := by
    rw [hw]
    exact Kept.setCell (Kept.refl _ _) (.inl ⟨Nat.le_refl _, Nat.lt_succ_self _⟩) _
  have hkb : w24.heap[g5]? = some (.cells #[.slice Ag22 G.length cg22] 26 (0, 0)) := by
    rw [hw]
    simpa using blk_set K5.out 0 (.slice Ag22 G.length cg22)
  replace BW := Aside0.mk (show Below w.heap.size w w24 by
    rw [hw]
    exact below_set BW.out (by have := BZ.out; have := G1_.out; have := Z5.out; have := G2.out; have := Z6.out; have := Z7.out; have := Z8.out; have := G3.out; have := Z9.out; have := Z10.out; have := Z11.out; have := G4.out; have := Z12.out; have := Z13.out; have := Z14.out; have := Z15.out; have := Z16.out; have := Z17.out; have := Z18.out; have := Z19.out; have := Z20.out; have := Z21.out; have := Z22.out; have := Z23.out; have := G5.out; omega))
  replace BS := Aside0.mk (show Below w4.heap.size w4 w24 by
    rw [hw]
    exact below_set BS.out (by have := G1_.out; have := Z5.out; have := G2.out; have := Z6.out; have := Z7.out; have := Z8.out; have := G3.out; have := Z9.out; have := Z10.out; have := Z11.out; have := G4.out; have := Z12.out; have := Z13.out; have := Z14.out; have := Z15.out; have := Z16.out; have := Z17.out; have := Z18.out; have := Z19.out; have := Z20.out; have := Z21.out; have := Z22.out; have := Z23.out; have := G5.out; omega))
  have Z24 := Aside0.mk (show w23.heap.size ≤ w24.heap.size from hk.1)
  clear hw
  replace Oc15 := Aside0.mk (Oc15.out.kept hk (by have := G1_.out; have := Z5.out; have := G2.out; have := Z6.out; have := Z7.out; have := Z8.out; have := G3.out; have := Z9.out; have := Z10.out; have := Z11.out; have := G4.out; have := Z12.out; have := Z13.out; have := Z14.out; have := Z15.out; have := Z16.out; have := Z17.out; have := Z18.out; have := Z19.out; have := Z20.out; have := Z21.out; have := Z22.out; have := Z23.out; have := G5.out; have := Z24.out; omega))
  replace Oc7 := Aside0.mk (Oc7.out.kept hk (by have := G1_.out; have := Z5.out; have := G2.out; have := Z6.out; have := Z7.out; have := Z8.out; have := G3.out; have := Z9.out; have := Z10.out; have := Z11.out; have := G4.out; have := Z12.out; have := Z13.out; have := Z14.out; have := Z15.out; have := Z16.out; have := Z17.out; have := Z18.out; have := Z19.out; have := Z20.out; have := Z21.out; have := Z22.out; have := Z23.out; have := G5.out; have := Z24.out; omega))
  replace Og10 := Aside0.mk (Og10.out.kept hk (by have := G1_.out; have := Z5.out; have := G2.out; have := Z6.out; have := Z7.out; have := Z8.out; have := G3.out; have := Z9.out; have := Z10.out; have := Z11.out; have := G4.out; have := Z12.out; have := Z13.out; have := Z14.out; have := Z15.out; have := Z16.out; have := Z17.out; have := Z18.out; have := Z19.out; have := Z20.out; have := Z21.out; have := Z22.out; have := Z23.out; have := G5.out; have := Z24.out; omega))
  replace Oc21 := Aside0.mk (Oc21.out.kept hk (by have := G1_.out; have := Z5.out; have := G2.out; have := Z6.out; have := Z7.out; have := Z8.out; have := G3.out; have := Z9.out; have := Z10.out; have := Z11.out; have := G4.out; have := Z12.out; have := Z13.out; have := Z14.out; have := Z15.out; have := Z16.out; have := Z17.out; have := Z18.out; have := Z19.out; have := Z20.out; have := Z21.out; have := Z22.out; have := Z23.out; have := G5.out; have := Z24.out; omega))
  replace Og22 := Aside0.mk (Og22.out.kept hk (by have := G1_.out; have := Z5.out; have := G2.out; have := Z6.out; have := Z7.out; have := Z8.out; have := G3.out; have := Z9.out; have := Z10.out; have := Z11.out; have := G4.out; have := Z12.out; have := Z13.out; have := Z14.out; have := Z15.out; have := Z16.out; have := Z17.out; have := Z18.out; have := Z19.out; have := Z20.out; have := Z21.out; have := Z22.out; have := Z23.out; have := G5.out; have := Z24.out; omega))
  replace K1 := Aside0.mk (blk_kept K1.out hk (fun hh => by have := G1_.out; have := Z5.out; have := G2.out; have := Z6.out; have := Z7.out; have := Z8.out; have := G3.out; have := Z9.out; have := Z10.out; have := Z11.out; have := G4.out; have := Z12.out; have := Z13.out; have := Z14.out; have := Z15.out; have := Z16.out; have := Z17.out; have := Z18.out; have := Z19.out; have := Z20.out; have := Z21.out; have := Z22.out; have := Z23.out; have := G5.out; have := Z24.out; obtain ⟨h1, h2⟩ := hh; omega))
  replace K2 := Aside0.mk (blk_kept K2.out hk (fun hh => by have := G1_.out; have := Z5.out; have := G2.out; have := Z6.out; have := Z7.out; have := Z8.out; have := G3.out; have := Z9.out; have := Z10.out; have := Z11.out; have := G4.out; have := Z12.out; have := Z13.out; have := Z14.out; have := Z15.out; have := Z16.out; have := Z17.out; have := Z18.out; have := Z19.out; have := Z20.out; have := Z21.out; have := Z22.out; have := Z23.out; have := G5.out; have := Z24.out; obtain ⟨h1, h2⟩ := hh; omega))
  replace K3 := Aside0.mk (blk_kept K3.out hk (fun hh => by have := G1_.out; have := Z5.out; have := G2.out; have := Z6.out; have := Z7.out; have := Z8.out; have := G3.out; have := Z9.out; have := Z10.out; have := Z11.out; have := G4.out; have := Z12.out; have := Z13.out; have := Z14.out; have := Z15.out; have := Z16.out; have := Z17.out; have := Z18.out; have := Z19.out; have := Z20.out; have := Z21.out; have := Z22.out; have := Z23.out; have := G5.out; have := Z24.out; obtain ⟨h1, h2⟩ := hh; omega))
  replace K4 := Aside0.mk (blk_kept K4.out hk (fun hh => by have := G1_.out; have := Z5.out; have := G2.out; have := Z6.out; have := Z7.out; have := Z8.out; have := G3.out; have := Z9.out; have := Z10.out; have := Z11.out; have := G4.out; have := Z12.out; have := Z13.out; have := Z14.out; have := Z15.out; have := Z16.out; have := Z17.out; have := Z18.out; have := Z19.out; have := Z20.out; have := Z21.out; have := Z22.out; have := Z23.out; have := G5.out; have := Z24.out; obtain ⟨h1, h2⟩ := hh; omega))
  replace K5 := Aside0.mk hkb
  clear hk hkb
  refine (sameM_any Ag22 Aw cg22 cw G _ HF.out Og22.out.C Lg22.out (Kd.C_below CW.out BS.out) LW.out).mono ?_
  rintro e w25 ⟨rfl, hb⟩
  replace Oc15 := Aside0.mk (Oc15.out.below hb)
  replace Oc7 := Aside0.mk (Oc7.out.below hb)
  replace Og10 := Aside0.mk (Og10.out.below hb)
  replace Oc21 := Aside0.mk (Oc21.out.below hb)
  replace Og22 := Aside0.mk (Og22.out.below hb)
  replace K1 := Aside0.mk (blk_below K1.out hb)
  replace K2 := Aside0.mk (blk_below K2.out hb)
  replace K3 := Aside0.mk (blk_below K3.out hb)
  replace K4 := Aside0.mk (blk_below K4.out hb)
  replace K5 := Aside0.mk (blk_below K5.out hb)
  replace BW := Aside0.mk (below_step BW.out hb)
  replace BS := Aside0.mk (below_step BS.out hb)
  have Z25 := Aside0.mk (show w24.heap.size ≤ w25.heap.size from hb.size)
  clear hb
  have hz1 : w25.cell? ⟨g1, 0, none⟩ = some (.slice A0 l0.length c0) := (blk_cell K1.out 0).trans rfl
  have hf1 := blk_frozen K1.out 0
  have hz2 : w25.cell? ⟨g2, 0, none⟩ = some (.slice Aw G.length cw) := (blk_cell K2.out 0).trans rfl
  have hf2 := blk_frozen K2.out 0
  have hz3 : w25.cell? ⟨g3, 0, none⟩ = some (.slice Ac7 l0.length cc7) := (blk_cell K3.out 0).trans rfl
  have hf3 := blk_frozen K3.out 0
  have hz4 : w25.cell? ⟨g4, 0, none⟩ = some (.slice Ag10 G.length cg10) := (blk_cell K4.out 0).trans rfl
  have hf4 := blk_frozen K4.out 0
  have hz5 : w25.cell? ⟨g5, 0, none⟩ = some (.slice Ag22 G.length cg22) := (blk_cell K5.out 0).trans rfl
  have hf5 := blk_frozen K5.out 0
  have hn1_2 := E1_2.out
  have hn1_3 := E1_3.out
  have hn1_4 := E1_4.out
  have hn1_5 := E1_5.out
  have hn2_1 := E2_1.out
  have hn2_3 := E2_3.out
  have hn2_4 := E2_4.out
  have hn2_5 := E2_5.out
  have hn3_1 := E3_1.out
  have hn3_2 := E3_2.out
  have hn3_4 := E3_4.out
  have hn3_5 := E3_5.out
  have hn4_1 := E4_1.out
  have hn4_2 := E4_2.out
  have hn4_3 := E4_3.out
  have hn4_5 := E4_5.out
  have hn5_1 := E5_1.out
  have hn5_2 := E5_2.out
  have hn5_3 := E5_3.out
  have hn5_4 := E5_4.out
  go_wp2_with (fail)
  clear hz1 hf1 hz2 hf2 hz3 hf3 hz4 hf4 hz5 hf5 hn1_2 hn1_3 hn1_4 hn1_5 hn2_1 hn2_3 hn2_4 hn2_5 hn3_1 hn3_2 hn3_4 hn3_5 hn4_1 hn4_2 hn4_3 hn4_5 hn5_1 hn5_2 hn5_3 hn5_4
  refine (heldM_any Ag10 cg10 G 1 _ HG1.out (by omega) HG2.out Og10.out.C Lg10.out).mono ?_
  rintro e w26 ⟨rfl, hb⟩
  replace Oc15 := Aside0.mk (Oc15.out.below hb)
  replace Oc7 := Aside0.mk (Oc7.out.below hb)
  replace Og10 := Aside0.mk (Og10.out.below hb)
  replace Oc21 := Aside0.mk (Oc21.out.below hb)
  replace Og22 := Aside0.mk (Og22.out.below hb)
  replace K1 := Aside0.mk (blk_below K1.out hb)
  replace K2 := Aside0.mk (blk_below K2.out hb)
  replace K3 := Aside0.mk (blk_below K3.out hb)
  replace K4 := Aside0.mk (blk_below K4.out hb)
  replace K5 := Aside0.mk (blk_below K5.out hb)
  replace BW := Aside0.mk (below_step BW.out hb)
  replace BS := Aside0.mk (below_step BS.out hb)
  have Z26 := Aside0.mk (show w25.heap.size ≤ w26.heap.size from hb.size)
  clear hb
  have hz1 : w26.cell? ⟨g1, 0, none⟩ = some (.slice A0 l0.length c0) := (blk_cell K1.out 0).trans rfl
  have hf1 := blk_frozen K1.out 0
  have hz2 : w26.cell? ⟨g2, 0, none⟩ = some (.slice Aw G.length cw) := (blk_cell K2.out 0).trans rfl
  have hf2 := blk_frozen K2.out 0
  have hz3 : w26.cell? ⟨g3, 0, none⟩ = some (.slice Ac7 l0.length cc7) := (blk_cell K3.out 0).trans rfl
  have hf3 := blk_frozen K3.out 0
  have hz4 : w26.cell? ⟨g4, 0, none⟩ = some (.slice Ag10 G.length cg10) := (blk_cell K4.out 0).trans rfl
  have hf4 := blk_frozen K4.out 0
  have hz5 : w26.cell? ⟨g5, 0, none⟩ = some (.slice Ag22 G.length cg22) := (blk_cell K5.out 0).trans rfl
  have hf5 := blk_frozen K5.out 0
  have hn1_2 := E1_2.out
  have hn1_3 := E1_3.out
  have hn1_4 := E1_4.out
  have hn1_5 := E1_5.out
  have hn2_1 := E2_1.out
  have hn2_3 := E2_3.out
  have hn2_4 := E2_4.out
  have hn2_5 := E2_5.out
  have hn3_1 := E3_1.out
  have hn3_2 := E3_2.out
  have hn3_4 := E3_4.out
  have hn3_5 := E3_5.out
  have hn4_1 := E4_1.out
  have hn4_2 := E4_2.out
  have hn4_3 := E4_3.out
  have hn4_5 := E4_5.out
  have hn5_1 := E5_1.out
  have hn5_2 := E5_2.out
  have hn5_3 := E5_3.out
  have hn5_4 := E5_4.out
  go_wp2
  go_ret
  exact ⟨rfl, BW.out⟩
end Go.Proofs.Ytldkkfpodldbgaa.G
