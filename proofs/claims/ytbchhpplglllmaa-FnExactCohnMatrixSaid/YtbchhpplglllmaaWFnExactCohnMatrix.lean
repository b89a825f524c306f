/- The law FnExactCohnMatrix, walked by hand, out of what both programs' functions come to. Written by a program of this session (wip/mkwalk.py). -/
import Derived.Test.YtbchhpplglllmaaGLawE
namespace Go.Proofs.Ytbchhpplglllmaa.G
open Go.RowKit Go.Proofs.Ytbchhpplglllmaa.P Go.Proofs.YtbchhpplglllmaaW.PrintWords Go.Proofs.YtbchhpplglllmaaW.PrintLast Go.Proofs.Ytbchhpplglllmaa.Q
set_option linter.unusedVariables false
set_option linter.unusedSimpArgs false
theorem FnExactCohnMatrix_out0 (a0 : ByteArray) (w : World) (h : 1048576 < a0.size) :
    Calls Try.prog 10 #[.string a0] w fun e w' => e = .returned (.bool true) ∧ Below w.heap.size w w' := by
  have t0 : decide (1048576 < (a0.size : Int)) = true := decide_eq_true (by omega)
  have u0 : decide (1048576 < a0.size) = true := decide_eq_true (by omega)
  clear h
  go_enter Try.func10, Try.ntmps10
  go_wp2
  go_ret
  exact ⟨rfl, by repeat (first | exact Below.refl _ _ | apply below_alloc)⟩
set_option maxHeartbeats 8000000 in
set_option maxRecDepth 100000 in
theorem FnExactCohnMatrix_calls (a0 : ByteArray) (G : List (List Int)) (b : Bool) (w : World)  (f0 : a0.size ≤ 1048576) 
    (hs : ∀ (W : World) , Calls Try.prog 35 #[.string a0] W fun e w' => ∃ A c, e = .returned (.tuple #[.agg #[.slice A G.length c], .bool b]) ∧ G.length ≤ c ∧ Kd.C (Kd.slice 3 (Kd.int .i64)) w' A G.length G ∧ Below W.heap.size W w')
    (hi : ∀ (W : World) , Calls Try.prog 36 #[.string a0] W fun e w' => ∃ v, e = .returned (.tuple #[.agg #[v], .bool b]) ∧ Kd.S (Kd.slice 3 (Kd.int .i64)) 35 w' W.heap.size (fun _ => True) v G ∧ Below W.heap.size W w')
    (hg : G.length ≤ 4611686018427387904 ∧ (1 : Int) + tot G ≤ 4611686018427387904 ∧ Fits G) :
    Calls Try.prog 10 #[.string a0] w fun e w' => e = .returned (.bool true) ∧ Below w.heap.size w w' := by
  have t0 : decide (1048576 < (a0.size : Int)) = false := decide_eq_false (by omega)
  have u0 : decide (1048576 < a0.size) = false := decide_eq_false (by omega)
  have hg1 := hg.1
  have hg2 := hg.2.1
  have HF := Aside0.mk hg.2.2
  have eg : decide (1 + ((tot G : Nat) : Int) < 0) = false := decide_eq_false (by omega)
  have HG1 := Aside0.mk hg1
  have HG2 := Aside0.mk hg2
  have HS := Aside0.mk hs
  have HI := Aside0.mk hi
  clear hs hi hg hg1 hg2 f0
  have BW := Aside0.mk (Below.refl w.heap.size w)
  have hu := Try.underlying24
  have hu2 := Try.underlying27
  go_enter Try.func10, Try.ntmps10
  have BZ := Aside0.mk (Nat.le_refl w.heap.size)
  go_wp2_with (fail)
  refine (HS.out _ ).mono ?_
  rintro e w1 ⟨Aw, cw, rfl, hlw, hCw, hb⟩
  replace BW := Aside0.mk (below_step BW.out hb)
  have Z1 := Aside0.mk (show w.heap.size ≤ w1.heap.size from hb.size)
  have LW := Aside0.mk hlw
  have CW := Aside0.mk hCw
  have B0 := Aside0.mk BW.out
  have BS := Aside0.mk (Below.refl w1.heap.size w1)
  replace BZ := Aside0.mk BW.out.size
  clear hb hlw hCw HS
  go_wp2_with (first | ((with_reducible refine gate_dst (N := 3) rfl ?_); refine box_event ?hg (N := 3) ?hd (cs := #[.slice none 0 0]) (t := 27) ?hr ?_; (case hd => rfl); (case hg => rfl); (case hr => first | (go_simp; done) | (go_simp; rfl)); intro g1 hg w2 hbox hb; replace BW := Aside0.mk (below_step BW.out hb); replace BS := Aside0.mk (below_step BS.out hb); have Z2 := Aside0.mk (show w1.heap.size ≤ w2.heap.size from hb.size); have K1 := Aside0.mk hbox; have G1 := Aside0.mk (show g1 = w1.heap.size ∧ g1 < w2.heap.size from ⟨hg, blk_lt hbox⟩); clear hb hbox hg; have hz1 : w2.cell? ⟨g1, 0, none⟩ = some (.slice none 0 0) := (blk_cell K1.out 0).trans rfl; have hf1 := blk_frozen K1.out 0))
  clear hz1 hf1
  obtain ⟨w3, hw⟩ : ∃ x, x = w2.setCell ⟨g1, 0, none⟩ (.slice Aw G.length cw) := ⟨_, rfl⟩
  rw [← hw]
  have hk : Kept w2 w3 (fun k => g1 ≤ k ∧ k < g1 + 1) := by
    rw [hw]
    exact Kept.setCell (Kept.refl _ _) (.inl ⟨Nat.le_refl _, Nat.lt_succ_self _⟩) _
  have hkb : w3.heap[g1]? = some (.cells #[.slice Aw G.length cw] 27 (0, 0)) := by
    rw [hw]
    simpa using blk_set K1.out 0 (.slice Aw G.length cw)
  replace BW := Aside0.mk (show Below w.heap.size w w3 by
    rw [hw]
    exact below_set BW.out (by have := BZ.out; have := Z2.out; have := G1.out; omega))
  replace BS := Aside0.mk (show Below w1.heap.size w1 w3 by
    rw [hw]
    exact below_set BS.out (by have := Z2.out; have := G1.out; omega))
  have Z3 := Aside0.mk (show w2.heap.size ≤ w3.heap.size from hk.1)
  clear hw
  replace K1 := Aside0.mk hkb
  clear hk hkb
  refine (HI.out _ ).mono ?_
  rintro e w4 ⟨vg4, rfl, hS, hb⟩
  replace K1 := Aside0.mk (blk_below K1.out hb)
  replace BW := Aside0.mk (below_step BW.out hb)
  replace BS := Aside0.mk (below_step BS.out hb)
  have Z4 := Aside0.mk (show w3.heap.size ≤ w4.heap.size from hb.size)
  obtain ⟨Ag4, cg4, rfl, hl, hO⟩ := OwnM.of hS
  clear hS
  have Og4 := Aside0.mk (hO.lower (base' := w1.heap.size) (by have := Z2.out; have := G1.out; have := Z3.out; have := Z4.out; omega))
  have Lg4 := Aside0.mk hl
  clear hb hl hO
  have hz1 : w4.cell? ⟨g1, 0, none⟩ = some (.slice Aw G.length cw) := (blk_cell K1.out 0).trans rfl
  have hf1 := blk_frozen K1.out 0
  go_wp2_with (first | ((with_reducible refine gate_dst (N := 5) rfl ?_); refine box_event ?hg (N := 5) ?hd (cs := #[.slice none 0 0]) (t := 27) ?hr ?_; (case hd => rfl); (case hg => rfl); (case hr => first | (go_simp; done) | (go_simp; rfl)); intro g2 hg w5 hbox hb; clear hz1 hf1; replace Og4 := Aside0.mk (Og4.out.below hb); replace K1 := Aside0.mk (blk_below K1.out hb); replace BW := Aside0.mk (below_step BW.out hb); replace BS := Aside0.mk (below_step BS.out hb); have Z5 := Aside0.mk (show w4.heap.size ≤ w5.heap.size from hb.size); have K2 := Aside0.mk hbox; have G2 := Aside0.mk (show g2 = w4.heap.size ∧ g2 < w5.heap.size from ⟨hg, blk_lt hbox⟩); clear hb hbox hg; have hz1 : w5.cell? ⟨g1, 0, none⟩ = some (.slice Aw G.length cw) := (blk_cell K1.out 0).trans rfl; have hf1 := blk_frozen K1.out 0; have hz2 : w5.cell? ⟨g2, 0, none⟩ = some (.slice none 0 0) := (blk_cell K2.out 0).trans rfl; have hf2 := blk_frozen K2.out 0; have hn1_2 : g1 ≠ g2 := (by have := Z2.out; have := G1.out; have := Z3.out; have := Z4.out; have := Z5.out; have := G2.out; omega); have hn2_1 : g2 ≠ g1 := (by have := Z2.out; have := G1.out; have := Z3.out; have := Z4.out; have := Z5.out; have := G2.out; omega)))
  clear hz1 hf1 hz2 hf2 hn1_2 hn2_1
  obtain ⟨w6, hw⟩ : ∃ x, x = w5.setCell ⟨g2, 0, none⟩ (.slice Ag4 G.length cg4) := ⟨_, rfl⟩
  rw [← hw]
  have hk : Kept w5 w6 (fun k => g2 ≤ k ∧ k < g2 + 1) := by
    rw [hw]
    exact Kept.setCell (Kept.refl _ _) (.inl ⟨Nat.le_refl _, Nat.lt_succ_self _⟩) _
  have hkb : w6.heap[g2]? = some (.cells #[.slice Ag4 G.length cg4] 27 (0, 0)) := by
    rw [hw]
    simpa using blk_set K2.out 0 (.slice Ag4 G.length cg4)
  replace BW := Aside0.mk (show Below w.heap.size w w6 by
    rw [hw]
    exact below_set BW.out (by have := BZ.out; have := Z2.out; have := G1.out; have := Z3.out; have := Z4.out; have := Z5.out; have := G2.out; omega))
  replace BS := Aside0.mk (show Below w1.heap.size w1 w6 by
    rw [hw]
    exact below_set BS.out (by have := Z2.out; have := G1.out; have := Z3.out; have := Z4.out; have := Z5.out; have := G2.out; omega))
  have Z6 := Aside0.mk (show w5.heap.size ≤ w6.heap.size from hk.1)
  clear hw
  replace Og4 := Aside0.mk (Og4.out.kept hk (by have := Z2.out; have := G1.out; have := Z3.out; have := Z4.out; have := Z5.out; have := G2.out; have := Z6.out; omega))
  replace K1 := Aside0.mk (blk_kept K1.out hk (fun hh => by have := Z2.out; have := G1.out; have := Z3.out; have := Z4.out; have := Z5.out; have := G2.out; have := Z6.out; obtain ⟨h1, h2⟩ := hh; omega))
  replace K2 := Aside0.mk hkb
  clear hk hkb
  refine (sameM_any Ag4 Aw cg4 cw G _ HF.out Og4.out.C Lg4.out (Kd.C_below CW.out BS.out) LW.out).mono ?_
  rintro e w7 ⟨rfl, hb⟩
  replace Og4 := Aside0.mk (Og4.out.below hb)
  replace K1 := Aside0.mk (blk_below K1.out hb)
  replace K2 := Aside0.mk (blk_below K2.out hb)
  replace BW := Aside0.mk (below_step BW.out hb)
  replace BS := Aside0.mk (below_step BS.out hb)
  have Z7 := Aside0.mk (show w6.heap.size ≤ w7.heap.size from hb.size)
  clear hb
  have hz1 : w7.cell? ⟨g1, 0, none⟩ = some (.slice Aw G.length cw) := (blk_cell K1.out 0).trans rfl
  have hf1 := blk_frozen K1.out 0
  have hz2 : w7.cell? ⟨g2, 0, none⟩ = some (.slice Ag4 G.length cg4) := (blk_cell K2.out 0).trans rfl
  have hf2 := blk_frozen K2.out 0
  have hn1_2 : g1 ≠ g2 := (by have := Z2.out; have := G1.out; have := Z3.out; have := Z4.out; have := Z5.out; have := G2.out; have := Z6.out; have := Z7.out; omega)
  have hn2_1 : g2 ≠ g1 := (by have := Z2.out; have := G1.out; have := Z3.out; have := Z4.out; have := Z5.out; have := G2.out; have := Z6.out; have := Z7.out; omega)
  go_wp2_with (fail)
  clear hz1 hf1 hz2 hf2 hn1_2 hn2_1
  refine (markM_any w1 w3.heap.size w4.heap.size Ag4 cg4 G 1 _ BS.out Og4.out HG1.out (by omega) HG2.out (by have := Z2.out; have := G1.out; have := Z3.out; have := Z4.out; have := Z5.out; have := G2.out; have := Z6.out; have := Z7.out; omega)).mono ?_
  rintro e w8 ⟨rfl, hO, hb, hk⟩
  replace BS := Aside0.mk hb
  replace BW := Aside0.mk (below_step B0.out hb)
  have Z8 := Aside0.mk (show w7.heap.size ≤ w8.heap.size from hk.1)
  replace K1 := Aside0.mk (blk_kept K1.out hk (fun hh => by have := Z2.out; have := G1.out; have := Z3.out; have := Z4.out; have := Z5.out; have := G2.out; have := Z6.out; have := Z7.out; have := Z8.out; obtain ⟨h1, h2⟩ := hh; omega))
  replace K2 := Aside0.mk (blk_kept K2.out hk (fun hh => by have := Z2.out; have := G1.out; have := Z3.out; have := Z4.out; have := Z5.out; have := G2.out; have := Z6.out; have := Z7.out; have := Z8.out; obtain ⟨h1, h2⟩ := hh; omega))
  replace Og4 := Aside0.mk hO
  clear hb hO hk
  have hz1 : w8.cell? ⟨g1, 0, none⟩ = some (.slice Aw G.length cw) := (blk_cell K1.out 0).trans rfl
  have hf1 := blk_frozen K1.out 0
  have hz2 : w8.cell? ⟨g2, 0, none⟩ = some (.slice Ag4 G.length cg4) := (blk_cell K2.out 0).trans rfl
  have hf2 := blk_frozen K2.out 0
  have hn1_2 : g1 ≠ g2 := (by have := Z2.out; have := G1.out; have := Z3.out; have := Z4.out; have := Z5.out; have := G2.out; have := Z6.out; have := Z7.out; have := Z8.out; omega)
  have hn2_1 : g2 ≠ g1 := (by have := Z2.out; have := G1.out; have := Z3.out; have := Z4.out; have := Z5.out; have := G2.out; have := Z6.out; have := Z7.out; have := Z8.out; omega)
  go_wp2_with (fail)
  clear hz1 hf1 hz2 hf2 hn1_2 hn2_1
  refine (heldM_any Ag4 cg4 G 1 _ HG1.out (by omega) HG2.out Og4.out.C Lg4.out).mono ?_
  rintro e w9 ⟨rfl, hb⟩
  replace Og4 := Aside0.mk (Og4.out.below hb)
  replace K1 := Aside0.mk (blk_below K1.out hb)
  replace K2 := Aside0.mk (blk_below K2.out hb)
  replace BW := Aside0.mk (below_step BW.out hb)
  replace BS := Aside0.mk (below_step BS.out hb)
  have Z9 := Aside0.mk (show w8.heap.size ≤ w9.heap.size from hb.size)
  clear hb
  have hz1 : w9.cell? ⟨g1, 0, none⟩ = some (.slice Aw G.length cw) := (blk_cell K1.out 0).trans rfl
  have hf1 := blk_frozen K1.out 0
  have hz2 : w9.cell? ⟨g2, 0, none⟩ = some (.slice Ag4 G.length cg4) := (blk_cell K2.out 0).trans rfl
  have hf2 := blk_frozen K2.out 0
  have hn1_2 : g1 ≠ g2 := (by have := Z2.out; have := G1.out; have := Z3.out; have := Z4.out; have := Z5.out; have := G2.out; have := Z6.out; have := Z7.out; have := Z8.out; have := Z9.out; omega)
  have hn2_1 : g2 ≠ g1 := (by have := Z2.out; have := G1.out; have := Z3.out; have := Z4.out; have := Z5.out; have := G2.out; have := Z6.out; have := Z7.out; have := Z8.out; have := Z9.out; omega)
  go_wp2_with (fail)
  clear hz1 hf1 hz2 hf2 hn1_2 hn2_1
  refine (HI.out _ ).mono ?_
  rintro e w10 ⟨vg10, rfl, hS, hb⟩
  replace Og4 := Aside0.mk (Og4.out.below hb)
  replace K1 := Aside0.mk (blk_below K1.out hb)
  replace K2 := Aside0.mk (blk_below K2.out hb)
  replace BW := Aside0.mk (below_step BW.out hb)
  replace BS := Aside0.mk (below_step BS.out hb)
  have Z10 := Aside0.mk (show w9.heap.size ≤ w10.heap.size from hb.size)
  obtain ⟨Ag10, cg10, rfl, hl, hO⟩ := OwnM.of hS
  clear hS
  have Og10 := Aside0.mk (hO.lower (base' := w1.heap.size) (by have := Z2.out; have := G1.out; have := Z3.out; have := Z4.out; have := Z5.out; have := G2.out; have := Z6.out; have := Z7.out; have := Z8.out; have := Z9.out; have := Z10.out; omega))
  have Lg10 := Aside0.mk hl
  clear hb hl hO
  have hz1 : w10.cell? ⟨g1, 0, none⟩ = some (.slice Aw G.length cw) := (blk_cell K1.out 0).trans rfl
  have hf1 := blk_frozen K1.out 0
  have hz2 : w10.cell? ⟨g2, 0, none⟩ = some (.slice Ag4 G.length cg4) := (blk_cell K2.out 0).trans rfl
  have hf2 := blk_frozen K2.out 0
  have hn1_2 : g1 ≠ g2 := (by have := Z2.out; have := G1.out; have := Z3.out; have := Z4.out; have := Z5.out; have := G2.out; have := Z6.out; have := Z7.out; have := Z8.out; have := Z9.out; have := Z10.out; omega)
  have hn2_1 : g2 ≠ g1 := (by have := Z2.out; have := G1.out; have := Z3.out; have := Z4.out; have := Z5.out; have := G2.out; have := Z6.out; have := Z7.out; have := Z8.out; have := Z9.out; have := Z10.out; omega)
  go_wp2_with (first | ((with_reducible refine gate_dst (N := 9) rfl ?_); refine box_event ?hg (N := 9) ?hd (cs := #[.slice none 0 0]) (t := 27) ?hr ?_; (case hd => rfl); (case hg => rfl); (case hr => first | (go_simp; done) | (go_simp; rfl)); intro g3 hg w11 hbox hb; clear hz1 hf1 hz2 hf2 hn1_2 hn2_1; replace Og4 := Aside0.mk (Og4.out.below hb); replace Og10 := Aside0.mk (Og10.out.below hb); replace K1 := Aside0.mk (blk_below K1.out hb); replace K2 := Aside0.mk (blk_below K2.out hb); replace BW := Aside0.mk (below_step BW.out hb); replace BS := Aside0.mk (below_step BS.out hb); have Z11 := Aside0.mk (show w10.heap.size ≤ w11.heap.size from hb.size); have K3 := Aside0.mk hbox; have G3 := Aside0.mk (show g3 = w10.heap.size ∧ g3 < w11.heap.size from ⟨hg, blk_lt hbox⟩); clear hb hbox hg; have hz1 : w11.cell? ⟨g1, 0, none⟩ = some (.slice Aw G.length cw) := (blk_cell K1.out 0).trans rfl; have hf1 := blk_frozen K1.out 0; have hz2 : w11.cell? ⟨g2, 0, none⟩ = some (.slice Ag4 G.length cg4) := (blk_cell K2.out 0).trans rfl; have hf2 := blk_frozen K2.out 0; have hz3 : w11.cell? ⟨g3, 0, none⟩ = some (.slice none 0 0) := (blk_cell K3.out 0).trans rfl; have hf3 := blk_frozen K3.out 0; have hn1_2 : g1 ≠ g2 := (by have := Z2.out; have := G1.out; have := Z3.out; have := Z4.out; have := Z5.out; have := G2.out; have := Z6.out; have := Z7.out; have := Z8.out; have := Z9.out; have := Z10.out; have := Z11.out; have := G3.out; omega); have hn1_3 : g1 ≠ g3 := (by have := Z2.out; have := G1.out; have := Z3.out; have := Z4.out; have := Z5.out; have := G2.out; have := Z6.out; have := Z7.out; have := Z8.out; have := Z9.out; have := Z10.out; have := Z11.out; have := G3.out; omega); have hn2_1 : g2 ≠ g1 := (by have := Z2.out; have := G1.out; have := Z3.out; have := Z4.out; have := Z5.out; have := G2.out; have := Z6.out; have := Z7.out; have := Z8.out; have := Z9.out; have := Z10.out; have := Z11.out; have := G3.out; omega); have hn2_3 : g2 ≠ g3 := (by have := Z2.out; have := G1.out; have := Z3.out; have := Z4.out; have := Z5.out; have := G2.out; have := Z6.out; have := Z7.out; have := Z8.out; have := Z9.out; have := Z10.out; have := Z11.out; have := G3.out; omega); have hn3_1 : g3 ≠ g1 := (by have := Z2.out; have := G1.out; have := Z3.out; have := Z4.out; have := Z5.out; have := G2.out; have := Z6.out; have := Z7.out; have := Z8.out; have := Z9.out; have := Z10.out; have := Z11.out; have := G3.out; omega); have hn3_2 : g3 ≠ g2 := (by have := Z2.out; have := G1.out; have := Z3.out; have := Z4.out; have := Z5.out; have := G2.out; have := Z6.out; have := Z7.out; have := Z8.out; have := Z9.out; have := Z10.out; have := Z11.out; have := G3.out; omega)))
  clear hz1 hf1 hz2 hf2 hz3 hf3 hn1_2 hn1_3 hn2_1 hn2_3 hn3_1 hn3_2
  obtain ⟨w12, hw⟩ : ∃ x, x = w11.setCell ⟨g3, 0, none⟩ (.slice Ag10 G.length cg10) := ⟨_, rfl⟩
  rw [← hw]
  have hk : Kept w11 w12 (fun k => g3 ≤ k ∧ k < g3 + 1) := by
    rw [hw]
    exact Kept.setCell (Kept.refl _ _) (.inl ⟨Nat.le_refl _, Nat.lt_succ_self _⟩) _
  have hkb : w12.heap[g3]? = some (.cells #[.slice Ag10 G.length cg10] 27 (0, 0)) := by
    rw [hw]
    simpa using blk_set K3.out 0 (.slice Ag10 G.length cg10)
  replace BW := Aside0.mk (show Below w.heap.size w w12 by
    rw [hw]
    exact below_set BW.out (by have := BZ.out; have := Z2.out; have := G1.out; have := Z3.out; have := Z4.out; have := Z5.out; have := G2.out; have := Z6.out; have := Z7.out; have := Z8.out; have := Z9.out; have := Z10.out; have := Z11.out; have := G3.out; omega))
  replace BS := Aside0.mk (show Below w1.heap.size w1 w12 by
    rw [hw]
    exact below_set BS.out (by have := Z2.out; have := G1.out; have := Z3.out; have := Z4.out; have := Z5.out; have := G2.out; have := Z6.out; have := Z7.out; have := Z8.out; have := Z9.out; have := Z10.out; have := Z11.out; have := G3.out; omega))
  have Z12 := Aside0.mk (show w11.heap.size ≤ w12.heap.size from hk.1)
  clear hw
  replace Og4 := Aside0.mk (Og4.out.kept hk (by have := Z2.out; have := G1.out; have := Z3.out; have := Z4.out; have := Z5.out; have := G2.out; have := Z6.out; have := Z7.out; have := Z8.out; have := Z9.out; have := Z10.out; have := Z11.out; have := G3.out; have := Z12.out; omega))
  replace Og10 := Aside0.mk (Og10.out.kept hk (by have := Z2.out; have := G1.out; have := Z3.out; have := Z4.out; have := Z5.out; have := G2.out; have := Z6.out; have := Z7.out; have := Z8.out; have := Z9.out; have := Z10.out; have := Z11.out; have := G3.out; have := Z12.out; omega))
  replace K1 := Aside0.mk (blk_kept K1.out hk (fun hh => by have := Z2.out; have := G1.out; have := Z3.out; have := Z4.out; have := Z5.out; have := G2.out; have := Z6.out; have := Z7.out; have := Z8.out; have := Z9.out; have := Z10.out; have := Z11.out; have := G3.out; have := Z12.out; obtain ⟨h1, h2⟩ := hh; omega))
  replace K2 := Aside0.mk (blk_kept K2.out hk (fun hh => by have := Z2.out; have := G1.out; have := Z3.out; have := Z4.out; have := Z5.out; have := G2.out; have := Z6.out; have := Z7.out; have := Z8.out; have := Z9.out; have := Z10.out; have := Z11.out; have := G3.out; have := Z12.out; obtain ⟨h1, h2⟩ := hh; omega))
  replace K3 := Aside0.mk hkb
  clear hk hkb
  refine (sameM_any Ag10 Aw cg10 cw G _ HF.out Og10.out.C Lg10.out (Kd.C_below CW.out BS.out) LW.out).mono ?_
  rintro e w13 ⟨rfl, hb⟩
  replace Og4 := Aside0.mk (Og4.out.below hb)
  replace Og10 := Aside0.mk (Og10.out.below hb)
  replace K1 := Aside0.mk (blk_below K1.out hb)
  replace K2 := Aside0.mk (blk_below K2.out hb)
  replace K3 := Aside0.mk (blk_below K3.out hb)
  replace BW := Aside0.mk (below_step BW.out hb)
  replace BS := Aside0.mk (below_step BS.out hb)
  have Z13 := Aside0.mk (show w12.heap.size ≤ w13.heap.size from hb.size)
  clear hb
  have hz1 : w13.cell? ⟨g1, 0, none⟩ = some (.slice Aw G.length cw) := (blk_cell K1.out 0).trans rfl
  have hf1 := blk_frozen K1.out 0
  have hz2 : w13.cell? ⟨g2, 0, none⟩ = some (.slice Ag4 G.length cg4) := (blk_cell K2.out 0).trans rfl
  have hf2 := blk_frozen K2.out 0
  have hz3 : w13.cell? ⟨g3, 0, none⟩ = some (.slice Ag10 G.length cg10) := (blk_cell K3.out 0).trans rfl
  have hf3 := blk_frozen K3.out 0
  have hn1_2 : g1 ≠ g2 := (by have := Z2.out; have := G1.out; have := Z3.out; have := Z4.out; have := Z5.out; have := G2.out; have := Z6.out; have := Z7.out; have := Z8.out; have := Z9.out; have := Z10.out; have := Z11.out; have := G3.out; have := Z12.out; have := Z13.out; omega)
  have hn1_3 : g1 ≠ g3 := (by have := Z2.out; have := G1.out; have := Z3.out; have := Z4.out; have := Z5.out; have := G2.out; have := Z6.out; have := Z7.out; have := Z8.out; have := Z9.out; have := Z10.out; have := Z11.out; have := G3.out; have := Z12.out; have := Z13.out; omega)
  have hn2_1 : g2 ≠ g1 := (by have := Z2.out; have := G1.out; have := Z3.out; have := Z4.out; have := Z5.out; have := G2.out; have := Z6.out; have := Z7.out; have := Z8.out; have := Z9.out; have := Z10.out; have := Z11.out; have := G3.out; have := Z12.out; have := Z13.out; omega)
  have hn2_3 : g2 ≠ g3 := (by have := Z2.out; have := G1.out; have := Z3.out; have := Z4.out; have := Z5.out; have := G2.out; have := Z6.out; have := Z7.out; have := Z8.out; have := Z9.out; have := Z10.out; have := Z11.out; have := G3.out; have := Z12.out; have := Z13.out; omega)
  have hn3_1 : g3 ≠ g1 := (by have := Z2.out; have := G1.out; have := Z3.out; have := Z4.out; have := Z5.out; have := G2.out; have := Z6.out; have := Z7.out; have := Z8.out; have := Z9.out; have := Z10.out; have := Z11.out; have := G3.out; have := Z12.out; have := Z13.out; omega)
  have hn3_2 : g3 ≠ g2 := (by have := Z2.out; have := G1.out; have := Z3.out; have := Z4.out; have := Z5.out; have := G2.out; have := Z6.out; have := Z7.out; have := Z8.out; have := Z9.out; have := Z10.out; have := Z11.out; have := G3.out; have := Z12.out; have := Z13.out; omega)
  go_wp2_with (fail)
  clear hz1 hf1 hz2 hf2 hz3 hf3 hn1_2 hn1_3 hn2_1 hn2_3 hn3_1 hn3_2
  refine (heldM_any Ag4 cg4 G 1 _ HG1.out (by omega) HG2.out Og4.out.C Lg4.out).mono ?_
  rintro e w14 ⟨rfl, hb⟩
  replace Og4 := Aside0.mk (Og4.out.below hb)
  replace Og10 := Aside0.mk (Og10.out.below hb)
  replace K1 := Aside0.mk (blk_below K1.out hb)
  replace K2 := Aside0.mk (blk_below K2.out hb)
  replace K3 := Aside0.mk (blk_below K3.out hb)
  replace BW := Aside0.mk (below_step BW.out hb)
  replace BS := Aside0.mk (below_step BS.out hb)
  have Z14 := Aside0.mk (show w13.heap.size ≤ w14.heap.size from hb.size)
  clear hb
  have hz1 : w14.cell? ⟨g1, 0, none⟩ = some (.slice Aw G.length cw) := (blk_cell K1.out 0).trans rfl
  have hf1 := blk_frozen K1.out 0
  have hz2 : w14.cell? ⟨g2, 0, none⟩ = some (.slice Ag4 G.length cg4) := (blk_cell K2.out 0).trans rfl
  have hf2 := blk_frozen K2.out 0
  have hz3 : w14.cell? ⟨g3, 0, none⟩ = some (.slice Ag10 G.length cg10) := (blk_cell K3.out 0).trans rfl
  have hf3 := blk_frozen K3.out 0
  have hn1_2 : g1 ≠ g2 := (by have := Z2.out; have := G1.out; have := Z3.out; have := Z4.out; have := Z5.out; have := G2.out; have := Z6.out; have := Z7.out; have := Z8.out; have := Z9.out; have := Z10.out; have := Z11.out; have := G3.out; have := Z12.out; have := Z13.out; have := Z14.out; omega)
  have hn1_3 : g1 ≠ g3 := (by have := Z2.out; have := G1.out; have := Z3.out; have := Z4.out; have := Z5.out; have := G2.out; have := Z6.out; have := Z7.out; have := Z8.out; have := Z9.out; have := Z10.out; have := Z11.out; have := G3.out; have := Z12.out; have := Z13.out; have := Z14.out; omega)
  have hn2_1 : g2 ≠ g1 := (by have := Z2.out; have := G1.out; have := Z3.out; have := Z4.out; have := Z5.out; have := G2.out; have := Z6.out; have := Z7.out; have := Z8.out; have := Z9.out; have := Z10.out; have := Z11.out; have := G3.out; have := Z12.out; have := Z13.out; have := Z14.out; omega)
  have hn2_3 : g2 ≠ g3 := (by have := Z2.out; have := G1.out; have := Z3.out; have := Z4.out; have := Z5.out; have := G2.out; have := Z6.out; have := Z7.out; have := Z8.out; have := Z9.out; have := Z10.out; have := Z11.out; have := G3.out; have := Z12.out; have := Z13.out; have := Z14.out; omega)
  have hn3_1 : g3 ≠ g1 := (by have := Z2.out; have := G1.out; have := Z3.out; have := Z4.out; have := Z5.out; have := G2.out; have := Z6.out; have := Z7.out; have := Z8.out; have := Z9.out; have := Z10.out; have := Z11.out; have := G3.out; have := Z12.out; have := Z13.out; have := Z14.out; omega)
  have hn3_2 : g3 ≠ g2 := (by have := Z2.out; have := G1.out; have := Z3.out; have := Z4.out; have := Z5.out; have := G2.out; have := Z6.out; have := Z7.out; have := Z8.out; have := Z9.out; have := Z10.out; have := Z11.out; have := G3.out; have := Z12.out; have := Z13.out; have := Z14.out; omega)
  go_wp2
  go_ret
  exact ⟨rfl, BW.out⟩
end Go.Proofs.Ytbchhpplglllmaa.G
