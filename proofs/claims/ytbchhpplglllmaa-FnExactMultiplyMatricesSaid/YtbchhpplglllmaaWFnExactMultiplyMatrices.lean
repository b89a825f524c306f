/- The law FnExactMultiplyMatrices, walked by hand, out of what both programs' functions come to. Written by a program of this session (wip/mkwalk.py). -/
import Derived.Test.YtbchhpplglllmaaGLaw
namespace Go.Proofs.Ytbchhpplglllmaa.G
open Go.RowKit Go.Proofs.Ytbchhpplglllmaa.P Go.Proofs.YtbchhpplglllmaaW.PrintWords Go.Proofs.YtbchhpplglllmaaW.PrintLast Go.Proofs.Ytbchhpplglllmaa.Q
set_option linter.unusedVariables false
set_option linter.unusedSimpArgs false
theorem FnExactMultiplyMatrices_less0 (A0 : Option Addr) (c0 : Nat) (l0 : List (List Int)) (A1 : Option Addr) (c1 : Nat) (l1 : List (List Int)) (w : World) (hr0 : Kd.C (Kd.slice 3 (Kd.int .i64)) w A0 l0.length l0) (hc0 : l0.length ≤ c0) (hr1 : Kd.C (Kd.slice 3 (Kd.int .i64)) w A1 l1.length l1) (hc1 : l1.length ≤ c1) (k0 : Nat) (r0 : Int) (hz0 : laws_szMatrix.f k0 l0 1048576 = some r0) (h : r0 < 0) :
    Calls Try.prog 11 #[.agg #[.slice A0 l0.length c0], .agg #[.slice A1 l1.length c1]] w fun e w' => e = .returned (.bool true) ∧ Below w.heap.size w w' := by
  have e0 : decide (r0 < 0) = true := decide_eq_true h
  have HZ0 := Aside0.mk hz0
  clear h hz0
  have HR0 := Aside0.mk hr0
  have HC0 := Aside0.mk hc0
  have HR1 := Aside0.mk hr1
  have HC1 := Aside0.mk hc1
  clear hr0 hc0 hr1 hc1
  have BW := Aside0.mk (Below.refl w.heap.size w)
  have hu := Try.underlying24
  have hu2 := Try.underlying27
  go_enter Try.func11, Try.ntmps11
  have BZ := Aside0.mk (Nat.le_refl w.heap.size)
  go_wp2_with (first | ((with_reducible refine gate_dst (N := 2) rfl ?_); refine box_event ?hg (N := 2) ?hd (cs := #[.slice A0 l0.length c0]) (t := 24) ?hr ?_; (case hd => rfl); (case hg => rfl); (case hr => first | (go_simp; done) | (go_simp; rfl)); intro g1 hg w1 hbox hb; replace BW := Aside0.mk (below_step BW.out hb); have Z1 := Aside0.mk (show w.heap.size ≤ w1.heap.size from hb.size); have K1 := Aside0.mk hbox; have G1 := Aside0.mk (show g1 = w.heap.size ∧ g1 < w1.heap.size from ⟨hg, blk_lt hbox⟩); clear hb hbox hg; have hz1 : w1.cell? ⟨g1, 0, none⟩ = some (.slice A0 l0.length c0) := (blk_cell K1.out 0).trans rfl; have hf1 := blk_frozen K1.out 0) | ((with_reducible refine gate_dst (N := 3) rfl ?_); refine box_event ?hg (N := 3) ?hd (cs := #[.slice A1 l1.length c1]) (t := 24) ?hr ?_; (case hd => rfl); (case hg => rfl); (case hr => first | (go_simp; done) | (go_simp; rfl)); intro g2 hg w2 hbox hb; clear hz1 hf1; replace K1 := Aside0.mk (blk_below K1.out hb); replace BW := Aside0.mk (below_step BW.out hb); have Z2 := Aside0.mk (show w1.heap.size ≤ w2.heap.size from hb.size); have K2 := Aside0.mk hbox; have G2 := Aside0.mk (show g2 = w1.heap.size ∧ g2 < w2.heap.size from ⟨hg, blk_lt hbox⟩); clear hb hbox hg; have E2_1 := Aside0.mk (show g2 ≠ g1 from (by have := Z1.out; have := G1.out; have := Z2.out; have := G2.out; omega)); have E1_2 := Aside0.mk (Ne.symm E2_1.out); have hz1 : w2.cell? ⟨g1, 0, none⟩ = some (.slice A0 l0.length c0) := (blk_cell K1.out 0).trans rfl; have hf1 := blk_frozen K1.out 0; have hz2 : w2.cell? ⟨g2, 0, none⟩ = some (.slice A1 l1.length c1) := (blk_cell K2.out 0).trans rfl; have hf2 := blk_frozen K2.out 0; have hn1_2 := E1_2.out; have hn2_1 := E2_1.out))
  clear hz1 hf1 hz2 hf2 hn1_2 hn2_1
  refine (laws_szMatrix.calls k0 A0 c0 l0 _ r0 _ (Kd.C_below HR0.out BW.out) HC0.out HZ0.out).mono ?_
  rintro e w3 ⟨rfl, hb⟩
  replace K1 := Aside0.mk (blk_below K1.out hb)
  replace K2 := Aside0.mk (blk_below K2.out hb)
  replace BW := Aside0.mk (below_step BW.out hb)
  have Z3 := Aside0.mk (show w2.heap.size ≤ w3.heap.size from hb.size)
  clear hb
  have hz1 : w3.cell? ⟨g1, 0, none⟩ = some (.slice A0 l0.length c0) := (blk_cell K1.out 0).trans rfl
  have hf1 := blk_frozen K1.out 0
  have hz2 : w3.cell? ⟨g2, 0, none⟩ = some (.slice A1 l1.length c1) := (blk_cell K2.out 0).trans rfl
  have hf2 := blk_frozen K2.out 0
  have hn1_2 := E1_2.out
  have hn2_1 := E2_1.out
  go_wp2
  go_ret
  exact ⟨rfl, BW.out⟩
theorem FnExactMultiplyMatrices_less1 (A0 : Option Addr) (c0 : Nat) (l0 : List (List Int)) (A1 : Option Addr) (c1 : Nat) (l1 : List (List Int)) (w : World) (hr0 : Kd.C (Kd.slice 3 (Kd.int .i64)) w A0 l0.length l0) (hc0 : l0.length ≤ c0) (hr1 : Kd.C (Kd.slice 3 (Kd.int .i64)) w A1 l1.length l1) (hc1 : l1.length ≤ c1) (k0 : Nat) (r0 : Int) (hz0 : laws_szMatrix.f k0 l0 1048576 = some r0) (hp0 : 0 ≤ r0) (k1 : Nat) (r1 : Int) (hz1 : laws_szMatrix.f k1 l1 r0 = some r1) (h : r1 < 0) :
    Calls Try.prog 11 #[.agg #[.slice A0 l0.length c0], .agg #[.slice A1 l1.length c1]] w fun e w' => e = .returned (.bool true) ∧ Below w.heap.size w w' := by
  have e0 : decide (r0 < 0) = false := decide_eq_false (by omega)
  have e1 : decide (r1 < 0) = true := decide_eq_true h
  have HZ0 := Aside0.mk hz0
  have HZ1 := Aside0.mk hz1
  clear h hz0 hz1 hp0
  have HR0 := Aside0.mk hr0
  have HC0 := Aside0.mk hc0
  have HR1 := Aside0.mk hr1
  have HC1 := Aside0.mk hc1
  clear hr0 hc0 hr1 hc1
  have BW := Aside0.mk (Below.refl w.heap.size w)
  have hu := Try.underlying24
  have hu2 := Try.underlying27
  go_enter Try.func11, Try.ntmps11
  have BZ := Aside0.mk (Nat.le_refl w.heap.size)
  go_wp2_with (first | ((with_reducible refine gate_dst (N := 2) rfl ?_); refine box_event ?hg (N := 2) ?hd (cs := #[.slice A0 l0.length c0]) (t := 24) ?hr ?_; (case hd => rfl); (case hg => rfl); (case hr => first | (go_simp; done) | (go_simp; rfl)); intro g1 hg w1 hbox hb; replace BW := Aside0.mk (below_step BW.out hb); have Z1 := Aside0.mk (show w.heap.size ≤ w1.heap.size from hb.size); have K1 := Aside0.mk hbox; have G1 := Aside0.mk (show g1 = w.heap.size ∧ g1 < w1.heap.size from ⟨hg, blk_lt hbox⟩); clear hb hbox hg; have hz1 : w1.cell? ⟨g1, 0, none⟩ = some (.slice A0 l0.length c0) := (blk_cell K1.out 0).trans rfl; have hf1 := blk_frozen K1.out 0) | ((with_reducible refine gate_dst (N := 3) rfl ?_); refine box_event ?hg (N := 3) ?hd (cs := #[.slice A1 l1.length c1]) (t := 24) ?hr ?_; (case hd => rfl); (case hg => rfl); (case hr => first | (go_simp; done) | (go_simp; rfl)); intro g2 hg w2 hbox hb; clear hz1 hf1; replace K1 := Aside0.mk (blk_below K1.out hb); replace BW := Aside0.mk (below_step BW.out hb); have Z2 := Aside0.mk (show w1.heap.size ≤ w2.heap.size from hb.size); have K2 := Aside0.mk hbox; have G2 := Aside0.mk (show g2 = w1.heap.size ∧ g2 < w2.heap.size from ⟨hg, blk_lt hbox⟩); clear hb hbox hg; have E2_1 := Aside0.mk (show g2 ≠ g1 from (by have := Z1.out; have := G1.out; have := Z2.out; have := G2.out; omega)); have E1_2 := Aside0.mk (Ne.symm E2_1.out); have hz1 : w2.cell? ⟨g1, 0, none⟩ = some (.slice A0 l0.length c0) := (blk_cell K1.out 0).trans rfl; have hf1 := blk_frozen K1.out 0; have hz2 : w2.cell? ⟨g2, 0, none⟩ = some (.slice A1 l1.length c1) := (blk_cell K2.out 0).trans rfl; have hf2 := blk_frozen K2.out 0; have hn1_2 := E1_2.out; have hn2_1 := E2_1.out))
  clear hz1 hf1 hz2 hf2 hn1_2 hn2_1
  refine (laws_szMatrix.calls k0 A0 c0 l0 _ r0 _ (Kd.C_below HR0.out BW.out) HC0.out HZ0.out).mono ?_
  rintro e w3 ⟨rfl, hb⟩
  replace K1 := Aside0.mk (blk_below K1.out hb)
  replace K2 := Aside0.mk (blk_below K2.out hb)
  replace BW := Aside0.mk (below_step BW.out hb)
  have Z3 := Aside0.mk (show w2.heap.size ≤ w3.heap.size from hb.size)
  clear hb
  have hz1 : w3.cell? ⟨g1, 0, none⟩ = some (.slice A0 l0.length c0) := (blk_cell K1.out 0).trans rfl
  have hf1 := blk_frozen K1.out 0
  have hz2 : w3.cell? ⟨g2, 0, none⟩ = some (.slice A1 l1.length c1) := (blk_cell K2.out 0).trans rfl
  have hf2 := blk_frozen K2.out 0
  have hn1_2 := E1_2.out
  have hn2_1 := E2_1.out
  go_wp2_with (fail)
  clear hz1 hf1 hz2 hf2 hn1_2 hn2_1
  refine (laws_szMatrix.calls k1 A1 c1 l1 _ r1 _ (Kd.C_below HR1.out BW.out) HC1.out HZ1.out).mono ?_
  rintro e w4 ⟨rfl, hb⟩
  replace K1 := Aside0.mk (blk_below K1.out hb)
  replace K2 := Aside0.mk (blk_below K2.out hb)
  replace BW := Aside0.mk (below_step BW.out hb)
  have Z4 := Aside0.mk (show w3.heap.size ≤ w4.heap.size from hb.size)
  clear hb
  have hz1 : w4.cell? ⟨g1, 0, none⟩ = some (.slice A0 l0.length c0) := (blk_cell K1.out 0).trans rfl
  have hf1 := blk_frozen K1.out 0
  have hz2 : w4.cell? ⟨g2, 0, none⟩ = some (.slice A1 l1.length c1) := (blk_cell K2.out 0).trans rfl
  have hf2 := blk_frozen K2.out 0
  have hn1_2 := E1_2.out
  have hn2_1 := E2_1.out
  go_wp2
  go_ret
  exact ⟨rfl, BW.out⟩
set_option maxHeartbeats 8000000 in
set_option maxRecDepth 100000 in
theorem FnExactMultiplyMatrices_calls (A0 : Option Addr) (c0 : Nat) (l0 : List (List Int)) (A1 : Option Addr) (c1 : Nat) (l1 : List (List Int)) (G : List (List Int)) (b : Bool) (w : World) (hr0 : Kd.C (Kd.slice 3 (Kd.int .i64)) w A0 l0.length l0) (hc0 : l0.length ≤ c0) (hr1 : Kd.C (Kd.slice 3 (Kd.int .i64)) w A1 l1.length l1) (hc1 : l1.length ≤ c1) (f0 : Fits l0) (f1 : Fits l1) (k0 : Nat) (r0 : Int) (hz0 : laws_szMatrix.f k0 l0 1048576 = some r0) (k1 : Nat) (r1 : Int) (hz1 : laws_szMatrix.f k1 l1 r0 = some r1) (hp0 : 0 ≤ r0) (hp1 : 0 ≤ r1)
    (hs : ∀ (W : World) (B0 : Option Addr) (d0 : Nat) (B1 : Option Addr) (d1 : Nat), Kd.C (Kd.slice 3 (Kd.int .i64)) W B0 l0.length l0 → l0.length ≤ d0 → Kd.C (Kd.slice 3 (Kd.int .i64)) W B1 l1.length l1 → l1.length ≤ d1 → Calls Try.prog 37 #[.agg #[.slice B0 l0.length d0], .agg #[.slice B1 l1.length d1]] W fun e w' => ∃ A c, e = .returned (.tuple #[.agg #[.slice A G.length c], .bool b]) ∧ G.length ≤ c ∧ Kd.F (Kd.slice 3 (Kd.int .i64)) w' (fun k => W.heap.size ≤ k) A G.length G ∧ Below W.heap.size W w')
    (hi : ∀ (W : World) (B0 : Option Addr) (d0 : Nat) (B1 : Option Addr) (d1 : Nat), Kd.C (Kd.slice 3 (Kd.int .i64)) W B0 l0.length l0 → l0.length ≤ d0 → Kd.C (Kd.slice 3 (Kd.int .i64)) W B1 l1.length l1 → l1.length ≤ d1 → Calls Try.prog 38 #[.agg #[.slice B0 l0.length d0], .agg #[.slice B1 l1.length d1]] W fun e w' => ∃ v, e = .returned (.tuple #[.agg #[v], .bool b]) ∧ Kd.S (Kd.slice 3 (Kd.int .i64)) 35 w' W.heap.size (fun _ => True) v G ∧ Below W.heap.size W w')
    (hg : G.length ≤ 4611686018427387904 ∧ (1 : Int) + tot G ≤ 4611686018427387904 ∧ Fits G) :
    Calls Try.prog 11 #[.agg #[.slice A0 l0.length c0], .agg #[.slice A1 l1.length c1]] w fun e w' => e = .returned (.bool true) ∧ Below w.heap.size w w' := by
  have ft0 : tot l0 ≤ 1048576 * 1048576 := Nat.le_trans (tot_bound l0 f0.2) (Nat.mul_le_mul_right _ f0.1)
  have fl0 := f0.1
  have ft1 : tot l1 ≤ 1048576 * 1048576 := Nat.le_trans (tot_bound l1 f1.2) (Nat.mul_le_mul_right _ f1.1)
  have fl1 := f1.1
  have e0 : decide (r0 < 0) = false := decide_eq_false (by omega)
  have e1 : decide (r1 < 0) = false := decide_eq_false (by omega)
  have hg1 := hg.1
  have hg2 := hg.2.1
  have HF := Aside0.mk hg.2.2
  have HN0 := Aside0.mk (show l0.length ≤ 4611686018427387904 by omega)
  have HA0 := Aside0.mk (show (0 : Int) ≤ 1 ∧ 1 + ((tot l0 : Nat) : Int) ≤ 4611686018427387904 by omega)
  have HN1 := Aside0.mk (show l1.length ≤ 4611686018427387904 by omega)
  have HA1 := Aside0.mk (show (0 : Int) ≤ 1 + ((tot l0 : Nat) : Int) ∧ 1 + ((tot l0 : Nat) : Int) + ((tot l1 : Nat) : Int) ≤ 4611686018427387904 by omega)
  have ek : decide (1 + ((tot l0 : Nat) : Int) + ((tot l1 : Nat) : Int) < 0) = false := decide_eq_false (by omega)
  have eg : decide (1 + ((tot G : Nat) : Int) < 0) = false := decide_eq_false (by omega)
  have HG1 := Aside0.mk hg1
  have HG2 := Aside0.mk hg2
  have HS := Aside0.mk hs
  have HI := Aside0.mk hi
  have HF0 := Aside0.mk f0
  have HF1 := Aside0.mk f1
  have HZ0 := Aside0.mk hz0
  have HZ1 := Aside0.mk hz1
  clear hs hi hg hg1 hg2 f0 f1 hz0 hz1 ft0 fl0 ft1 fl1 hp0 hp1
  have HR0 := Aside0.mk hr0
  have HC0 := Aside0.mk hc0
  have HR1 := Aside0.mk hr1
  have HC1 := Aside0.mk hc1
  clear hr0 hc0 hr1 hc1
  have BW := Aside0.mk (Below.refl w.heap.size w)
  have hu := Try.underlying24
  have hu2 := Try.underlying27
  go_enter Try.func11, Try.ntmps11
  have BZ := Aside0.mk (Nat.le_refl w.heap.size)
  go_wp2_with (first | ((with_reducible refine gate_dst (N := 2) rfl ?_); refine box_event ?hg (N := 2) ?hd (cs := #[.slice A0 l0.length c0]) (t := 24) ?hr ?_; (case hd => rfl); (case hg => rfl); (case hr => first | (go_simp; done) | (go_simp; rfl)); intro g1 hg w1 hbox hb; replace BW := Aside0.mk (below_step BW.out hb); have Z1 := Aside0.mk (show w.heap.size ≤ w1.heap.size from hb.size); have K1 := Aside0.mk hbox; have G1 := Aside0.mk (show g1 = w.heap.size ∧ g1 < w1.heap.size from ⟨hg, blk_lt hbox⟩); clear hb hbox hg; have hz1 : w1.cell? ⟨g1, 0, none⟩ = some (.slice A0 l0.length c0) := (blk_cell K1.out 0).trans rfl; have hf1 := blk_frozen K1.out 0) | ((with_reducible refine gate_dst (N := 3) rfl ?_); refine box_event ?hg (N := 3) ?hd (cs := #[.slice A1 l1.length c1]) (t := 24) ?hr ?_; (case hd => rfl); (case hg => rfl); (case hr => first | (go_simp; done) | (go_simp; rfl)); intro g2 hg w2 hbox hb; clear hz1 hf1; replace K1 := Aside0.mk (blk_below K1.out hb); replace BW := Aside0.mk (below_step BW.out hb); have Z2 := Aside0.mk (show w1.heap.size ≤ w2.heap.size from hb.size); have K2 := Aside0.mk hbox; have G2 := Aside0.mk (show g2 = w1.heap.size ∧ g2 < w2.heap.size from ⟨hg, blk_lt hbox⟩); clear hb hbox hg; have E2_1 := Aside0.mk (show g2 ≠ g1 from (by have := Z1.out; have := G1.out; have := Z2.out; have := G2.out; omega)); have E1_2 := Aside0.mk (Ne.symm E2_1.out); have hz1 : w2.cell? ⟨g1, 0, none⟩ = some (.slice A0 l0.length c0) := (blk_cell K1.out 0).trans rfl; have hf1 := blk_frozen K1.out 0; have hz2 : w2.cell? ⟨g2, 0, none⟩ = some (.slice A1 l1.length c1) := (blk_cell K2.out 0).trans rfl; have hf2 := blk_frozen K2.out 0; have hn1_2 := E1_2.out; have hn2_1 := E2_1.out))
  clear hz1 hf1 hz2 hf2 hn1_2 hn2_1
  refine (laws_szMatrix.calls k0 A0 c0 l0 _ r0 _ (Kd.C_below HR0.out BW.out) HC0.out HZ0.out).mono ?_
  rintro e w3 ⟨rfl, hb⟩
  replace K1 := Aside0.mk (blk_below K1.out hb)
  replace K2 := Aside0.mk (blk_below K2.out hb)
  replace BW := Aside0.mk (below_step BW.out hb)
  have Z3 := Aside0.mk (show w2.heap.size ≤ w3.heap.size from hb.size)
  clear hb
  have hz1 : w3.cell? ⟨g1, 0, none⟩ = some (.slice A0 l0.length c0) := (blk_cell K1.out 0).trans rfl
  have hf1 := blk_frozen K1.out 0
  have hz2 : w3.cell? ⟨g2, 0, none⟩ = some (.slice A1 l1.length c1) := (blk_cell K2.out 0).trans rfl
  have hf2 := blk_frozen K2.out 0
  have hn1_2 := E1_2.out
  have hn2_1 := E2_1.out
  go_wp2_with (fail)
  clear hz1 hf1 hz2 hf2 hn1_2 hn2_1
  refine (laws_szMatrix.calls k1 A1 c1 l1 _ r1 _ (Kd.C_below HR1.out BW.out) HC1.out HZ1.out).mono ?_
  rintro e w4 ⟨rfl, hb⟩
  replace K1 := Aside0.mk (blk_below K1.out hb)
  replace K2 := Aside0.mk (blk_below K2.out hb)
  replace BW := Aside0.mk (below_step BW.out hb)
  have Z4 := Aside0.mk (show w3.heap.size ≤ w4.heap.size from hb.size)
  clear hb
  have hz1 : w4.cell? ⟨g1, 0, none⟩ = some (.slice A0 l0.length c0) := (blk_cell K1.out 0).trans rfl
  have hf1 := blk_frozen K1.out 0
  have hz2 : w4.cell? ⟨g2, 0, none⟩ = some (.slice A1 l1.length c1) := (blk_cell K2.out 0).trans rfl
  have hf2 := blk_frozen K2.out 0
  have hn1_2 := E1_2.out
  have hn2_1 := E2_1.out
  go_wp2_with (fail)
  clear hz1 hf1 hz2 hf2 hn1_2 hn2_1
  replace K1 := Aside0.mk (blk_drew K1.out)
  replace K2 := Aside0.mk (blk_drew K2.out)
  replace BW := Aside0.mk (below_drew1 BW.out)
  have Z5 := Aside0.mk (show w4.heap.size ≤ w4.drew.heap.size from Nat.le_refl _)
  refine start_ (n := 11) (S := fun w' => w'.cell? ⟨g1, 0, none⟩ = some (.slice A0 l0.length c0) ∧ w'.cell? ⟨g2, 0, none⟩ = some (.slice A1 l1.length c1)) (ds := []) #[false, false, false, false, false, false, false, false, false, false, false] (by kernel_rfl) rfl rfl ⟨(blk_cell K1.out 0).trans rfl, (blk_cell K2.out 0).trans rfl⟩ (fun hHeld => ?_)
  generalize w4.drew = w5 at K1 K2 BW Z5 hHeld ⊢
  refine take_ (i := 0) (N := some 28) (v := ?_) (a' := ?_) #[true, false, false, false, false, false, false, false, false, false, false] rfl rfl (by kernel_rfl) (fun _ _ _ h => h) (Or.inl ⟨by rfl, ?_⟩) hHeld ?_ ?_
  rotate_left
  · rintro w' ⟨s0, s1⟩
    go_simp
    with_reducible rfl
  rotate_left
  · simp only [Act.put, List.setIfInBounds_toArray, List.set_cons_zero, List.set_cons_succ, i64_w, i32_w]
    rfl
  refine take_ (i := 2) (N := some 30) (v := ?_) (a' := ?_) #[true, false, true, false, false, false, false, false, false, false, false] rfl rfl (by kernel_rfl) (fun _ _ _ h => h) (Or.inl ⟨by rfl, ?_⟩) hHeld ?_ ?_
  rotate_left
  · rintro w' ⟨s0, s1⟩
    go_simp
    with_reducible rfl
  rotate_left
  · simp only [Act.put, List.setIfInBounds_toArray, List.set_cons_zero, List.set_cons_succ, i64_w, i32_w]
    rfl
  have HB := Aside0.mk (Below.refl w5.heap.size w5)
  refine join_ (σ := Option Addr × Nat × Option Addr × Nat × Option Addr × Nat × Nat) 2 #[true, true, true, true, true, true, true, true, true, false, false] (fun s => [(29, .agg #[.slice s.1 l0.length s.2.1]), (31, .agg #[.slice s.2.2.1 l1.length s.2.2.2.1]), (32, .tuple #[.agg #[.slice s.2.2.2.2.1 G.length s.2.2.2.2.2.1], .bool b]), (27, .tuple #[.agg #[.slice s.2.2.2.2.1 G.length s.2.2.2.2.2.1], .bool b]), (33, .agg #[.slice s.2.2.2.2.1 G.length s.2.2.2.2.2.1]), (34, .bool b), (6, .pointer (some ⟨s.2.2.2.2.2.2, 0, none⟩))]) (fun s y => Below w5.heap.size w5 y ∧ w5.heap.size ≤ s.2.2.2.2.2.2 ∧ y.heap[s.2.2.2.2.2.2]? = some (.cells #[.slice none 0 0] 27 (0, 0)) ∧ G.length ≤ s.2.2.2.2.2.1 ∧ Kd.F (Kd.slice 3 (Kd.int .i64)) y (fun k => k ≠ s.2.2.2.2.2.2) s.2.2.2.2.1 G.length G) ?_ ?_
  rotate_left
  · intro hJ
    refine two_ (i := 1) (j := 8) (Ni := some 29) (Nj := some 6) #[true, true, true, false, false, false, false, false, false, false, false] #[true, false, true, false, false, false, false, false, true, false, false] rfl rfl rfl rfl (by kernel_rfl) (by decide) (by decide) (fun K hK => ?_) (fun K hK => ?_)
    · skip
      refine goes_ Try.func14 (by kernel_rfl) rfl #[.agg #[.slice A0 l0.length c0]] (by rfl) rfl rfl (by (try simp only [List.map_toArray, List.map_cons, List.map_nil]); first | done | rfl) ?_
      refine (copyM_any A0 c0 l0 _ HF0.out (Kd.C_below HR0.out (below_step BW.out HB.out)) HC0.out).mono ?_
      rintro e y1 ⟨A1_, c1_, rfl, hl, hO, hb⟩
      refine ⟨_, rfl, ?_⟩
      have hC := hO.C
      have C0 := Aside0.mk hC
      have L0 := Aside0.mk hl
      replace K1 := Aside0.mk (blk_below K1.out hb)
      replace K2 := Aside0.mk (blk_below K2.out hb)
      replace HB := Aside0.mk (below_step HB.out hb)
      clear hC hl hb hO
      refine hK.out _ _ ⟨(blk_cell K1.out 0).trans rfl, (blk_cell K2.out 0).trans rfl⟩ (fun hHeld => ?_)
      clear hK K
      refine norm_ (a' := ?_) ?_ ?_
      rotate_left
      · show Act.put _ (some 29) _ = _
        simp only [Act.put, List.setIfInBounds_toArray, List.set_cons_zero, List.set_cons_succ, i64_w, i32_w]
        rfl
      refine two_ (i := 3) (j := 8) (Ni := some 31) (Nj := some 6) #[true, true, true, true, false, false, false, false, false, false, false] #[true, true, true, false, false, false, false, false, true, false, false] rfl rfl rfl rfl (by kernel_rfl) (by decide) (by decide) (fun K hK => ?_) (fun K hK => ?_)
      · skip
        refine goes_ Try.func14 (by kernel_rfl) rfl #[.agg #[.slice A1 l1.length c1]] (by rfl) rfl rfl (by (try simp only [List.map_toArray, List.map_cons, List.map_nil]); first | done | rfl) ?_
        refine (copyM_any A1 c1 l1 _ HF1.out (Kd.C_below HR1.out (below_step BW.out HB.out)) HC1.out).mono ?_
        rintro e y2 ⟨A2_, c2_, rfl, hl, hO, hb⟩
        refine ⟨_, rfl, ?_⟩
        have hC := hO.C
        replace C0 := Aside0.mk (Kd.C_below C0.out hb)
        have C1 := Aside0.mk hC
        have L1 := Aside0.mk hl
        replace K1 := Aside0.mk (blk_below K1.out hb)
        replace K2 := Aside0.mk (blk_below K2.out hb)
        replace HB := Aside0.mk (below_step HB.out hb)
        clear hC hl hb hO
        refine hK.out _ _ ⟨(blk_cell K1.out 0).trans rfl, (blk_cell K2.out 0).trans rfl⟩ (fun hHeld => ?_)
        clear hK K
        refine norm_ (a' := ?_) ?_ ?_
        rotate_left
        · show Act.put _ (some 31) _ = _
          simp only [Act.put, List.setIfInBounds_toArray, List.set_cons_zero, List.set_cons_succ, i64_w, i32_w]
          rfl
        refine two_ (i := 4) (j := 8) (Ni := some 32) (Nj := some 6) #[true, true, true, true, true, false, false, false, false, false, false] #[true, true, true, true, false, false, false, false, true, false, false] rfl rfl rfl rfl (by kernel_rfl) (by decide) (by decide) (fun K hK => ?_) (fun K hK => ?_)
        · skip
          refine goes_ Try.func37 (by kernel_rfl) rfl #[.agg #[.slice A1_ l0.length c1_], .agg #[.slice A2_ l1.length c2_]] (by rfl) rfl rfl (by (try simp only [List.map_toArray, List.map_cons, List.map_nil]); first | done | rfl) ?_
          refine (HS.out _ A1_ c1_ A2_ c2_ C0.out L0.out C1.out L1.out).mono ?_
          rintro e y3 ⟨A3_, c3_, rfl, hl, hC, hb⟩
          refine ⟨_, rfl, ?_⟩
          replace C0 := Aside0.mk (Kd.C_below C0.out hb)
          replace C1 := Aside0.mk (Kd.C_below C1.out hb)
          have C2 := Aside0.mk hC
          have L2 := Aside0.mk hl
          replace K1 := Aside0.mk (blk_below K1.out hb)
          replace K2 := Aside0.mk (blk_below K2.out hb)
          replace HB := Aside0.mk (below_step HB.out hb)
          clear hC hl hb
          refine hK.out _ _ ⟨(blk_cell K1.out 0).trans rfl, (blk_cell K2.out 0).trans rfl⟩ (fun hHeld => ?_)
          clear hK K
          refine norm_ (a' := ?_) ?_ ?_
          rotate_left
          · show Act.put _ (some 32) _ = _
            simp only [Act.put, List.setIfInBounds_toArray, List.set_cons_zero, List.set_cons_succ, i64_w, i32_w]
            rfl
          refine pure_ (i := 5) (N := some 27) (v := ?_) (a' := ?_) #[true, true, true, true, true, true, false, false, false, false, false] rfl rfl (by kernel_rfl) (fun _ _ _ h => h) (Or.inl ⟨by rfl, ?_⟩) ?_ ?_
          rotate_left
          · intro w'
            go_simp
            with_reducible rfl
          rotate_left
          · simp only [Act.put, List.setIfInBounds_toArray, List.set_cons_zero, List.set_cons_succ, i64_w, i32_w]
            rfl
          refine pure_ (i := 6) (N := some 33) (v := ?_) (a' := ?_) #[true, true, true, true, true, true, true, false, false, false, false] rfl rfl (by kernel_rfl) (fun _ _ _ h => h) (Or.inl ⟨by rfl, ?_⟩) ?_ ?_
          rotate_left
          · intro w'
            go_simp
            with_reducible rfl
          rotate_left
          · simp only [Act.put, List.setIfInBounds_toArray, List.set_cons_zero, List.set_cons_succ, i64_w, i32_w]
            rfl
          refine pure_ (i := 7) (N := some 34) (v := ?_) (a' := ?_) #[true, true, true, true, true, true, true, true, false, false, false] rfl rfl (by kernel_rfl) (fun _ _ _ h => h) (Or.inl ⟨by rfl, ?_⟩) ?_ ?_
          rotate_left
          · intro w'
            go_simp
            with_reducible rfl
          rotate_left
          · simp only [Act.put, List.setIfInBounds_toArray, List.set_cons_zero, List.set_cons_succ, i64_w, i32_w]
            rfl
          refine one_ (i := 8) (N := some 6) #[true, true, true, true, true, true, true, true, true, false, false] rfl rfl (by kernel_rfl) (by decide) (fun K hK => ?_)
          refine box_step (by rfl) (N := 6) rfl (cs := #[.slice none 0 0]) (t := 27) ?hr ?_
          case hr => first | (go_simp; done) | (go_simp; rfl)
          intro gN hg y4 hbox hb
          have GN := Aside0.mk (show w5.heap.size ≤ gN from (by have := HB.out.size; omega))
          replace C0 := Aside0.mk (Kd.C_below C0.out hb)
          replace C1 := Aside0.mk (Kd.C_below C1.out hb)
          replace C2 := Aside0.mk (Kd.F_below (Kd.F_mono (ok' := fun k => k ≠ gN) (Kd.F_bound C2.out) (fun k hk => by have h1 := hk.2; omega)) hb)
          have KN := Aside0.mk hbox
          replace K1 := Aside0.mk (blk_below K1.out hb)
          replace K2 := Aside0.mk (blk_below K2.out hb)
          replace HB := Aside0.mk (below_step HB.out hb)
          clear hbox hb hg
          refine hK.out _ _ ⟨(blk_cell K1.out 0).trans rfl, (blk_cell K2.out 0).trans rfl⟩ (fun hHeld => ?_)
          clear hK K
          refine norm_ (a' := ?_) ?_ ?_
          rotate_left
          · show Act.put _ (some 6) _ = _
            simp only [Act.put, List.setIfInBounds_toArray, List.set_cons_zero, List.set_cons_succ, i64_w, i32_w]
            rfl
          refine norm_ ?_ (hJ (A1_, c1_, A2_, c2_, A3_, c3_, gN) y4 ⟨HB.out, GN.out, KN.out, L2.out, C2.out⟩)
          first | rfl | (simp only [putAll, Act.put, List.setIfInBounds_toArray, List.set_cons_zero, List.set_cons_succ]; done) | (simp only [putAll, Act.put, List.setIfInBounds_toArray, List.set_cons_zero, List.set_cons_succ]; rfl)
        · skip
          refine box_step (by rfl) (N := 6) rfl (cs := #[.slice none 0 0]) (t := 27) ?hr ?_
          case hr => first | (go_simp; done) | (go_simp; rfl)
          intro gN hg y5 hbox hb
          have GN := Aside0.mk (show w5.heap.size ≤ gN from (by have := HB.out.size; omega))
          replace C0 := Aside0.mk (Kd.C_below C0.out hb)
          replace C1 := Aside0.mk (Kd.C_below C1.out hb)
          have KN := Aside0.mk hbox
          replace K1 := Aside0.mk (blk_below K1.out hb)
          replace K2 := Aside0.mk (blk_below K2.out hb)
          replace HB := Aside0.mk (below_step HB.out hb)
          clear hbox hb hg
          refine hK.out _ _ ⟨(blk_cell K1.out 0).trans rfl, (blk_cell K2.out 0).trans rfl⟩ (fun hHeld => ?_)
          clear hK K
          refine norm_ (a' := ?_) ?_ ?_
          rotate_left
          · show Act.put _ (some 6) _ = _
            simp only [Act.put, List.setIfInBounds_toArray, List.set_cons_zero, List.set_cons_succ, i64_w, i32_w]
            rfl
          refine one_ (i := 4) (N := some 32) #[true, true, true, true, true, false, false, false, true, false, false] rfl rfl (by kernel_rfl) (by decide) (fun K hK => ?_)
          refine goes_ Try.func37 (by kernel_rfl) rfl #[.agg #[.slice A1_ l0.length c1_], .agg #[.slice A2_ l1.length c2_]] (by rfl) rfl rfl (by (try simp only [List.map_toArray, List.map_cons, List.map_nil]); first | done | rfl) ?_
          refine (HS.out _ A1_ c1_ A2_ c2_ C0.out L0.out C1.out L1.out).mono ?_
          rintro e y6 ⟨A6_, c6_, rfl, hl, hC, hb⟩
          refine ⟨_, rfl, ?_⟩
          replace C0 := Aside0.mk (Kd.C_below C0.out hb)
          replace C1 := Aside0.mk (Kd.C_below C1.out hb)
          replace hC := Kd.F_mono (ok' := fun k => k ≠ gN) hC (fun k hk => by have h1 := blk_lt KN.out; omega)
          have C2 := Aside0.mk hC
          have L2 := Aside0.mk hl
          replace KN := Aside0.mk (blk_below KN.out hb)
          replace K1 := Aside0.mk (blk_below K1.out hb)
          replace K2 := Aside0.mk (blk_below K2.out hb)
          replace HB := Aside0.mk (below_step HB.out hb)
          clear hC hl hb
          refine hK.out _ _ ⟨(blk_cell K1.out 0).trans rfl, (blk_cell K2.out 0).trans rfl⟩ (fun hHeld => ?_)
          clear hK K
          refine norm_ (a' := ?_) ?_ ?_
          rotate_left
          · show Act.put _ (some 32) _ = _
            simp only [Act.put, List.setIfInBounds_toArray, List.set_cons_zero, List.set_cons_succ, i64_w, i32_w]
            rfl
          refine pure_ (i := 5) (N := some 27) (v := ?_) (a' := ?_) #[true, true, true, true, true, true, false, false, true, false, false] rfl rfl (by kernel_rfl) (fun _ _ _ h => h) (Or.inl ⟨by rfl, ?_⟩) ?_ ?_
          rotate_left
          · intro w'
            go_simp
            with_reducible rfl
          rotate_left
          · simp only [Act.put, List.setIfInBounds_toArray, List.set_cons_zero, List.set_cons_succ, i64_w, i32_w]
            rfl
          refine pure_ (i := 6) (N := some 33) (v := ?_) (a' := ?_) #[true, true, true, true, true, true, true, false, true, false, false] rfl rfl (by kernel_rfl) (fun _ _ _ h => h) (Or.inl ⟨by rfl, ?_⟩) ?_ ?_
          rotate_left
          · intro w'
            go_simp
            with_reducible rfl
          rotate_left
          · simp only [Act.put, List.setIfInBounds_toArray, List.set_cons_zero, List.set_cons_succ, i64_w, i32_w]
            rfl
          refine pure_ (i := 7) (N := some 34) (v := ?_) (a' := ?_) #[true, true, true, true, true, true, true, true, true, false, false] rfl rfl (by kernel_rfl) (fun _ _ _ h => h) (Or.inl ⟨by rfl, ?_⟩) ?_ ?_
          rotate_left
          · intro w'
            go_simp
            with_reducible rfl
          rotate_left
          · simp only [Act.put, List.setIfInBounds_toArray, List.set_cons_zero, List.set_cons_succ, i64_w, i32_w]
            rfl
          refine norm_ ?_ (hJ (A1_, c1_, A2_, c2_, A6_, c6_, gN) y6 ⟨HB.out, GN.out, KN.out, L2.out, C2.out⟩)
          first | rfl | (simp only [putAll, Act.put, List.setIfInBounds_toArray, List.set_cons_zero, List.set_cons_succ]; done) | (simp only [putAll, Act.put, List.setIfInBounds_toArray, List.set_cons_zero, List.set_cons_succ]; rfl)
      · skip
        refine box_step (by rfl) (N := 6) rfl (cs := #[.slice none 0 0]) (t := 27) ?hr ?_
        case hr => first | (go_simp; done) | (go_simp; rfl)
        intro gN hg y7 hbox hb
        have GN := Aside0.mk (show w5.heap.size ≤ gN from (by have := HB.out.size; omega))
        replace C0 := Aside0.mk (Kd.C_below C0.out hb)
        have KN := Aside0.mk hbox
        replace K1 := Aside0.mk (blk_below K1.out hb)
        replace K2 := Aside0.mk (blk_below K2.out hb)
        replace HB := Aside0.mk (below_step HB.out hb)
        clear hbox hb hg
        refine hK.out _ _ ⟨(blk_cell K1.out 0).trans rfl, (blk_cell K2.out 0).trans rfl⟩ (fun hHeld => ?_)
        clear hK K
        refine norm_ (a' := ?_) ?_ ?_
        rotate_left
        · show Act.put _ (some 6) _ = _
          simp only [Act.put, List.setIfInBounds_toArray, List.set_cons_zero, List.set_cons_succ, i64_w, i32_w]
          rfl
        refine one_ (i := 3) (N := some 31) #[true, true, true, true, false, false, false, false, true, false, false] rfl rfl (by kernel_rfl) (by decide) (fun K hK => ?_)
        refine goes_ Try.func14 (by kernel_rfl) rfl #[.agg #[.slice A1 l1.length c1]] (by rfl) rfl rfl (by (try simp only [List.map_toArray, List.map_cons, List.map_nil]); first | done | rfl) ?_
        refine (copyM_any A1 c1 l1 _ HF1.out (Kd.C_below HR1.out (below_step BW.out HB.out)) HC1.out).mono ?_
        rintro e y8 ⟨A8_, c8_, rfl, hl, hO, hb⟩
        refine ⟨_, rfl, ?_⟩
        have hC := hO.C
        replace C0 := Aside0.mk (Kd.C_below C0.out hb)
        have C1 := Aside0.mk hC
        have L1 := Aside0.mk hl
        replace KN := Aside0.mk (blk_below KN.out hb)
        replace K1 := Aside0.mk (blk_below K1.out hb)
        replace K2 := Aside0.mk (blk_below K2.out hb)
        replace HB := Aside0.mk (below_step HB.out hb)
        clear hC hl hb hO
        refine hK.out _ _ ⟨(blk_cell K1.out 0).trans rfl, (blk_cell K2.out 0).trans rfl⟩ (fun hHeld => ?_)
        clear hK K
        refine norm_ (a' := ?_) ?_ ?_
        rotate_left
        · show Act.put _ (some 31) _ = _
          simp only [Act.put, List.setIfInBounds_toArray, List.set_cons_zero, List.set_cons_succ, i64_w, i32_w]
          rfl
        refine one_ (i := 4) (N := some 32) #[true, true, true, true, true, false, false, false, true, false, false] rfl rfl (by kernel_rfl) (by decide) (fun K hK => ?_)
        refine goes_ Try.func37 (by kernel_rfl) rfl #[.agg #[.slice A1_ l0.length c1_], .agg #[.slice A8_ l1.length c8_]] (by rfl) rfl rfl (by (try simp only [List.map_toArray, List.map_cons, List.map_nil]); first | done | rfl) ?_
        refine (HS.out _ A1_ c1_ A8_ c8_ C0.out L0.out C1.out L1.out).mono ?_
        rintro e y9 ⟨A9_, c9_, rfl, hl, hC, hb⟩
        refine ⟨_, rfl, ?_⟩
        replace C0 := Aside0.mk (Kd.C_below C0.out hb)
        replace C1 := Aside0.mk (Kd.C_below C1.out hb)
        replace hC := Kd.F_mono (ok' := fun k => k ≠ gN) hC (fun k hk => by have h1 := blk_lt KN.out; omega)
        have C2 := Aside0.mk hC
        have L2 := Aside0.mk hl
        replace KN := Aside0.mk (blk_below KN.out hb)
        replace K1 := Aside0.mk (blk_below K1.out hb)
        replace K2 := Aside0.mk (blk_below K2.out hb)
        replace HB := Aside0.mk (below_step HB.out hb)
        clear hC hl hb
        refine hK.out _ _ ⟨(blk_cell K1.out 0).trans rfl, (blk_cell K2.out 0).trans rfl⟩ (fun hHeld => ?_)
        clear hK K
        refine norm_ (a' := ?_) ?_ ?_
        rotate_left
        · show Act.put _ (some 32) _ = _
          simp only [Act.put, List.setIfInBounds_toArray, List.set_cons_zero, List.set_cons_succ, i64_w, i32_w]
          rfl
        refine pure_ (i := 5) (N := some 27) (v := ?_) (a' := ?_) #[true, true, true, true, true, true, false, false, true, false, false] rfl rfl (by kernel_rfl) (fun _ _ _ h => h) (Or.inl ⟨by rfl, ?_⟩) ?_ ?_
        rotate_left
        · intro w'
          go_simp
          with_reducible rfl
        rotate_left
        · simp only [Act.put, List.setIfInBounds_toArray, List.set_cons_zero, List.set_cons_succ, i64_w, i32_w]
          rfl
        refine pure_ (i := 6) (N := some 33) (v := ?_) (a' := ?_) #[true, true, true, true, true, true, true, false, true, false, false] rfl rfl (by kernel_rfl) (fun _ _ _ h => h) (Or.inl ⟨by rfl, ?_⟩) ?_ ?_
        rotate_left
        · intro w'
          go_simp
          with_reducible rfl
        rotate_left
        · simp only [Act.put, List.setIfInBounds_toArray, List.set_cons_zero, List.set_cons_succ, i64_w, i32_w]
          rfl
        refine pure_ (i := 7) (N := some 34) (v := ?_) (a' := ?_) #[true, true, true, true, true, true, true, true, true, false, false] rfl rfl (by kernel_rfl) (fun _ _ _ h => h) (Or.inl ⟨by rfl, ?_⟩) ?_ ?_
        rotate_left
        · intro w'
          go_simp
          with_reducible rfl
        rotate_left
        · simp only [Act.put, List.setIfInBounds_toArray, List.set_cons_zero, List.set_cons_succ, i64_w, i32_w]
          rfl
        refine norm_ ?_ (hJ (A1_, c1_, A8_, c8_, A9_, c9_, gN) y9 ⟨HB.out, GN.out, KN.out, L2.out, C2.out⟩)
        first | rfl | (simp only [putAll, Act.put, List.setIfInBounds_toArray, List.set_cons_zero, List.set_cons_succ]; done) | (simp only [putAll, Act.put, List.setIfInBounds_toArray, List.set_cons_zero, List.set_cons_succ]; rfl)
    · skip
      refine box_step (by rfl) (N := 6) rfl (cs := #[.slice none 0 0]) (t := 27) ?hr ?_
      case hr => first | (go_simp; done) | (go_simp; rfl)
      intro gN hg y10 hbox hb
      have GN := Aside0.mk (show w5.heap.size ≤ gN from (by have := HB.out.size; omega))
      have KN := Aside0.mk hbox
      replace K1 := Aside0.mk (blk_below K1.out hb)
      replace K2 := Aside0.mk (blk_below K2.out hb)
      replace HB := Aside0.mk (below_step HB.out hb)
      clear hbox hb hg
      refine hK.out _ _ ⟨(blk_cell K1.out 0).trans rfl, (blk_cell K2.out 0).trans rfl⟩ (fun hHeld => ?_)
      clear hK K
      refine norm_ (a' := ?_) ?_ ?_
      rotate_left
      · show Act.put _ (some 6) _ = _
        simp only [Act.put, List.setIfInBounds_toArray, List.set_cons_zero, List.set_cons_succ, i64_w, i32_w]
        rfl
      refine one_ (i := 1) (N := some 29) #[true, true, true, false, false, false, false, false, true, false, false] rfl rfl (by kernel_rfl) (by decide) (fun K hK => ?_)
      refine goes_ Try.func14 (by kernel_rfl) rfl #[.agg #[.slice A0 l0.length c0]] (by rfl) rfl rfl (by (try simp only [List.map_toArray, List.map_cons, List.map_nil]); first | done | rfl) ?_
      refine (copyM_any A0 c0 l0 _ HF0.out (Kd.C_below HR0.out (below_step BW.out HB.out)) HC0.out).mono ?_
      rintro e y11 ⟨A11_, c11_, rfl, hl, hO, hb⟩
      refine ⟨_, rfl, ?_⟩
      have hC := hO.C
      have C0 := Aside0.mk hC
      have L0 := Aside0.mk hl
      replace KN := Aside0.mk (blk_below KN.out hb)
      replace K1 := Aside0.mk (blk_below K1.out hb)
      replace K2 := Aside0.mk (blk_below K2.out hb)
      replace HB := Aside0.mk (below_step HB.out hb)
      clear hC hl hb hO
      refine hK.out _ _ ⟨(blk_cell K1.out 0).trans rfl, (blk_cell K2.out 0).trans rfl⟩ (fun hHeld => ?_)
      clear hK K
      refine norm_ (a' := ?_) ?_ ?_
      rotate_left
      · show Act.put _ (some 29) _ = _
        simp only [Act.put, List.setIfInBounds_toArray, List.set_cons_zero, List.set_cons_succ, i64_w, i32_w]
        rfl
      refine one_ (i := 3) (N := some 31) #[true, true, true, true, false, false, false, false, true, false, false] rfl rfl (by kernel_rfl) (by decide) (fun K hK => ?_)
      refine goes_ Try.func14 (by kernel_rfl) rfl #[.agg #[.slice A1 l1.length c1]] (by rfl) rfl rfl (by (try simp only [List.map_toArray, List.map_cons, List.map_nil]); first | done | rfl) ?_
      refine (copyM_any A1 c1 l1 _ HF1.out (Kd.C_below HR1.out (below_step BW.out HB.out)) HC1.out).mono ?_
      rintro e y12 ⟨A12_, c12_, rfl, hl, hO, hb⟩
      refine ⟨_, rfl, ?_⟩
      have hC := hO.C
      replace C0 := Aside0.mk (Kd.C_below C0.out hb)
      have C1 := Aside0.mk hC
      have L1 := Aside0.mk hl
      replace KN := Aside0.mk (blk_below KN.out hb)
      replace K1 := Aside0.mk (blk_below K1.out hb)
      replace K2 := Aside0.mk (blk_below K2.out hb)
      replace HB := Aside0.mk (below_step HB.out hb)
      clear hC hl hb hO
      refine hK.out _ _ ⟨(blk_cell K1.out 0).trans rfl, (blk_cell K2.out 0).trans rfl⟩ (fun hHeld => ?_)
      clear hK K
      refine norm_ (a' := ?_) ?_ ?_
      rotate_left
      · show Act.put _ (some 31) _ = _
        simp only [Act.put, List.setIfInBounds_toArray, List.set_cons_zero, List.set_cons_succ, i64_w, i32_w]
        rfl
      refine one_ (i := 4) (N := some 32) #[true, true, true, true, true, false, false, false, true, false, false] rfl rfl (by kernel_rfl) (by decide) (fun K hK => ?_)
      refine goes_ Try.func37 (by kernel_rfl) rfl #[.agg #[.slice A11_ l0.length c11_], .agg #[.slice A12_ l1.length c12_]] (by rfl) rfl rfl (by (try simp only [List.map_toArray, List.map_cons, List.map_nil]); first | done | rfl) ?_
      refine (HS.out _ A11_ c11_ A12_ c12_ C0.out L0.out C1.out L1.out).mono ?_
      rintro e y13 ⟨A13_, c13_, rfl, hl, hC, hb⟩
      refine ⟨_, rfl, ?_⟩
      replace C0 := Aside0.mk (Kd.C_below C0.out hb)
      replace C1 := Aside0.mk (Kd.C_below C1.out hb)
      replace hC := Kd.F_mono (ok' := fun k => k ≠ gN) hC (fun k hk => by have h1 := blk_lt KN.out; omega)
      have C2 := Aside0.mk hC
      have L2 := Aside0.mk hl
      replace KN := Aside0.mk (blk_below KN.out hb)
      replace K1 := Aside0.mk (blk_below K1.out hb)
      replace K2 := Aside0.mk (blk_below K2.out hb)
      replace HB := Aside0.mk (below_step HB.out hb)
      clear hC hl hb
      refine hK.out _ _ ⟨(blk_cell K1.out 0).trans rfl, (blk_cell K2.out 0).trans rfl⟩ (fun hHeld => ?_)
      clear hK K
      refine norm_ (a' := ?_) ?_ ?_
      rotate_left
      · show Act.put _ (some 32) _ = _
        simp only [Act.put, List.setIfInBounds_toArray, List.set_cons_zero, List.set_cons_succ, i64_w, i32_w]
        rfl
      refine pure_ (i := 5) (N := some 27) (v := ?_) (a' := ?_) #[true, true, true, true, true, true, false, false, true, false, false] rfl rfl (by kernel_rfl) (fun _ _ _ h => h) (Or.inl ⟨by rfl, ?_⟩) ?_ ?_
      rotate_left
      · intro w'
        go_simp
        with_reducible rfl
      rotate_left
      · simp only [Act.put, List.setIfInBounds_toArray, List.set_cons_zero, List.set_cons_succ, i64_w, i32_w]
        rfl
      refine pure_ (i := 6) (N := some 33) (v := ?_) (a' := ?_) #[true, true, true, true, true, true, true, false, true, false, false] rfl rfl (by kernel_rfl) (fun _ _ _ h => h) (Or.inl ⟨by rfl, ?_⟩) ?_ ?_
      rotate_left
      · intro w'
        go_simp
        with_reducible rfl
      rotate_left
      · simp only [Act.put, List.setIfInBounds_toArray, List.set_cons_zero, List.set_cons_succ, i64_w, i32_w]
        rfl
      refine pure_ (i := 7) (N := some 34) (v := ?_) (a' := ?_) #[true, true, true, true, true, true, true, true, true, false, false] rfl rfl (by kernel_rfl) (fun _ _ _ h => h) (Or.inl ⟨by rfl, ?_⟩) ?_ ?_
      rotate_left
      · intro w'
        go_simp
        with_reducible rfl
      rotate_left
      · simp only [Act.put, List.setIfInBounds_toArray, List.set_cons_zero, List.set_cons_succ, i64_w, i32_w]
        rfl
      refine norm_ ?_ (hJ (A11_, c11_, A12_, c12_, A13_, c13_, gN) y13 ⟨HB.out, GN.out, KN.out, L2.out, C2.out⟩)
      first | rfl | (simp only [putAll, Act.put, List.setIfInBounds_toArray, List.set_cons_zero, List.set_cons_succ]; done) | (simp only [putAll, Act.put, List.setIfInBounds_toArray, List.set_cons_zero, List.set_cons_succ]; rfl)
  clear HB
  rintro ⟨Aj0, cj1, Aj2, cj3, Aw, cw, g3⟩ w6 ⟨hb, hg, hbox, hl, hC⟩
  replace hg : w5.heap.size ≤ g3 := hg
  replace hbox : w6.heap[g3]? = some (.cells #[.slice none 0 0] 27 (0, 0)) := hbox
  replace hl : G.length ≤ cw := hl
  replace hC : Kd.F (Kd.slice 3 (Kd.int .i64)) w6 (fun k => k ≠ g3) Aw G.length G := hC
  refine norm_ (a' := ?_) ?_ ?_
  rotate_left
  · simp only [putAll, Act.put, List.setIfInBounds_toArray, List.set_cons_zero, List.set_cons_succ]
    rfl
  replace K1 := Aside0.mk (blk_below K1.out hb)
  replace K2 := Aside0.mk (blk_below K2.out hb)
  replace BW := Aside0.mk (below_step BW.out hb)
  have Z6 := Aside0.mk (show w5.heap.size ≤ w6.heap.size from hb.size)
  have K3 := Aside0.mk hbox
  have G3 := Aside0.mk (show w5.heap.size ≤ g3 ∧ g3 < w6.heap.size from ⟨hg, blk_lt hbox⟩)
  have E3_1 := Aside0.mk (show g3 ≠ g1 from (by have := Z1.out; have := G1.out; have := Z2.out; have := G2.out; have := Z3.out; have := Z4.out; have := Z5.out; have := Z6.out; have := G3.out; omega))
  have E1_3 := Aside0.mk (Ne.symm E3_1.out)
  have E3_2 := Aside0.mk (show g3 ≠ g2 from (by have := Z1.out; have := G1.out; have := Z2.out; have := G2.out; have := Z3.out; have := Z4.out; have := Z5.out; have := Z6.out; have := G3.out; omega))
  have E2_3 := Aside0.mk (Ne.symm E3_2.out)
  have CF := Aside0.mk hC
  have LW := Aside0.mk hl
  clear hb hg hbox hl hC
  have hz1 : w6.cell? ⟨g1, 0, none⟩ = some (.slice A0 l0.length c0) := (blk_cell K1.out 0).trans rfl
  have hf1 := blk_frozen K1.out 0
  have hz2 : w6.cell? ⟨g2, 0, none⟩ = some (.slice A1 l1.length c1) := (blk_cell K2.out 0).trans rfl
  have hf2 := blk_frozen K2.out 0
  have hz3 : w6.cell? ⟨g3, 0, none⟩ = some (.slice none 0 0) := (blk_cell K3.out 0).trans rfl
  have hf3 := blk_frozen K3.out 0
  have hn1_2 := E1_2.out
  have hn1_3 := E1_3.out
  have hn2_1 := E2_1.out
  have hn2_3 := E2_3.out
  have hn3_1 := E3_1.out
  have hn3_2 := E3_2.out
  refine one_ (i := 9) (N := none) #[true, true, true, true, true, true, true, true, true, true, false] rfl rfl (by kernel_rfl) (by decide) (fun K hK => ?_)
  refine skip_ (w1 := ?_) (by rfl) rfl ?_ ?_
  rotate_left
  · go_simp
    rfl
  clear hz1 hf1 hz2 hf2 hz3 hf3 hn1_2 hn1_3 hn2_1 hn2_3 hn3_1 hn3_2
  obtain ⟨w7, hw⟩ : ∃ x, x = w6.setCell ⟨g3, 0, none⟩ (.slice Aw G.length cw) := ⟨_, rfl⟩
  rw [← hw]
  have hk : Kept w6 w7 (fun k => g3 ≤ k ∧ k < g3 + 1) := by
    rw [hw]
    exact Kept.setCell (Kept.refl _ _) (.inl ⟨Nat.le_refl _, Nat.lt_succ_self _⟩) _
  have hkb : w7.heap[g3]? = some (.cells #[.slice Aw G.length cw] 27 (0, 0)) := by
    rw [hw]
    simpa using blk_set K3.out 0 (.slice Aw G.length cw)
  replace BW := Aside0.mk (show Below w.heap.size w w7 by
    rw [hw]
    exact below_set BW.out (by have := BZ.out; have := Z1.out; have := G1.out; have := Z2.out; have := G2.out; have := Z3.out; have := Z4.out; have := Z5.out; have := Z6.out; have := G3.out; omega))
  have Z7 := Aside0.mk (show w6.heap.size ≤ w7.heap.size from hk.1)
  clear hw
  replace K1 := Aside0.mk (blk_kept K1.out hk (fun hh => by have := Z1.out; have := G1.out; have := Z2.out; have := G2.out; have := Z3.out; have := Z4.out; have := Z5.out; have := Z6.out; have := G3.out; have := Z7.out; obtain ⟨h1, h2⟩ := hh; omega))
  replace K2 := Aside0.mk (blk_kept K2.out hk (fun hh => by have := Z1.out; have := G1.out; have := Z2.out; have := G2.out; have := Z3.out; have := Z4.out; have := Z5.out; have := Z6.out; have := G3.out; have := Z7.out; obtain ⟨h1, h2⟩ := hh; omega))
  replace CF := Aside0.mk (Kd.F_kept CF.out hk (fun k h1 h2 => h1 (by omega)))
  replace K3 := Aside0.mk hkb
  clear hk hkb
  have CW := Aside0.mk (Kd.F_now CF.out)
  have B0 := Aside0.mk BW.out
  have BS := Aside0.mk (Below.refl w7.heap.size w7)
  clear HS CF
  have G1_ := Aside0.mk (show g1 < w7.heap.size from blk_lt K1.out)
  have G2_ := Aside0.mk (show g2 < w7.heap.size from blk_lt K2.out)
  have G3_ := Aside0.mk (show g3 < w7.heap.size from blk_lt K3.out)
  have N1_2 := Aside0.mk (show g1 < g2 by have := Z1.out; have := G1.out; have := Z2.out; have := G2.out; have := Z3.out; have := Z4.out; have := Z5.out; have := Z6.out; have := G3.out; have := Z7.out; omega)
  have N1_3 := Aside0.mk (show g1 < g3 by have := Z1.out; have := G1.out; have := Z2.out; have := G2.out; have := Z3.out; have := Z4.out; have := Z5.out; have := Z6.out; have := G3.out; have := Z7.out; omega)
  have N2_3 := Aside0.mk (show g2 < g3 by have := Z1.out; have := G1.out; have := Z2.out; have := G2.out; have := Z3.out; have := Z4.out; have := Z5.out; have := Z6.out; have := G3.out; have := Z7.out; omega)
  replace BZ := Aside0.mk BW.out.size
  refine hK.out _ _ ⟨(blk_cell K1.out 0).trans rfl, (blk_cell K2.out 0).trans rfl⟩ (fun hHeld => ?_)
  clear hK K
  refine pure_ (i := 10) (N := some 7) (v := ?_) (a' := ?_) #[true, true, true, true, true, true, true, true, true, true, true] rfl rfl (by kernel_rfl) (fun _ _ _ h => h) (Or.inl ⟨by rfl, ?_⟩) ?_ ?_
  rotate_left
  · intro w'
    go_simp
    with_reducible rfl
  rotate_left
  · simp only [Act.put, List.setIfInBounds_toArray, List.set_cons_zero, List.set_cons_succ, i64_w, i32_w]
    rfl
  refine done_ (by kernel_rfl) ?_
  have hz1 : w7.cell? ⟨g1, 0, none⟩ = some (.slice A0 l0.length c0) := (blk_cell K1.out 0).trans rfl
  have hf1 := blk_frozen K1.out 0
  have hz2 : w7.cell? ⟨g2, 0, none⟩ = some (.slice A1 l1.length c1) := (blk_cell K2.out 0).trans rfl
  have hf2 := blk_frozen K2.out 0
  have hz3 : w7.cell? ⟨g3, 0, none⟩ = some (.slice Aw G.length cw) := (blk_cell K3.out 0).trans rfl
  have hf3 := blk_frozen K3.out 0
  have hn1_2 := E1_2.out
  have hn1_3 := E1_3.out
  have hn2_1 := E2_1.out
  have hn2_3 := E2_3.out
  have hn3_1 := E3_1.out
  have hn3_2 := E3_2.out
  go_wp2_with (fail)
  clear hz1 hf1 hz2 hf2 hz3 hf3 hn1_2 hn1_3 hn2_1 hn2_3 hn3_1 hn3_2
  refine (copyM_any A0 c0 l0 _ HF0.out (Kd.C_below HR0.out BW.out) HC0.out).mono ?_
  rintro e w8 ⟨Ac8, cc8, rfl, hl, hO, hb⟩
  replace K1 := Aside0.mk (blk_below K1.out hb)
  replace K2 := Aside0.mk (blk_below K2.out hb)
  replace K3 := Aside0.mk (blk_below K3.out hb)
  replace BW := Aside0.mk (below_step BW.out hb)
  replace BS := Aside0.mk (below_step BS.out hb)
  have Z8 := Aside0.mk (show w7.heap.size ≤ w8.heap.size from hb.size)
  have Oc8 := Aside0.mk (hO.lower (base' := w7.heap.size) (by have := G1_.out; have := G2_.out; have := G3_.out; have := N1_2.out; have := N1_3.out; have := N2_3.out; have := Z8.out; omega))
  have Lc8 := Aside0.mk hl
  clear hb hl hO
  have hz1 : w8.cell? ⟨g1, 0, none⟩ = some (.slice A0 l0.length c0) := (blk_cell K1.out 0).trans rfl
  have hf1 := blk_frozen K1.out 0
  have hz2 : w8.cell? ⟨g2, 0, none⟩ = some (.slice A1 l1.length c1) := (blk_cell K2.out 0).trans rfl
  have hf2 := blk_frozen K2.out 0
  have hz3 : w8.cell? ⟨g3, 0, none⟩ = some (.slice Aw G.length cw) := (blk_cell K3.out 0).trans rfl
  have hf3 := blk_frozen K3.out 0
  have hn1_2 := E1_2.out
  have hn1_3 := E1_3.out
  have hn2_1 := E2_1.out
  have hn2_3 := E2_3.out
  have hn3_1 := E3_1.out
  have hn3_2 := E3_2.out
  go_wp2_with (first | ((with_reducible refine gate_dst (N := 8) rfl ?_); refine box_event ?hg (N := 8) ?hd (cs := #[.slice none 0 0]) (t := 27) ?hr ?_; (case hd => rfl); (case hg => rfl); (case hr => first | (go_simp; done) | (go_simp; rfl)); intro g4 hg w9 hbox hb; clear hz1 hf1 hz2 hf2 hz3 hf3 hn1_2 hn1_3 hn2_1 hn2_3 hn3_1 hn3_2; replace Oc8 := Aside0.mk (Oc8.out.below hb); replace K1 := Aside0.mk (blk_below K1.out hb); replace K2 := Aside0.mk (blk_below K2.out hb); replace K3 := Aside0.mk (blk_below K3.out hb); replace BW := Aside0.mk (below_step BW.out hb); replace BS := Aside0.mk (below_step BS.out hb); have Z9 := Aside0.mk (show w8.heap.size ≤ w9.heap.size from hb.size); have K4 := Aside0.mk hbox; have G4 := Aside0.mk (show g4 = w8.heap.size ∧ g4 < w9.heap.size from ⟨hg, blk_lt hbox⟩); clear hb hbox hg; have E4_1 := Aside0.mk (show g4 ≠ g1 from (by have := G1_.out; have := G2_.out; have := G3_.out; have := N1_2.out; have := N1_3.out; have := N2_3.out; have := Z8.out; have := Z9.out; have := G4.out; omega)); have E1_4 := Aside0.mk (Ne.symm E4_1.out); have E4_2 := Aside0.mk (show g4 ≠ g2 from (by have := G1_.out; have := G2_.out; have := G3_.out; have := N1_2.out; have := N1_3.out; have := N2_3.out; have := Z8.out; have := Z9.out; have := G4.out; omega)); have E2_4 := Aside0.mk (Ne.symm E4_2.out); have E4_3 := Aside0.mk (show g4 ≠ g3 from (by have := G1_.out; have := G2_.out; have := G3_.out; have := N1_2.out; have := N1_3.out; have := N2_3.out; have := Z8.out; have := Z9.out; have := G4.out; omega)); have E3_4 := Aside0.mk (Ne.symm E4_3.out); have hz1 : w9.cell? ⟨g1, 0, none⟩ = some (.slice A0 l0.length c0) := (blk_cell K1.out 0).trans rfl; have hf1 := blk_frozen K1.out 0; have hz2 : w9.cell? ⟨g2, 0, none⟩ = some (.slice A1 l1.length c1) := (blk_cell K2.out 0).trans rfl; have hf2 := blk_frozen K2.out 0; have hz3 : w9.cell? ⟨g3, 0, none⟩ = some (.slice Aw G.length cw) := (blk_cell K3.out 0).trans rfl; have hf3 := blk_frozen K3.out 0; have hz4 : w9.cell? ⟨g4, 0, none⟩ = some (.slice none 0 0) := (blk_cell K4.out 0).trans rfl; have hf4 := blk_frozen K4.out 0; have hn1_2 := E1_2.out; have hn1_3 := E1_3.out; have hn1_4 := E1_4.out; have hn2_1 := E2_1.out; have hn2_3 := E2_3.out; have hn2_4 := E2_4.out; have hn3_1 := E3_1.out; have hn3_2 := E3_2.out; have hn3_4 := E3_4.out; have hn4_1 := E4_1.out; have hn4_2 := E4_2.out; have hn4_3 := E4_3.out))
  clear hz1 hf1 hz2 hf2 hz3 hf3 hz4 hf4 hn1_2 hn1_3 hn1_4 hn2_1 hn2_3 hn2_4 hn3_1 hn3_2 hn3_4 hn4_1 hn4_2 hn4_3
  obtain ⟨w10, hw⟩ : ∃ x, x = w9.setCell ⟨g4, 0, none⟩ (.slice Ac8 l0.length cc8) := ⟨_, rfl⟩
  rw [← hw]
  have hk : Kept w9 w10 (fun k => g4 ≤ k ∧ k < g4 + 1) := by
    rw [hw]
    exact Kept.setCell (Kept.refl _ _) (.inl ⟨Nat.le_refl _, Nat.lt_succ_self _⟩) _
  have hkb : w10.heap[g4]? = some (.cells #[.slice Ac8 l0.length cc8] 27 (0, 0)) := by
    rw [hw]
    simpa using blk_set K4.out 0 (.slice Ac8 l0.length cc8)
  replace BW := Aside0.mk (show Below w.heap.size w w10 by
    rw [hw]
    exact below_set BW.out (by have := BZ.out; have := G1_.out; have := G2_.out; have := G3_.out; have := N1_2.out; have := N1_3.out; have := N2_3.out; have := Z8.out; have := Z9.out; have := G4.out; omega))
  replace BS := Aside0.mk (show Below w7.heap.size w7 w10 by
    rw [hw]
    exact below_set BS.out (by have := G1_.out; have := G2_.out; have := G3_.out; have := N1_2.out; have := N1_3.out; have := N2_3.out; have := Z8.out; have := Z9.out; have := G4.out; omega))
  have Z10 := Aside0.mk (show w9.heap.size ≤ w10.heap.size from hk.1)
  clear hw
  replace Oc8 := Aside0.mk (Oc8.out.kept hk (by have := G1_.out; have := G2_.out; have := G3_.out; have := N1_2.out; have := N1_3.out; have := N2_3.out; have := Z8.out; have := Z9.out; have := G4.out; have := Z10.out; omega))
  replace K1 := Aside0.mk (blk_kept K1.out hk (fun hh => by have := G1_.out; have := G2_.out; have := G3_.out; have := N1_2.out; have := N1_3.out; have := N2_3.out; have := Z8.out; have := Z9.out; have := G4.out; have := Z10.out; obtain ⟨h1, h2⟩ := hh; omega))
  replace K2 := Aside0.mk (blk_kept K2.out hk (fun hh => by have := G1_.out; have := G2_.out; have := G3_.out; have := N1_2.out; have := N1_3.out; have := N2_3.out; have := Z8.out; have := Z9.out; have := G4.out; have := Z10.out; obtain ⟨h1, h2⟩ := hh; omega))
  replace K3 := Aside0.mk (blk_kept K3.out hk (fun hh => by have := G1_.out; have := G2_.out; have := G3_.out; have := N1_2.out; have := N1_3.out; have := N2_3.out; have := Z8.out; have := Z9.out; have := G4.out; have := Z10.out; obtain ⟨h1, h2⟩ := hh; omega))
  replace K4 := Aside0.mk hkb
  clear hk hkb
  refine (copyM_any A1 c1 l1 _ HF1.out (Kd.C_below HR1.out BW.out) HC1.out).mono ?_
  rintro e w11 ⟨Ac11, cc11, rfl, hl, hO, hb⟩
  replace Oc8 := Aside0.mk (Oc8.out.below hb)
  replace K1 := Aside0.mk (blk_below K1.out hb)
  replace K2 := Aside0.mk (blk_below K2.out hb)
  replace K3 := Aside0.mk (blk_below K3.out hb)
  replace K4 := Aside0.mk (blk_below K4.out hb)
  replace BW := Aside0.mk (below_step BW.out hb)
  replace BS := Aside0.mk (below_step BS.out hb)
  have Z11 := Aside0.mk (show w10.heap.size ≤ w11.heap.size from hb.size)
  have Oc11 := Aside0.mk (hO.lower (base' := w7.heap.size) (by have := G1_.out; have := G2_.out; have := G3_.out; have := N1_2.out; have := N1_3.out; have := N2_3.out; have := Z8.out; have := Z9.out; have := G4.out; have := Z10.out; have := Z11.out; omega))
  have Lc11 := Aside0.mk hl
  clear hb hl hO
  have hz1 : w11.cell? ⟨g1, 0, none⟩ = some (.slice A0 l0.length c0) := (blk_cell K1.out 0).trans rfl
  have hf1 := blk_frozen K1.out 0
  have hz2 : w11.cell? ⟨g2, 0, none⟩ = some (.slice A1 l1.length c1) := (blk_cell K2.out 0).trans rfl
  have hf2 := blk_frozen K2.out 0
  have hz3 : w11.cell? ⟨g3, 0, none⟩ = some (.slice Aw G.length cw) := (blk_cell K3.out 0).trans rfl
  have hf3 := blk_frozen K3.out 0
  have hz4 : w11.cell? ⟨g4, 0, none⟩ = some (.slice Ac8 l0.length cc8) := (blk_cell K4.out 0).trans rfl
  have hf4 := blk_frozen K4.out 0
  have hn1_2 := E1_2.out
  have hn1_3 := E1_3.out
  have hn1_4 := E1_4.out
  have hn2_1 := E2_1.out
  have hn2_3 := E2_3.out
  have hn2_4 := E2_4.out
  have hn3_1 := E3_1.out
  have hn3_2 := E3_2.out
  have hn3_4 := E3_4.out
  have hn4_1 := E4_1.out
  have hn4_2 := E4_2.out
  have hn4_3 := E4_3.out
  go_wp2_with (first | ((with_reducible refine gate_dst (N := 9) rfl ?_); refine box_event ?hg (N := 9) ?hd (cs := #[.slice none 0 0]) (t := 27) ?hr ?_; (case hd => rfl); (case hg => rfl); (case hr => first | (go_simp; done) | (go_simp; rfl)); intro g5 hg w12 hbox hb; clear hz1 hf1 hz2 hf2 hz3 hf3 hz4 hf4 hn1_2 hn1_3 hn1_4 hn2_1 hn2_3 hn2_4 hn3_1 hn3_2 hn3_4 hn4_1 hn4_2 hn4_3; replace Oc8 := Aside0.mk (Oc8.out.below hb); replace Oc11 := Aside0.mk (Oc11.out.below hb); replace K1 := Aside0.mk (blk_below K1.out hb); replace K2 := Aside0.mk (blk_below K2.out hb); replace K3 := Aside0.mk (blk_below K3.out hb); replace K4 := Aside0.mk (blk_below K4.out hb); replace BW := Aside0.mk (below_step BW.out hb); replace BS := Aside0.mk (below_step BS.out hb); have Z12 := Aside0.mk (show w11.heap.size ≤ w12.heap.size from hb.size); have K5 := Aside0.mk hbox; have G5 := Aside0.mk (show g5 = w11.heap.size ∧ g5 < w12.heap.size from ⟨hg, blk_lt hbox⟩); clear hb hbox hg; have E5_1 := Aside0.mk (show g5 ≠ g1 from (by have := G1_.out; have := G2_.out; have := G3_.out; have := N1_2.out; have := N1_3.out; have := N2_3.out; have := Z8.out; have := Z9.out; have := G4.out; have := Z10.out; have := Z11.out; have := Z12.out; have := G5.out; omega)); have E1_5 := Aside0.mk (Ne.symm E5_1.out); have E5_2 := Aside0.mk (show g5 ≠ g2 from (by have := G1_.out; have := G2_.out; have := G3_.out; have := N1_2.out; have := N1_3.out; have := N2_3.out; have := Z8.out; have := Z9.out; have := G4.out; have := Z10.out; have := Z11.out; have := Z12.out; have := G5.out; omega)); have E2_5 := Aside0.mk (Ne.symm E5_2.out); have E5_3 := Aside0.mk (show g5 ≠ g3 from (by have := G1_.out; have := G2_.out; have := G3_.out; have := N1_2.out; have := N1_3.out; have := N2_3.out; have := Z8.out; have := Z9.out; have := G4.out; have := Z10.out; have := Z11.out; have := Z12.out; have := G5.out; omega)); have E3_5 := Aside0.mk (Ne.symm E5_3.out); have E5_4 := Aside0.mk (show g5 ≠ g4 from (by have := G1_.out; have := G2_.out; have := G3_.out; have := N1_2.out; have := N1_3.out; have := N2_3.out; have := Z8.out; have := Z9.out; have := G4.out; have := Z10.out; have := Z11.out; have := Z12.out; have := G5.out; omega)); have E4_5 := Aside0.mk (Ne.symm E5_4.out); have hz1 : w12.cell? ⟨g1, 0, none⟩ = some (.slice A0 l0.length c0) := (blk_cell K1.out 0).trans rfl; have hf1 := blk_frozen K1.out 0; have hz2 : w12.cell? ⟨g2, 0, none⟩ = some (.slice A1 l1.length c1) := (blk_cell K2.out 0).trans rfl; have hf2 := blk_frozen K2.out 0; have hz3 : w12.cell? ⟨g3, 0, none⟩ = some (.slice Aw G.length cw) := (blk_cell K3.out 0).trans rfl; have hf3 := blk_frozen K3.out 0; have hz4 : w12.cell? ⟨g4, 0, none⟩ = some (.slice Ac8 l0.length cc8) := (blk_cell K4.out 0).trans rfl; have hf4 := blk_frozen K4.out 0; have hz5 : w12.cell? ⟨g5, 0, none⟩ = some (.slice none 0 0) := (blk_cell K5.out 0).trans rfl; have hf5 := blk_frozen K5.out 0; have hn1_2 := E1_2.out; have hn1_3 := E1_3.out; have hn1_4 := E1_4.out; have hn1_5 := E1_5.out; have hn2_1 := E2_1.out; have hn2_3 := E2_3.out; have hn2_4 := E2_4.out; have hn2_5 := E2_5.out; have hn3_1 := E3_1.out; have hn3_2 := E3_2.out; have hn3_4 := E3_4.out; have hn3_5 := E3_5.out; have hn4_1 := E4_1.out; have hn4_2 := E4_2.out; have hn4_3 := E4_3.out; have hn4_5 := E4_5.out; have hn5_1 := E5_1.out; have hn5_2 := E5_2.out; have hn5_3 := E5_3.out; have hn5_4 := E5_4.out))
  clear hz1 hf1 hz2 hf2 hz3 hf3 hz4 hf4 hz5 hf5 hn1_2 hn1_3 hn1_4 hn1_5 hn2_1 hn2_3 hn2_4 hn2_5 hn3_1 hn3_2 hn3_4 hn3_5 hn4_1 hn4_2 hn4_3 hn4_5 hn5_1 hn5_2 hn5_3 hn5_4
  obtain ⟨w13, hw⟩ : ∃ x, x = w12.setCell ⟨g5, 0, none⟩ (.slice Ac11 l1.length cc11) := ⟨_, rfl⟩
  rw [← hw]
  have hk : Kept w12 w13 (fun k => g5 ≤ k ∧ k < g5 + 1) := by
    rw [hw]
    exact Kept.setCell (Kept.refl _ _) (.inl ⟨Nat.le_refl _, Nat.lt_succ_self _⟩) _
  have hkb : w13.heap[g5]? = some (.cells #[.slice Ac11 l1.length cc11] 27 (0, 0)) := by
    rw [hw]
    simpa using blk_set K5.out 0 (.slice Ac11 l1.length cc11)
  replace BW := Aside0.mk (show Below w.heap.size w w13 by
    rw [hw]
    exact below_set BW.out (by have := BZ.out; have := G1_.out; have := G2_.out; have := G3_.out; have := N1_2.out; have := N1_3.out; have := N2_3.out; have := Z8.out; have := Z9.out; have := G4.out; have := Z10.out; have := Z11.out; have := Z12.out; have := G5.out; omega))
  replace BS := Aside0.mk (show Below w7.heap.size w7 w13 by
    rw [hw]
    exact below_set BS.out (by have := G1_.out; have := G2_.out; have := G3_.out; have := N1_2.out; have := N1_3.out; have := N2_3.out; have := Z8.out; have := Z9.out; have := G4.out; have := Z10.out; have := Z11.out; have := Z12.out; have := G5.out; omega))
  have Z13 := Aside0.mk (show w12.heap.size ≤ w13.heap.size from hk.1)
  clear hw
  replace Oc8 := Aside0.mk (Oc8.out.kept hk (by have := G1_.out; have := G2_.out; have := G3_.out; have := N1_2.out; have := N1_3.out; have := N2_3.out; have := Z8.out; have := Z9.out; have := G4.out; have := Z10.out; have := Z11.out; have := Z12.out; have := G5.out; have := Z13.out; omega))
  replace Oc11 := Aside0.mk (Oc11.out.kept hk (by have := G1_.out; have := G2_.out; have := G3_.out; have := N1_2.out; have := N1_3.out; have := N2_3.out; have := Z8.out; have := Z9.out; have := G4.out; have := Z10.out; have := Z11.out; have := Z12.out; have := G5.out; have := Z13.out; omega))
  replace K1 := Aside0.mk (blk_kept K1.out hk (fun hh => by have := G1_.out; have := G2_.out; have := G3_.out; have := N1_2.out; have := N1_3.out; have := N2_3.out; have := Z8.out; have := Z9.out; have := G4.out; have := Z10.out; have := Z11.out; have := Z12.out; have := G5.out; have := Z13.out; obtain ⟨h1, h2⟩ := hh; omega))
  replace K2 := Aside0.mk (blk_kept K2.out hk (fun hh => by have := G1_.out; have := G2_.out; have := G3_.out; have := N1_2.out; have := N1_3.out; have := N2_3.out; have := Z8.out; have := Z9.out; have := G4.out; have := Z10.out; have := Z11.out; have := Z12.out; have := G5.out; have := Z13.out; obtain ⟨h1, h2⟩ := hh; omega))
  replace K3 := Aside0.mk (blk_kept K3.out hk (fun hh => by have := G1_.out; have := G2_.out; have := G3_.out; have := N1_2.out; have := N1_3.out; have := N2_3.out; have := Z8.out; have := Z9.out; have := G4.out; have := Z10.out; have := Z11.out; have := Z12.out; have := G5.out; have := Z13.out; obtain ⟨h1, h2⟩ := hh; omega))
  replace K4 := Aside0.mk (blk_kept K4.out hk (fun hh => by have := G1_.out; have := G2_.out; have := G3_.out; have := N1_2.out; have := N1_3.out; have := N2_3.out; have := Z8.out; have := Z9.out; have := G4.out; have := Z10.out; have := Z11.out; have := Z12.out; have := G5.out; have := Z13.out; obtain ⟨h1, h2⟩ := hh; omega))
  replace K5 := Aside0.mk hkb
  clear hk hkb
  refine (HI.out _ Ac8 cc8 Ac11 cc11 Oc8.out.C Lc8.out Oc11.out.C Lc11.out).mono ?_
  rintro e w14 ⟨vg14, rfl, hS, hb⟩
  replace Oc8 := Aside0.mk (Oc8.out.below hb)
  replace Oc11 := Aside0.mk (Oc11.out.below hb)
  replace K1 := Aside0.mk (blk_below K1.out hb)
  replace K2 := Aside0.mk (blk_below K2.out hb)
  replace K3 := Aside0.mk (blk_below K3.out hb)
  replace K4 := Aside0.mk (blk_below K4.out hb)
  replace K5 := Aside0.mk (blk_below K5.out hb)
  replace BW := Aside0.mk (below_step BW.out hb)
  replace BS := Aside0.mk (below_step BS.out hb)
  have Z14 := Aside0.mk (show w13.heap.size ≤ w14.heap.size from hb.size)
  obtain ⟨Ag14, cg14, rfl, hl, hO⟩ := OwnM.of hS
  clear hS
  have Og14 := Aside0.mk (hO.lower (base' := w7.heap.size) (by have := G1_.out; have := G2_.out; have := G3_.out; have := N1_2.out; have := N1_3.out; have := N2_3.out; have := Z8.out; have := Z9.out; have := G4.out; have := Z10.out; have := Z11.out; have := Z12.out; have := G5.out; have := Z13.out; have := Z14.out; omega))
  have Lg14 := Aside0.mk hl
  clear hb hl hO
  have hz1 : w14.cell? ⟨g1, 0, none⟩ = some (.slice A0 l0.length c0) := (blk_cell K1.out 0).trans rfl
  have hf1 := blk_frozen K1.out 0
  have hz2 : w14.cell? ⟨g2, 0, none⟩ = some (.slice A1 l1.length c1) := (blk_cell K2.out 0).trans rfl
  have hf2 := blk_frozen K2.out 0
  have hz3 : w14.cell? ⟨g3, 0, none⟩ = some (.slice Aw G.length cw) := (blk_cell K3.out 0).trans rfl
  have hf3 := blk_frozen K3.out 0
  have hz4 : w14.cell? ⟨g4, 0, none⟩ = some (.slice Ac8 l0.length cc8) := (blk_cell K4.out 0).trans rfl
  have hf4 := blk_frozen K4.out 0
  have hz5 : w14.cell? ⟨g5, 0, none⟩ = some (.slice Ac11 l1.length cc11) := (blk_cell K5.out 0).trans rfl
  have hf5 := blk_frozen K5.out 0
  have hn1_2 := E1_2.out
  have hn1_3 := E1_3.out
  have hn1_4 := E1_4.out
  have hn1_5 := E1_5.out
  have hn2_1 := E2_1.out
  have hn2_3 := E2_3.out
  have hn2_4 := E2_4.out
  have hn2_5 := E2_5.out
  have hn3_1 := E3_1.out
  have hn3_2 := E3_2.out
  have hn3_4 := E3_4.out
  have hn3_5 := E3_5.out
  have hn4_1 := E4_1.out
  have hn4_2 := E4_2.out
  have hn4_3 := E4_3.out
  have hn4_5 := E4_5.out
  have hn5_1 := E5_1.out
  have hn5_2 := E5_2.out
  have hn5_3 := E5_3.out
  have hn5_4 := E5_4.out
  go_wp2_with (first | ((with_reducible refine gate_dst (N := 10) rfl ?_); refine box_event ?hg (N := 10) ?hd (cs := #[.slice none 0 0]) (t := 27) ?hr ?_; (case hd => rfl); (case hg => rfl); (case hr => first | (go_simp; done) | (go_simp; rfl)); intro g6 hg w15 hbox hb; clear hz1 hf1 hz2 hf2 hz3 hf3 hz4 hf4 hz5 hf5 hn1_2 hn1_3 hn1_4 hn1_5 hn2_1 hn2_3 hn2_4 hn2_5 hn3_1 hn3_2 hn3_4 hn3_5 hn4_1 hn4_2 hn4_3 hn4_5 hn5_1 hn5_2 hn5_3 hn5_4; replace Oc8 := Aside0.mk (Oc8.out.below hb); replace Oc11 := Aside0.mk (Oc11.out.below hb); replace Og14 := Aside0.mk (Og14.out.below hb); replace K1 := Aside0.mk (blk_below K1.out hb); replace K2 := Aside0.mk (blk_below K2.out hb); replace K3 := Aside0.mk (blk_below K3.out hb); replace K4 := Aside0.mk (blk_below K4.out hb); replace K5 := Aside0.mk (blk_below K5.out hb); replace BW := Aside0.mk (below_step BW.out hb); replace BS := Aside0.mk (below_step BS.out hb); have Z15 := Aside0.mk (show w14.heap.size ≤ w15.heap.size from hb.size); have K6 := Aside0.mk hbox; have G6 := Aside0.mk (show g6 = w14.heap.size ∧ g6 < w15.heap.size from ⟨hg, blk_lt hbox⟩); clear hb hbox hg; have E6_1 := Aside0.mk (show g6 ≠ g1 from (by have := G1_.out; have := G2_.out; have := G3_.out; have := N1_2.out; have := N1_3.out; have := N2_3.out; have := Z8.out; have := Z9.out; have := G4.out; have := Z10.out; have := Z11.out; have := Z12.out; have := G5.out; have := Z13.out; have := Z14.out; have := Z15.out; have := G6.out; omega)); have E1_6 := Aside0.mk (Ne.symm E6_1.out); have E6_2 := Aside0.mk (show g6 ≠ g2 from (by have := G1_.out; have := G2_.out; have := G3_.out; have := N1_2.out; have := N1_3.out; have := N2_3.out; have := Z8.out; have := Z9.out; have := G4.out; have := Z10.out; have := Z11.out; have := Z12.out; have := G5.out; have := Z13.out; have := Z14.out; have := Z15.out; have := G6.out; omega)); have E2_6 := Aside0.mk (Ne.symm E6_2.out); have E6_3 := Aside0.mk (show g6 ≠ g3 from (by have := G1_.out; have := G2_.out; have := G3_.out; have := N1_2.out; have := N1_3.out; have := N2_3.out; have := Z8.out; have := Z9.out; have := G4.out; have := Z10.out; have := Z11.out; have := Z12.out; have := G5.out; have := Z13.out; have := Z14.out; have := Z15.out; have := G6.out; omega)); have E3_6 := Aside0.mk (Ne.symm E6_3.out); have E6_4 := Aside0.mk (show g6 ≠ g4 from (by have := G1_.out; have := G2_.out; have := G3_.out; have := N1_2.out; have := N1_3.out; have := N2_3.out; have := Z8.out; have := Z9.out; have := G4.out; have := Z10.out; have := Z11.out; have := Z12.out; have := G5.out; have := Z13.out; have := Z14.out; have := Z15.out; have := G6.out; omega)); have E4_6 := Aside0.mk (Ne.symm E6_4.out); have E6_5 := Aside0.mk (show g6 ≠ g5 from (by have := G1_.out; have := G2_.out; have := G3_.out; have := N1_2.out; have := N1_3.out; have := N2_3.out; have := Z8.out; have := Z9.out; have := G4.out; have := Z10.out; have := Z11.out; have := Z12.out; have := G5.out; have := Z13.out; have := Z14.out; have := Z15.out; have := G6.out; omega)); have E5_6 := Aside0.mk (Ne.symm E6_5.out); have hz1 : w15.cell? ⟨g1, 0, none⟩ = some (.slice A0 l0.length c0) := (blk_cell K1.out 0).trans rfl; have hf1 := blk_frozen K1.out 0; have hz2 : w15.cell? ⟨g2, 0, none⟩ = some (.slice A1 l1.length c1) := (blk_cell K2.out 0).trans rfl; have hf2 := blk_frozen K2.out 0; have hz3 : w15.cell? ⟨g3, 0, none⟩ = some (.slice Aw G.length cw) := (blk_cell K3.out 0).trans rfl; have hf3 := blk_frozen K3.out 0; have hz4 : w15.cell? ⟨g4, 0, none⟩ = some (.slice Ac8 l0.length cc8) := (blk_cell K4.out 0).trans rfl; have hf4 := blk_frozen K4.out 0; have hz5 : w15.cell? ⟨g5, 0, none⟩ = some (.slice Ac11 l1.length cc11) := (blk_cell K5.out 0).trans rfl; have hf5 := blk_frozen K5.out 0; have hz6 : w15.cell? ⟨g6, 0, none⟩ = some (.slice none 0 0) := (blk_cell K6.out 0).trans rfl; have hf6 := blk_frozen K6.out 0; have hn1_2 := E1_2.out; have hn1_3 := E1_3.out; have hn1_4 := E1_4.out; have hn1_5 := E1_5.out; have hn1_6 := E1_6.out; have hn2_1 := E2_1.out; have hn2_3 := E2_3.out; have hn2_4 := E2_4.out; have hn2_5 := E2_5.out; have hn2_6 := E2_6.out; have hn3_1 := E3_1.out; have hn3_2 := E3_2.out; have hn3_4 := E3_4.out; have hn3_5 := E3_5.out; have hn3_6 := E3_6.out; have hn4_1 := E4_1.out; have hn4_2 := E4_2.out; have hn4_3 := E4_3.out; have hn4_5 := E4_5.out; have hn4_6 := E4_6.out; have hn5_1 := E5_1.out; have hn5_2 := E5_2.out; have hn5_3 := E5_3.out; have hn5_4 := E5_4.out; have hn5_6 := E5_6.out; have hn6_1 := E6_1.out; have hn6_2 := E6_2.out; have hn6_3 := E6_3.out; have hn6_4 := E6_4.out; have hn6_5 := E6_5.out))
  clear hz1 hf1 hz2 hf2 hz3 hf3 hz4 hf4 hz5 hf5 hz6 hf6 hn1_2 hn1_3 hn1_4 hn1_5 hn1_6 hn2_1 hn2_3 hn2_4 hn2_5 hn2_6 hn3_1 hn3_2 hn3_4 hn3_5 hn3_6 hn4_1 hn4_2 hn4_3 hn4_5 hn4_6 hn5_1 hn5_2 hn5_3 hn5_4 hn5_6 hn6_1 hn6_2 hn6_3 hn6_4 hn6_5
  obtain ⟨w16, hw⟩ : ∃ x, x = w15.setCell ⟨g6, 0, none⟩ (.slice Ag14 G.length cg14) := ⟨_, rfl⟩
  rw [← hw]
  have hk : Kept w15 w16 (fun k => g6 ≤ k ∧ k < g6 + 1) := by
    rw [hw]
    exact Kept.setCell (Kept.refl _ _) (.inl ⟨Nat.le_refl _, Nat.lt_succ_self _⟩) _
  have hkb : w16.heap[g6]? = some (.cells #[.slice Ag14 G.length cg14] 27 (0, 0)) := by
    rw [hw]
    simpa using blk_set K6.out 0 (.slice Ag14 G.length cg14)
  replace BW := Aside0.mk (show Below w.heap.size w w16 by
    rw [hw]
    exact below_set BW.out (by have := BZ.out; have := G1_.out; have := G2_.out; have := G3_.out; have := N1_2.out; have := N1_3.out; have := N2_3.out; have := Z8.out; have := Z9.out; have := G4.out; have := Z10.out; have := Z11.out; have := Z12.out; have := G5.out; have := Z13.out; have := Z14.out; have := Z15.out; have := G6.out; omega))
  replace BS := Aside0.mk (show Below w7.heap.size w7 w16 by
    rw [hw]
    exact below_set BS.out (by have := G1_.out; have := G2_.out; have := G3_.out; have := N1_2.out; have := N1_3.out; have := N2_3.out; have := Z8.out; have := Z9.out; have := G4.out; have := Z10.out; have := Z11.out; have := Z12.out; have := G5.out; have := Z13.out; have := Z14.out; have := Z15.out; have := G6.out; omega))
  have Z16 := Aside0.mk (show w15.heap.size ≤ w16.heap.size from hk.1)
  clear hw
  replace Oc8 := Aside0.mk (Oc8.out.kept hk (by have := G1_.out; have := G2_.out; have := G3_.out; have := N1_2.out; have := N1_3.out; have := N2_3.out; have := Z8.out; have := Z9.out; have := G4.out; have := Z10.out; have := Z11.out; have := Z12.out; have := G5.out; have := Z13.out; have := Z14.out; have := Z15.out; have := G6.out; have := Z16.out; omega))
  replace Oc11 := Aside0.mk (Oc11.out.kept hk (by have := G1_.out; have := G2_.out; have := G3_.out; have := N1_2.out; have := N1_3.out; have := N2_3.out; have := Z8.out; have := Z9.out; have := G4.out; have := Z10.out; have := Z11.out; have := Z12.out; have := G5.out; have := Z13.out; have := Z14.out; have := Z15.out; have := G6.out; have := Z16.out; omega))
  replace Og14 := Aside0.mk (Og14.out.kept hk (by have := G1_.out; have := G2_.out; have := G3_.out; have := N1_2.out; have := N1_3.out; have := N2_3.out; have := Z8.out; have := Z9.out; have := G4.out; have := Z10.out; have := Z11.out; have := Z12.out; have := G5.out; have := Z13.out; have := Z14.out; have := Z15.out; have := G6.out; have := Z16.out; omega))
  replace K1 := Aside0.mk (blk_kept K1.out hk (fun hh => by have := G1_.out; have := G2_.out; have := G3_.out; have := N1_2.out; have := N1_3.out; have := N2_3.out; have := Z8.out; have := Z9.out; have := G4.out; have := Z10.out; have := Z11.out; have := Z12.out; have := G5.out; have := Z13.out; have := Z14.out; have := Z15.out; have := G6.out; have := Z16.out; obtain ⟨h1, h2⟩ := hh; omega))
  replace K2 := Aside0.mk (blk_kept K2.out hk (fun hh => by have := G1_.out; have := G2_.out; have := G3_.out; have := N1_2.out; have := N1_3.out; have := N2_3.out; have := Z8.out; have := Z9.out; have := G4.out; have := Z10.out; have := Z11.out; have := Z12.out; have := G5.out; have := Z13.out; have := Z14.out; have := Z15.out; have := G6.out; have := Z16.out; obtain ⟨h1, h2⟩ := hh; omega))
  replace K3 := Aside0.mk (blk_kept K3.out hk (fun hh => by have := G1_.out; have := G2_.out; have := G3_.out; have := N1_2.out; have := N1_3.out; have := N2_3.out; have := Z8.out; have := Z9.out; have := G4.out; have := Z10.out; have := Z11.out; have := Z12.out; have := G5.out; have := Z13.out; have := Z14.out; have := Z15.out; have := G6.out; have := Z16.out; obtain ⟨h1, h2⟩ := hh; omega))
  replace K4 := Aside0.mk (blk_kept K4.out hk (fun hh => by have := G1_.out; have := G2_.out; have := G3_.out; have := N1_2.out; have := N1_3.out; have := N2_3.out; have := Z8.out; have := Z9.out; have := G4.out; have := Z10.out; have := Z11.out; have := Z12.out; have := G5.out; have := Z13.out; have := Z14.out; have := Z15.out; have := G6.out; have := Z16.out; obtain ⟨h1, h2⟩ := hh; omega))
  replace K5 := Aside0.mk (blk_kept K5.out hk (fun hh => by have := G1_.out; have := G2_.out; have := G3_.out; have := N1_2.out; have := N1_3.out; have := N2_3.out; have := Z8.out; have := Z9.out; have := G4.out; have := Z10.out; have := Z11.out; have := Z12.out; have := G5.out; have := Z13.out; have := Z14.out; have := Z15.out; have := G6.out; have := Z16.out; obtain ⟨h1, h2⟩ := hh; omega))
  replace K6 := Aside0.mk hkb
  clear hk hkb
  refine (sameM_any Ag14 Aw cg14 cw G _ HF.out Og14.out.C Lg14.out (Kd.C_below CW.out BS.out) LW.out).mono ?_
  rintro e w17 ⟨rfl, hb⟩
  replace Oc8 := Aside0.mk (Oc8.out.below hb)
  replace Oc11 := Aside0.mk (Oc11.out.below hb)
  replace Og14 := Aside0.mk (Og14.out.below hb)
  replace K1 := Aside0.mk (blk_below K1.out hb)
  replace K2 := Aside0.mk (blk_below K2.out hb)
  replace K3 := Aside0.mk (blk_below K3.out hb)
  replace K4 := Aside0.mk (blk_below K4.out hb)
  replace K5 := Aside0.mk (blk_below K5.out hb)
  replace K6 := Aside0.mk (blk_below K6.out hb)
  replace BW := Aside0.mk (below_step BW.out hb)
  replace BS := Aside0.mk (below_step BS.out hb)
  have Z17 := Aside0.mk (show w16.heap.size ≤ w17.heap.size from hb.size)
  clear hb
  have hz1 : w17.cell? ⟨g1, 0, none⟩ = some (.slice A0 l0.length c0) := (blk_cell K1.out 0).trans rfl
  have hf1 := blk_frozen K1.out 0
  have hz2 : w17.cell? ⟨g2, 0, none⟩ = some (.slice A1 l1.length c1) := (blk_cell K2.out 0).trans rfl
  have hf2 := blk_frozen K2.out 0
  have hz3 : w17.cell? ⟨g3, 0, none⟩ = some (.slice Aw G.length cw) := (blk_cell K3.out 0).trans rfl
  have hf3 := blk_frozen K3.out 0
  have hz4 : w17.cell? ⟨g4, 0, none⟩ = some (.slice Ac8 l0.length cc8) := (blk_cell K4.out 0).trans rfl
  have hf4 := blk_frozen K4.out 0
  have hz5 : w17.cell? ⟨g5, 0, none⟩ = some (.slice Ac11 l1.length cc11) := (blk_cell K5.out 0).trans rfl
  have hf5 := blk_frozen K5.out 0
  have hz6 : w17.cell? ⟨g6, 0, none⟩ = some (.slice Ag14 G.length cg14) := (blk_cell K6.out 0).trans rfl
  have hf6 := blk_frozen K6.out 0
  have hn1_2 := E1_2.out
  have hn1_3 := E1_3.out
  have hn1_4 := E1_4.out
  have hn1_5 := E1_5.out
  have hn1_6 := E1_6.out
  have hn2_1 := E2_1.out
  have hn2_3 := E2_3.out
  have hn2_4 := E2_4.out
  have hn2_5 := E2_5.out
  have hn2_6 := E2_6.out
  have hn3_1 := E3_1.out
  have hn3_2 := E3_2.out
  have hn3_4 := E3_4.out
  have hn3_5 := E3_5.out
  have hn3_6 := E3_6.out
  have hn4_1 := E4_1.out
  have hn4_2 := E4_2.out
  have hn4_3 := E4_3.out
  have hn4_5 := E4_5.out
  have hn4_6 := E4_6.out
  have hn5_1 := E5_1.out
  have hn5_2 := E5_2.out
  have hn5_3 := E5_3.out
  have hn5_4 := E5_4.out
  have hn5_6 := E5_6.out
  have hn6_1 := E6_1.out
  have hn6_2 := E6_2.out
  have hn6_3 := E6_3.out
  have hn6_4 := E6_4.out
  have hn6_5 := E6_5.out
  go_wp2_with (fail)
  clear hz1 hf1 hz2 hf2 hz3 hf3 hz4 hf4 hz5 hf5 hz6 hf6 hn1_2 hn1_3 hn1_4 hn1_5 hn1_6 hn2_1 hn2_3 hn2_4 hn2_5 hn2_6 hn3_1 hn3_2 hn3_4 hn3_5 hn3_6 hn4_1 hn4_2 hn4_3 hn4_5 hn4_6 hn5_1 hn5_2 hn5_3 hn5_4 hn5_6 hn6_1 hn6_2 hn6_3 hn6_4 hn6_5
  replace Oc8 := Aside0.mk (Oc8.out.drew)
  replace Oc11 := Aside0.mk (Oc11.out.drew)
  replace Og14 := Aside0.mk (Og14.out.drew)
  replace K1 := Aside0.mk (blk_drew K1.out)
  replace K2 := Aside0.mk (blk_drew K2.out)
  replace K3 := Aside0.mk (blk_drew K3.out)
  replace K4 := Aside0.mk (blk_drew K4.out)
  replace K5 := Aside0.mk (blk_drew K5.out)
  replace K6 := Aside0.mk (blk_drew K6.out)
  replace BW := Aside0.mk (below_drew1 BW.out)
  replace BS := Aside0.mk (below_drew1 BS.out)
  have Z18 := Aside0.mk (show w17.heap.size ≤ w17.drew.heap.size from Nat.le_refl _)
  refine start_ (n := 5) (S := fun w' => w'.cell? ⟨g4, 0, none⟩ = some (.slice Ac8 l0.length cc8) ∧ w'.cell? ⟨g1, 0, none⟩ = some (.slice A0 l0.length c0)) (ds := []) #[false, false, false, false, false] (by kernel_rfl) rfl rfl ⟨(blk_cell K4.out 0).trans rfl, (blk_cell K1.out 0).trans rfl⟩ (fun hHeld => ?_)
  generalize w17.drew = w18 at Oc8 Oc11 Og14 K1 K2 K3 K4 K5 K6 BW Z18 BS hHeld ⊢
  refine take_ (i := 0) (N := some 54) (v := ?_) (a' := ?_) #[true, false, false, false, false] rfl rfl (by kernel_rfl) (fun _ _ _ h => h) (Or.inl ⟨by rfl, ?_⟩) hHeld ?_ ?_
  rotate_left
  · rintro w' ⟨s0, s1⟩
    go_simp
    with_reducible rfl
  rotate_left
  · simp only [Act.put, List.setIfInBounds_toArray, List.set_cons_zero, List.set_cons_succ, i64_w, i32_w]
    rfl
  refine take_ (i := 1) (N := some 55) (v := ?_) (a' := ?_) #[true, true, false, false, false] rfl rfl (by kernel_rfl) (fun _ _ _ h => h) (Or.inl ⟨by rfl, ?_⟩) hHeld ?_ ?_
  rotate_left
  · rintro w' ⟨s0, s1⟩
    go_simp
    with_reducible rfl
  rotate_left
  · simp only [Act.put, List.setIfInBounds_toArray, List.set_cons_zero, List.set_cons_succ, i64_w, i32_w]
    rfl
  refine one_ (i := 2) (N := some 56) #[true, true, true, false, false] rfl rfl (by kernel_rfl) (by decide) (fun K hK => ?_)
  refine goes_ Try.func14 (by kernel_rfl) rfl #[.agg #[.slice A0 l0.length c0]] (by rfl) rfl rfl (by (try simp only [List.map_toArray, List.map_cons, List.map_nil]); first | done | rfl | (simp only [List.length_drop, List.length_take]; rfl)) ?_
  refine (copyM_any A0 c0 l0 _ HF0.out (Kd.C_below HR0.out BW.out) HC0.out).mono ?_
  rintro e w19 ⟨Ac19, cc19, rfl, hl, hO, hb⟩
  refine ⟨_, rfl, ?_⟩
  replace Oc8 := Aside0.mk (Oc8.out.below hb)
  replace Oc11 := Aside0.mk (Oc11.out.below hb)
  replace Og14 := Aside0.mk (Og14.out.below hb)
  replace K1 := Aside0.mk (blk_below K1.out hb)
  replace K2 := Aside0.mk (blk_below K2.out hb)
  replace K3 := Aside0.mk (blk_below K3.out hb)
  replace K4 := Aside0.mk (blk_below K4.out hb)
  replace K5 := Aside0.mk (blk_below K5.out hb)
  replace K6 := Aside0.mk (blk_below K6.out hb)
  replace BW := Aside0.mk (below_step BW.out hb)
  replace BS := Aside0.mk (below_step BS.out hb)
  have Z19 := Aside0.mk (show w18.heap.size ≤ w19.heap.size from hb.size)
  have Oc19 := Aside0.mk (hO.lower (base' := w7.heap.size) (by have := G1_.out; have := G2_.out; have := G3_.out; have := N1_2.out; have := N1_3.out; have := N2_3.out; have := Z8.out; have := Z9.out; have := G4.out; have := Z10.out; have := Z11.out; have := Z12.out; have := G5.out; have := Z13.out; have := Z14.out; have := Z15.out; have := G6.out; have := Z16.out; have := Z17.out; have := Z18.out; have := Z19.out; omega))
  have Lc19 := Aside0.mk hl
  clear hb hl hO
  refine hK.out _ _ ⟨(blk_cell K4.out 0).trans rfl, (blk_cell K1.out 0).trans rfl⟩ (fun hHeld => ?_)
  clear hK K
  refine norm_ (a' := ?_) ?_ ?_
  rotate_left
  · show Act.put _ (some 56) _ = _
    simp only [Act.put, List.setIfInBounds_toArray, List.set_cons_zero, List.set_cons_succ, i64_w, i32_w]
    rfl
  refine one_ (i := 3) (N := some 57) #[true, true, true, true, false] rfl rfl (by kernel_rfl) (by decide) (fun K hK => ?_)
  refine goes_ Try.func16 (by kernel_rfl) rfl #[.agg #[.slice Ac8 l0.length cc8], .agg #[.slice Ac19 l0.length cc19]] (by rfl) rfl rfl (by (try simp only [List.map_toArray, List.map_cons, List.map_nil]); first | done | rfl | (simp only [List.length_drop, List.length_take]; rfl)) ?_
  refine (sameM_any Ac8 Ac19 cc8 cc19 l0 _ HF0.out Oc8.out.C Lc8.out Oc19.out.C Lc19.out).mono ?_
  rintro e w20 ⟨rfl, hb⟩
  refine ⟨_, rfl, ?_⟩
  replace Oc8 := Aside0.mk (Oc8.out.below hb)
  replace Oc11 := Aside0.mk (Oc11.out.below hb)
  replace Og14 := Aside0.mk (Og14.out.below hb)
  replace Oc19 := Aside0.mk (Oc19.out.below hb)
  replace K1 := Aside0.mk (blk_below K1.out hb)
  replace K2 := Aside0.mk (blk_below K2.out hb)
  replace K3 := Aside0.mk (blk_below K3.out hb)
  replace K4 := Aside0.mk (blk_below K4.out hb)
  replace K5 := Aside0.mk (blk_below K5.out hb)
  replace K6 := Aside0.mk (blk_below K6.out hb)
  replace BW := Aside0.mk (below_step BW.out hb)
  replace BS := Aside0.mk (below_step BS.out hb)
  have Z20 := Aside0.mk (show w19.heap.size ≤ w20.heap.size from hb.size)
  clear hb
  refine hK.out _ _ ⟨(blk_cell K4.out 0).trans rfl, (blk_cell K1.out 0).trans rfl⟩ (fun hHeld => ?_)
  clear hK K
  refine norm_ (a' := ?_) ?_ ?_
  rotate_left
  · show Act.put _ (some 57) _ = _
    simp only [Act.put, List.setIfInBounds_toArray, List.set_cons_zero, List.set_cons_succ, i64_w, i32_w]
    rfl
  refine pure_ (i := 4) (N := some 58) (v := ?_) (a' := ?_) #[true, true, true, true, true] rfl rfl (by kernel_rfl) (fun _ _ _ h => h) (Or.inl ⟨by rfl, ?_⟩) ?_ ?_
  rotate_left
  · intro w'
    go_simp
    with_reducible rfl
  rotate_left
  · simp only [Act.put, List.setIfInBounds_toArray, List.set_cons_zero, List.set_cons_succ, i64_w, i32_w]
    rfl
  refine done_ (by kernel_rfl) ?_
  have hz1 : w20.cell? ⟨g1, 0, none⟩ = some (.slice A0 l0.length c0) := (blk_cell K1.out 0).trans rfl
  have hf1 := blk_frozen K1.out 0
  have hz2 : w20.cell? ⟨g2, 0, none⟩ = some (.slice A1 l1.length c1) := (blk_cell K2.out 0).trans rfl
  have hf2 := blk_frozen K2.out 0
  have hz3 : w20.cell? ⟨g3, 0, none⟩ = some (.slice Aw G.length cw) := (blk_cell K3.out 0).trans rfl
  have hf3 := blk_frozen K3.out 0
  have hz4 : w20.cell? ⟨g4, 0, none⟩ = some (.slice Ac8 l0.length cc8) := (blk_cell K4.out 0).trans rfl
  have hf4 := blk_frozen K4.out 0
  have hz5 : w20.cell? ⟨g5, 0, none⟩ = some (.slice Ac11 l1.length cc11) := (blk_cell K5.out 0).trans rfl
  have hf5 := blk_frozen K5.out 0
  have hz6 : w20.cell? ⟨g6, 0, none⟩ = some (.slice Ag14 G.length cg14) := (blk_cell K6.out 0).trans rfl
  have hf6 := blk_frozen K6.out 0
  have hn1_2 := E1_2.out
  have hn1_3 := E1_3.out
  have hn1_4 := E1_4.out
  have hn1_5 := E1_5.out
  have hn1_6 := E1_6.out
  have hn2_1 := E2_1.out
  have hn2_3 := E2_3.out
  have hn2_4 := E2_4.out
  have hn2_5 := E2_5.out
  have hn2_6 := E2_6.out
  have hn3_1 := E3_1.out
  have hn3_2 := E3_2.out
  have hn3_4 := E3_4.out
  have hn3_5 := E3_5.out
  have hn3_6 := E3_6.out
  have hn4_1 := E4_1.out
  have hn4_2 := E4_2.out
  have hn4_3 := E4_3.out
  have hn4_5 := E4_5.out
  have hn4_6 := E4_6.out
  have hn5_1 := E5_1.out
  have hn5_2 := E5_2.out
  have hn5_3 := E5_3.out
  have hn5_4 := E5_4.out
  have hn5_6 := E5_6.out
  have hn6_1 := E6_1.out
  have hn6_2 := E6_2.out
  have hn6_3 := E6_3.out
  have hn6_4 := E6_4.out
  have hn6_5 := E6_5.out
  go_wp2_with (fail)
  clear hz1 hf1 hz2 hf2 hz3 hf3 hz4 hf4 hz5 hf5 hz6 hf6 hn1_2 hn1_3 hn1_4 hn1_5 hn1_6 hn2_1 hn2_3 hn2_4 hn2_5 hn2_6 hn3_1 hn3_2 hn3_4 hn3_5 hn3_6 hn4_1 hn4_2 hn4_3 hn4_5 hn4_6 hn5_1 hn5_2 hn5_3 hn5_4 hn5_6 hn6_1 hn6_2 hn6_3 hn6_4 hn6_5
  replace Oc8 := Aside0.mk (Oc8.out.drew)
  replace Oc11 := Aside0.mk (Oc11.out.drew)
  replace Og14 := Aside0.mk (Og14.out.drew)
  replace Oc19 := Aside0.mk (Oc19.out.drew)
  replace K1 := Aside0.mk (blk_drew K1.out)
  replace K2 := Aside0.mk (blk_drew K2.out)
  replace K3 := Aside0.mk (blk_drew K3.out)
  replace K4 := Aside0.mk (blk_drew K4.out)
  replace K5 := Aside0.mk (blk_drew K5.out)
  replace K6 := Aside0.mk (blk_drew K6.out)
  replace BW := Aside0.mk (below_drew1 BW.out)
  replace BS := Aside0.mk (below_drew1 BS.out)
  have Z21 := Aside0.mk (show w20.heap.size ≤ w20.drew.heap.size from Nat.le_refl _)
  refine start_ (n := 5) (S := fun w' => w'.cell? ⟨g5, 0, none⟩ = some (.slice Ac11 l1.length cc11) ∧ w'.cell? ⟨g2, 0, none⟩ = some (.slice A1 l1.length c1)) (ds := []) #[false, false, false, false, false] (by kernel_rfl) rfl rfl ⟨(blk_cell K5.out 0).trans rfl, (blk_cell K2.out 0).trans rfl⟩ (fun hHeld => ?_)
  generalize w20.drew = w21 at Oc8 Oc11 Og14 Oc19 K1 K2 K3 K4 K5 K6 BW Z21 BS hHeld ⊢
  refine take_ (i := 0) (N := some 59) (v := ?_) (a' := ?_) #[true, false, false, false, false] rfl rfl (by kernel_rfl) (fun _ _ _ h => h) (Or.inl ⟨by rfl, ?_⟩) hHeld ?_ ?_
  rotate_left
  · rintro w' ⟨s0, s1⟩
    go_simp
    with_reducible rfl
  rotate_left
  · simp only [Act.put, List.setIfInBounds_toArray, List.set_cons_zero, List.set_cons_succ, i64_w, i32_w]
    rfl
  refine take_ (i := 1) (N := some 60) (v := ?_) (a' := ?_) #[true, true, false, false, false] rfl rfl (by kernel_rfl) (fun _ _ _ h => h) (Or.inl ⟨by rfl, ?_⟩) hHeld ?_ ?_
  rotate_left
  · rintro w' ⟨s0, s1⟩
    go_simp
    with_reducible rfl
  rotate_left
  · simp only [Act.put, List.setIfInBounds_toArray, List.set_cons_zero, List.set_cons_succ, i64_w, i32_w]
    rfl
  refine one_ (i := 2) (N := some 61) #[true, true, true, false, false] rfl rfl (by kernel_rfl) (by decide) (fun K hK => ?_)
  refine goes_ Try.func14 (by kernel_rfl) rfl #[.agg #[.slice A1 l1.length c1]] (by rfl) rfl rfl (by (try simp only [List.map_toArray, List.map_cons, List.map_nil]); first | done | rfl | (simp only [List.length_drop, List.length_take]; rfl)) ?_
  refine (copyM_any A1 c1 l1 _ HF1.out (Kd.C_below HR1.out BW.out) HC1.out).mono ?_
  rintro e w22 ⟨Ac22, cc22, rfl, hl, hO, hb⟩
  refine ⟨_, rfl, ?_⟩
  replace Oc8 := Aside0.mk (Oc8.out.below hb)
  replace Oc11 := Aside0.mk (Oc11.out.below hb)
  replace Og14 := Aside0.mk (Og14.out.below hb)
  replace Oc19 := Aside0.mk (Oc19.out.below hb)
  replace K1 := Aside0.mk (blk_below K1.out hb)
  replace K2 := Aside0.mk (blk_below K2.out hb)
  replace K3 := Aside0.mk (blk_below K3.out hb)
  replace K4 := Aside0.mk (blk_below K4.out hb)
  replace K5 := Aside0.mk (blk_below K5.out hb)
  replace K6 := Aside0.mk (blk_below K6.out hb)
  replace BW := Aside0.mk (below_step BW.out hb)
  replace BS := Aside0.mk (below_step BS.out hb)
  have Z22 := Aside0.mk (show w21.heap.size ≤ w22.heap.size from hb.size)
  have Oc22 := Aside0.mk (hO.lower (base' := w7.heap.size) (by have := G1_.out; have := G2_.out; have := G3_.out; have := N1_2.out; have := N1_3.out; have := N2_3.out; have := Z8.out; have := Z9.out; have := G4.out; have := Z10.out; have := Z11.out; have := Z12.out; have := G5.out; have := Z13.out; have := Z14.out; have := Z15.out; have := G6.out; have := Z16.out; have := Z17.out; have := Z18.out; have := Z19.out; have := Z20.out; have := Z21.out; have := Z22.out; omega))
  have Lc22 := Aside0.mk hl
  clear hb hl hO
  refine hK.out _ _ ⟨(blk_cell K5.out 0).trans rfl, (blk_cell K2.out 0).trans rfl⟩ (fun hHeld => ?_)
  clear hK K
  refine norm_ (a' := ?_) ?_ ?_
  rotate_left
  · show Act.put _ (some 61) _ = _
    simp only [Act.put, List.setIfInBounds_toArray, List.set_cons_zero, List.set_cons_succ, i64_w, i32_w]
    rfl
  refine one_ (i := 3) (N := some 62) #[true, true, true, true, false] rfl rfl (by kernel_rfl) (by decide) (fun K hK => ?_)
  refine goes_ Try.func16 (by kernel_rfl) rfl #[.agg #[.slice Ac11 l1.length cc11], .agg #[.slice Ac22 l1.length cc22]] (by rfl) rfl rfl (by (try simp only [List.map_toArray, List.map_cons, List.map_nil]); first | done | rfl | (simp only [List.length_drop, List.length_take]; rfl)) ?_
  refine (sameM_any Ac11 Ac22 cc11 cc22 l1 _ HF1.out Oc11.out.C Lc11.out Oc22.out.C Lc22.out).mono ?_
  rintro e w23 ⟨rfl, hb⟩
  refine ⟨_, rfl, ?_⟩
  replace Oc8 := Aside0.mk (Oc8.out.below hb)
  replace Oc11 := Aside0.mk (Oc11.out.below hb)
  replace Og14 := Aside0.mk (Og14.out.below hb)
  replace Oc19 := Aside0.mk (Oc19.out.below hb)
  replace Oc22 := Aside0.mk (Oc22.out.below hb)
  replace K1 := Aside0.mk (blk_below K1.out hb)
  replace K2 := Aside0.mk (blk_below K2.out hb)
  replace K3 := Aside0.mk (blk_below K3.out hb)
  replace K4 := Aside0.mk (blk_below K4.out hb)
  replace K5 := Aside0.mk (blk_below K5.out hb)
  replace K6 := Aside0.mk (blk_below K6.out hb)
  replace BW := Aside0.mk (below_step BW.out hb)
  replace BS := Aside0.mk (below_step BS.out hb)
  have Z23 := Aside0.mk (show w22.heap.size ≤ w23.heap.size from hb.size)
  clear hb
  refine hK.out _ _ ⟨(blk_cell K5.out 0).trans rfl, (blk_cell K2.out 0).trans rfl⟩ (fun hHeld => ?_)
  clear hK K
  refine norm_ (a' := ?_) ?_ ?_
  rotate_left
  · show Act.put _ (some 62) _ = _
    simp only [Act.put, List.setIfInBounds_toArray, List.set_cons_zero, List.set_cons_succ, i64_w, i32_w]
    rfl
  refine pure_ (i := 4) (N := some 63) (v := ?_) (a' := ?_) #[true, true, true, true, true] rfl rfl (by kernel_rfl) (fun _ _ _ h => h) (Or.inl ⟨by rfl, ?_⟩) ?_ ?_
  rotate_left
  · intro w'
    go_simp
    with_reducible rfl
  rotate_left
  · simp only [Act.put, List.setIfInBounds_toArray, List.set_cons_zero, List.set_cons_succ, i64_w, i32_w]
    rfl
  refine done_ (by kernel_rfl) ?_
  have hz1 : w23.cell? ⟨g1, 0, none⟩ = some (.slice A0 l0.length c0) := (blk_cell K1.out 0).trans rfl
  have hf1 := blk_frozen K1.out 0
  have hz2 : w23.cell? ⟨g2, 0, none⟩ = some (.slice A1 l1.length c1) := (blk_cell K2.out 0).trans rfl
  have hf2 := blk_frozen K2.out 0
  have hz3 : w23.cell? ⟨g3, 0, none⟩ = some (.slice Aw G.length cw) := (blk_cell K3.out 0).trans rfl
  have hf3 := blk_frozen K3.out 0
  have hz4 : w23.cell? ⟨g4, 0, none⟩ = some (.slice Ac8 l0.length cc8) := (blk_cell K4.out 0).trans rfl
  have hf4 := blk_frozen K4.out 0
  have hz5 : w23.cell? ⟨g5, 0, none⟩ = some (.slice Ac11 l1.length cc11) := (blk_cell K5.out 0).trans rfl
  have hf5 := blk_frozen K5.out 0
  have hz6 : w23.cell? ⟨g6, 0, none⟩ = some (.slice Ag14 G.length cg14) := (blk_cell K6.out 0).trans rfl
  have hf6 := blk_frozen K6.out 0
  have hn1_2 := E1_2.out
  have hn1_3 := E1_3.out
  have hn1_4 := E1_4.out
  have hn1_5 := E1_5.out
  have hn1_6 := E1_6.out
  have hn2_1 := E2_1.out
  have hn2_3 := E2_3.out
  have hn2_4 := E2_4.out
  have hn2_5 := E2_5.out
  have hn2_6 := E2_6.out
  have hn3_1 := E3_1.out
  have hn3_2 := E3_2.out
  have hn3_4 := E3_4.out
  have hn3_5 := E3_5.out
  have hn3_6 := E3_6.out
  have hn4_1 := E4_1.out
  have hn4_2 := E4_2.out
  have hn4_3 := E4_3.out
  have hn4_5 := E4_5.out
  have hn4_6 := E4_6.out
  have hn5_1 := E5_1.out
  have hn5_2 := E5_2.out
  have hn5_3 := E5_3.out
  have hn5_4 := E5_4.out
  have hn5_6 := E5_6.out
  have hn6_1 := E6_1.out
  have hn6_2 := E6_2.out
  have hn6_3 := E6_3.out
  have hn6_4 := E6_4.out
  have hn6_5 := E6_5.out
  go_wp2_with (fail)
  clear hz1 hf1 hz2 hf2 hz3 hf3 hz4 hf4 hz5 hf5 hz6 hf6 hn1_2 hn1_3 hn1_4 hn1_5 hn1_6 hn2_1 hn2_3 hn2_4 hn2_5 hn2_6 hn3_1 hn3_2 hn3_4 hn3_5 hn3_6 hn4_1 hn4_2 hn4_3 hn4_5 hn4_6 hn5_1 hn5_2 hn5_3 hn5_4 hn5_6 hn6_1 hn6_2 hn6_3 hn6_4 hn6_5
  refine (markM_any w7 w7.heap.size w8.heap.size Ac8 cc8 l0 (1) _ BS.out Oc8.out HN0.out HA0.out.1 HA0.out.2 (by have := G1_.out; have := G2_.out; have := G3_.out; have := N1_2.out; have := N1_3.out; have := N2_3.out; have := Z8.out; have := Z9.out; have := G4.out; have := Z10.out; have := Z11.out; have := Z12.out; have := G5.out; have := Z13.out; have := Z14.out; have := Z15.out; have := G6.out; have := Z16.out; have := Z17.out; have := Z18.out; have := Z19.out; have := Z20.out; have := Z21.out; have := Z22.out; have := Z23.out; omega)).mono ?_
  rintro e w24 ⟨rfl, hO, hb, hk⟩
  replace BS := Aside0.mk hb
  replace BW := Aside0.mk (below_step B0.out hb)
  have Z24 := Aside0.mk (show w23.heap.size ≤ w24.heap.size from hk.1)
  replace Oc11 := Aside0.mk (Oc11.out.kept hk (by have := G1_.out; have := G2_.out; have := G3_.out; have := N1_2.out; have := N1_3.out; have := N2_3.out; have := Z8.out; have := Z9.out; have := G4.out; have := Z10.out; have := Z11.out; have := Z12.out; have := G5.out; have := Z13.out; have := Z14.out; have := Z15.out; have := G6.out; have := Z16.out; have := Z17.out; have := Z18.out; have := Z19.out; have := Z20.out; have := Z21.out; have := Z22.out; have := Z23.out; have := Z24.out; omega))
  replace Og14 := Aside0.mk (Og14.out.kept hk (by have := G1_.out; have := G2_.out; have := G3_.out; have := N1_2.out; have := N1_3.out; have := N2_3.out; have := Z8.out; have := Z9.out; have := G4.out; have := Z10.out; have := Z11.out; have := Z12.out; have := G5.out; have := Z13.out; have := Z14.out; have := Z15.out; have := G6.out; have := Z16.out; have := Z17.out; have := Z18.out; have := Z19.out; have := Z20.out; have := Z21.out; have := Z22.out; have := Z23.out; have := Z24.out; omega))
  replace Oc19 := Aside0.mk (Oc19.out.kept hk (by have := G1_.out; have := G2_.out; have := G3_.out; have := N1_2.out; have := N1_3.out; have := N2_3.out; have := Z8.out; have := Z9.out; have := G4.out; have := Z10.out; have := Z11.out; have := Z12.out; have := G5.out; have := Z13.out; have := Z14.out; have := Z15.out; have := G6.out; have := Z16.out; have := Z17.out; have := Z18.out; have := Z19.out; have := Z20.out; have := Z21.out; have := Z22.out; have := Z23.out; have := Z24.out; omega))
  replace Oc22 := Aside0.mk (Oc22.out.kept hk (by have := G1_.out; have := G2_.out; have := G3_.out; have := N1_2.out; have := N1_3.out; have := N2_3.out; have := Z8.out; have := Z9.out; have := G4.out; have := Z10.out; have := Z11.out; have := Z12.out; have := G5.out; have := Z13.out; have := Z14.out; have := Z15.out; have := G6.out; have := Z16.out; have := Z17.out; have := Z18.out; have := Z19.out; have := Z20.out; have := Z21.out; have := Z22.out; have := Z23.out; have := Z24.out; omega))
  replace K1 := Aside0.mk (blk_kept K1.out hk (fun hh => by have := G1_.out; have := G2_.out; have := G3_.out; have := N1_2.out; have := N1_3.out; have := N2_3.out; have := Z8.out; have := Z9.out; have := G4.out; have := Z10.out; have := Z11.out; have := Z12.out; have := G5.out; have := Z13.out; have := Z14.out; have := Z15.out; have := G6.out; have := Z16.out; have := Z17.out; have := Z18.out; have := Z19.out; have := Z20.out; have := Z21.out; have := Z22.out; have := Z23.out; have := Z24.out; obtain ⟨h1, h2⟩ := hh; omega))
  replace K2 := Aside0.mk (blk_kept K2.out hk (fun hh => by have := G1_.out; have := G2_.out; have := G3_.out; have := N1_2.out; have := N1_3.out; have := N2_3.out; have := Z8.out; have := Z9.out; have := G4.out; have := Z10.out; have := Z11.out; have := Z12.out; have := G5.out; have := Z13.out; have := Z14.out; have := Z15.out; have := G6.out; have := Z16.out; have := Z17.out; have := Z18.out; have := Z19.out; have := Z20.out; have := Z21.out; have := Z22.out; have := Z23.out; have := Z24.out; obtain ⟨h1, h2⟩ := hh; omega))
  replace K3 := Aside0.mk (blk_kept K3.out hk (fun hh => by have := G1_.out; have := G2_.out; have := G3_.out; have := N1_2.out; have := N1_3.out; have := N2_3.out; have := Z8.out; have := Z9.out; have := G4.out; have := Z10.out; have := Z11.out; have := Z12.out; have := G5.out; have := Z13.out; have := Z14.out; have := Z15.out; have := G6.out; have := Z16.out; have := Z17.out; have := Z18.out; have := Z19.out; have := Z20.out; have := Z21.out; have := Z22.out; have := Z23.out; have := Z24.out; obtain ⟨h1, h2⟩ := hh; omega))
  replace K4 := Aside0.mk (blk_kept K4.out hk (fun hh => by have := G1_.out; have := G2_.out; have := G3_.out; have := N1_2.out; have := N1_3.out; have := N2_3.out; have := Z8.out; have := Z9.out; have := G4.out; have := Z10.out; have := Z11.out; have := Z12.out; have := G5.out; have := Z13.out; have := Z14.out; have := Z15.out; have := G6.out; have := Z16.out; have := Z17.out; have := Z18.out; have := Z19.out; have := Z20.out; have := Z21.out; have := Z22.out; have := Z23.out; have := Z24.out; obtain ⟨h1, h2⟩ := hh; omega))
  replace K5 := Aside0.mk (blk_kept K5.out hk (fun hh => by have := G1_.out; have := G2_.out; have := G3_.out; have := N1_2.out; have := N1_3.out; have := N2_3.out; have := Z8.out; have := Z9.out; have := G4.out; have := Z10.out; have := Z11.out; have := Z12.out; have := G5.out; have := Z13.out; have := Z14.out; have := Z15.out; have := G6.out; have := Z16.out; have := Z17.out; have := Z18.out; have := Z19.out; have := Z20.out; have := Z21.out; have := Z22.out; have := Z23.out; have := Z24.out; obtain ⟨h1, h2⟩ := hh; omega))
  replace K6 := Aside0.mk (blk_kept K6.out hk (fun hh => by have := G1_.out; have := G2_.out; have := G3_.out; have := N1_2.out; have := N1_3.out; have := N2_3.out; have := Z8.out; have := Z9.out; have := G4.out; have := Z10.out; have := Z11.out; have := Z12.out; have := G5.out; have := Z13.out; have := Z14.out; have := Z15.out; have := G6.out; have := Z16.out; have := Z17.out; have := Z18.out; have := Z19.out; have := Z20.out; have := Z21.out; have := Z22.out; have := Z23.out; have := Z24.out; obtain ⟨h1, h2⟩ := hh; omega))
  replace Oc8 := Aside0.mk hO
  clear hb hO hk
  have hz1 : w24.cell? ⟨g1, 0, none⟩ = some (.slice A0 l0.length c0) := (blk_cell K1.out 0).trans rfl
  have hf1 := blk_frozen K1.out 0
  have hz2 : w24.cell? ⟨g2, 0, none⟩ = some (.slice A1 l1.length c1) := (blk_cell K2.out 0).trans rfl
  have hf2 := blk_frozen K2.out 0
  have hz3 : w24.cell? ⟨g3, 0, none⟩ = some (.slice Aw G.length cw) := (blk_cell K3.out 0).trans rfl
  have hf3 := blk_frozen K3.out 0
  have hz4 : w24.cell? ⟨g4, 0, none⟩ = some (.slice Ac8 l0.length cc8) := (blk_cell K4.out 0).trans rfl
  have hf4 := blk_frozen K4.out 0
  have hz5 : w24.cell? ⟨g5, 0, none⟩ = some (.slice Ac11 l1.length cc11) := (blk_cell K5.out 0).trans rfl
  have hf5 := blk_frozen K5.out 0
  have hz6 : w24.cell? ⟨g6, 0, none⟩ = some (.slice Ag14 G.length cg14) := (blk_cell K6.out 0).trans rfl
  have hf6 := blk_frozen K6.out 0
  have hn1_2 := E1_2.out
  have hn1_3 := E1_3.out
  have hn1_4 := E1_4.out
  have hn1_5 := E1_5.out
  have hn1_6 := E1_6.out
  have hn2_1 := E2_1.out
  have hn2_3 := E2_3.out
  have hn2_4 := E2_4.out
  have hn2_5 := E2_5.out
  have hn2_6 := E2_6.out
  have hn3_1 := E3_1.out
  have hn3_2 := E3_2.out
  have hn3_4 := E3_4.out
  have hn3_5 := E3_5.out
  have hn3_6 := E3_6.out
  have hn4_1 := E4_1.out
  have hn4_2 := E4_2.out
  have hn4_3 := E4_3.out
  have hn4_5 := E4_5.out
  have hn4_6 := E4_6.out
  have hn5_1 := E5_1.out
  have hn5_2 := E5_2.out
  have hn5_3 := E5_3.out
  have hn5_4 := E5_4.out
  have hn5_6 := E5_6.out
  have hn6_1 := E6_1.out
  have hn6_2 := E6_2.out
  have hn6_3 := E6_3.out
  have hn6_4 := E6_4.out
  have hn6_5 := E6_5.out
  go_wp2_with (fail)
  clear hz1 hf1 hz2 hf2 hz3 hf3 hz4 hf4 hz5 hf5 hz6 hf6 hn1_2 hn1_3 hn1_4 hn1_5 hn1_6 hn2_1 hn2_3 hn2_4 hn2_5 hn2_6 hn3_1 hn3_2 hn3_4 hn3_5 hn3_6 hn4_1 hn4_2 hn4_3 hn4_5 hn4_6 hn5_1 hn5_2 hn5_3 hn5_4 hn5_6 hn6_1 hn6_2 hn6_3 hn6_4 hn6_5
  refine (markM_any w7 w10.heap.size w11.heap.size Ac11 cc11 l1 (1 + ((tot l0 : Nat) : Int)) _ BS.out Oc11.out HN1.out HA1.out.1 HA1.out.2 (by have := G1_.out; have := G2_.out; have := G3_.out; have := N1_2.out; have := N1_3.out; have := N2_3.out; have := Z8.out; have := Z9.out; have := G4.out; have := Z10.out; have := Z11.out; have := Z12.out; have := G5.out; have := Z13.out; have := Z14.out; have := Z15.out; have := G6.out; have := Z16.out; have := Z17.out; have := Z18.out; have := Z19.out; have := Z20.out; have := Z21.out; have := Z22.out; have := Z23.out; have := Z24.out; omega)).mono ?_
  rintro e w25 ⟨rfl, hO, hb, hk⟩
  replace BS := Aside0.mk hb
  replace BW := Aside0.mk (below_step B0.out hb)
  have Z25 := Aside0.mk (show w24.heap.size ≤ w25.heap.size from hk.1)
  replace Og14 := Aside0.mk (Og14.out.kept hk (by have := G1_.out; have := G2_.out; have := G3_.out; have := N1_2.out; have := N1_3.out; have := N2_3.out; have := Z8.out; have := Z9.out; have := G4.out; have := Z10.out; have := Z11.out; have := Z12.out; have := G5.out; have := Z13.out; have := Z14.out; have := Z15.out; have := G6.out; have := Z16.out; have := Z17.out; have := Z18.out; have := Z19.out; have := Z20.out; have := Z21.out; have := Z22.out; have := Z23.out; have := Z24.out; have := Z25.out; omega))
  replace Oc19 := Aside0.mk (Oc19.out.kept hk (by have := G1_.out; have := G2_.out; have := G3_.out; have := N1_2.out; have := N1_3.out; have := N2_3.out; have := Z8.out; have := Z9.out; have := G4.out; have := Z10.out; have := Z11.out; have := Z12.out; have := G5.out; have := Z13.out; have := Z14.out; have := Z15.out; have := G6.out; have := Z16.out; have := Z17.out; have := Z18.out; have := Z19.out; have := Z20.out; have := Z21.out; have := Z22.out; have := Z23.out; have := Z24.out; have := Z25.out; omega))
  replace Oc22 := Aside0.mk (Oc22.out.kept hk (by have := G1_.out; have := G2_.out; have := G3_.out; have := N1_2.out; have := N1_3.out; have := N2_3.out; have := Z8.out; have := Z9.out; have := G4.out; have := Z10.out; have := Z11.out; have := Z12.out; have := G5.out; have := Z13.out; have := Z14.out; have := Z15.out; have := G6.out; have := Z16.out; have := Z17.out; have := Z18.out; have := Z19.out; have := Z20.out; have := Z21.out; have := Z22.out; have := Z23.out; have := Z24.out; have := Z25.out; omega))
  replace Oc8 := Aside0.mk (Oc8.out.kept hk (by have := G1_.out; have := G2_.out; have := G3_.out; have := N1_2.out; have := N1_3.out; have := N2_3.out; have := Z8.out; have := Z9.out; have := G4.out; have := Z10.out; have := Z11.out; have := Z12.out; have := G5.out; have := Z13.out; have := Z14.out; have := Z15.out; have := G6.out; have := Z16.out; have := Z17.out; have := Z18.out; have := Z19.out; have := Z20.out; have := Z21.out; have := Z22.out; have := Z23.out; have := Z24.out; have := Z25.out; omega))
  replace K1 := Aside0.mk (blk_kept K1.out hk (fun hh => by have := G1_.out; have := G2_.out; have := G3_.out; have := N1_2.out; have := N1_3.out; have := N2_3.out; have := Z8.out; have := Z9.out; have := G4.out; have := Z10.out; have := Z11.out; have := Z12.out; have := G5.out; have := Z13.out; have := Z14.out; have := Z15.out; have := G6.out; have := Z16.out; have := Z17.out; have := Z18.out; have := Z19.out; have := Z20.out; have := Z21.out; have := Z22.out; have := Z23.out; have := Z24.out; have := Z25.out; obtain ⟨h1, h2⟩ := hh; omega))
  replace K2 := Aside0.mk (blk_kept K2.out hk (fun hh => by have := G1_.out; have := G2_.out; have := G3_.out; have := N1_2.out; have := N1_3.out; have := N2_3.out; have := Z8.out; have := Z9.out; have := G4.out; have := Z10.out; have := Z11.out; have := Z12.out; have := G5.out; have := Z13.out; have := Z14.out; have := Z15.out; have := G6.out; have := Z16.out; have := Z17.out; have := Z18.out; have := Z19.out; have := Z20.out; have := Z21.out; have := Z22.out; have := Z23.out; have := Z24.out; have := Z25.out; obtain ⟨h1, h2⟩ := hh; omega))
  replace K3 := Aside0.mk (blk_kept K3.out hk (fun hh => by have := G1_.out; have := G2_.out; have := G3_.out; have := N1_2.out; have := N1_3.out; have := N2_3.out; have := Z8.out; have := Z9.out; have := G4.out; have := Z10.out; have := Z11.out; have := Z12.out; have := G5.out; have := Z13.out; have := Z14.out; have := Z15.out; have := G6.out; have := Z16.out; have := Z17.out; have := Z18.out; have := Z19.out; have := Z20.out; have := Z21.out; have := Z22.out; have := Z23.out; have := Z24.out; have := Z25.out; obtain ⟨h1, h2⟩ := hh; omega))
  replace K4 := Aside0.mk (blk_kept K4.out hk (fun hh => by have := G1_.out; have := G2_.out; have := G3_.out; have := N1_2.out; have := N1_3.out; have := N2_3.out; have := Z8.out; have := Z9.out; have := G4.out; have := Z10.out; have := Z11.out; have := Z12.out; have := G5.out; have := Z13.out; have := Z14.out; have := Z15.out; have := G6.out; have := Z16.out; have := Z17.out; have := Z18.out; have := Z19.out; have := Z20.out; have := Z21.out; have := Z22.out; have := Z23.out; have := Z24.out; have := Z25.out; obtain ⟨h1, h2⟩ := hh; omega))
  replace K5 := Aside0.mk (blk_kept K5.out hk (fun hh => by have := G1_.out; have := G2_.out; have := G3_.out; have := N1_2.out; have := N1_3.out; have := N2_3.out; have := Z8.out; have := Z9.out; have := G4.out; have := Z10.out; have := Z11.out; have := Z12.out; have := G5.out; have := Z13.out; have := Z14.out; have := Z15.out; have := G6.out; have := Z16.out; have := Z17.out; have := Z18.out; have := Z19.out; have := Z20.out; have := Z21.out; have := Z22.out; have := Z23.out; have := Z24.out; have := Z25.out; obtain ⟨h1, h2⟩ := hh; omega))
  replace K6 := Aside0.mk (blk_kept K6.out hk (fun hh => by have := G1_.out; have := G2_.out; have := G3_.out; have := N1_2.out; have := N1_3.out; have := N2_3.out; have := Z8.out; have := Z9.out; have := G4.out; have := Z10.out; have := Z11.out; have := Z12.out; have := G5.out; have := Z13.out; have := Z14.out; have := Z15.out; have := G6.out; have := Z16.out; have := Z17.out; have := Z18.out; have := Z19.out; have := Z20.out; have := Z21.out; have := Z22.out; have := Z23.out; have := Z24.out; have := Z25.out; obtain ⟨h1, h2⟩ := hh; omega))
  replace Oc11 := Aside0.mk hO
  clear hb hO hk
  have hz1 : w25.cell? ⟨g1, 0, none⟩ = some (.slice A0 l0.length c0) := (blk_cell K1.out 0).trans rfl
  have hf1 := blk_frozen K1.out 0
  have hz2 : w25.cell? ⟨g2, 0, none⟩ = some (.slice A1 l1.length c1) := (blk_cell K2.out 0).trans rfl
  have hf2 := blk_frozen K2.out 0
  have hz3 : w25.cell? ⟨g3, 0, none⟩ = some (.slice Aw G.length cw) := (blk_cell K3.out 0).trans rfl
  have hf3 := blk_frozen K3.out 0
  have hz4 : w25.cell? ⟨g4, 0, none⟩ = some (.slice Ac8 l0.length cc8) := (blk_cell K4.out 0).trans rfl
  have hf4 := blk_frozen K4.out 0
  have hz5 : w25.cell? ⟨g5, 0, none⟩ = some (.slice Ac11 l1.length cc11) := (blk_cell K5.out 0).trans rfl
  have hf5 := blk_frozen K5.out 0
  have hz6 : w25.cell? ⟨g6, 0, none⟩ = some (.slice Ag14 G.length cg14) := (blk_cell K6.out 0).trans rfl
  have hf6 := blk_frozen K6.out 0
  have hn1_2 := E1_2.out
  have hn1_3 := E1_3.out
  have hn1_4 := E1_4.out
  have hn1_5 := E1_5.out
  have hn1_6 := E1_6.out
  have hn2_1 := E2_1.out
  have hn2_3 := E2_3.out
  have hn2_4 := E2_4.out
  have hn2_5 := E2_5.out
  have hn2_6 := E2_6.out
  have hn3_1 := E3_1.out
  have hn3_2 := E3_2.out
  have hn3_4 := E3_4.out
  have hn3_5 := E3_5.out
  have hn3_6 := E3_6.out
  have hn4_1 := E4_1.out
  have hn4_2 := E4_2.out
  have hn4_3 := E4_3.out
  have hn4_5 := E4_5.out
  have hn4_6 := E4_6.out
  have hn5_1 := E5_1.out
  have hn5_2 := E5_2.out
  have hn5_3 := E5_3.out
  have hn5_4 := E5_4.out
  have hn5_6 := E5_6.out
  have hn6_1 := E6_1.out
  have hn6_2 := E6_2.out
  have hn6_3 := E6_3.out
  have hn6_4 := E6_4.out
  have hn6_5 := E6_5.out
  go_wp2_with (fail)
  clear hz1 hf1 hz2 hf2 hz3 hf3 hz4 hf4 hz5 hf5 hz6 hf6 hn1_2 hn1_3 hn1_4 hn1_5 hn1_6 hn2_1 hn2_3 hn2_4 hn2_5 hn2_6 hn3_1 hn3_2 hn3_4 hn3_5 hn3_6 hn4_1 hn4_2 hn4_3 hn4_5 hn4_6 hn5_1 hn5_2 hn5_3 hn5_4 hn5_6 hn6_1 hn6_2 hn6_3 hn6_4 hn6_5
  refine (sameM_any Ag14 Aw cg14 cw G _ HF.out Og14.out.C Lg14.out (Kd.C_below CW.out BS.out) LW.out).mono ?_
  rintro e w26 ⟨rfl, hb⟩
  replace Og14 := Aside0.mk (Og14.out.below hb)
  replace Oc19 := Aside0.mk (Oc19.out.below hb)
  replace Oc22 := Aside0.mk (Oc22.out.below hb)
  replace Oc8 := Aside0.mk (Oc8.out.below hb)
  replace Oc11 := Aside0.mk (Oc11.out.below hb)
  replace K1 := Aside0.mk (blk_below K1.out hb)
  replace K2 := Aside0.mk (blk_below K2.out hb)
  replace K3 := Aside0.mk (blk_below K3.out hb)
  replace K4 := Aside0.mk (blk_below K4.out hb)
  replace K5 := Aside0.mk (blk_below K5.out hb)
  replace K6 := Aside0.mk (blk_below K6.out hb)
  replace BW := Aside0.mk (below_step BW.out hb)
  replace BS := Aside0.mk (below_step BS.out hb)
  have Z26 := Aside0.mk (show w25.heap.size ≤ w26.heap.size from hb.size)
  clear hb
  have hz1 : w26.cell? ⟨g1, 0, none⟩ = some (.slice A0 l0.length c0) := (blk_cell K1.out 0).trans rfl
  have hf1 := blk_frozen K1.out 0
  have hz2 : w26.cell? ⟨g2, 0, none⟩ = some (.slice A1 l1.length c1) := (blk_cell K2.out 0).trans rfl
  have hf2 := blk_frozen K2.out 0
  have hz3 : w26.cell? ⟨g3, 0, none⟩ = some (.slice Aw G.length cw) := (blk_cell K3.out 0).trans rfl
  have hf3 := blk_frozen K3.out 0
  have hz4 : w26.cell? ⟨g4, 0, none⟩ = some (.slice Ac8 l0.length cc8) := (blk_cell K4.out 0).trans rfl
  have hf4 := blk_frozen K4.out 0
  have hz5 : w26.cell? ⟨g5, 0, none⟩ = some (.slice Ac11 l1.length cc11) := (blk_cell K5.out 0).trans rfl
  have hf5 := blk_frozen K5.out 0
  have hz6 : w26.cell? ⟨g6, 0, none⟩ = some (.slice Ag14 G.length cg14) := (blk_cell K6.out 0).trans rfl
  have hf6 := blk_frozen K6.out 0
  have hn1_2 := E1_2.out
  have hn1_3 := E1_3.out
  have hn1_4 := E1_4.out
  have hn1_5 := E1_5.out
  have hn1_6 := E1_6.out
  have hn2_1 := E2_1.out
  have hn2_3 := E2_3.out
  have hn2_4 := E2_4.out
  have hn2_5 := E2_5.out
  have hn2_6 := E2_6.out
  have hn3_1 := E3_1.out
  have hn3_2 := E3_2.out
  have hn3_4 := E3_4.out
  have hn3_5 := E3_5.out
  have hn3_6 := E3_6.out
  have hn4_1 := E4_1.out
  have hn4_2 := E4_2.out
  have hn4_3 := E4_3.out
  have hn4_5 := E4_5.out
  have hn4_6 := E4_6.out
  have hn5_1 := E5_1.out
  have hn5_2 := E5_2.out
  have hn5_3 := E5_3.out
  have hn5_4 := E5_4.out
  have hn5_6 := E5_6.out
  have hn6_1 := E6_1.out
  have hn6_2 := E6_2.out
  have hn6_3 := E6_3.out
  have hn6_4 := E6_4.out
  have hn6_5 := E6_5.out
  go_wp2_with (fail)
  clear hz1 hf1 hz2 hf2 hz3 hf3 hz4 hf4 hz5 hf5 hz6 hf6 hn1_2 hn1_3 hn1_4 hn1_5 hn1_6 hn2_1 hn2_3 hn2_4 hn2_5 hn2_6 hn3_1 hn3_2 hn3_4 hn3_5 hn3_6 hn4_1 hn4_2 hn4_3 hn4_5 hn4_6 hn5_1 hn5_2 hn5_3 hn5_4 hn5_6 hn6_1 hn6_2 hn6_3 hn6_4 hn6_5
  refine (markM_any w7 w13.heap.size w14.heap.size Ag14 cg14 G 1 _ BS.out Og14.out HG1.out (by omega) HG2.out (by have := G1_.out; have := G2_.out; have := G3_.out; have := N1_2.out; have := N1_3.out; have := N2_3.out; have := Z8.out; have := Z9.out; have := G4.out; have := Z10.out; have := Z11.out; have := Z12.out; have := G5.out; have := Z13.out; have := Z14.out; have := Z15.out; have := G6.out; have := Z16.out; have := Z17.out; have := Z18.out; have := Z19.out; have := Z20.out; have := Z21.out; have := Z22.out; have := Z23.out; have := Z24.out; have := Z25.out; have := Z26.out; omega)).mono ?_
  rintro e w27 ⟨rfl, hO, hb, hk⟩
  replace BS := Aside0.mk hb
  replace BW := Aside0.mk (below_step B0.out hb)
  have Z27 := Aside0.mk (show w26.heap.size ≤ w27.heap.size from hk.1)
  replace Oc19 := Aside0.mk (Oc19.out.kept hk (by have := G1_.out; have := G2_.out; have := G3_.out; have := N1_2.out; have := N1_3.out; have := N2_3.out; have := Z8.out; have := Z9.out; have := G4.out; have := Z10.out; have := Z11.out; have := Z12.out; have := G5.out; have := Z13.out; have := Z14.out; have := Z15.out; have := G6.out; have := Z16.out; have := Z17.out; have := Z18.out; have := Z19.out; have := Z20.out; have := Z21.out; have := Z22.out; have := Z23.out; have := Z24.out; have := Z25.out; have := Z26.out; have := Z27.out; omega))
  replace Oc22 := Aside0.mk (Oc22.out.kept hk (by have := G1_.out; have := G2_.out; have := G3_.out; have := N1_2.out; have := N1_3.out; have := N2_3.out; have := Z8.out; have := Z9.out; have := G4.out; have := Z10.out; have := Z11.out; have := Z12.out; have := G5.out; have := Z13.out; have := Z14.out; have := Z15.out; have := G6.out; have := Z16.out; have := Z17.out; have := Z18.out; have := Z19.out; have := Z20.out; have := Z21.out; have := Z22.out; have := Z23.out; have := Z24.out; have := Z25.out; have := Z26.out; have := Z27.out; omega))
  replace Oc8 := Aside0.mk (Oc8.out.kept hk (by have := G1_.out; have := G2_.out; have := G3_.out; have := N1_2.out; have := N1_3.out; have := N2_3.out; have := Z8.out; have := Z9.out; have := G4.out; have := Z10.out; have := Z11.out; have := Z12.out; have := G5.out; have := Z13.out; have := Z14.out; have := Z15.out; have := G6.out; have := Z16.out; have := Z17.out; have := Z18.out; have := Z19.out; have := Z20.out; have := Z21.out; have := Z22.out; have := Z23.out; have := Z24.out; have := Z25.out; have := Z26.out; have := Z27.out; omega))
  replace Oc11 := Aside0.mk (Oc11.out.kept hk (by have := G1_.out; have := G2_.out; have := G3_.out; have := N1_2.out; have := N1_3.out; have := N2_3.out; have := Z8.out; have := Z9.out; have := G4.out; have := Z10.out; have := Z11.out; have := Z12.out; have := G5.out; have := Z13.out; have := Z14.out; have := Z15.out; have := G6.out; have := Z16.out; have := Z17.out; have := Z18.out; have := Z19.out; have := Z20.out; have := Z21.out; have := Z22.out; have := Z23.out; have := Z24.out; have := Z25.out; have := Z26.out; have := Z27.out; omega))
  replace K1 := Aside0.mk (blk_kept K1.out hk (fun hh => by have := G1_.out; have := G2_.out; have := G3_.out; have := N1_2.out; have := N1_3.out; have := N2_3.out; have := Z8.out; have := Z9.out; have := G4.out; have := Z10.out; have := Z11.out; have := Z12.out; have := G5.out; have := Z13.out; have := Z14.out; have := Z15.out; have := G6.out; have := Z16.out; have := Z17.out; have := Z18.out; have := Z19.out; have := Z20.out; have := Z21.out; have := Z22.out; have := Z23.out; have := Z24.out; have := Z25.out; have := Z26.out; have := Z27.out; obtain ⟨h1, h2⟩ := hh; omega))
  replace K2 := Aside0.mk (blk_kept K2.out hk (fun hh => by have := G1_.out; have := G2_.out; have := G3_.out; have := N1_2.out; have := N1_3.out; have := N2_3.out; have := Z8.out; have := Z9.out; have := G4.out; have := Z10.out; have := Z11.out; have := Z12.out; have := G5.out; have := Z13.out; have := Z14.out; have := Z15.out; have := G6.out; have := Z16.out; have := Z17.out; have := Z18.out; have := Z19.out; have := Z20.out; have := Z21.out; have := Z22.out; have := Z23.out; have := Z24.out; have := Z25.out; have := Z26.out; have := Z27.out; obtain ⟨h1, h2⟩ := hh; omega))
  replace K3 := Aside0.mk (blk_kept K3.out hk (fun hh => by have := G1_.out; have := G2_.out; have := G3_.out; have := N1_2.out; have := N1_3.out; have := N2_3.out; have := Z8.out; have := Z9.out; have := G4.out; have := Z10.out; have := Z11.out; have := Z12.out; have := G5.out; have := Z13.out; have := Z14.out; have := Z15.out; have := G6.out; have := Z16.out; have := Z17.out; have := Z18.out; have := Z19.out; have := Z20.out; have := Z21.out; have := Z22.out; have := Z23.out; have := Z24.out; have := Z25.out; have := Z26.out; have := Z27.out; obtain ⟨h1, h2⟩ := hh; omega))
  replace K4 := Aside0.mk (blk_kept K4.out hk (fun hh => by have := G1_.out; have := G2_.out; have := G3_.out; have := N1_2.out; have := N1_3.out; have := N2_3.out; have := Z8.out; have := Z9.out; have := G4.out; have := Z10.out; have := Z11.out; have := Z12.out; have := G5.out; have := Z13.out; have := Z14.out; have := Z15.out; have := G6.out; have := Z16.out; have := Z17.out; have := Z18.out; have := Z19.out; have := Z20.out; have := Z21.out; have := Z22.out; have := Z23.out; have := Z24.out; have := Z25.out; have := Z26.out; have := Z27.out; obtain ⟨h1, h2⟩ := hh; omega))
  replace K5 := Aside0.mk (blk_kept K5.out hk (fun hh => by have := G1_.out; have := G2_.out; have := G3_.out; have := N1_2.out; have := N1_3.out; have := N2_3.out; have := Z8.out; have := Z9.out; have := G4.out; have := Z10.out; have := Z11.out; have := Z12.out; have := G5.out; have := Z13.out; have := Z14.out; have := Z15.out; have := G6.out; have := Z16.out; have := Z17.out; have := Z18.out; have := Z19.out; have := Z20.out; have := Z21.out; have := Z22.out; have := Z23.out; have := Z24.out; have := Z25.out; have := Z26.out; have := Z27.out; obtain ⟨h1, h2⟩ := hh; omega))
  replace K6 := Aside0.mk (blk_kept K6.out hk (fun hh => by have := G1_.out; have := G2_.out; have := G3_.out; have := N1_2.out; have := N1_3.out; have := N2_3.out; have := Z8.out; have := Z9.out; have := G4.out; have := Z10.out; have := Z11.out; have := Z12.out; have := G5.out; have := Z13.out; have := Z14.out; have := Z15.out; have := G6.out; have := Z16.out; have := Z17.out; have := Z18.out; have := Z19.out; have := Z20.out; have := Z21.out; have := Z22.out; have := Z23.out; have := Z24.out; have := Z25.out; have := Z26.out; have := Z27.out; obtain ⟨h1, h2⟩ := hh; omega))
  replace Og14 := Aside0.mk hO
  clear hb hO hk
  have hz1 : w27.cell? ⟨g1, 0, none⟩ = some (.slice A0 l0.length c0) := (blk_cell K1.out 0).trans rfl
  have hf1 := blk_frozen K1.out 0
  have hz2 : w27.cell? ⟨g2, 0, none⟩ = some (.slice A1 l1.length c1) := (blk_cell K2.out 0).trans rfl
  have hf2 := blk_frozen K2.out 0
  have hz3 : w27.cell? ⟨g3, 0, none⟩ = some (.slice Aw G.length cw) := (blk_cell K3.out 0).trans rfl
  have hf3 := blk_frozen K3.out 0
  have hz4 : w27.cell? ⟨g4, 0, none⟩ = some (.slice Ac8 l0.length cc8) := (blk_cell K4.out 0).trans rfl
  have hf4 := blk_frozen K4.out 0
  have hz5 : w27.cell? ⟨g5, 0, none⟩ = some (.slice Ac11 l1.length cc11) := (blk_cell K5.out 0).trans rfl
  have hf5 := blk_frozen K5.out 0
  have hz6 : w27.cell? ⟨g6, 0, none⟩ = some (.slice Ag14 G.length cg14) := (blk_cell K6.out 0).trans rfl
  have hf6 := blk_frozen K6.out 0
  have hn1_2 := E1_2.out
  have hn1_3 := E1_3.out
  have hn1_4 := E1_4.out
  have hn1_5 := E1_5.out
  have hn1_6 := E1_6.out
  have hn2_1 := E2_1.out
  have hn2_3 := E2_3.out
  have hn2_4 := E2_4.out
  have hn2_5 := E2_5.out
  have hn2_6 := E2_6.out
  have hn3_1 := E3_1.out
  have hn3_2 := E3_2.out
  have hn3_4 := E3_4.out
  have hn3_5 := E3_5.out
  have hn3_6 := E3_6.out
  have hn4_1 := E4_1.out
  have hn4_2 := E4_2.out
  have hn4_3 := E4_3.out
  have hn4_5 := E4_5.out
  have hn4_6 := E4_6.out
  have hn5_1 := E5_1.out
  have hn5_2 := E5_2.out
  have hn5_3 := E5_3.out
  have hn5_4 := E5_4.out
  have hn5_6 := E5_6.out
  have hn6_1 := E6_1.out
  have hn6_2 := E6_2.out
  have hn6_3 := E6_3.out
  have hn6_4 := E6_4.out
  have hn6_5 := E6_5.out
  go_wp2_with (fail)
  clear hz1 hf1 hz2 hf2 hz3 hf3 hz4 hf4 hz5 hf5 hz6 hf6 hn1_2 hn1_3 hn1_4 hn1_5 hn1_6 hn2_1 hn2_3 hn2_4 hn2_5 hn2_6 hn3_1 hn3_2 hn3_4 hn3_5 hn3_6 hn4_1 hn4_2 hn4_3 hn4_5 hn4_6 hn5_1 hn5_2 hn5_3 hn5_4 hn5_6 hn6_1 hn6_2 hn6_3 hn6_4 hn6_5
  refine (heldM_any Ag14 cg14 G 1 _ HG1.out (by omega) HG2.out Og14.out.C Lg14.out).mono ?_
  rintro e w28 ⟨rfl, hb⟩
  replace Oc19 := Aside0.mk (Oc19.out.below hb)
  replace Oc22 := Aside0.mk (Oc22.out.below hb)
  replace Oc8 := Aside0.mk (Oc8.out.below hb)
  replace Oc11 := Aside0.mk (Oc11.out.below hb)
  replace Og14 := Aside0.mk (Og14.out.below hb)
  replace K1 := Aside0.mk (blk_below K1.out hb)
  replace K2 := Aside0.mk (blk_below K2.out hb)
  replace K3 := Aside0.mk (blk_below K3.out hb)
  replace K4 := Aside0.mk (blk_below K4.out hb)
  replace K5 := Aside0.mk (blk_below K5.out hb)
  replace K6 := Aside0.mk (blk_below K6.out hb)
  replace BW := Aside0.mk (below_step BW.out hb)
  replace BS := Aside0.mk (below_step BS.out hb)
  have Z28 := Aside0.mk (show w27.heap.size ≤ w28.heap.size from hb.size)
  clear hb
  have hz1 : w28.cell? ⟨g1, 0, none⟩ = some (.slice A0 l0.length c0) := (blk_cell K1.out 0).trans rfl
  have hf1 := blk_frozen K1.out 0
  have hz2 : w28.cell? ⟨g2, 0, none⟩ = some (.slice A1 l1.length c1) := (blk_cell K2.out 0).trans rfl
  have hf2 := blk_frozen K2.out 0
  have hz3 : w28.cell? ⟨g3, 0, none⟩ = some (.slice Aw G.length cw) := (blk_cell K3.out 0).trans rfl
  have hf3 := blk_frozen K3.out 0
  have hz4 : w28.cell? ⟨g4, 0, none⟩ = some (.slice Ac8 l0.length cc8) := (blk_cell K4.out 0).trans rfl
  have hf4 := blk_frozen K4.out 0
  have hz5 : w28.cell? ⟨g5, 0, none⟩ = some (.slice Ac11 l1.length cc11) := (blk_cell K5.out 0).trans rfl
  have hf5 := blk_frozen K5.out 0
  have hz6 : w28.cell? ⟨g6, 0, none⟩ = some (.slice Ag14 G.length cg14) := (blk_cell K6.out 0).trans rfl
  have hf6 := blk_frozen K6.out 0
  have hn1_2 := E1_2.out
  have hn1_3 := E1_3.out
  have hn1_4 := E1_4.out
  have hn1_5 := E1_5.out
  have hn1_6 := E1_6.out
  have hn2_1 := E2_1.out
  have hn2_3 := E2_3.out
  have hn2_4 := E2_4.out
  have hn2_5 := E2_5.out
  have hn2_6 := E2_6.out
  have hn3_1 := E3_1.out
  have hn3_2 := E3_2.out
  have hn3_4 := E3_4.out
  have hn3_5 := E3_5.out
  have hn3_6 := E3_6.out
  have hn4_1 := E4_1.out
  have hn4_2 := E4_2.out
  have hn4_3 := E4_3.out
  have hn4_5 := E4_5.out
  have hn4_6 := E4_6.out
  have hn5_1 := E5_1.out
  have hn5_2 := E5_2.out
  have hn5_3 := E5_3.out
  have hn5_4 := E5_4.out
  have hn5_6 := E5_6.out
  have hn6_1 := E6_1.out
  have hn6_2 := E6_2.out
  have hn6_3 := E6_3.out
  have hn6_4 := E6_4.out
  have hn6_5 := E6_5.out
  go_wp2_with (fail)
  clear hz1 hf1 hz2 hf2 hz3 hf3 hz4 hf4 hz5 hf5 hz6 hf6 hn1_2 hn1_3 hn1_4 hn1_5 hn1_6 hn2_1 hn2_3 hn2_4 hn2_5 hn2_6 hn3_1 hn3_2 hn3_4 hn3_5 hn3_6 hn4_1 hn4_2 hn4_3 hn4_5 hn4_6 hn5_1 hn5_2 hn5_3 hn5_4 hn5_6 hn6_1 hn6_2 hn6_3 hn6_4 hn6_5
  replace Oc19 := Aside0.mk (Oc19.out.drew)
  replace Oc22 := Aside0.mk (Oc22.out.drew)
  replace Oc8 := Aside0.mk (Oc8.out.drew)
  replace Oc11 := Aside0.mk (Oc11.out.drew)
  replace Og14 := Aside0.mk (Og14.out.drew)
  replace K1 := Aside0.mk (blk_drew K1.out)
  replace K2 := Aside0.mk (blk_drew K2.out)
  replace K3 := Aside0.mk (blk_drew K3.out)
  replace K4 := Aside0.mk (blk_drew K4.out)
  replace K5 := Aside0.mk (blk_drew K5.out)
  replace K6 := Aside0.mk (blk_drew K6.out)
  replace BW := Aside0.mk (below_drew1 BW.out)
  replace BS := Aside0.mk (below_drew1 BS.out)
  have Z29 := Aside0.mk (show w28.heap.size ≤ w28.drew.heap.size from Nat.le_refl _)
  refine start_ (n := 11) (S := fun w' => w'.cell? ⟨g1, 0, none⟩ = some (.slice A0 l0.length c0) ∧ w'.cell? ⟨g2, 0, none⟩ = some (.slice A1 l1.length c1)) (ds := []) #[false, false, false, false, false, false, false, false, false, false, false] (by kernel_rfl) rfl rfl ⟨(blk_cell K1.out 0).trans rfl, (blk_cell K2.out 0).trans rfl⟩ (fun hHeld => ?_)
  generalize w28.drew = w29 at Oc19 Oc22 Oc8 Oc11 Og14 K1 K2 K3 K4 K5 K6 BW Z29 BS hHeld ⊢
  refine take_ (i := 0) (N := some 95) (v := ?_) (a' := ?_) #[true, false, false, false, false, false, false, false, false, false, false] rfl rfl (by kernel_rfl) (fun _ _ _ h => h) (Or.inl ⟨by rfl, ?_⟩) hHeld ?_ ?_
  rotate_left
  · rintro w' ⟨s0, s1⟩
    go_simp
    with_reducible rfl
  rotate_left
  · simp only [Act.put, List.setIfInBounds_toArray, List.set_cons_zero, List.set_cons_succ, i64_w, i32_w]
    rfl
  refine take_ (i := 2) (N := some 97) (v := ?_) (a' := ?_) #[true, false, true, false, false, false, false, false, false, false, false] rfl rfl (by kernel_rfl) (fun _ _ _ h => h) (Or.inl ⟨by rfl, ?_⟩) hHeld ?_ ?_
  rotate_left
  · rintro w' ⟨s0, s1⟩
    go_simp
    with_reducible rfl
  rotate_left
  · simp only [Act.put, List.setIfInBounds_toArray, List.set_cons_zero, List.set_cons_succ, i64_w, i32_w]
    rfl
  have HB := Aside0.mk (Below.refl w29.heap.size w29)
  refine join_ (σ := Option Addr × Nat × Option Addr × Nat × Option Addr × Nat × Nat) 2 #[true, true, true, true, true, true, true, true, true, false, false] (fun s => [(96, .agg #[.slice s.1 l0.length s.2.1]), (98, .agg #[.slice s.2.2.1 l1.length s.2.2.2.1]), (99, .tuple #[.agg #[.slice s.2.2.2.2.1 G.length s.2.2.2.2.2.1], .bool b]), (94, .tuple #[.agg #[.slice s.2.2.2.2.1 G.length s.2.2.2.2.2.1], .bool b]), (100, .agg #[.slice s.2.2.2.2.1 G.length s.2.2.2.2.2.1]), (101, .bool b), (15, .pointer (some ⟨s.2.2.2.2.2.2, 0, none⟩))]) (fun s y => Below w29.heap.size w29 y ∧ w29.heap.size ≤ s.2.2.2.2.2.2 ∧ y.heap[s.2.2.2.2.2.2]? = some (.cells #[.slice none 0 0] 27 (0, 0)) ∧ G.length ≤ s.2.2.2.2.2.1 ∧ Kd.F (Kd.slice 3 (Kd.int .i64)) y (fun k => k ≠ s.2.2.2.2.2.2) s.2.2.2.2.1 G.length G) ?_ ?_
  rotate_left
  · intro hJ
    refine two_ (i := 1) (j := 8) (Ni := some 96) (Nj := some 15) #[true, true, true, false, false, false, false, false, false, false, false] #[true, false, true, false, false, false, false, false, true, false, false] rfl rfl rfl rfl (by kernel_rfl) (by decide) (by decide) (fun K hK => ?_) (fun K hK => ?_)
    · skip
      refine goes_ Try.func14 (by kernel_rfl) rfl #[.agg #[.slice A0 l0.length c0]] (by rfl) rfl rfl (by (try simp only [List.map_toArray, List.map_cons, List.map_nil]); first | done | rfl) ?_
      refine (copyM_any A0 c0 l0 _ HF0.out (Kd.C_below HR0.out (below_step BW.out HB.out)) HC0.out).mono ?_
      rintro e y1 ⟨A1_, c1_, rfl, hl, hO, hb⟩
      refine ⟨_, rfl, ?_⟩
      have hC := hO.C
      have C0 := Aside0.mk hC
      have L0 := Aside0.mk hl
      replace K1 := Aside0.mk (blk_below K1.out hb)
      replace K2 := Aside0.mk (blk_below K2.out hb)
      replace HB := Aside0.mk (below_step HB.out hb)
      clear hC hl hb hO
      refine hK.out _ _ ⟨(blk_cell K1.out 0).trans rfl, (blk_cell K2.out 0).trans rfl⟩ (fun hHeld => ?_)
      clear hK K
      refine norm_ (a' := ?_) ?_ ?_
      rotate_left
      · show Act.put _ (some 96) _ = _
        simp only [Act.put, List.setIfInBounds_toArray, List.set_cons_zero, List.set_cons_succ, i64_w, i32_w]
        rfl
      refine two_ (i := 3) (j := 8) (Ni := some 98) (Nj := some 15) #[true, true, true, true, false, false, false, false, false, false, false] #[true, true, true, false, false, false, false, false, true, false, false] rfl rfl rfl rfl (by kernel_rfl) (by decide) (by decide) (fun K hK => ?_) (fun K hK => ?_)
      · skip
        refine goes_ Try.func14 (by kernel_rfl) rfl #[.agg #[.slice A1 l1.length c1]] (by rfl) rfl rfl (by (try simp only [List.map_toArray, List.map_cons, List.map_nil]); first | done | rfl) ?_
        refine (copyM_any A1 c1 l1 _ HF1.out (Kd.C_below HR1.out (below_step BW.out HB.out)) HC1.out).mono ?_
        rintro e y2 ⟨A2_, c2_, rfl, hl, hO, hb⟩
        refine ⟨_, rfl, ?_⟩
        have hC := hO.C
        replace C0 := Aside0.mk (Kd.C_below C0.out hb)
        have C1 := Aside0.mk hC
        have L1 := Aside0.mk hl
        replace K1 := Aside0.mk (blk_below K1.out hb)
        replace K2 := Aside0.mk (blk_below K2.out hb)
        replace HB := Aside0.mk (below_step HB.out hb)
        clear hC hl hb hO
        refine hK.out _ _ ⟨(blk_cell K1.out 0).trans rfl, (blk_cell K2.out 0).trans rfl⟩ (fun hHeld => ?_)
        clear hK K
        refine norm_ (a' := ?_) ?_ ?_
        rotate_left
        · show Act.put _ (some 98) _ = _
          simp only [Act.put, List.setIfInBounds_toArray, List.set_cons_zero, List.set_cons_succ, i64_w, i32_w]
          rfl
        refine two_ (i := 4) (j := 8) (Ni := some 99) (Nj := some 15) #[true, true, true, true, true, false, false, false, false, false, false] #[true, true, true, true, false, false, false, false, true, false, false] rfl rfl rfl rfl (by kernel_rfl) (by decide) (by decide) (fun K hK => ?_) (fun K hK => ?_)
        · skip
          refine goes_ Try.func38 (by kernel_rfl) rfl #[.agg #[.slice A1_ l0.length c1_], .agg #[.slice A2_ l1.length c2_]] (by rfl) rfl rfl (by (try simp only [List.map_toArray, List.map_cons, List.map_nil]); first | done | rfl) ?_
          refine (HI.out _ A1_ c1_ A2_ c2_ C0.out L0.out C1.out L1.out).mono ?_
          rintro e y3 ⟨v_, rfl, hS, hb⟩
          obtain ⟨A3_, c3_, rfl, hl, _⟩ := Kd.S_reads hS
          have hC := Kd.N_F (Kd.S_N (Kd.S_mono (ok' := fun k => y2.heap.size ≤ k) (Kd.S_bound hS) (fun k hk => hk.2.1)))
          clear hS
          refine ⟨_, rfl, ?_⟩
          replace C0 := Aside0.mk (Kd.C_below C0.out hb)
          replace C1 := Aside0.mk (Kd.C_below C1.out hb)
          have C2 := Aside0.mk hC
          have L2 := Aside0.mk hl
          replace K1 := Aside0.mk (blk_below K1.out hb)
          replace K2 := Aside0.mk (blk_below K2.out hb)
          replace HB := Aside0.mk (below_step HB.out hb)
          clear hC hl hb
          refine hK.out _ _ ⟨(blk_cell K1.out 0).trans rfl, (blk_cell K2.out 0).trans rfl⟩ (fun hHeld => ?_)
          clear hK K
          refine norm_ (a' := ?_) ?_ ?_
          rotate_left
          · show Act.put _ (some 99) _ = _
            simp only [Act.put, List.setIfInBounds_toArray, List.set_cons_zero, List.set_cons_succ, i64_w, i32_w]
            rfl
          refine pure_ (i := 5) (N := some 94) (v := ?_) (a' := ?_) #[true, true, true, true, true, true, false, false, false, false, false] rfl rfl (by kernel_rfl) (fun _ _ _ h => h) (Or.inl ⟨by rfl, ?_⟩) ?_ ?_
          rotate_left
          · intro w'
            go_simp
            with_reducible rfl
          rotate_left
          · simp only [Act.put, List.setIfInBounds_toArray, List.set_cons_zero, List.set_cons_succ, i64_w, i32_w]
            rfl
          refine pure_ (i := 6) (N := some 100) (v := ?_) (a' := ?_) #[true, true, true, true, true, true, true, false, false, false, false] rfl rfl (by kernel_rfl) (fun _ _ _ h => h) (Or.inl ⟨by rfl, ?_⟩) ?_ ?_
          rotate_left
          · intro w'
            go_simp
            with_reducible rfl
          rotate_left
          · simp only [Act.put, List.setIfInBounds_toArray, List.set_cons_zero, List.set_cons_succ, i64_w, i32_w]
            rfl
          refine pure_ (i := 7) (N := some 101) (v := ?_) (a' := ?_) #[true, true, true, true, true, true, true, true, false, false, false] rfl rfl (by kernel_rfl) (fun _ _ _ h => h) (Or.inl ⟨by rfl, ?_⟩) ?_ ?_
          rotate_left
          · intro w'
            go_simp
            with_reducible rfl
          rotate_left
          · simp only [Act.put, List.setIfInBounds_toArray, List.set_cons_zero, List.set_cons_succ, i64_w, i32_w]
            rfl
          refine one_ (i := 8) (N := some 15) #[true, true, true, true, true, true, true, true, true, false, false] rfl rfl (by kernel_rfl) (by decide) (fun K hK => ?_)
          refine box_step (by rfl) (N := 15) rfl (cs := #[.slice none 0 0]) (t := 27) ?hr ?_
          case hr => first | (go_simp; done) | (go_simp; rfl)
          intro gN hg y4 hbox hb
          have GN := Aside0.mk (show w29.heap.size ≤ gN from (by have := HB.out.size; omega))
          replace C0 := Aside0.mk (Kd.C_below C0.out hb)
          replace C1 := Aside0.mk (Kd.C_below C1.out hb)
          replace C2 := Aside0.mk (Kd.F_below (Kd.F_mono (ok' := fun k => k ≠ gN) (Kd.F_bound C2.out) (fun k hk => by have h1 := hk.2; omega)) hb)
          have KN := Aside0.mk hbox
          replace K1 := Aside0.mk (blk_below K1.out hb)
          replace K2 := Aside0.mk (blk_below K2.out hb)
          replace HB := Aside0.mk (below_step HB.out hb)
          clear hbox hb hg
          refine hK.out _ _ ⟨(blk_cell K1.out 0).trans rfl, (blk_cell K2.out 0).trans rfl⟩ (fun hHeld => ?_)
          clear hK K
          refine norm_ (a' := ?_) ?_ ?_
          rotate_left
          · show Act.put _ (some 15) _ = _
            simp only [Act.put, List.setIfInBounds_toArray, List.set_cons_zero, List.set_cons_succ, i64_w, i32_w]
            rfl
          refine norm_ ?_ (hJ (A1_, c1_, A2_, c2_, A3_, c3_, gN) y4 ⟨HB.out, GN.out, KN.out, L2.out, C2.out⟩)
          first | rfl | (simp only [putAll, Act.put, List.setIfInBounds_toArray, List.set_cons_zero, List.set_cons_succ]; done) | (simp only [putAll, Act.put, List.setIfInBounds_toArray, List.set_cons_zero, List.set_cons_succ]; rfl)
        · skip
          refine box_step (by rfl) (N := 15) rfl (cs := #[.slice none 0 0]) (t := 27) ?hr ?_
          case hr => first | (go_simp; done) | (go_simp; rfl)
          intro gN hg y5 hbox hb
          have GN := Aside0.mk (show w29.heap.size ≤ gN from (by have := HB.out.size; omega))
          replace C0 := Aside0.mk (Kd.C_below C0.out hb)
          replace C1 := Aside0.mk (Kd.C_below C1.out hb)
          have KN := Aside0.mk hbox
          replace K1 := Aside0.mk (blk_below K1.out hb)
          replace K2 := Aside0.mk (blk_below K2.out hb)
          replace HB := Aside0.mk (below_step HB.out hb)
          clear hbox hb hg
          refine hK.out _ _ ⟨(blk_cell K1.out 0).trans rfl, (blk_cell K2.out 0).trans rfl⟩ (fun hHeld => ?_)
          clear hK K
          refine norm_ (a' := ?_) ?_ ?_
          rotate_left
          · show Act.put _ (some 15) _ = _
            simp only [Act.put, List.setIfInBounds_toArray, List.set_cons_zero, List.set_cons_succ, i64_w, i32_w]
            rfl
          refine one_ (i := 4) (N := some 99) #[true, true, true, true, true, false, false, false, true, false, false] rfl rfl (by kernel_rfl) (by decide) (fun K hK => ?_)
          refine goes_ Try.func38 (by kernel_rfl) rfl #[.agg #[.slice A1_ l0.length c1_], .agg #[.slice A2_ l1.length c2_]] (by rfl) rfl rfl (by (try simp only [List.map_toArray, List.map_cons, List.map_nil]); first | done | rfl) ?_
          refine (HI.out _ A1_ c1_ A2_ c2_ C0.out L0.out C1.out L1.out).mono ?_
          rintro e y6 ⟨v_, rfl, hS, hb⟩
          obtain ⟨A6_, c6_, rfl, hl, _⟩ := Kd.S_reads hS
          have hC := Kd.N_F (Kd.S_N (Kd.S_mono (ok' := fun k => y5.heap.size ≤ k) (Kd.S_bound hS) (fun k hk => hk.2.1)))
          clear hS
          refine ⟨_, rfl, ?_⟩
          replace C0 := Aside0.mk (Kd.C_below C0.out hb)
          replace C1 := Aside0.mk (Kd.C_below C1.out hb)
          replace hC := Kd.F_mono (ok' := fun k => k ≠ gN) hC (fun k hk => by have h1 := blk_lt KN.out; omega)
          have C2 := Aside0.mk hC
          have L2 := Aside0.mk hl
          replace KN := Aside0.mk (blk_below KN.out hb)
          replace K1 := Aside0.mk (blk_below K1.out hb)
          replace K2 := Aside0.mk (blk_below K2.out hb)
          replace HB := Aside0.mk (below_step HB.out hb)
          clear hC hl hb
          refine hK.out _ _ ⟨(blk_cell K1.out 0).trans rfl, (blk_cell K2.out 0).trans rfl⟩ (fun hHeld => ?_)
          clear hK K
          refine norm_ (a' := ?_) ?_ ?_
          rotate_left
          · show Act.put _ (some 99) _ = _
            simp only [Act.put, List.setIfInBounds_toArray, List.set_cons_zero, List.set_cons_succ, i64_w, i32_w]
            rfl
          refine pure_ (i := 5) (N := some 94) (v := ?_) (a' := ?_) #[true, true, true, true, true, true, false, false, true, false, false] rfl rfl (by kernel_rfl) (fun _ _ _ h => h) (Or.inl ⟨by rfl, ?_⟩) ?_ ?_
          rotate_left
          · intro w'
            go_simp
            with_reducible rfl
          rotate_left
          · simp only [Act.put, List.setIfInBounds_toArray, List.set_cons_zero, List.set_cons_succ, i64_w, i32_w]
            rfl
          refine pure_ (i := 6) (N := some 100) (v := ?_) (a' := ?_) #[true, true, true, true, true, true, true, false, true, false, false] rfl rfl (by kernel_rfl) (fun _ _ _ h => h) (Or.inl ⟨by rfl, ?_⟩) ?_ ?_
          rotate_left
          · intro w'
            go_simp
            with_reducible rfl
          rotate_left
          · simp only [Act.put, List.setIfInBounds_toArray, List.set_cons_zero, List.set_cons_succ, i64_w, i32_w]
            rfl
          refine pure_ (i := 7) (N := some 101) (v := ?_) (a' := ?_) #[true, true, true, true, true, true, true, true, true, false, false] rfl rfl (by kernel_rfl) (fun _ _ _ h => h) (Or.inl ⟨by rfl, ?_⟩) ?_ ?_
          rotate_left
          · intro w'
            go_simp
            with_reducible rfl
          rotate_left
          · simp only [Act.put, List.setIfInBounds_toArray, List.set_cons_zero, List.set_cons_succ, i64_w, i32_w]
            rfl
          refine norm_ ?_ (hJ (A1_, c1_, A2_, c2_, A6_, c6_, gN) y6 ⟨HB.out, GN.out, KN.out, L2.out, C2.out⟩)
          first | rfl | (simp only [putAll, Act.put, List.setIfInBounds_toArray, List.set_cons_zero, List.set_cons_succ]; done) | (simp only [putAll, Act.put, List.setIfInBounds_toArray, List.set_cons_zero, List.set_cons_succ]; rfl)
      · skip
        refine box_step (by rfl) (N := 15) rfl (cs := #[.slice none 0 0]) (t := 27) ?hr ?_
        case hr => first | (go_simp; done) | (go_simp; rfl)
        intro gN hg y7 hbox hb
        have GN := Aside0.mk (show w29.heap.size ≤ gN from (by have := HB.out.size; omega))
        replace C0 := Aside0.mk (Kd.C_below C0.out hb)
        have KN := Aside0.mk hbox
        replace K1 := Aside0.mk (blk_below K1.out hb)
        replace K2 := Aside0.mk (blk_below K2.out hb)
        replace HB := Aside0.mk (below_step HB.out hb)
        clear hbox hb hg
        refine hK.out _ _ ⟨(blk_cell K1.out 0).trans rfl, (blk_cell K2.out 0).trans rfl⟩ (fun hHeld => ?_)
        clear hK K
        refine norm_ (a' := ?_) ?_ ?_
        rotate_left
        · show Act.put _ (some 15) _ = _
          simp only [Act.put, List.setIfInBounds_toArray, List.set_cons_zero, List.set_cons_succ, i64_w, i32_w]
          rfl
        refine one_ (i := 3) (N := some 98) #[true, true, true, true, false, false, false, false, true, false, false] rfl rfl (by kernel_rfl) (by decide) (fun K hK => ?_)
        refine goes_ Try.func14 (by kernel_rfl) rfl #[.agg #[.slice A1 l1.length c1]] (by rfl) rfl rfl (by (try simp only [List.map_toArray, List.map_cons, List.map_nil]); first | done | rfl) ?_
        refine (copyM_any A1 c1 l1 _ HF1.out (Kd.C_below HR1.out (below_step BW.out HB.out)) HC1.out).mono ?_
        rintro e y8 ⟨A8_, c8_, rfl, hl, hO, hb⟩
        refine ⟨_, rfl, ?_⟩
        have hC := hO.C
        replace C0 := Aside0.mk (Kd.C_below C0.out hb)
        have C1 := Aside0.mk hC
        have L1 := Aside0.mk hl
        replace KN := Aside0.mk (blk_below KN.out hb)
        replace K1 := Aside0.mk (blk_below K1.out hb)
        replace K2 := Aside0.mk (blk_below K2.out hb)
        replace HB := Aside0.mk (below_step HB.out hb)
        clear hC hl hb hO
        refine hK.out _ _ ⟨(blk_cell K1.out 0).trans rfl, (blk_cell K2.out 0).trans rfl⟩ (fun hHeld => ?_)
        clear hK K
        refine norm_ (a' := ?_) ?_ ?_
        rotate_left
        · show Act.put _ (some 98) _ = _
          simp only [Act.put, List.setIfInBounds_toArray, List.set_cons_zero, List.set_cons_succ, i64_w, i32_w]
          rfl
        refine one_ (i := 4) (N := some 99) #[true, true, true, true, true, false, false, false, true, false, false] rfl rfl (by kernel_rfl) (by decide) (fun K hK => ?_)
        refine goes_ Try.func38 (by kernel_rfl) rfl #[.agg #[.slice A1_ l0.length c1_], .agg #[.slice A8_ l1.length c8_]] (by rfl) rfl rfl (by (try simp only [List.map_toArray, List.map_cons, List.map_nil]); first | done | rfl) ?_
        refine (HI.out _ A1_ c1_ A8_ c8_ C0.out L0.out C1.out L1.out).mono ?_
        rintro e y9 ⟨v_, rfl, hS, hb⟩
        obtain ⟨A9_, c9_, rfl, hl, _⟩ := Kd.S_reads hS
        have hC := Kd.N_F (Kd.S_N (Kd.S_mono (ok' := fun k => y8.heap.size ≤ k) (Kd.S_bound hS) (fun k hk => hk.2.1)))
        clear hS
        refine ⟨_, rfl, ?_⟩
        replace C0 := Aside0.mk (Kd.C_below C0.out hb)
        replace C1 := Aside0.mk (Kd.C_below C1.out hb)
        replace hC := Kd.F_mono (ok' := fun k => k ≠ gN) hC (fun k hk => by have h1 := blk_lt KN.out; omega)
        have C2 := Aside0.mk hC
        have L2 := Aside0.mk hl
        replace KN := Aside0.mk (blk_below KN.out hb)
        replace K1 := Aside0.mk (blk_below K1.out hb)
        replace K2 := Aside0.mk (blk_below K2.out hb)
        replace HB := Aside0.mk (below_step HB.out hb)
        clear hC hl hb
        refine hK.out _ _ ⟨(blk_cell K1.out 0).trans rfl, (blk_cell K2.out 0).trans rfl⟩ (fun hHeld => ?_)
        clear hK K
        refine norm_ (a' := ?_) ?_ ?_
        rotate_left
        · show Act.put _ (some 99) _ = _
          simp only [Act.put, List.setIfInBounds_toArray, List.set_cons_zero, List.set_cons_succ, i64_w, i32_w]
          rfl
        refine pure_ (i := 5) (N := some 94) (v := ?_) (a' := ?_) #[true, true, true, true, true, true, false, false, true, false, false] rfl rfl (by kernel_rfl) (fun _ _ _ h => h) (Or.inl ⟨by rfl, ?_⟩) ?_ ?_
        rotate_left
        · intro w'
          go_simp
          with_reducible rfl
        rotate_left
        · simp only [Act.put, List.setIfInBounds_toArray, List.set_cons_zero, List.set_cons_succ, i64_w, i32_w]
          rfl
        refine pure_ (i := 6) (N := some 100) (v := ?_) (a' := ?_) #[true, true, true, true, true, true, true, false, true, false, false] rfl rfl (by kernel_rfl) (fun _ _ _ h => h) (Or.inl ⟨by rfl, ?_⟩) ?_ ?_
        rotate_left
        · intro w'
          go_simp
          with_reducible rfl
        rotate_left
        · simp only [Act.put, List.setIfInBounds_toArray, List.set_cons_zero, List.set_cons_succ, i64_w, i32_w]
          rfl
        refine pure_ (i := 7) (N := some 101) (v := ?_) (a' := ?_) #[true, true, true, true, true, true, true, true, true, false, false] rfl rfl (by kernel_rfl) (fun _ _ _ h => h) (Or.inl ⟨by rfl, ?_⟩) ?_ ?_
        rotate_left
        · intro w'
          go_simp
          with_reducible rfl
        rotate_left
        · simp only [Act.put, List.setIfInBounds_toArray, List.set_cons_zero, List.set_cons_succ, i64_w, i32_w]
          rfl
        refine norm_ ?_ (hJ (A1_, c1_, A8_, c8_, A9_, c9_, gN) y9 ⟨HB.out, GN.out, KN.out, L2.out, C2.out⟩)
        first | rfl | (simp only [putAll, Act.put, List.setIfInBounds_toArray, List.set_cons_zero, List.set_cons_succ]; done) | (simp only [putAll, Act.put, List.setIfInBounds_toArray, List.set_cons_zero, List.set_cons_succ]; rfl)
    · skip
      refine box_step (by rfl) (N := 15) rfl (cs := #[.slice none 0 0]) (t := 27) ?hr ?_
      case hr => first | (go_simp; done) | (go_simp; rfl)
      intro gN hg y10 hbox hb
      have GN := Aside0.mk (show w29.heap.size ≤ gN from (by have := HB.out.size; omega))
      have KN := Aside0.mk hbox
      replace K1 := Aside0.mk (blk_below K1.out hb)
      replace K2 := Aside0.mk (blk_below K2.out hb)
      replace HB := Aside0.mk (below_step HB.out hb)
      clear hbox hb hg
      refine hK.out _ _ ⟨(blk_cell K1.out 0).trans rfl, (blk_cell K2.out 0).trans rfl⟩ (fun hHeld => ?_)
      clear hK K
      refine norm_ (a' := ?_) ?_ ?_
      rotate_left
      · show Act.put _ (some 15) _ = _
        simp only [Act.put, List.setIfInBounds_toArray, List.set_cons_zero, List.set_cons_succ, i64_w, i32_w]
        rfl
      refine one_ (i := 1) (N := some 96) #[true, true, true, false, false, false, false, false, true, false, false] rfl rfl (by kernel_rfl) (by decide) (fun K hK => ?_)
      refine goes_ Try.func14 (by kernel_rfl) rfl #[.agg #[.slice A0 l0.length c0]] (by rfl) rfl rfl (by (try simp only [List.map_toArray, List.map_cons, List.map_nil]); first | done | rfl) ?_
      refine (copyM_any A0 c0 l0 _ HF0.out (Kd.C_below HR0.out (below_step BW.out HB.out)) HC0.out).mono ?_
      rintro e y11 ⟨A11_, c11_, rfl, hl, hO, hb⟩
      refine ⟨_, rfl, ?_⟩
      have hC := hO.C
      have C0 := Aside0.mk hC
      have L0 := Aside0.mk hl
      replace KN := Aside0.mk (blk_below KN.out hb)
      replace K1 := Aside0.mk (blk_below K1.out hb)
      replace K2 := Aside0.mk (blk_below K2.out hb)
      replace HB := Aside0.mk (below_step HB.out hb)
      clear hC hl hb hO
      refine hK.out _ _ ⟨(blk_cell K1.out 0).trans rfl, (blk_cell K2.out 0).trans rfl⟩ (fun hHeld => ?_)
      clear hK K
      refine norm_ (a' := ?_) ?_ ?_
      rotate_left
      · show Act.put _ (some 96) _ = _
        simp only [Act.put, List.setIfInBounds_toArray, List.set_cons_zero, List.set_cons_succ, i64_w, i32_w]
        rfl
      refine one_ (i := 3) (N := some 98) #[true, true, true, true, false, false, false, false, true, false, false] rfl rfl (by kernel_rfl) (by decide) (fun K hK => ?_)
      refine goes_ Try.func14 (by kernel_rfl) rfl #[.agg #[.slice A1 l1.length c1]] (by rfl) rfl rfl (by (try simp only [List.map_toArray, List.map_cons, List.map_nil]); first | done | rfl) ?_
      refine (copyM_any A1 c1 l1 _ HF1.out (Kd.C_below HR1.out (below_step BW.out HB.out)) HC1.out).mono ?_
      rintro e y12 ⟨A12_, c12_, rfl, hl, hO, hb⟩
      refine ⟨_, rfl, ?_⟩
      have hC := hO.C
      replace C0 := Aside0.mk (Kd.C_below C0.out hb)
      have C1 := Aside0.mk hC
      have L1 := Aside0.mk hl
      replace KN := Aside0.mk (blk_below KN.out hb)
      replace K1 := Aside0.mk (blk_below K1.out hb)
      replace K2 := Aside0.mk (blk_below K2.out hb)
      replace HB := Aside0.mk (below_step HB.out hb)
      clear hC hl hb hO
      refine hK.out _ _ ⟨(blk_cell K1.out 0).trans rfl, (blk_cell K2.out 0).trans rfl⟩ (fun hHeld => ?_)
      clear hK K
      refine norm_ (a' := ?_) ?_ ?_
      rotate_left
      · show Act.put _ (some 98) _ = _
        simp only [Act.put, List.setIfInBounds_toArray, List.set_cons_zero, List.set_cons_succ, i64_w, i32_w]
        rfl
      refine one_ (i := 4) (N := some 99) #[true, true, true, true, true, false, false, false, true, false, false] rfl rfl (by kernel_rfl) (by decide) (fun K hK => ?_)
      refine goes_ Try.func38 (by kernel_rfl) rfl #[.agg #[.slice A11_ l0.length c11_], .agg #[.slice A12_ l1.length c12_]] (by rfl) rfl rfl (by (try simp only [List.map_toArray, List.map_cons, List.map_nil]); first | done | rfl) ?_
      refine (HI.out _ A11_ c11_ A12_ c12_ C0.out L0.out C1.out L1.out).mono ?_
      rintro e y13 ⟨v_, rfl, hS, hb⟩
      obtain ⟨A13_, c13_, rfl, hl, _⟩ := Kd.S_reads hS
      have hC := Kd.N_F (Kd.S_N (Kd.S_mono (ok' := fun k => y12.heap.size ≤ k) (Kd.S_bound hS) (fun k hk => hk.2.1)))
      clear hS
      refine ⟨_, rfl, ?_⟩
      replace C0 := Aside0.mk (Kd.C_below C0.out hb)
      replace C1 := Aside0.mk (Kd.C_below C1.out hb)
      replace hC := Kd.F_mono (ok' := fun k => k ≠ gN) hC (fun k hk => by have h1 := blk_lt KN.out; omega)
      have C2 := Aside0.mk hC
      have L2 := Aside0.mk hl
      replace KN := Aside0.mk (blk_below KN.out hb)
      replace K1 := Aside0.mk (blk_below K1.out hb)
      replace K2 := Aside0.mk (blk_below K2.out hb)
      replace HB := Aside0.mk (below_step HB.out hb)
      clear hC hl hb
      refine hK.out _ _ ⟨(blk_cell K1.out 0).trans rfl, (blk_cell K2.out 0).trans rfl⟩ (fun hHeld => ?_)
      clear hK K
      refine norm_ (a' := ?_) ?_ ?_
      rotate_left
      · show Act.put _ (some 99) _ = _
        simp only [Act.put, List.setIfInBounds_toArray, List.set_cons_zero, List.set_cons_succ, i64_w, i32_w]
        rfl
      refine pure_ (i := 5) (N := some 94) (v := ?_) (a' := ?_) #[true, true, true, true, true, true, false, false, true, false, false] rfl rfl (by kernel_rfl) (fun _ _ _ h => h) (Or.inl ⟨by rfl, ?_⟩) ?_ ?_
      rotate_left
      · intro w'
        go_simp
        with_reducible rfl
      rotate_left
      · simp only [Act.put, List.setIfInBounds_toArray, List.set_cons_zero, List.set_cons_succ, i64_w, i32_w]
        rfl
      refine pure_ (i := 6) (N := some 100) (v := ?_) (a' := ?_) #[true, true, true, true, true, true, true, false, true, false, false] rfl rfl (by kernel_rfl) (fun _ _ _ h => h) (Or.inl ⟨by rfl, ?_⟩) ?_ ?_
      rotate_left
      · intro w'
        go_simp
        with_reducible rfl
      rotate_left
      · simp only [Act.put, List.setIfInBounds_toArray, List.set_cons_zero, List.set_cons_succ, i64_w, i32_w]
        rfl
      refine pure_ (i := 7) (N := some 101) (v := ?_) (a' := ?_) #[true, true, true, true, true, true, true, true, true, false, false] rfl rfl (by kernel_rfl) (fun _ _ _ h => h) (Or.inl ⟨by rfl, ?_⟩) ?_ ?_
      rotate_left
      · intro w'
        go_simp
        with_reducible rfl
      rotate_left
      · simp only [Act.put, List.setIfInBounds_toArray, List.set_cons_zero, List.set_cons_succ, i64_w, i32_w]
        rfl
      refine norm_ ?_ (hJ (A11_, c11_, A12_, c12_, A13_, c13_, gN) y13 ⟨HB.out, GN.out, KN.out, L2.out, C2.out⟩)
      first | rfl | (simp only [putAll, Act.put, List.setIfInBounds_toArray, List.set_cons_zero, List.set_cons_succ]; done) | (simp only [putAll, Act.put, List.setIfInBounds_toArray, List.set_cons_zero, List.set_cons_succ]; rfl)
  clear HB
  rintro ⟨Aj0, cj1, Aj2, cj3, Ax, cx, g7⟩ w30 ⟨hb, hg, hbox, hl, hC⟩
  replace hg : w29.heap.size ≤ g7 := hg
  replace hbox : w30.heap[g7]? = some (.cells #[.slice none 0 0] 27 (0, 0)) := hbox
  replace hl : G.length ≤ cx := hl
  replace hC : Kd.F (Kd.slice 3 (Kd.int .i64)) w30 (fun k => k ≠ g7) Ax G.length G := hC
  refine norm_ (a' := ?_) ?_ ?_
  rotate_left
  · simp only [putAll, Act.put, List.setIfInBounds_toArray, List.set_cons_zero, List.set_cons_succ]
    rfl
  replace Oc19 := Aside0.mk (Oc19.out.below hb)
  replace Oc22 := Aside0.mk (Oc22.out.below hb)
  replace Oc8 := Aside0.mk (Oc8.out.below hb)
  replace Oc11 := Aside0.mk (Oc11.out.below hb)
  replace Og14 := Aside0.mk (Og14.out.below hb)
  replace K1 := Aside0.mk (blk_below K1.out hb)
  replace K2 := Aside0.mk (blk_below K2.out hb)
  replace K3 := Aside0.mk (blk_below K3.out hb)
  replace K4 := Aside0.mk (blk_below K4.out hb)
  replace K5 := Aside0.mk (blk_below K5.out hb)
  replace K6 := Aside0.mk (blk_below K6.out hb)
  replace BW := Aside0.mk (below_step BW.out hb)
  replace BS := Aside0.mk (below_step BS.out hb)
  have Z30 := Aside0.mk (show w29.heap.size ≤ w30.heap.size from hb.size)
  have K7 := Aside0.mk hbox
  have G7 := Aside0.mk (show w29.heap.size ≤ g7 ∧ g7 < w30.heap.size from ⟨hg, blk_lt hbox⟩)
  have E7_1 := Aside0.mk (show g7 ≠ g1 from (by have := G1_.out; have := G2_.out; have := G3_.out; have := N1_2.out; have := N1_3.out; have := N2_3.out; have := Z8.out; have := Z9.out; have := G4.out; have := Z10.out; have := Z11.out; have := Z12.out; have := G5.out; have := Z13.out; have := Z14.out; have := Z15.out; have := G6.out; have := Z16.out; have := Z17.out; have := Z18.out; have := Z19.out; have := Z20.out; have := Z21.out; have := Z22.out; have := Z23.out; have := Z24.out; have := Z25.out; have := Z26.out; have := Z27.out; have := Z28.out; have := Z29.out; have := Z30.out; have := G7.out; omega))
  have E1_7 := Aside0.mk (Ne.symm E7_1.out)
  have E7_2 := Aside0.mk (show g7 ≠ g2 from (by have := G1_.out; have := G2_.out; have := G3_.out; have := N1_2.out; have := N1_3.out; have := N2_3.out; have := Z8.out; have := Z9.out; have := G4.out; have := Z10.out; have := Z11.out; have := Z12.out; have := G5.out; have := Z13.out; have := Z14.out; have := Z15.out; have := G6.out; have := Z16.out; have := Z17.out; have := Z18.out; have := Z19.out; have := Z20.out; have := Z21.out; have := Z22.out; have := Z23.out; have := Z24.out; have := Z25.out; have := Z26.out; have := Z27.out; have := Z28.out; have := Z29.out; have := Z30.out; have := G7.out; omega))
  have E2_7 := Aside0.mk (Ne.symm E7_2.out)
  have E7_3 := Aside0.mk (show g7 ≠ g3 from (by have := G1_.out; have := G2_.out; have := G3_.out; have := N1_2.out; have := N1_3.out; have := N2_3.out; have := Z8.out; have := Z9.out; have := G4.out; have := Z10.out; have := Z11.out; have := Z12.out; have := G5.out; have := Z13.out; have := Z14.out; have := Z15.out; have := G6.out; have := Z16.out; have := Z17.out; have := Z18.out; have := Z19.out; have := Z20.out; have := Z21.out; have := Z22.out; have := Z23.out; have := Z24.out; have := Z25.out; have := Z26.out; have := Z27.out; have := Z28.out; have := Z29.out; have := Z30.out; have := G7.out; omega))
  have E3_7 := Aside0.mk (Ne.symm E7_3.out)
  have E7_4 := Aside0.mk (show g7 ≠ g4 from (by have := G1_.out; have := G2_.out; have := G3_.out; have := N1_2.out; have := N1_3.out; have := N2_3.out; have := Z8.out; have := Z9.out; have := G4.out; have := Z10.out; have := Z11.out; have := Z12.out; have := G5.out; have := Z13.out; have := Z14.out; have := Z15.out; have := G6.out; have := Z16.out; have := Z17.out; have := Z18.out; have := Z19.out; have := Z20.out; have := Z21.out; have := Z22.out; have := Z23.out; have := Z24.out; have := Z25.out; have := Z26.out; have := Z27.out; have := Z28.out; have := Z29.out; have := Z30.out; have := G7.out; omega))
  have E4_7 := Aside0.mk (Ne.symm E7_4.out)
  have E7_5 := Aside0.mk (show g7 ≠ g5 from (by have := G1_.out; have := G2_.out; have := G3_.out; have := N1_2.out; have := N1_3.out; have := N2_3.out; have := Z8.out; have := Z9.out; have := G4.out; have := Z10.out; have := Z11.out; have := Z12.out; have := G5.out; have := Z13.out; have := Z14.out; have := Z15.out; have := G6.out; have := Z16.out; have := Z17.out; have := Z18.out; have := Z19.out; have := Z20.out; have := Z21.out; have := Z22.out; have := Z23.out; have := Z24.out; have := Z25.out; have := Z26.out; have := Z27.out; have := Z28.out; have := Z29.out; have := Z30.out; have := G7.out; omega))
  have E5_7 := Aside0.mk (Ne.symm E7_5.out)
  have E7_6 := Aside0.mk (show g7 ≠ g6 from (by have := G1_.out; have := G2_.out; have := G3_.out; have := N1_2.out; have := N1_3.out; have := N2_3.out; have := Z8.out; have := Z9.out; have := G4.out; have := Z10.out; have := Z11.out; have := Z12.out; have := G5.out; have := Z13.out; have := Z14.out; have := Z15.out; have := G6.out; have := Z16.out; have := Z17.out; have := Z18.out; have := Z19.out; have := Z20.out; have := Z21.out; have := Z22.out; have := Z23.out; have := Z24.out; have := Z25.out; have := Z26.out; have := Z27.out; have := Z28.out; have := Z29.out; have := Z30.out; have := G7.out; omega))
  have E6_7 := Aside0.mk (Ne.symm E7_6.out)
  have CF := Aside0.mk hC
  have LX := Aside0.mk hl
  clear hb hg hbox hl hC
  have hz1 : w30.cell? ⟨g1, 0, none⟩ = some (.slice A0 l0.length c0) := (blk_cell K1.out 0).trans rfl
  have hf1 := blk_frozen K1.out 0
  have hz2 : w30.cell? ⟨g2, 0, none⟩ = some (.slice A1 l1.length c1) := (blk_cell K2.out 0).trans rfl
  have hf2 := blk_frozen K2.out 0
  have hz3 : w30.cell? ⟨g3, 0, none⟩ = some (.slice Aw G.length cw) := (blk_cell K3.out 0).trans rfl
  have hf3 := blk_frozen K3.out 0
  have hz4 : w30.cell? ⟨g4, 0, none⟩ = some (.slice Ac8 l0.length cc8) := (blk_cell K4.out 0).trans rfl
  have hf4 := blk_frozen K4.out 0
  have hz5 : w30.cell? ⟨g5, 0, none⟩ = some (.slice Ac11 l1.length cc11) := (blk_cell K5.out 0).trans rfl
  have hf5 := blk_frozen K5.out 0
  have hz6 : w30.cell? ⟨g6, 0, none⟩ = some (.slice Ag14 G.length cg14) := (blk_cell K6.out 0).trans rfl
  have hf6 := blk_frozen K6.out 0
  have hz7 : w30.cell? ⟨g7, 0, none⟩ = some (.slice none 0 0) := (blk_cell K7.out 0).trans rfl
  have hf7 := blk_frozen K7.out 0
  have hn1_2 := E1_2.out
  have hn1_3 := E1_3.out
  have hn1_4 := E1_4.out
  have hn1_5 := E1_5.out
  have hn1_6 := E1_6.out
  have hn1_7 := E1_7.out
  have hn2_1 := E2_1.out
  have hn2_3 := E2_3.out
  have hn2_4 := E2_4.out
  have hn2_5 := E2_5.out
  have hn2_6 := E2_6.out
  have hn2_7 := E2_7.out
  have hn3_1 := E3_1.out
  have hn3_2 := E3_2.out
  have hn3_4 := E3_4.out
  have hn3_5 := E3_5.out
  have hn3_6 := E3_6.out
  have hn3_7 := E3_7.out
  have hn4_1 := E4_1.out
  have hn4_2 := E4_2.out
  have hn4_3 := E4_3.out
  have hn4_5 := E4_5.out
  have hn4_6 := E4_6.out
  have hn4_7 := E4_7.out
  have hn5_1 := E5_1.out
  have hn5_2 := E5_2.out
  have hn5_3 := E5_3.out
  have hn5_4 := E5_4.out
  have hn5_6 := E5_6.out
  have hn5_7 := E5_7.out
  have hn6_1 := E6_1.out
  have hn6_2 := E6_2.out
  have hn6_3 := E6_3.out
  have hn6_4 := E6_4.out
  have hn6_5 := E6_5.out
  have hn6_7 := E6_7.out
  have hn7_1 := E7_1.out
  have hn7_2 := E7_2.out
  have hn7_3 := E7_3.out
  have hn7_4 := E7_4.out
  have hn7_5 := E7_5.out
  have hn7_6 := E7_6.out
  refine one_ (i := 9) (N := none) #[true, true, true, true, true, true, true, true, true, true, false] rfl rfl (by kernel_rfl) (by decide) (fun K hK => ?_)
  refine skip_ (w1 := ?_) (by rfl) rfl ?_ ?_
  rotate_left
  · go_simp
    rfl
  clear hz1 hf1 hz2 hf2 hz3 hf3 hz4 hf4 hz5 hf5 hz6 hf6 hz7 hf7 hn1_2 hn1_3 hn1_4 hn1_5 hn1_6 hn1_7 hn2_1 hn2_3 hn2_4 hn2_5 hn2_6 hn2_7 hn3_1 hn3_2 hn3_4 hn3_5 hn3_6 hn3_7 hn4_1 hn4_2 hn4_3 hn4_5 hn4_6 hn4_7 hn5_1 hn5_2 hn5_3 hn5_4 hn5_6 hn5_7 hn6_1 hn6_2 hn6_3 hn6_4 hn6_5 hn6_7 hn7_1 hn7_2 hn7_3 hn7_4 hn7_5 hn7_6
  obtain ⟨w31, hw⟩ : ∃ x, x = w30.setCell ⟨g7, 0, none⟩ (.slice Ax G.length cx) := ⟨_, rfl⟩
  rw [← hw]
  have hk : Kept w30 w31 (fun k => g7 ≤ k ∧ k < g7 + 1) := by
    rw [hw]
    exact Kept.setCell (Kept.refl _ _) (.inl ⟨Nat.le_refl _, Nat.lt_succ_self _⟩) _
  have hkb : w31.heap[g7]? = some (.cells #[.slice Ax G.length cx] 27 (0, 0)) := by
    rw [hw]
    simpa using blk_set K7.out 0 (.slice Ax G.length cx)
  replace BW := Aside0.mk (show Below w.heap.size w w31 by
    rw [hw]
    exact below_set BW.out (by have := BZ.out; have := G1_.out; have := G2_.out; have := G3_.out; have := N1_2.out; have := N1_3.out; have := N2_3.out; have := Z8.out; have := Z9.out; have := G4.out; have := Z10.out; have := Z11.out; have := Z12.out; have := G5.out; have := Z13.out; have := Z14.out; have := Z15.out; have := G6.out; have := Z16.out; have := Z17.out; have := Z18.out; have := Z19.out; have := Z20.out; have := Z21.out; have := Z22.out; have := Z23.out; have := Z24.out; have := Z25.out; have := Z26.out; have := Z27.out; have := Z28.out; have := Z29.out; have := Z30.out; have := G7.out; omega))
  replace BS := Aside0.mk (show Below w7.heap.size w7 w31 by
    rw [hw]
    exact below_set BS.out (by have := G1_.out; have := G2_.out; have := G3_.out; have := N1_2.out; have := N1_3.out; have := N2_3.out; have := Z8.out; have := Z9.out; have := G4.out; have := Z10.out; have := Z11.out; have := Z12.out; have := G5.out; have := Z13.out; have := Z14.out; have := Z15.out; have := G6.out; have := Z16.out; have := Z17.out; have := Z18.out; have := Z19.out; have := Z20.out; have := Z21.out; have := Z22.out; have := Z23.out; have := Z24.out; have := Z25.out; have := Z26.out; have := Z27.out; have := Z28.out; have := Z29.out; have := Z30.out; have := G7.out; omega))
  have Z31 := Aside0.mk (show w30.heap.size ≤ w31.heap.size from hk.1)
  clear hw
  replace Oc19 := Aside0.mk (Oc19.out.kept hk (by have := G1_.out; have := G2_.out; have := G3_.out; have := N1_2.out; have := N1_3.out; have := N2_3.out; have := Z8.out; have := Z9.out; have := G4.out; have := Z10.out; have := Z11.out; have := Z12.out; have := G5.out; have := Z13.out; have := Z14.out; have := Z15.out; have := G6.out; have := Z16.out; have := Z17.out; have := Z18.out; have := Z19.out; have := Z20.out; have := Z21.out; have := Z22.out; have := Z23.out; have := Z24.out; have := Z25.out; have := Z26.out; have := Z27.out; have := Z28.out; have := Z29.out; have := Z30.out; have := G7.out; have := Z31.out; omega))
  replace Oc22 := Aside0.mk (Oc22.out.kept hk (by have := G1_.out; have := G2_.out; have := G3_.out; have := N1_2.out; have := N1_3.out; have := N2_3.out; have := Z8.out; have := Z9.out; have := G4.out; have := Z10.out; have := Z11.out; have := Z12.out; have := G5.out; have := Z13.out; have := Z14.out; have := Z15.out; have := G6.out; have := Z16.out; have := Z17.out; have := Z18.out; have := Z19.out; have := Z20.out; have := Z21.out; have := Z22.out; have := Z23.out; have := Z24.out; have := Z25.out; have := Z26.out; have := Z27.out; have := Z28.out; have := Z29.out; have := Z30.out; have := G7.out; have := Z31.out; omega))
  replace Oc8 := Aside0.mk (Oc8.out.kept hk (by have := G1_.out; have := G2_.out; have := G3_.out; have := N1_2.out; have := N1_3.out; have := N2_3.out; have := Z8.out; have := Z9.out; have := G4.out; have := Z10.out; have := Z11.out; have := Z12.out; have := G5.out; have := Z13.out; have := Z14.out; have := Z15.out; have := G6.out; have := Z16.out; have := Z17.out; have := Z18.out; have := Z19.out; have := Z20.out; have := Z21.out; have := Z22.out; have := Z23.out; have := Z24.out; have := Z25.out; have := Z26.out; have := Z27.out; have := Z28.out; have := Z29.out; have := Z30.out; have := G7.out; have := Z31.out; omega))
  replace Oc11 := Aside0.mk (Oc11.out.kept hk (by have := G1_.out; have := G2_.out; have := G3_.out; have := N1_2.out; have := N1_3.out; have := N2_3.out; have := Z8.out; have := Z9.out; have := G4.out; have := Z10.out; have := Z11.out; have := Z12.out; have := G5.out; have := Z13.out; have := Z14.out; have := Z15.out; have := G6.out; have := Z16.out; have := Z17.out; have := Z18.out; have := Z19.out; have := Z20.out; have := Z21.out; have := Z22.out; have := Z23.out; have := Z24.out; have := Z25.out; have := Z26.out; have := Z27.out; have := Z28.out; have := Z29.out; have := Z30.out; have := G7.out; have := Z31.out; omega))
  replace Og14 := Aside0.mk (Og14.out.kept hk (by have := G1_.out; have := G2_.out; have := G3_.out; have := N1_2.out; have := N1_3.out; have := N2_3.out; have := Z8.out; have := Z9.out; have := G4.out; have := Z10.out; have := Z11.out; have := Z12.out; have := G5.out; have := Z13.out; have := Z14.out; have := Z15.out; have := G6.out; have := Z16.out; have := Z17.out; have := Z18.out; have := Z19.out; have := Z20.out; have := Z21.out; have := Z22.out; have := Z23.out; have := Z24.out; have := Z25.out; have := Z26.out; have := Z27.out; have := Z28.out; have := Z29.out; have := Z30.out; have := G7.out; have := Z31.out; omega))
  replace K1 := Aside0.mk (blk_kept K1.out hk (fun hh => by have := G1_.out; have := G2_.out; have := G3_.out; have := N1_2.out; have := N1_3.out; have := N2_3.out; have := Z8.out; have := Z9.out; have := G4.out; have := Z10.out; have := Z11.out; have := Z12.out; have := G5.out; have := Z13.out; have := Z14.out; have := Z15.out; have := G6.out; have := Z16.out; have := Z17.out; have := Z18.out; have := Z19.out; have := Z20.out; have := Z21.out; have := Z22.out; have := Z23.out; have := Z24.out; have := Z25.out; have := Z26.out; have := Z27.out; have := Z28.out; have := Z29.out; have := Z30.out; have := G7.out; have := Z31.out; obtain ⟨h1, h2⟩ := hh; omega))
  replace K2 := Aside0.mk (blk_kept K2.out hk (fun hh => by have := G1_.out; have := G2_.out; have := G3_.out; have := N1_2.out; have := N1_3.out; have := N2_3.out; have := Z8.out; have := Z9.out; have := G4.out; have := Z10.out; have := Z11.out; have := Z12.out; have := G5.out; have := Z13.out; have := Z14.out; have := Z15.out; have := G6.out; have := Z16.out; have := Z17.out; have := Z18.out; have := Z19.out; have := Z20.out; have := Z21.out; have := Z22.out; have := Z23.out; have := Z24.out; have := Z25.out; have := Z26.out; have := Z27.out; have := Z28.out; have := Z29.out; have := Z30.out; have := G7.out; have := Z31.out; obtain ⟨h1, h2⟩ := hh; omega))
  replace K3 := Aside0.mk (blk_kept K3.out hk (fun hh => by have := G1_.out; have := G2_.out; have := G3_.out; have := N1_2.out; have := N1_3.out; have := N2_3.out; have := Z8.out; have := Z9.out; have := G4.out; have := Z10.out; have := Z11.out; have := Z12.out; have := G5.out; have := Z13.out; have := Z14.out; have := Z15.out; have := G6.out; have := Z16.out; have := Z17.out; have := Z18.out; have := Z19.out; have := Z20.out; have := Z21.out; have := Z22.out; have := Z23.out; have := Z24.out; have := Z25.out; have := Z26.out; have := Z27.out; have := Z28.out; have := Z29.out; have := Z30.out; have := G7.out; have := Z31.out; obtain ⟨h1, h2⟩ := hh; omega))
  replace K4 := Aside0.mk (blk_kept K4.out hk (fun hh => by have := G1_.out; have := G2_.out; have := G3_.out; have := N1_2.out; have := N1_3.out; have := N2_3.out; have := Z8.out; have := Z9.out; have := G4.out; have := Z10.out; have := Z11.out; have := Z12.out; have := G5.out; have := Z13.out; have := Z14.out; have := Z15.out; have := G6.out; have := Z16.out; have := Z17.out; have := Z18.out; have := Z19.out; have := Z20.out; have := Z21.out; have := Z22.out; have := Z23.out; have := Z24.out; have := Z25.out; have := Z26.out; have := Z27.out; have := Z28.out; have := Z29.out; have := Z30.out; have := G7.out; have := Z31.out; obtain ⟨h1, h2⟩ := hh; omega))
  replace K5 := Aside0.mk (blk_kept K5.out hk (fun hh => by have := G1_.out; have := G2_.out; have := G3_.out; have := N1_2.out; have := N1_3.out; have := N2_3.out; have := Z8.out; have := Z9.out; have := G4.out; have := Z10.out; have := Z11.out; have := Z12.out; have := G5.out; have := Z13.out; have := Z14.out; have := Z15.out; have := G6.out; have := Z16.out; have := Z17.out; have := Z18.out; have := Z19.out; have := Z20.out; have := Z21.out; have := Z22.out; have := Z23.out; have := Z24.out; have := Z25.out; have := Z26.out; have := Z27.out; have := Z28.out; have := Z29.out; have := Z30.out; have := G7.out; have := Z31.out; obtain ⟨h1, h2⟩ := hh; omega))
  replace K6 := Aside0.mk (blk_kept K6.out hk (fun hh => by have := G1_.out; have := G2_.out; have := G3_.out; have := N1_2.out; have := N1_3.out; have := N2_3.out; have := Z8.out; have := Z9.out; have := G4.out; have := Z10.out; have := Z11.out; have := Z12.out; have := G5.out; have := Z13.out; have := Z14.out; have := Z15.out; have := G6.out; have := Z16.out; have := Z17.out; have := Z18.out; have := Z19.out; have := Z20.out; have := Z21.out; have := Z22.out; have := Z23.out; have := Z24.out; have := Z25.out; have := Z26.out; have := Z27.out; have := Z28.out; have := Z29.out; have := Z30.out; have := G7.out; have := Z31.out; obtain ⟨h1, h2⟩ := hh; omega))
  replace CF := Aside0.mk (Kd.F_kept CF.out hk (fun k h1 h2 => h1 (by omega)))
  replace K7 := Aside0.mk hkb
  clear hk hkb
  have CX := Aside0.mk (Kd.F_now CF.out)
  clear CF
  refine hK.out _ _ ⟨(blk_cell K1.out 0).trans rfl, (blk_cell K2.out 0).trans rfl⟩ (fun hHeld => ?_)
  clear hK K
  refine pure_ (i := 10) (N := some 16) (v := ?_) (a' := ?_) #[true, true, true, true, true, true, true, true, true, true, true] rfl rfl (by kernel_rfl) (fun _ _ _ h => h) (Or.inl ⟨by rfl, ?_⟩) ?_ ?_
  rotate_left
  · intro w'
    go_simp
    with_reducible rfl
  rotate_left
  · simp only [Act.put, List.setIfInBounds_toArray, List.set_cons_zero, List.set_cons_succ, i64_w, i32_w]
    rfl
  refine done_ (by kernel_rfl) ?_
  have hz1 : w31.cell? ⟨g1, 0, none⟩ = some (.slice A0 l0.length c0) := (blk_cell K1.out 0).trans rfl
  have hf1 := blk_frozen K1.out 0
  have hz2 : w31.cell? ⟨g2, 0, none⟩ = some (.slice A1 l1.length c1) := (blk_cell K2.out 0).trans rfl
  have hf2 := blk_frozen K2.out 0
  have hz3 : w31.cell? ⟨g3, 0, none⟩ = some (.slice Aw G.length cw) := (blk_cell K3.out 0).trans rfl
  have hf3 := blk_frozen K3.out 0
  have hz4 : w31.cell? ⟨g4, 0, none⟩ = some (.slice Ac8 l0.length cc8) := (blk_cell K4.out 0).trans rfl
  have hf4 := blk_frozen K4.out 0
  have hz5 : w31.cell? ⟨g5, 0, none⟩ = some (.slice Ac11 l1.length cc11) := (blk_cell K5.out 0).trans rfl
  have hf5 := blk_frozen K5.out 0
  have hz6 : w31.cell? ⟨g6, 0, none⟩ = some (.slice Ag14 G.length cg14) := (blk_cell K6.out 0).trans rfl
  have hf6 := blk_frozen K6.out 0
  have hz7 : w31.cell? ⟨g7, 0, none⟩ = some (.slice Ax G.length cx) := (blk_cell K7.out 0).trans rfl
  have hf7 := blk_frozen K7.out 0
  have hn1_2 := E1_2.out
  have hn1_3 := E1_3.out
  have hn1_4 := E1_4.out
  have hn1_5 := E1_5.out
  have hn1_6 := E1_6.out
  have hn1_7 := E1_7.out
  have hn2_1 := E2_1.out
  have hn2_3 := E2_3.out
  have hn2_4 := E2_4.out
  have hn2_5 := E2_5.out
  have hn2_6 := E2_6.out
  have hn2_7 := E2_7.out
  have hn3_1 := E3_1.out
  have hn3_2 := E3_2.out
  have hn3_4 := E3_4.out
  have hn3_5 := E3_5.out
  have hn3_6 := E3_6.out
  have hn3_7 := E3_7.out
  have hn4_1 := E4_1.out
  have hn4_2 := E4_2.out
  have hn4_3 := E4_3.out
  have hn4_5 := E4_5.out
  have hn4_6 := E4_6.out
  have hn4_7 := E4_7.out
  have hn5_1 := E5_1.out
  have hn5_2 := E5_2.out
  have hn5_3 := E5_3.out
  have hn5_4 := E5_4.out
  have hn5_6 := E5_6.out
  have hn5_7 := E5_7.out
  have hn6_1 := E6_1.out
  have hn6_2 := E6_2.out
  have hn6_3 := E6_3.out
  have hn6_4 := E6_4.out
  have hn6_5 := E6_5.out
  have hn6_7 := E6_7.out
  have hn7_1 := E7_1.out
  have hn7_2 := E7_2.out
  have hn7_3 := E7_3.out
  have hn7_4 := E7_4.out
  have hn7_5 := E7_5.out
  have hn7_6 := E7_6.out
  go_wp2_with (fail)
  clear hz1 hf1 hz2 hf2 hz3 hf3 hz4 hf4 hz5 hf5 hz6 hf6 hz7 hf7 hn1_2 hn1_3 hn1_4 hn1_5 hn1_6 hn1_7 hn2_1 hn2_3 hn2_4 hn2_5 hn2_6 hn2_7 hn3_1 hn3_2 hn3_4 hn3_5 hn3_6 hn3_7 hn4_1 hn4_2 hn4_3 hn4_5 hn4_6 hn4_7 hn5_1 hn5_2 hn5_3 hn5_4 hn5_6 hn5_7 hn6_1 hn6_2 hn6_3 hn6_4 hn6_5 hn6_7 hn7_1 hn7_2 hn7_3 hn7_4 hn7_5 hn7_6
  refine (sameM_any Ax Aw cx cw G _ HF.out CX.out LX.out (Kd.C_below CW.out BS.out) LW.out).mono ?_
  rintro e w32 ⟨rfl, hb⟩
  replace Oc19 := Aside0.mk (Oc19.out.below hb)
  replace Oc22 := Aside0.mk (Oc22.out.below hb)
  replace Oc8 := Aside0.mk (Oc8.out.below hb)
  replace Oc11 := Aside0.mk (Oc11.out.below hb)
  replace Og14 := Aside0.mk (Og14.out.below hb)
  replace K1 := Aside0.mk (blk_below K1.out hb)
  replace K2 := Aside0.mk (blk_below K2.out hb)
  replace K3 := Aside0.mk (blk_below K3.out hb)
  replace K4 := Aside0.mk (blk_below K4.out hb)
  replace K5 := Aside0.mk (blk_below K5.out hb)
  replace K6 := Aside0.mk (blk_below K6.out hb)
  replace K7 := Aside0.mk (blk_below K7.out hb)
  replace BW := Aside0.mk (below_step BW.out hb)
  replace BS := Aside0.mk (below_step BS.out hb)
  have Z32 := Aside0.mk (show w31.heap.size ≤ w32.heap.size from hb.size)
  clear hb CX LX
  have hz1 : w32.cell? ⟨g1, 0, none⟩ = some (.slice A0 l0.length c0) := (blk_cell K1.out 0).trans rfl
  have hf1 := blk_frozen K1.out 0
  have hz2 : w32.cell? ⟨g2, 0, none⟩ = some (.slice A1 l1.length c1) := (blk_cell K2.out 0).trans rfl
  have hf2 := blk_frozen K2.out 0
  have hz3 : w32.cell? ⟨g3, 0, none⟩ = some (.slice Aw G.length cw) := (blk_cell K3.out 0).trans rfl
  have hf3 := blk_frozen K3.out 0
  have hz4 : w32.cell? ⟨g4, 0, none⟩ = some (.slice Ac8 l0.length cc8) := (blk_cell K4.out 0).trans rfl
  have hf4 := blk_frozen K4.out 0
  have hz5 : w32.cell? ⟨g5, 0, none⟩ = some (.slice Ac11 l1.length cc11) := (blk_cell K5.out 0).trans rfl
  have hf5 := blk_frozen K5.out 0
  have hz6 : w32.cell? ⟨g6, 0, none⟩ = some (.slice Ag14 G.length cg14) := (blk_cell K6.out 0).trans rfl
  have hf6 := blk_frozen K6.out 0
  have hz7 : w32.cell? ⟨g7, 0, none⟩ = some (.slice Ax G.length cx) := (blk_cell K7.out 0).trans rfl
  have hf7 := blk_frozen K7.out 0
  have hn1_2 := E1_2.out
  have hn1_3 := E1_3.out
  have hn1_4 := E1_4.out
  have hn1_5 := E1_5.out
  have hn1_6 := E1_6.out
  have hn1_7 := E1_7.out
  have hn2_1 := E2_1.out
  have hn2_3 := E2_3.out
  have hn2_4 := E2_4.out
  have hn2_5 := E2_5.out
  have hn2_6 := E2_6.out
  have hn2_7 := E2_7.out
  have hn3_1 := E3_1.out
  have hn3_2 := E3_2.out
  have hn3_4 := E3_4.out
  have hn3_5 := E3_5.out
  have hn3_6 := E3_6.out
  have hn3_7 := E3_7.out
  have hn4_1 := E4_1.out
  have hn4_2 := E4_2.out
  have hn4_3 := E4_3.out
  have hn4_5 := E4_5.out
  have hn4_6 := E4_6.out
  have hn4_7 := E4_7.out
  have hn5_1 := E5_1.out
  have hn5_2 := E5_2.out
  have hn5_3 := E5_3.out
  have hn5_4 := E5_4.out
  have hn5_6 := E5_6.out
  have hn5_7 := E5_7.out
  have hn6_1 := E6_1.out
  have hn6_2 := E6_2.out
  have hn6_3 := E6_3.out
  have hn6_4 := E6_4.out
  have hn6_5 := E6_5.out
  have hn6_7 := E6_7.out
  have hn7_1 := E7_1.out
  have hn7_2 := E7_2.out
  have hn7_3 := E7_3.out
  have hn7_4 := E7_4.out
  have hn7_5 := E7_5.out
  have hn7_6 := E7_6.out
  go_wp2_with (fail)
  clear hz1 hf1 hz2 hf2 hz3 hf3 hz4 hf4 hz5 hf5 hz6 hf6 hz7 hf7 hn1_2 hn1_3 hn1_4 hn1_5 hn1_6 hn1_7 hn2_1 hn2_3 hn2_4 hn2_5 hn2_6 hn2_7 hn3_1 hn3_2 hn3_4 hn3_5 hn3_6 hn3_7 hn4_1 hn4_2 hn4_3 hn4_5 hn4_6 hn4_7 hn5_1 hn5_2 hn5_3 hn5_4 hn5_6 hn5_7 hn6_1 hn6_2 hn6_3 hn6_4 hn6_5 hn6_7 hn7_1 hn7_2 hn7_3 hn7_4 hn7_5 hn7_6
  refine (heldM_any Ag14 cg14 G 1 _ HG1.out (by omega) HG2.out Og14.out.C Lg14.out).mono ?_
  rintro e w33 ⟨rfl, hb⟩
  replace Oc19 := Aside0.mk (Oc19.out.below hb)
  replace Oc22 := Aside0.mk (Oc22.out.below hb)
  replace Oc8 := Aside0.mk (Oc8.out.below hb)
  replace Oc11 := Aside0.mk (Oc11.out.below hb)
  replace Og14 := Aside0.mk (Og14.out.below hb)
  replace K1 := Aside0.mk (blk_below K1.out hb)
  replace K2 := Aside0.mk (blk_below K2.out hb)
  replace K3 := Aside0.mk (blk_below K3.out hb)
  replace K4 := Aside0.mk (blk_below K4.out hb)
  replace K5 := Aside0.mk (blk_below K5.out hb)
  replace K6 := Aside0.mk (blk_below K6.out hb)
  replace K7 := Aside0.mk (blk_below K7.out hb)
  replace BW := Aside0.mk (below_step BW.out hb)
  replace BS := Aside0.mk (below_step BS.out hb)
  have Z33 := Aside0.mk (show w32.heap.size ≤ w33.heap.size from hb.size)
  clear hb
  have hz1 : w33.cell? ⟨g1, 0, none⟩ = some (.slice A0 l0.length c0) := (blk_cell K1.out 0).trans rfl
  have hf1 := blk_frozen K1.out 0
  have hz2 : w33.cell? ⟨g2, 0, none⟩ = some (.slice A1 l1.length c1) := (blk_cell K2.out 0).trans rfl
  have hf2 := blk_frozen K2.out 0
  have hz3 : w33.cell? ⟨g3, 0, none⟩ = some (.slice Aw G.length cw) := (blk_cell K3.out 0).trans rfl
  have hf3 := blk_frozen K3.out 0
  have hz4 : w33.cell? ⟨g4, 0, none⟩ = some (.slice Ac8 l0.length cc8) := (blk_cell K4.out 0).trans rfl
  have hf4 := blk_frozen K4.out 0
  have hz5 : w33.cell? ⟨g5, 0, none⟩ = some (.slice Ac11 l1.length cc11) := (blk_cell K5.out 0).trans rfl
  have hf5 := blk_frozen K5.out 0
  have hz6 : w33.cell? ⟨g6, 0, none⟩ = some (.slice Ag14 G.length cg14) := (blk_cell K6.out 0).trans rfl
  have hf6 := blk_frozen K6.out 0
  have hz7 : w33.cell? ⟨g7, 0, none⟩ = some (.slice Ax G.length cx) := (blk_cell K7.out 0).trans rfl
  have hf7 := blk_frozen K7.out 0
  have hn1_2 := E1_2.out
  have hn1_3 := E1_3.out
  have hn1_4 := E1_4.out
  have hn1_5 := E1_5.out
  have hn1_6 := E1_6.out
  have hn1_7 := E1_7.out
  have hn2_1 := E2_1.out
  have hn2_3 := E2_3.out
  have hn2_4 := E2_4.out
  have hn2_5 := E2_5.out
  have hn2_6 := E2_6.out
  have hn2_7 := E2_7.out
  have hn3_1 := E3_1.out
  have hn3_2 := E3_2.out
  have hn3_4 := E3_4.out
  have hn3_5 := E3_5.out
  have hn3_6 := E3_6.out
  have hn3_7 := E3_7.out
  have hn4_1 := E4_1.out
  have hn4_2 := E4_2.out
  have hn4_3 := E4_3.out
  have hn4_5 := E4_5.out
  have hn4_6 := E4_6.out
  have hn4_7 := E4_7.out
  have hn5_1 := E5_1.out
  have hn5_2 := E5_2.out
  have hn5_3 := E5_3.out
  have hn5_4 := E5_4.out
  have hn5_6 := E5_6.out
  have hn5_7 := E5_7.out
  have hn6_1 := E6_1.out
  have hn6_2 := E6_2.out
  have hn6_3 := E6_3.out
  have hn6_4 := E6_4.out
  have hn6_5 := E6_5.out
  have hn6_7 := E6_7.out
  have hn7_1 := E7_1.out
  have hn7_2 := E7_2.out
  have hn7_3 := E7_3.out
  have hn7_4 := E7_4.out
  have hn7_5 := E7_5.out
  have hn7_6 := E7_6.out
  go_wp2
  go_ret
  exact ⟨rfl, BW.out⟩
end Go.Proofs.Ytbchhpplglllmaa.G
