/- The law FnExactQuotientRun, walked by hand, out of what both programs' functions come to. Written by a program of this session (wip/mkwalk.py). -/
import Derived.Test.YtaphbbnoadjplaaGLawR
namespace Go.Proofs.Ytaphbbnoadjplaa.G
open Go.RowKit Go.Proofs.Ytaphbbnoadjplaa.P Go.Proofs.YtaphbbnoadjplaaW.PrintWords Go.Proofs.YtaphbbnoadjplaaW.PrintLast Go.Proofs.Ytaphbbnoadjplaa.Q
set_option linter.unusedVariables false
set_option linter.unusedSimpArgs false
set_option maxHeartbeats 8000000 in
set_option maxRecDepth 100000 in
theorem FnExactQuotientRun_calls (a0 : Int) (a1 : Int) (G : List (List Int)) (b : Bool) (w : World)  
    (hs : ∀ (W : World) , Calls Try.prog 8 #[.int .i64 a0, .int .i64 a1] W fun e w' => ∃ A c, e = .returned (.tuple #[.slice A G.length c, .bool b]) ∧ G.length ≤ c ∧ Kd.C (Kd.slice 3 (Kd.int .i64)) w' A G.length G ∧ Below W.heap.size W w')
    (hi : ∀ (W : World) , Calls Try.prog 9 #[.int .i64 a0, .int .i64 a1] W fun e w' => ∃ v, e = .returned (.tuple #[v, .bool b]) ∧ Kd.S (Kd.slice 3 (Kd.int .i64)) 34 w' W.heap.size (fun _ => True) v G ∧ Below W.heap.size W w')
    (hg : G.length ≤ 4611686018427387904 ∧ (1 : Int) + tot G ≤ 4611686018427387904 ∧ (G.length ≤ 4611686018427387904 ∧ ∀ x ∈ G, x.length ≤ 4611686018427387904)) :
    Calls Try.prog 3 #[.int .i64 a0, .int .i64 a1] w fun e w' => e = .returned (.bool true) ∧ Below w.heap.size w w' := by
  have hg1 := hg.1
  have hg2 := hg.2.1
  have HF := Aside0.mk hg.2.2
  have eg : decide (1 + ((tot G : Nat) : Int) < 0) = false := decide_eq_false (by omega)
  have HG1 := Aside0.mk hg1
  have HG2 := Aside0.mk hg2
  have HS := Aside0.mk hs
  have HI := Aside0.mk hi
  clear hs hi hg hg1 hg2
  have BW := Aside0.mk (Below.refl w.heap.size w)
  go_enter Try.func3, Try.ntmps3
  have BZ := Aside0.mk (Nat.le_refl w.heap.size)
  go_wp2_with (fail)
  refine (HS.out _ ).mono ?_
  rintro e w1 ⟨Aw, cw, rfl, hlw, hCw, hb⟩
  replace BW := Aside0.mk (below_step BW.out hb)
  have Z1 := Aside0.mk (show w.heap.size ≤ w1.heap.size from hb.size)
  have LW := Aside0.mk hlw
  have CW := Aside0.mk hCw
  have B0 := Aside0.mk BW.out
  have BS := Aside0.mk (Below.refl w1.heap.size w1)
  replace BZ := Aside0.mk BW.out.size
  clear hb hlw hCw HS
  go_wp2_with (fail)
  refine (HI.out _ ).mono ?_
  rintro e w2 ⟨vg2, rfl, hS, hb⟩
  replace BW := Aside0.mk (below_step BW.out hb)
  replace BS := Aside0.mk (below_step BS.out hb)
  have Z2 := Aside0.mk (show w1.heap.size ≤ w2.heap.size from hb.size)
  obtain ⟨Ag2, cg2, rfl, hl, hO⟩ := OwnM.of hS
  clear hS
  have Og2 := Aside0.mk (hO.lower (base' := w1.heap.size) (by have := Z2.out; omega))
  have Lg2 := Aside0.mk hl
  clear hb hl hO
  go_wp2_with (fail)
  refine (sameR_any Ag2 Aw cg2 cw G _ HF.out Og2.out.C Lg2.out (Kd.C_below CW.out BS.out) LW.out).mono ?_
  rintro e w3 ⟨rfl, hb⟩
  replace Og2 := Aside0.mk (Og2.out.below hb)
  replace BW := Aside0.mk (below_step BW.out hb)
  replace BS := Aside0.mk (below_step BS.out hb)
  have Z3 := Aside0.mk (show w2.heap.size ≤ w3.heap.size from hb.size)
  clear hb
  go_wp2_with (fail)
  refine (markR_any w1 w1.heap.size w2.heap.size Ag2 cg2 G 1 _ BS.out Og2.out HG1.out (by omega) HG2.out (by have := Z2.out; have := Z3.out; omega)).mono ?_
  rintro e w4 ⟨rfl, hO, hb, hk⟩
  replace BS := Aside0.mk hb
  replace BW := Aside0.mk (below_step B0.out hb)
  have Z4 := Aside0.mk (show w3.heap.size ≤ w4.heap.size from hk.1)
  replace Og2 := Aside0.mk hO
  clear hb hO hk
  go_wp2_with (fail)
  refine (heldR_any Ag2 cg2 G 1 _ HG1.out (by omega) HG2.out Og2.out.C Lg2.out).mono ?_
  rintro e w5 ⟨rfl, hb⟩
  replace Og2 := Aside0.mk (Og2.out.below hb)
  replace BW := Aside0.mk (below_step BW.out hb)
  replace BS := Aside0.mk (below_step BS.out hb)
  have Z5 := Aside0.mk (show w4.heap.size ≤ w5.heap.size from hb.size)
  clear hb
  go_wp2_with (fail)
  refine (HI.out _ ).mono ?_
  rintro e w6 ⟨vg6, rfl, hS, hb⟩
  replace Og2 := Aside0.mk (Og2.out.below hb)
  replace BW := Aside0.mk (below_step BW.out hb)
  replace BS := Aside0.mk (below_step BS.out hb)
  have Z6 := Aside0.mk (show w5.heap.size ≤ w6.heap.size from hb.size)
  obtain ⟨Ag6, cg6, rfl, hl, hO⟩ := OwnM.of hS
  clear hS
  have Og6 := Aside0.mk (hO.lower (base' := w1.heap.size) (by have := Z2.out; have := Z3.out; have := Z4.out; have := Z5.out; have := Z6.out; omega))
  have Lg6 := Aside0.mk hl
  clear hb hl hO
  go_wp2_with (fail)
  refine (sameR_any Ag6 Aw cg6 cw G _ HF.out Og6.out.C Lg6.out (Kd.C_below CW.out BS.out) LW.out).mono ?_
  rintro e w7 ⟨rfl, hb⟩
  replace Og2 := Aside0.mk (Og2.out.below hb)
  replace Og6 := Aside0.mk (Og6.out.below hb)
  replace BW := Aside0.mk (below_step BW.out hb)
  replace BS := Aside0.mk (below_step BS.out hb)
  have Z7 := Aside0.mk (show w6.heap.size ≤ w7.heap.size from hb.size)
  clear hb
  go_wp2_with (fail)
  refine (heldR_any Ag2 cg2 G 1 _ HG1.out (by omega) HG2.out Og2.out.C Lg2.out).mono ?_
  rintro e w8 ⟨rfl, hb⟩
  replace Og2 := Aside0.mk (Og2.out.below hb)
  replace Og6 := Aside0.mk (Og6.out.below hb)
  replace BW := Aside0.mk (below_step BW.out hb)
  replace BS := Aside0.mk (below_step BS.out hb)
  have Z8 := Aside0.mk (show w7.heap.size ≤ w8.heap.size from hb.size)
  clear hb
  go_wp2
  go_ret
  exact ⟨rfl, BW.out⟩
end Go.Proofs.Ytaphbbnoadjplaa.G
