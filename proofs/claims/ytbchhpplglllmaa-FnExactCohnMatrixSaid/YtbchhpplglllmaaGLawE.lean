/- The laws' helpers over answers that are matrices, as the walks of the laws meet them: copies, comparisons, marks. -/
import Derived.Test.YtbchhpplglllmaaPx1
import Derived.Test.YtbchhpplglllmaaQMatE
import Derived.Test.YtbchhpplglllmaaQLawsSS
import Derived.Test.YtbchhpplglllmaaGOwn
namespace Go.Proofs.Ytbchhpplglllmaa.G
open Go.RowKit Go.Proofs.Ytbchhpplglllmaa.P Go.Proofs.YtbchhpplglllmaaW.PrintWords Go.Proofs.YtbchhpplglllmaaW.PrintLast Go.Proofs.Ytbchhpplglllmaa.Q
set_option linter.unusedVariables false
set_option linter.unusedSimpArgs false

theorem sameM_any (A A' : Option Addr) (c c' : Nat) (L : List (List Int)) (w : World) (hL : Fits L) (hr : Kd.C (Kd.slice 3 (Kd.int .i64)) w A L.length L) (hc : L.length ≤ c) (hr' : Kd.C (Kd.slice 3 (Kd.int .i64)) w A' L.length L) (hc' : L.length ≤ c') :
    Calls Try.prog 16 #[.agg #[.slice A L.length c], .agg #[.slice A' L.length c']] w fun e w' => e = .returned (.bool true) ∧ Below w.heap.size w w' := by
  obtain ⟨k, h⟩ := Ev_out (g := fun k => laws_eqMatrix.f k L L) (eqMat_same hL)
  exact laws_eqMatrix.calls k A c L A' c' L true w hr hc hr' hc' h
theorem markM_any (base : World) (lo hi : Nat) (A : Option Addr) (c : Nat) (L : List (List Int)) (a : Int) (w : World) (hB : Below base.heap.size base w) (hO : OwnM w base.heap.size lo hi (.slice A L.length c) L)
    (hn : L.length ≤ 4611686018427387904) (h0 : 0 ≤ a) (ha : a + tot L ≤ 4611686018427387904) (hh : hi ≤ w.heap.size) :
    Calls Try.prog 25 #[.agg #[.slice A L.length c], .int .i64 a] w fun e w' => e = .returned (.int .i64 (a + tot L)) ∧ OwnM w' base.heap.size lo hi (.slice A L.length c) (markLL a L) ∧ Below base.heap.size base w' ∧ Kept w w' (fun k => lo ≤ k ∧ k < hi) := by
  have hu := Try.underlying27
  have X := Aside0.mk (fun (W : World) (hb : Below w.heap.size w W) => markSS_any (.slice A L.length c) L a (fun k => lo ≤ k ∧ k < hi) base W (below_step hB hb) (Kd.S_below hO hb) hn h0 ha)
  have B0 := Aside0.mk hB
  clear hB hO hn h0 ha
  go_enter Try.func25, Try.ntmps25
  go_wp2_with fail
  refine (X.out _ (below_alloc (Below.refl _ _) _)).mono ?_
  rintro e w' ⟨rfl, hS, hb, hk⟩
  have S1 := Aside0.mk hS
  have B1 := Aside0.mk hb
  have K1 := Aside0.mk ((Kept.alloc (Kept.refl w (fun k => lo ≤ k ∧ k < hi)) _).then_ hk (fun k h => .inl h))
  clear hS hb hk X
  go_wp2
  go_ret
  exact ⟨rfl, S1.out, B1.out, K1.out⟩
theorem heldM_any (A : Option Addr) (c : Nat) (L : List (List Int)) (a : Int) (w : World) (hn : L.length ≤ 4611686018427387904) (h0 : 0 ≤ a) (ha : a + tot L ≤ 4611686018427387904) (hr : Kd.C (Kd.slice 3 (Kd.int .i64)) w A (markLL a L).length (markLL a L)) (hc : L.length ≤ c) :
    Calls Try.prog 32 #[.agg #[.slice A L.length c], .int .i64 a] w fun e w' => e = .returned (.int .i64 (a + tot L)) ∧ Below w.heap.size w w' := by
  obtain ⟨kh, hkh⟩ := Ev_out (g := fun k => laws_heldMatrix.f k (markLL a L) a) (r := a + tot L) (by
    unfold laws_heldMatrix.f
    exact Ev.bind (heldIntSS_ev (L := L) (a := a) hn h0 ha) (Ev_false (by omega) Ev_some))
  have h := laws_heldMatrix.calls kh A c (markLL a L) a _ w hr (by rw [markLL_length]; exact hc) hkh
  rw [markLL_length] at h
  exact h
end Go.Proofs.Ytbchhpplglllmaa.G
