/- The laws' helpers over matrices and lists, as the walks of the laws meet them: copies, comparisons, marks. -/
import Derived.Test.YtldkkfpodldbgaaPx1
import Derived.Test.YtldkkfpodldbgaaPx2
import Derived.Test.YtldkkfpodldbgaaQMat
import Derived.Test.YtldkkfpodldbgaaQLawsSS
import Derived.Test.YtldkkfpodldbgaaGOwn
namespace Go.Proofs.Ytldkkfpodldbgaa.G
open Go.RowKit Go.Proofs.Ytldkkfpodldbgaa.P Go.Proofs.YtldkkfpodldbgaaW.PrintWords Go.Proofs.YtldkkfpodldbgaaW.PrintLast Go.Proofs.Ytldkkfpodldbgaa.Q
set_option linter.unusedVariables false
set_option linter.unusedSimpArgs false

/-- A copy. -/
theorem copyM {L : List (List Int)} (hL : Fits L) : ∃ k, laws_toMatrix.f k L = some L := Ev_out (g := fun k => laws_toMatrix.f k L) (toMat_ev hL)
theorem copyM_any (A : Option Addr) (c : Nat) (L : List (List Int)) (w : World) (hL : Fits L) (hr : Kd.C (Kd.slice 3 (Kd.int .i64)) w A L.length L) (hc : L.length ≤ c) :
    Calls Try.prog 11 #[.agg #[.slice A L.length c]] w fun e w' => ∃ A' c', e = .returned (.agg #[.slice A' L.length c']) ∧ L.length ≤ c' ∧ OwnM w' w.heap.size w.heap.size w'.heap.size (.slice A' L.length c') L ∧ Below w.heap.size w w' := by
  obtain ⟨k, h⟩ := copyM hL
  refine (laws_toMatrix.calls k A c L L w hr hc h).mono ?_
  rintro e w' ⟨v, rfl, hS, hb⟩
  obtain ⟨A', c', rfl, hl, hO⟩ := OwnM.of hS
  exact ⟨A', c', rfl, hl, hO, hb⟩
theorem copyI_any (A : Option Addr) (c : Nat) (L : List Int) (w : World) (hL : L.length ≤ 1048576) (hr : Kd.C (Kd.int .i64) w A L.length L) (hc : L.length ≤ c) :
    Calls Try.prog 19 #[.slice A L.length c] w fun e w' => ∃ A' c', e = .returned (.slice A' L.length c') ∧ L.length ≤ c' ∧ OwnI w' w.heap.size w.heap.size w'.heap.size (.slice A' L.length c') L ∧ Below w.heap.size w w' := by
  obtain ⟨k, h⟩ := Ev_out (g := fun k => laws_toIntS.f k L) (toIntS_ev (x := L) (by omega))
  refine (laws_toIntS.calls k A c L L w hr hc h).mono ?_
  rintro e w' ⟨v, rfl, hS, hb⟩
  obtain ⟨A', c', rfl, hl, hO⟩ := OwnI.of hS
  exact ⟨A', c', rfl, hl, hO, hb⟩
/-- Equal ones are told equal. -/
theorem sameM_any (A A' : Option Addr) (c c' : Nat) (L : List (List Int)) (w : World) (hL : Fits L) (hr : Kd.C (Kd.slice 3 (Kd.int .i64)) w A L.length L) (hc : L.length ≤ c) (hr' : Kd.C (Kd.slice 3 (Kd.int .i64)) w A' L.length L) (hc' : L.length ≤ c') :
    Calls Try.prog 13 #[.agg #[.slice A L.length c], .agg #[.slice A' L.length c']] w fun e w' => e = .returned (.bool true) ∧ Below w.heap.size w w' := by
  obtain ⟨k, h⟩ := Ev_out (g := fun k => laws_eqMatrix.f k L L) (eqMat_same hL)
  exact laws_eqMatrix.calls k A c L A' c' L true w hr hc hr' hc' h
theorem sameI_any (A A' : Option Addr) (c c' : Nat) (L : List Int) (w : World) (hL : L.length ≤ 4611686018427387904) (hr : Kd.C (Kd.int .i64) w A L.length L) (hc : L.length ≤ c) (hr' : Kd.C (Kd.int .i64) w A' L.length L) (hc' : L.length ≤ c') :
    Calls Try.prog 22 #[.slice A L.length c, .slice A' L.length c'] w fun e w' => e = .returned (.bool true) ∧ Below w.heap.size w w' := by
  obtain ⟨k, h⟩ := Ev_out (g := fun k => laws_eqIntS.f k L L) (eqIntS_same (l := L) hL)
  refine (laws_eqIntS.calls k A c L A' c' L true w hr hc hr' hc' h).mono ?_
  rintro e w' ⟨rfl, hd⟩
  exact ⟨rfl, Drawn0.below hd⟩
/-- Marks. -/
theorem markM_any (base : World) (lo hi : Nat) (A : Option Addr) (c : Nat) (L : List (List Int)) (a : Int) (w : World) (hB : Below base.heap.size base w) (hO : OwnM w base.heap.size lo hi (.slice A L.length c) L)
    (hn : L.length ≤ 4611686018427387904) (h0 : 0 ≤ a) (ha : a + tot L ≤ 4611686018427387904) (hh : hi ≤ w.heap.size) :
    Calls Try.prog 14 #[.agg #[.slice A L.length c], .int .i64 a] w fun e w' => e = .returned (.int .i64 (a + tot L)) ∧ OwnM w' base.heap.size lo hi (.slice A L.length c) (markLL a L) ∧ Below base.heap.size base w' ∧ Kept w w' (fun k => lo ≤ k ∧ k < hi) := by
  have hu := Try.underlying26
  have X := Aside0.mk (fun (W : World) (hb : Below w.heap.size w W) => markSS_any (.slice A L.length c) L a (fun k => lo ≤ k ∧ k < hi) base W (below_step hB hb) (Kd.S_below hO hb) hn h0 ha)
  have B0 := Aside0.mk hB
  clear hB hO hn h0 ha
  go_enter Try.func14, Try.ntmps14
  go_wp2_with fail
  refine (X.out _ (below_alloc (Below.refl _ _) _)).mono ?_
  rintro e w' ⟨rfl, hS, hb, hk⟩
  have S1 := Aside0.mk hS
  have B1 := Aside0.mk hb
  have K1 := Aside0.mk ((Kept.alloc (Kept.refl w (fun k => lo ≤ k ∧ k < hi)) _).then_ hk (fun k h => .inl h))
  clear hS hb hk X
  go_wp2
  go_ret
  exact ⟨rfl, S1.out, B1.out, K1.out⟩
theorem markI_any (base : World) (lo hi : Nat) (A : Option Addr) (c : Nat) (L : List Int) (a : Int) (w : World) (hB : Below base.heap.size base w) (hO : OwnI w base.heap.size lo hi (.slice A L.length c) L)
    (hn : L.length ≤ 4611686018427387904) (h0 : 0 ≤ a) (ha : a + L.length ≤ 4611686018427387904) (hh : hi ≤ w.heap.size) :
    Calls Try.prog 24 #[.slice A L.length c, .int .i64 a] w fun e w' => e = .returned (.int .i64 (a + L.length)) ∧ OwnI w' base.heap.size lo hi (.slice A L.length c) (marks a L.length) ∧ Below base.heap.size base w' ∧ Kept w w' (fun k => lo ≤ k ∧ k < hi) := by
  obtain ⟨km, hkm⟩ := Ev_out (markIntS_ev (x := L) (a := a) hn h0 ha)
  refine (laws_markIntS.calls km (fun k => lo ≤ k ∧ k < hi) (.slice A L.length c) L a _ _ base w hB hO hkm).mono ?_
  rintro e w' ⟨rfl, hR, hb, hk⟩
  refine ⟨rfl, ?_, hb, hk⟩
  have h1 := Kd.R_tight rfl hR
  exact Kd.R_mono h1 (fun k hk => hO.1 k hk.symm)
/-- The marks stand. -/
theorem heldM_any (A : Option Addr) (c : Nat) (L : List (List Int)) (a : Int) (w : World) (hn : L.length ≤ 4611686018427387904) (h0 : 0 ≤ a) (ha : a + tot L ≤ 4611686018427387904) (hr : Kd.C (Kd.slice 3 (Kd.int .i64)) w A (markLL a L).length (markLL a L)) (hc : L.length ≤ c) :
    Calls Try.prog 15 #[.agg #[.slice A L.length c], .int .i64 a] w fun e w' => e = .returned (.int .i64 (a + tot L)) ∧ Below w.heap.size w w' := by
  obtain ⟨kh, hkh⟩ := Ev_out (g := fun k => laws_heldMatrix.f k (markLL a L) a) (r := a + tot L) (by
    unfold laws_heldMatrix.f
    exact Ev.bind (heldIntSS_ev (L := L) (a := a) hn h0 ha) (Ev_false (by omega) Ev_some))
  have h := laws_heldMatrix.calls kh A c (markLL a L) a _ w hr (by rw [markLL_length]; exact hc) hkh
  rw [markLL_length] at h
  exact h
theorem heldI_any (A : Option Addr) (c : Nat) (L : List Int) (a : Int) (w : World) (hn : L.length ≤ 4611686018427387904) (h0 : 0 ≤ a) (ha : a + L.length ≤ 4611686018427387904) (hr : Kd.C (Kd.int .i64) w A (marks a L.length).length (marks a L.length)) (hc : L.length ≤ c) :
    Calls Try.prog 113 #[.slice A L.length c, .int .i64 a] w fun e w' => e = .returned (.int .i64 (a + L.length)) ∧ Below w.heap.size w w' := by
  obtain ⟨kh, hkh⟩ := Ev_out (heldIntS_ev (n := L.length) (a := a) hn h0 ha)
  have h := laws_heldIntS.calls kh A c (marks a L.length) a _ w hr (by rw [marks_length]; exact hc) hkh
  rw [marks_length] at h
  refine h.mono ?_
  rintro e w' ⟨rfl, hd⟩
  exact ⟨rfl, Drawn0.below hd⟩
end Go.Proofs.Ytldkkfpodldbgaa.G
