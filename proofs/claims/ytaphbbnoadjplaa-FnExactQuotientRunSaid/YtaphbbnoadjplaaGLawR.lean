/- The laws' helpers over rows of rows, as the walks of the laws meet them. -/
import Derived.Test.YtaphbbnoadjplaaPx2
import Derived.Test.YtaphbbnoadjplaaQLawsSS
import Derived.Test.YtaphbbnoadjplaaGOwn
namespace Go.Proofs.Ytaphbbnoadjplaa.G
open Go.RowKit Go.Proofs.Ytaphbbnoadjplaa.P Go.Proofs.YtaphbbnoadjplaaW.PrintWords Go.Proofs.YtaphbbnoadjplaaW.PrintLast Go.Proofs.Ytaphbbnoadjplaa.Q
set_option linter.unusedVariables false
set_option linter.unusedSimpArgs false

theorem sameR_any (A A' : Option Addr) (c c' : Nat) (L : List (List Int)) (w : World) (hL : L.length ≤ 4611686018427387904 ∧ ∀ x ∈ L, x.length ≤ 4611686018427387904) (hr : Kd.C (Kd.slice 3 (Kd.int .i64)) w A L.length L) (hc : L.length ≤ c) (hr' : Kd.C (Kd.slice 3 (Kd.int .i64)) w A' L.length L) (hc' : L.length ≤ c') :
    Calls Try.prog 10 #[.slice A L.length c, .slice A' L.length c'] w fun e w' => e = .returned (.bool true) ∧ Below w.heap.size w w' := by
  obtain ⟨k, h⟩ := Ev_out (g := fun k => laws_eqIntSS.f k L L) (eqIntSS_same (L := L) hL.1 hL.2)
  refine (laws_eqIntSS.calls k A c L A' c' L true w hr hc hr' hc' h).mono ?_
  rintro e w' ⟨rfl, hd⟩
  exact ⟨rfl, Drawn0.below hd⟩
theorem markR_any (base : World) (lo hi : Nat) (A : Option Addr) (c : Nat) (L : List (List Int)) (a : Int) (w : World) (hB : Below base.heap.size base w) (hO : OwnM w base.heap.size lo hi (.slice A L.length c) L)
    (hn : L.length ≤ 4611686018427387904) (h0 : 0 ≤ a) (ha : a + tot L ≤ 4611686018427387904) (hh : hi ≤ w.heap.size) :
    Calls Try.prog 11 #[.slice A L.length c, .int .i64 a] w fun e w' => e = .returned (.int .i64 (a + tot L)) ∧ OwnM w' base.heap.size lo hi (.slice A L.length c) (markLL a L) ∧ Below base.heap.size base w' ∧ Kept w w' (fun k => lo ≤ k ∧ k < hi) :=
  markSS_any (.slice A L.length c) L a (fun k => lo ≤ k ∧ k < hi) base w hB hO hn h0 ha
theorem heldR_any (A : Option Addr) (c : Nat) (L : List (List Int)) (a : Int) (w : World) (hn : L.length ≤ 4611686018427387904) (h0 : 0 ≤ a) (ha : a + tot L ≤ 4611686018427387904) (hr : Kd.C (Kd.slice 3 (Kd.int .i64)) w A (markLL a L).length (markLL a L)) (hc : L.length ≤ c) :
    Calls Try.prog 12 #[.slice A L.length c, .int .i64 a] w fun e w' => e = .returned (.int .i64 (a + tot L)) ∧ Below w.heap.size w w' := by
  obtain ⟨kh, hkh⟩ := Ev_out (g := fun k => laws_heldIntSS.f k (markLL a L) a) (r := a + tot L) (heldIntSS_ev (L := L) (a := a) hn h0 ha)
  have h := laws_heldIntSS.calls kh A c (markLL a L) a _ w hr (by rw [markLL_length]; exact hc) hkh
  rw [markLL_length] at h
  refine h.mono ?_
  rintro e w' ⟨rfl, hd⟩
  exact ⟨rfl, Drawn0.below hd⟩
end Go.Proofs.Ytaphbbnoadjplaa.G
