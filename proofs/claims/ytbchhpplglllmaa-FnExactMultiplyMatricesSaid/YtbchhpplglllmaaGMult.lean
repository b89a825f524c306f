/- impl.checked and impl.MultiplyMatrices by hand: the answer's rows are its own. -/
import Derived.Test.YtbchhpplglllmaaPx5
import Derived.Test.YtbchhpplglllmaaQMult
import Derived.Test.YtbchhpplglllmaaGA
import Derived.Test.YtbchhpplglllmaaWMore
namespace Go.Proofs.Ytbchhpplglllmaa.G
open Go.RowKit Go.Proofs.Ytbchhpplglllmaa.P Go.Proofs.YtbchhpplglllmaaW.PrintWords Go.Proofs.YtbchhpplglllmaaW.PrintLast Go.Proofs.Ytbchhpplglllmaa.Q
set_option linter.unusedVariables false
set_option linter.unusedSimpArgs false
set_option maxHeartbeats 8000000 in
set_option maxRecDepth 100000 in
theorem checked_any (A : Option Addr) (c : Nat) (L : List (List Int)) (w : World) (hr : Kd.C (Kd.slice 3 (Kd.int .i64)) w A L.length L) (b : Bool) (u : Value) (hm : isMat L = b) (hv : (if b = true then .slice A L.length c else .slice none 0 0) = u) :
    Calls Try.prog 71 #[.agg #[.slice A L.length c]] w fun e w' => e = .returned (.tuple #[.agg #[u], .bool b]) ∧ Below w.heap.size w w' := by
  have hu := Try.underlying27
  have CL := Aside0.mk (fun (W : World) (hb : Below w.heap.size w W) => isMatrix_any A c L W (Kd.C_below hr hb))
  rw [hm] at CL
  have HV := Aside0.mk hv
  clear hr hm hv
  go_enter Try.func71, Try.ntmps71
  go_wp2_with (first | ((with_reducible refine gate_dst (N := 1) rfl ?_); refine box_event ?hg (N := 1) ?hd (cs := #[.slice A L.length c]) (t := 27) ?hr ?_; (case hd => rfl); (case hg => rfl); (case hr => first | (go_simp; done) | (go_simp; rfl)); intro g1 hg w1 hbox hb; have K1 := Aside0.mk hbox; have B1 := Aside0.mk hb; clear hb hbox hg) | ((with_reducible refine gate_dst (N := 2) rfl ?_); refine box_event ?hg (N := 2) ?hd (cs := #[.slice none 0 0]) (t := 27) ?hr ?_; (case hd => rfl); (case hg => rfl); (case hr => first | (go_simp; done) | (go_simp; rfl)); intro g2 hg w2 hbox hb; have N2 := Aside0.mk (show g1 ≠ g2 from (by have h1 := blk_lt K1.out; omega)); have G2 := Aside0.mk (show w.heap.size ≤ g2 from (by have h1 := B1.out.size; omega)); have K2 := Aside0.mk hbox; replace K1 := Aside0.mk (blk_below K1.out hb); have B2 := Aside0.mk (below_step B1.out hb); clear hb hbox hg; have hz1 : w2.cell? ⟨g1, 0, none⟩ = some (.slice A L.length c) := (blk_cell K1.out 0).trans rfl))
  clear hz1
  refine (CL.out _ B2.out).mono ?_
  rintro e w3 ⟨rfl, hb⟩
  have K3 := Aside0.mk (blk_below K1.out hb)
  have K4 := Aside0.mk (blk_below K2.out hb)
  have B3 := Aside0.mk (below_step B2.out hb)
  clear hb CL K1 K2 B1 B2
  have hz1 : w3.cell? ⟨g1, 0, none⟩ = some (.slice A L.length c) := (blk_cell K3.out 0).trans rfl
  have hz2 : w3.cell? ⟨g2, 0, none⟩ = some (.slice none 0 0) := (blk_cell K4.out 0).trans rfl
  have hf2 := blk_frozen K4.out 0
  have hne := N2.out
  cases b with
  | false =>
    obtain rfl := HV.out
    clear HV
    have Y := Aside0.mk (B3.out.setCell (p := ⟨g2, 0, none⟩) G2.out (.slice none 0 0))
    have HB0 := Aside0.mk (show (w3.setCell ⟨g2, 0, none⟩ (.slice none 0 0)).heap[g2]? = some (.cells #[.slice none 0 0] 27 (0, 0)) by simpa using blk_set K4.out 0 (.slice none 0 0))
    clear K3 K4 B3 N2 G2
    go_wp2
    refine bodyPost_ret (results_ct rfl _ _ g2 27 #[.slice none 0 0] (0, 0) _ rfl HB0.out Try.underlying27 rfl (by kernel_rfl)) rfl ?_
    exact ⟨rfl, Y.out⟩
  | true =>
    obtain rfl := HV.out
    clear HV
    have Y := Aside0.mk (B3.out.setCell (p := ⟨g2, 0, none⟩) G2.out (.slice A L.length c))
    have HB0 := Aside0.mk (show (w3.setCell ⟨g2, 0, none⟩ (.slice A L.length c)).heap[g2]? = some (.cells #[.slice A L.length c] 27 (0, 0)) by simpa using blk_set K4.out 0 (.slice A L.length c))
    clear K3 K4 B3 N2 G2
    go_wp2
    refine bodyPost_ret (results_ct rfl _ _ g2 27 #[.slice A L.length c] (0, 0) _ rfl HB0.out Try.underlying27 rfl (by kernel_rfl)) rfl ?_
    exact ⟨rfl, Y.out⟩
set_option maxHeartbeats 8000000 in
set_option maxRecDepth 100000 in
theorem multiply_any (A : Option Addr) (c : Nat) (L : List (List Int)) (B : Option Addr) (d : Nat) (M : List (List Int)) (w : World) (hr : Kd.C (Kd.slice 3 (Kd.int .i64)) w A L.length L) (hc : L.length ≤ c) (hr' : Kd.C (Kd.slice 3 (Kd.int .i64)) w B M.length M) (hc' : M.length ≤ d) :
    Calls Try.prog 38 #[.agg #[.slice A L.length c], .agg #[.slice B M.length d]] w fun e w' => ∃ v : Value, e = .returned (.tuple #[.agg #[v], .bool (multR L M).2]) ∧ Kd.S (Kd.slice 3 (Kd.int .i64)) 35 w' w.heap.size (fun _ => True) v (multR L M).1 ∧ Below w.heap.size w w' := by
  have hu := Try.underlying27
  have CA := Aside0.mk (fun (W : World) (hb : Below w.heap.size w W) => impl_areAlike.calls A c L B d M _ W (Kd.C_below hr hb) hc (Kd.C_below hr' hb) hc' (areAlike_eq L M))
  have CT := Aside0.mk (fun (W : World) (hb : Below w.heap.size w W) (h1 : isSq L = true) (h2 : isSq M = true) (h3 : L.length = M.length) => times_any A c L B d M W (Kd.C_below hr hb) (Kd.C_below hr' hb) h1 h2 h3)
  have HR := Aside0.mk (show (multR L M) = ((multR L M).1, (multR L M).2) from rfl)
  generalize (multR L M).1 = G at HR ⊢
  generalize (multR L M).2 = b at HR ⊢
  clear hr hr' hc hc'
  go_enter Try.func38, Try.ntmps38
  go_wp2_with (first | ((with_reducible refine gate_dst (N := 2) rfl ?_); refine box_event ?hg (N := 2) ?hd (cs := #[.slice A L.length c]) (t := 27) ?hr ?_; (case hd => rfl); (case hg => rfl); (case hr => first | (go_simp; done) | (go_simp; rfl)); intro g2 hg w2 hbox hb; have K2 := Aside0.mk hbox; have B2 := Aside0.mk hb; clear hb hbox hg) | ((with_reducible refine gate_dst (N := 3) rfl ?_); refine box_event ?hg (N := 3) ?hd (cs := #[.slice B M.length d]) (t := 27) ?hr ?_; (case hd => rfl); (case hg => rfl); (case hr => first | (go_simp; done) | (go_simp; rfl)); intro g3 hg w3 hbox hb; have K3 := Aside0.mk hbox; replace K2 := Aside0.mk (blk_below K2.out hb); replace B2 := Aside0.mk (below_step B2.out hb); clear hb hbox hg) | ((with_reducible refine gate_dst (N := 4) rfl ?_); refine box_event ?hg (N := 4) ?hd (cs := #[.slice none 0 0]) (t := 27) ?hr ?_; (case hd => rfl); (case hg => rfl); (case hr => first | (go_simp; done) | (go_simp; rfl)); intro g4 hg w4 hbox hb; have G4 := Aside0.mk (show w.heap.size ≤ g4 from (by have h1 := B2.out.size; omega)); have K4 := Aside0.mk hbox; replace K2 := Aside0.mk (blk_below K2.out hb); replace K3 := Aside0.mk (blk_below K3.out hb); replace B2 := Aside0.mk (below_step B2.out hb); clear hb hbox hg; have hz2 : w4.cell? ⟨g2, 0, none⟩ = some (.slice A L.length c) := (blk_cell K2.out 0).trans rfl; have hz3 : w4.cell? ⟨g3, 0, none⟩ = some (.slice B M.length d) := (blk_cell K3.out 0).trans rfl))
  clear hz2 hz3
  refine (CA.out _ B2.out).mono ?_
  rintro e w5 ⟨rfl, hb⟩
  replace K2 := Aside0.mk (blk_below K2.out hb)
  replace K3 := Aside0.mk (blk_below K3.out hb)
  replace K4 := Aside0.mk (blk_below K4.out hb)
  replace B2 := Aside0.mk (below_step B2.out hb)
  clear hb CA
  cases ha : alikeB L M with
  | false =>
    have hR := HR.out
    unfold multR at hR
    rw [if_neg (by rw [ha]; simp)] at hR
    obtain ⟨rfl, rfl⟩ := Prod.mk.inj hR
    clear hR HR
    have hz4 : w5.cell? ⟨g4, 0, none⟩ = some (.slice none 0 0) := (blk_cell K4.out 0).trans rfl
    have hf4 := blk_frozen K4.out 0
    have Y := Aside0.mk (B2.out.setCell (p := ⟨g4, 0, none⟩) G4.out (.slice none 0 0))
    have HB0 := Aside0.mk (show (w5.setCell ⟨g4, 0, none⟩ (.slice none 0 0)).heap[g4]? = some (.cells #[.slice none 0 0] 27 (0, 0)) by simpa using blk_set K4.out 0 (.slice none 0 0))
    clear K2 K3 K4 B2 G4 CT ha
    go_wp2
    refine bodyPost_ret (results_ct rfl _ _ g4 27 #[.slice none 0 0] (0, 0) _ rfl HB0.out Try.underlying27 rfl (by kernel_rfl)) rfl ?_
    exact ⟨_, rfl, Kd.S_nil _ _ _ _ _, Y.out⟩
  | true =>
    obtain ⟨h1, h2, h3⟩ := alikeB_iff.1 ha
    have hR := HR.out
    unfold multR at hR
    rw [if_pos ha] at hR
    replace HR := Aside0.mk hR
    clear hR
    have CT2 := Aside0.mk (CT.out w5 B2.out (isMat_sq h1) (isMat_sq h2) h3)
    have hz2 : w5.cell? ⟨g2, 0, none⟩ = some (.slice A L.length c) := (blk_cell K2.out 0).trans rfl
    have hz3 : w5.cell? ⟨g3, 0, none⟩ = some (.slice B M.length d) := (blk_cell K3.out 0).trans rfl
    clear h1 h2 h3 CT ha
    go_wp2_with fail
    clear hz2 hz3
    refine CT2.out.mono ?_
    rintro e w6 ⟨v, rfl, hS, hb⟩
    clear CT2
    generalize prodL L M = P at hS HR
    obtain ⟨bP, hm⟩ : ∃ x, x = isMat P := ⟨_, rfl⟩
    obtain ⟨A3, c3, rfl, hl3, hC3⟩ := Kd.S_reads hS
    have S6 := Aside0.mk (show Kd.S (Kd.slice 3 (Kd.int .i64)) 35 w6 w.heap.size (fun k => k ≠ g4) (.slice A3 P.length c3) P from Kd.S_lower (Kd.S_mono (Kd.S_bound hS) (fun k hk => by have h1 := hk.2.1; have h2 := blk_lt K4.out; omega)) B2.out.size)
    obtain ⟨u, hu2⟩ : ∃ x, x = (if bP = true then Value.slice A3 P.length c3 else .slice none 0 0) := ⟨_, rfl⟩
    have C6 := Aside0.mk (checked_any A3 c3 P w6 hC3 bP u hm.symm hu2.symm)
    have HU := Aside0.mk hu2
    have HM := Aside0.mk hm
    clear hu2 hm
    replace K4 := Aside0.mk (blk_below K4.out hb)
    replace B2 := Aside0.mk (below_step B2.out hb)
    clear hS hb hl3 hC3 K2 K3
    go_wp2_with fail
    refine C6.out.mono ?_
    rintro e w7 ⟨rfl, hb⟩
    replace K4 := Aside0.mk (blk_below K4.out hb)
    replace B2 := Aside0.mk (below_step B2.out hb)
    have S7 := Aside0.mk (Kd.S_below S6.out hb)
    have hz4 : w7.cell? ⟨g4, 0, none⟩ = some (.slice none 0 0) := (blk_cell K4.out 0).trans rfl
    have hf4 := blk_frozen K4.out 0
    clear hb C6 S6
    have hR := HR.out
    rw [← HM.out] at hR
    clear HM HR
    cases bP with
    | false =>
      obtain rfl := HU.out
      rw [if_neg (by simp)] at hR
      obtain ⟨rfl, rfl⟩ := Prod.mk.inj hR
      clear hR HU
      have Y := Aside0.mk (B2.out.setCell (p := ⟨g4, 0, none⟩) G4.out (.slice none 0 0))
      have HB0 := Aside0.mk (show (w7.setCell ⟨g4, 0, none⟩ (.slice none 0 0)).heap[g4]? = some (.cells #[.slice none 0 0] 27 (0, 0)) by simpa using blk_set K4.out 0 (.slice none 0 0))
      clear K4 B2 G4 S7
      go_wp2
      refine bodyPost_ret (results_ct rfl _ _ g4 27 #[.slice none 0 0] (0, 0) _ rfl HB0.out Try.underlying27 rfl (by kernel_rfl)) rfl ?_
      exact ⟨_, rfl, Kd.S_nil _ _ _ _ _, Y.out⟩
    | true =>
      obtain rfl := HU.out
      rw [if_pos rfl] at hR
      obtain ⟨rfl, rfl⟩ := Prod.mk.inj hR
      clear hR HU
      have Y := Aside0.mk (show Kd.S (Kd.slice 3 (Kd.int .i64)) 35 (w7.setCell ⟨g4, 0, none⟩ (.slice A3 P.length c3)) w.heap.size (fun _ => True) (.slice A3 P.length c3) P ∧ Below w.heap.size w (w7.setCell ⟨g4, 0, none⟩ (.slice A3 P.length c3)) from
        ⟨Kd.S_mono (Kd.S_far (p := ⟨g4, 0, none⟩) S7.out (fun k hk => hk) _) (fun _ _ => trivial), B2.out.setCell (p := ⟨g4, 0, none⟩) G4.out _⟩)
      have HB0 := Aside0.mk (show (w7.setCell ⟨g4, 0, none⟩ (.slice A3 P.length c3)).heap[g4]? = some (.cells #[.slice A3 P.length c3] 27 (0, 0)) by simpa using blk_set K4.out 0 (.slice A3 P.length c3))
      clear K4 B2 G4 S7
      generalize P.length = m at Y HB0 hz4 ⊢
      go_wp2
      refine bodyPost_ret (results_ct rfl _ _ g4 27 #[.slice A3 m c3] (0, 0) _ rfl HB0.out Try.underlying27 rfl (by kernel_rfl)) rfl ?_
      exact ⟨_, rfl, Y.out⟩
end Go.Proofs.Ytbchhpplglllmaa.G
