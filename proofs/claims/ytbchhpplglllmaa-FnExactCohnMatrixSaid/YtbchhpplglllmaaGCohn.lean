/- impl.CohnMatrix by hand: its rows are its own. -/
import Derived.Test.YtbchhpplglllmaaPx4
import Derived.Test.YtbchhpplglllmaaQCohn
import Derived.Test.YtbchhpplglllmaaGA
import Derived.Test.YtbchhpplglllmaaWMore
namespace Go.Proofs.Ytbchhpplglllmaa.G
open Go.RowKit Go.Proofs.Ytbchhpplglllmaa.P Go.Proofs.YtbchhpplglllmaaW.PrintWords Go.Proofs.YtbchhpplglllmaaW.PrintLast Go.Proofs.YtbchhpplglllmaaW.PrintMore Go.Proofs.Ytbchhpplglllmaa.Q
set_option linter.unusedVariables false
set_option linter.unusedSimpArgs false

theorem slice_event {P : Program} {ops : Array Oper} {o : Oper} {rest : List Oper} {a : Act} {Q : Exit → Act → World → Prop} {W : World} (hgd : o.guard = none) {N : Tmp} (_hd : o.dst = some N) {cs : Array Value} {t : TypeId} {n : Nat}
    (hrun : (execOp a.eval o).run P W = .ok (.value (.slice (some ⟨W.heap.size, 0, none⟩) n n)) (W.alloc (.cells cs t (0, 0))))
    (h : ∀ g, g = W.heap.size → ∀ w1, w1.heap[g]? = some (.cells cs t (0, 0)) → Below W.heap.size W w1 → wpList P ops Q rest (a.put o.dst (.slice (some ⟨g, 0, none⟩) n n)) w1) : wpList P ops Q (o :: rest) a W :=
  Kd.event_run hgd hrun (h _ rfl _ (blk_new W _) (below_alloc (Below.refl _ _) _))
theorem lit1_C {w : World} {g : Nat} {a b : Int} {t : TypeId} (h : w.heap[g]? = some (.cells #[.int .i64 a, .int .i64 b] t (0, 0))) : Kd.C (Kd.int .i64) w (some ⟨g, 0, none⟩) 2 [a, b] := by
  refine ⟨rfl, by omega, fun _ => ⟨_, rfl, fun j p hj => ?_⟩⟩
  refine ⟨[.int .i64 p], rfl, rfl, fun i u hi => ?_⟩
  cases i with
  | succ i => simp at hi
  | zero =>
    simp only [List.getElem?_cons_zero, Option.some.injEq] at hi
    subst hi
    rw [Nat.add_zero, show (Kd.int .i64).sz = 1 from rfl, Nat.mul_one]
    rw [add_plain]
    refine (blk_cell h j).trans ?_
    match j, hj with
    | 0, hj => simp at hj; subst hj; rfl
    | 1, hj => simp at hj; subst hj; rfl
    | j + 2, hj => simp at hj
theorem lit2_C {w : World} {g g1 g2 : Nat} {a b c d : Int} {t t1 t2 : TypeId} (h : w.heap[g]? = some (.cells #[.slice (some ⟨g1, 0, none⟩) 2 2, .slice (some ⟨g2, 0, none⟩) 2 2] t (0, 0)))
    (h1 : w.heap[g1]? = some (.cells #[.int .i64 a, .int .i64 b] t1 (0, 0))) (h2 : w.heap[g2]? = some (.cells #[.int .i64 c, .int .i64 d] t2 (0, 0))) :
    Kd.C (Kd.slice 3 (Kd.int .i64)) w (some ⟨g, 0, none⟩) 2 [[a, b], [c, d]] := by
  refine ⟨rfl, by omega, fun _ => ⟨_, rfl, fun j p hj => ?_⟩⟩
  match j, hj with
  | 0, hj =>
    simp at hj
    subst hj
    refine ⟨[.slice (some ⟨g1, 0, none⟩) 2 2], rfl, ⟨_, _, rfl, Nat.le_refl _, lit1_C h1⟩, fun i u hi => ?_⟩
    cases i with
    | succ i => simp at hi
    | zero =>
      simp only [List.getElem?_cons_zero, Option.some.injEq] at hi
      subst hi
      exact (blk_cell h 0).trans rfl
  | 1, hj =>
    simp at hj
    subst hj
    refine ⟨[.slice (some ⟨g2, 0, none⟩) 2 2], rfl, ⟨_, _, rfl, Nat.le_refl _, lit1_C h2⟩, fun i u hi => ?_⟩
    cases i with
    | succ i => simp at hi
    | zero =>
      simp only [List.getElem?_cons_zero, Option.some.injEq] at hi
      subst hi
      exact (blk_cell h 1).trans rfl
  | j + 2, hj => simp at hj

/-- What stands at the head of a round: the result's variable, the matrix's variable and its rows. -/
structure CInv (w : World) (gr gm : Nat) (M : List (List Int)) (u : Value) (W : World) : Prop where
  br : W.heap[gr]? = some (.cells #[.slice none 0 0] 27 (0, 0))
  bm : W.heap[gm]? = some (.cells #[u] 27 (0, 0))
  s : Kd.S (Kd.slice 3 (Kd.int .i64)) 35 W w.heap.size (fun k => k ≠ gr ∧ k ≠ gm) u M
  b : Below w.heap.size w W
  r : w.heap.size ≤ gr
  m : w.heap.size ≤ gm
  ne : gr ≠ gm
theorem CInv.below {w W W1 : World} {gr gm : Nat} {M : List (List Int)} {u : Value} (h : CInv w gr gm M u W) (hb : Below W.heap.size W W1) : CInv w gr gm M u W1 :=
  ⟨blk_below h.br hb, blk_below h.bm hb, Kd.S_below h.s hb, below_step h.b hb, h.r, h.m, h.ne⟩
/-- A store into a block that is new since. -/
theorem CInv.store {w W0 W : World} {gr gm g : Nat} {M : List (List Int)} {u : Value} (h0 : CInv w gr gm M u W0) (hb : Below W0.heap.size W0 W) (hg : W0.heap.size ≤ g) (v : Value) : CInv w gr gm M u (W.setCell ⟨g, 0, none⟩ v) := by
  have h := h0.below hb
  have l1 := blk_lt h0.br
  have l2 := blk_lt h0.bm
  have l3 := h0.b.size
  refine ⟨?_, ?_, ?_, h.b.setCell (by show w.heap.size ≤ g; omega) _, h.r, h.m, h.ne⟩
  · rw [Below.heap_setCell _ _ _ _ (by show gr ≠ g; omega)]
    exact h.br
  · rw [Below.heap_setCell _ _ _ _ (by show gm ≠ g; omega)]
    exact h.bm
  · have s1 := Kd.S_below (Kd.S_mono (ok' := fun k => (k ≠ gr ∧ k ≠ gm) ∧ k < W0.heap.size) (Kd.S_bound h0.s) (fun k hk => ⟨hk.1, hk.2.2.1⟩)) hb
    exact Kd.S_mono (Kd.S_far (p := ⟨g, 0, none⟩) s1 (fun k hk => by show k ≠ g; omega) v) (fun k hk => hk.1)
/-- The matrix's variable gets new rows. -/
theorem CInv.next {w W W1 : World} {gr gm : Nat} {M M' : List (List Int)} {u v : Value} (h : CInv w gr gm M u W) (hb : Below W.heap.size W W1) (hS : Kd.S (Kd.slice 3 (Kd.int .i64)) 35 W1 W.heap.size (fun _ => True) v M') :
    CInv w gr gm M' v (W1.setCell ⟨gm, 0, none⟩ v) := by
  have h1 := h.below hb
  have l1 := blk_lt h.br
  have l2 := blk_lt h.bm
  refine ⟨?_, by simpa using blk_set h1.bm 0 v, ?_, h1.b.setCell h.m _, h.r, h.m, h.ne⟩
  · rw [Below.heap_setCell _ _ _ _ (by show gr ≠ gm; exact h.ne)]
    exact h1.br
  · have s1 := Kd.S_mono (ok' := fun k => k ≠ gr ∧ k ≠ gm) (Kd.S_lower (Kd.S_bound hS) h.b.size) (fun k hk => ⟨by have := hk.2.1; omega, by have := hk.2.1; omega⟩)
    exact Kd.S_mono (Kd.S_far (p := ⟨gm, 0, none⟩) s1 (fun k hk => hk.2) v) (fun k hk => hk)
theorem cohn_times (M : List (List Int)) (A2 : Option Addr) (c2 g g1 g2 : Nat) (a b c d : Int) (t t1 t2 : TypeId) (W : World) (hM : isSq M = true) (hM2 : M.length = 2) (hC : Kd.C (Kd.slice 3 (Kd.int .i64)) W A2 M.length M)
    (h : W.heap[g]? = some (.cells #[.slice (some ⟨g1, 0, none⟩) 2 2, .slice (some ⟨g2, 0, none⟩) 2 2] t (0, 0))) (h1 : W.heap[g1]? = some (.cells #[.int .i64 a, .int .i64 b] t1 (0, 0))) (h2 : W.heap[g2]? = some (.cells #[.int .i64 c, .int .i64 d] t2 (0, 0))) :
    Calls Try.prog 66 #[.agg #[.slice A2 M.length c2], .agg #[.slice (some ⟨g, 0, none⟩) 2 2]] W fun e w' => ∃ v0 : Value, e = .returned (.agg #[v0]) ∧ Kd.S (Kd.slice 3 (Kd.int .i64)) 35 w' W.heap.size (fun _ => True) v0 (prodL M [[a, b], [c, d]]) ∧ Below W.heap.size W w' :=
  times_any A2 c2 M (some ⟨g, 0, none⟩) 2 [[a, b], [c, d]] W hC (lit2_C h h1 h2) hM rfl hM2
theorem letters_any (s : ByteArray) (w : World) : Calls Try.prog 64 #[.string s] w fun e w' => e = .returned (.bool (lettersB s)) ∧ Below w.heap.size w w' := impl_IsLetters.calls s (lettersB s) w (isLetters_eq s)
theorem unit2_any (w : World) : Calls Try.prog 65 #[.int .i64 2] w fun e w' => ∃ v0 : Value, e = .returned (.agg #[v0]) ∧ Kd.S (Kd.slice 3 (Kd.int .i64)) 35 w' w.heap.size (fun _ => True) v0 (unitL 2) ∧ Below w.heap.size w w' := unit_any 2 w (by omega)
theorem bt_of (s : ByteArray) (i : Nat) (h : i < s.size) : bt s (i : Int) = ((s[i]'h).toNat : Int) := by
  have h2 : i < s.data.toList.length := by rw [Array.length_toList]; exact h
  rw [bt_at (by rw [bytesOf_length]; exact h)]
  simp only [bytesOf, List.getElem_map]
  rfl
theorem cohnGo_end {s : ByteArray} {i : Nat} {M G : List (List Int)} {b : Bool} (hi : i = s.size) (h : cohnGo ((bytesOf s).drop i) M = (G, b)) : G = M ∧ b = true := by
  rw [List.drop_of_length_le (by rw [bytesOf_length]; omega)] at h
  have h : (M, true) = (G, b) := h
  exact ⟨(Prod.mk.inj h).1.symm, (Prod.mk.inj h).2.symm⟩
theorem cohnGo_round {s : ByteArray} {i : Nat} {M G : List (List Int)} {b : Bool} (hi : i < s.size) (h : cohnGo ((bytesOf s).drop i) M = (G, b)) :
    if isMat (prodL M (cohnStep (bt s (i : Int)))) = true then cohnGo ((bytesOf s).drop (i + 1)) (prodL M (cohnStep (bt s (i : Int)))) = (G, b) else G = [] ∧ b = false := by
  have h1 : i < (bytesOf s).length := by rw [bytesOf_length]; exact hi
  rw [List.drop_eq_getElem_cons h1] at h
  unfold cohnGo at h
  rw [bt_at h1]
  by_cases hm : isMat (prodL M (cohnStep (bytesOf s)[i])) = true
  · rw [if_pos hm] at h ⊢
    exact h
  · rw [if_neg hm] at h ⊢
    exact ⟨(Prod.mk.inj h).1.symm, (Prod.mk.inj h).2.symm⟩
set_option maxHeartbeats 8000000 in
set_option maxRecDepth 100000 in
theorem cohnMatrix_any (s : ByteArray) (w : World) :
    Calls Try.prog 36 #[.string s] w fun e w' => ∃ v : Value, e = .returned (.tuple #[.agg #[v], .bool (cohnR s).2]) ∧ Kd.S (Kd.slice 3 (Kd.int .i64)) 35 w' w.heap.size (fun _ => True) v (cohnR s).1 ∧ Below w.heap.size w w' := by
  have hu := Try.underlying27
  have CL := fun W => letters_any s W
  by_cases hL : lettersB s = true
  · have hsz := letters_le hL
    have hR : cohnR s = cohnGo (bytesOf s) (unitL 2) := if_pos hL
    rw [hL] at CL
    generalize cohnR s = R at hR ⊢
    obtain ⟨G, b⟩ := R
    have HR := Aside0.mk hR
    have HZ := Aside0.mk hsz
    clear hR hL hsz
    go_enter Try.func36, Try.ntmps36
    go_wp2_with (first | ((with_reducible refine gate_dst (N := 2) rfl ?_); refine box_event ?hg (N := 2) ?hd (cs := #[.slice none 0 0]) (t := 27) ?hr ?_; (case hd => rfl); (case hg => rfl); (case hr => first | (go_simp; done) | (go_simp; rfl)); intro gr hg w1 hbox hb; have KR := Aside0.mk hbox; have BW := Aside0.mk hb; have GR := Aside0.mk (show w.heap.size ≤ gr by omega); have GR2 := Aside0.mk (blk_lt hbox); clear hb hbox hg))
    refine (CL _).mono ?_
    rintro e w2 ⟨rfl, hb⟩
    replace KR := Aside0.mk (blk_below KR.out hb)
    replace BW := Aside0.mk (below_step BW.out hb)
    replace GR2 := Aside0.mk (Nat.lt_of_lt_of_le GR2.out hb.size)
    clear hb CL
    go_wp2_with fail
    refine (unit2_any _).mono ?_
    rintro e w3 ⟨v, rfl, hS, hb⟩
    obtain ⟨A, c, rfl, hl, _⟩ := Kd.S_reads hS
    replace KR := Aside0.mk (blk_below KR.out hb)
    have B3 := Aside0.mk (below_step BW.out hb)
    have U3 := Aside0.mk hS
    have E3 := Aside0.mk hb.size
    clear hb hS hl
    go_wp2_with (first | ((with_reducible refine gate_dst (N := 4) rfl ?_); refine box_event ?hg (N := 4) ?hd (cs := #[.slice none 0 0]) (t := 27) ?hr ?_; (case hd => rfl); (case hg => rfl); (case hr => first | (go_simp; done) | (go_simp; rfl)); intro gm hg w4 hbox hb; have KM := Aside0.mk hbox; have D4 := Aside0.mk hb; have B4 := Aside0.mk (below_step B3.out hb); have KR4 := Aside0.mk (blk_below KR.out hb); have GM := Aside0.mk (show w3.heap.size ≤ gm by omega); have hz4 : w4.cell? ⟨gm, 0, none⟩ = some (.slice none 0 0) := (blk_cell KM.out 0).trans rfl; have hf4 := blk_frozen KM.out 0; clear hb hbox hg))
    clear hz4 hf4
    have X0 := Aside0.mk (show CInv w gr gm (unitL 2) (.slice A (unitL 2).length c) (w4.setCell ⟨gm, 0, none⟩ (.slice A (unitL 2).length c)) from by
      have l1 := blk_lt KR.out
      have l2 := BW.out.size
      have l3 := E3.out
      have l4 := GM.out
      refine ⟨?_, by simpa using blk_set KM.out 0 (.slice A (unitL 2).length c), ?_, B4.out.setCell (by show w.heap.size ≤ gm; omega) _, GR.out, by omega, by omega⟩
      · rw [Below.heap_setCell _ _ _ _ (by show gr ≠ gm; omega)]
        exact KR4.out
      · have s1 := Kd.S_below (Kd.S_mono (ok' := fun k => (k ≠ gr ∧ k ≠ gm) ∧ k ≠ gm) (Kd.S_lower (Kd.S_bound U3.out) l2) (fun k hk => by
          have h1 := hk.2.1
          have h2 := hk.2.2.1
          have h3 := GR2.out
          exact ⟨⟨by omega, by omega⟩, by omega⟩)) D4.out
        exact Kd.S_mono (Kd.S_far (p := ⟨gm, 0, none⟩) s1 (fun k hk => hk.2) _) (fun k hk => hk.1))
    clear KR KM U3 B3 B4 D4 E3 GM KR4
    generalize hW : w4.setCell ⟨gm, 0, none⟩ (.slice A (unitL 2).length c) = w5 at X0 ⊢
    clear hW
    go_loopg [14] s.size (fun kq v14 w' => ∃ (i : Nat) (M : List (List Int)) (u : Value), i + kq = s.size ∧ v14 = .int .i64 i ∧ Aside0 (cohnGo ((bytesOf s).drop i) M = (G, b)) ∧ Aside0 (isSq M = true ∧ M.length = 2) ∧ Aside0 (CInv w gr gm M u w'))
    case atStart => exact ⟨0, unitL 2, _, by omega, rfl, ⟨HR.out.symm⟩, ⟨isSq_rowsOf _ (by omega), rowsOf_length _ _ _⟩, X0⟩
    case round =>
      clear X0 HR
      obtain ⟨i, M, u, hi, rfl, HG, HM, X⟩ := hrel
      obtain ⟨A2, c2, rfl⟩ := Kd.S_slice X.out.s
      cases gk with
      | zero =>
        have hin : i = s.size := by omega
        have hd : decide (i < s.size) = false := decide_eq_false (by omega)
        obtain ⟨rfl, rfl⟩ := cohnGo_end hin HG.out
        have hc : wr.cell? ⟨gm, 0, none⟩ = some (.slice A2 G.length c2) := (blk_cell X.out.bm 0).trans rfl
        have hc0 : wr.cell? ⟨gr, 0, none⟩ = some (.slice none 0 0) := (blk_cell X.out.br 0).trans rfl
        have hf : wr.frozen? ⟨gr, 0, none⟩ = false := blk_frozen X.out.br 0
        have HB0 := Aside0.mk (show (wr.setCell ⟨gr, 0, none⟩ (.slice A2 G.length c2)).heap[gr]? = some (.cells #[.slice A2 G.length c2] 27 (0, 0)) by simpa using blk_set X.out.br 0 (.slice A2 G.length c2))
        have Y := Aside0.mk (show Kd.S (Kd.slice 3 (Kd.int .i64)) 35 (wr.setCell ⟨gr, 0, none⟩ (.slice A2 G.length c2)) w.heap.size (fun _ => True) (.slice A2 G.length c2) G ∧ Below w.heap.size w (wr.setCell ⟨gr, 0, none⟩ (.slice A2 G.length c2)) from
          ⟨Kd.S_mono (Kd.S_far (p := ⟨gr, 0, none⟩) X.out.s (fun k hk => hk.1) _) (fun _ _ => trivial), X.out.b.setCell X.out.r _⟩)
        clear X HG HM hin
        generalize G.length = m at hc Y HB0
        go_wp2
        refine bodyPost_ret (results_ct rfl _ _ gr 27 #[.slice A2 m c2] (0, 0) _ rfl HB0.out Try.underlying27 rfl (by kernel_rfl)) rfl ?_
        exact ⟨_, rfl, Y.out⟩
      | succ k1 =>
        have hlt : i < s.size := by omega
        have hd : decide (i < s.size) = true := decide_eq_true hlt
        have HN := Aside0.mk (cohnGo_round hlt HG.out)
        have hc0 : 0 ≤ (i : Int) := by omega
        have HI := Aside0.mk (show i + 1 + k1 = s.size by omega)
        have hbs : bt s (i : Int) = ((s[i]'hlt).toNat : Int) := bt_of s i hlt
        by_cases h98 : bt s (i : Int) = 98
        · have hst : cohnStep (bt s (i : Int)) = [[5, 2], [2, 1]] := if_pos h98
          rw [hst] at HN
          rw [hbs] at h98
          have d1 : ((((s[i]'hlt).toNat : Int)) == 98) = true := beq_iff_eq.mpr h98
          have d2 : ((((s[i]'hlt).toNat : Int)) != 98) = false := bne_eq_false_iff_eq.mpr h98
          clear h98 hst hbs
          have hbs := True.intro
          go_wp2_with (first | ((with_reducible refine gate_dst (N := 17) rfl ?_); refine slice_event ?hg (N := 17) ?hd (cs := #[.int .i64 2, .int .i64 1]) (t := 3) (n := 2) ?hr ?_; (case hd => rfl); (case hg => rfl); (case hr => first | (go_simp; done) | (go_simp; rfl)); intro g17 hg v17 hbox hb; have D := Aside0.mk hb; have K17 := Aside0.mk hbox; clear hb hbox hg) | ((with_reducible refine gate_dst (N := 18) rfl ?_); refine slice_event ?hg (N := 18) ?hd (cs := #[.int .i64 1, .int .i64 1]) (t := 3) (n := 2) ?hr ?_; (case hd => rfl); (case hg => rfl); (case hr => first | (go_simp; done) | (go_simp; rfl)); intro g18 hg v18 hbox hb; replace D := Aside0.mk (below_step D.out hb); replace K17 := Aside0.mk (blk_below K17.out hb); have K18 := Aside0.mk hbox; clear hb hbox hg) | ((with_reducible refine gate_dst (N := 19) rfl ?_); refine slice_event ?hg (N := 19) ?hd (cs := #[.slice (some ⟨g17, 0, none⟩) 2 2, .slice (some ⟨g18, 0, none⟩) 2 2]) (t := 35) (n := 2) ?hr ?_; (case hd => rfl); (case hg => rfl); (case hr => first | (go_simp; done) | (go_simp; rfl)); intro g19 hg v19 hbox hb; replace D := Aside0.mk (below_step D.out hb); replace K17 := Aside0.mk (blk_below K17.out hb); replace K18 := Aside0.mk (blk_below K18.out hb); have K19 := Aside0.mk hbox; clear hb hbox hg) | ((with_reducible refine gate_dst (N := 6) rfl ?_); refine box_event ?hg (N := 6) ?hd (cs := #[.slice none 0 0]) (t := 27) ?hr ?_; (case hd => rfl); (case hg => rfl); (case hr => first | (go_simp; done) | (go_simp; rfl)); intro g6 hg v6 hbox hb; have N6 := Aside0.mk (show g17 ≠ g6 ∧ g18 ≠ g6 ∧ g19 ≠ g6 from by have h1 := blk_lt K17.out; have h2 := blk_lt K18.out; have h3 := blk_lt K19.out; omega); have E6 := Aside0.mk (show wr.heap.size ≤ g6 by rw [hg]; exact D.out.size); replace D := Aside0.mk (below_step D.out hb); replace K17 := Aside0.mk (blk_below K17.out hb); replace K18 := Aside0.mk (blk_below K18.out hb); replace K19 := Aside0.mk (blk_below K19.out hb); have K6 := Aside0.mk hbox; have XV := Aside0.mk (X.out.below D.out); clear hb hbox hg; have hz6 : v6.cell? ⟨g6, 0, none⟩ = some (.slice none 0 0) := (blk_cell K6.out 0).trans rfl; have hf6 := blk_frozen K6.out 0; have hzm : v6.cell? ⟨gm, 0, none⟩ = some (.slice A2 M.length c2) := (blk_cell XV.out.bm 0).trans rfl; have hnm : gm ≠ g6 := (by have h1 := blk_lt X.out.bm; have h2 := E6.out; omega); have hnm2 : g6 ≠ gm := Ne.symm hnm) | ((with_reducible refine gate_dst (N := 25) rfl ?_); refine slice_event ?hg (N := 25) ?hd (cs := #[.int .i64 5, .int .i64 2]) (t := 3) (n := 2) ?hr ?_; (case hd => rfl); (case hg => rfl); (case hr => first | (go_simp; done) | (go_simp; rfl)); intro g25 hg v25 hbox hb; have DX := Aside0.mk (below_step (D.out.setCell E6.out (.slice (some ⟨g19, 0, none⟩) 2 2)) hb); have X6 := Aside0.mk ((CInv.store X.out D.out E6.out (.slice (some ⟨g19, 0, none⟩) 2 2)).below hb); have D6 := Aside0.mk (blk_below (show (v6.setCell ⟨g6, 0, none⟩ (.slice (some ⟨g19, 0, none⟩) 2 2)).heap[g6]? = some (.cells #[.slice (some ⟨g19, 0, none⟩) 2 2] 27 (0, 0)) by simpa using blk_set K6.out 0 (.slice (some ⟨g19, 0, none⟩) 2 2)) hb); have K25 := Aside0.mk hbox; have N25 := Aside0.mk (show g6 < g25 by have h1 := blk_lt K6.out; simp at hg; omega); clear hb hbox hg) | ((with_reducible refine gate_dst (N := 26) rfl ?_); refine slice_event ?hg (N := 26) ?hd (cs := #[.int .i64 2, .int .i64 1]) (t := 3) (n := 2) ?hr ?_; (case hd => rfl); (case hg => rfl); (case hr => first | (go_simp; done) | (go_simp; rfl)); intro g26 hg v26 hbox hb; replace DX := Aside0.mk (below_step DX.out hb); replace X6 := Aside0.mk (X6.out.below hb); have N26 := Aside0.mk (show g6 < g26 by have h1 := blk_lt D6.out; omega); replace K25 := Aside0.mk (blk_below K25.out hb); replace D6 := Aside0.mk (blk_below D6.out hb); have K26 := Aside0.mk hbox; clear hb hbox hg) | ((with_reducible refine gate_dst (N := 27) rfl ?_); refine slice_event ?hg (N := 27) ?hd (cs := #[.slice (some ⟨g25, 0, none⟩) 2 2, .slice (some ⟨g26, 0, none⟩) 2 2]) (t := 35) (n := 2) ?hr ?_; (case hd => rfl); (case hg => rfl); (case hr => first | (go_simp; done) | (go_simp; rfl)); intro g27 hg v27 hbox hb; replace DX := Aside0.mk (below_step DX.out hb); replace X6 := Aside0.mk (X6.out.below hb); have N27 := Aside0.mk (show g6 < g27 by have h1 := blk_lt D6.out; omega); replace K25 := Aside0.mk (blk_below K25.out hb); replace K26 := Aside0.mk (blk_below K26.out hb); replace D6 := Aside0.mk (blk_below D6.out hb); have K27 := Aside0.mk hbox; clear hb hbox hg; have hz6b : v27.cell? ⟨g6, 0, none⟩ = some (.slice (some ⟨g19, 0, none⟩) 2 2) := (blk_cell D6.out 0).trans rfl; have hf6b := blk_frozen D6.out 0; have hzmb : v27.cell? ⟨gm, 0, none⟩ = some (.slice A2 M.length c2) := (blk_cell X6.out.bm 0).trans rfl))
          obtain ⟨w6, hw⟩ : ∃ x, x = v27.setCell ⟨g6, 0, none⟩ (.slice (some ⟨g27, 0, none⟩) 2 2) := ⟨_, rfl⟩
          rw [← hw]
          have X7 := Aside0.mk (show CInv w gr gm M (.slice A2 M.length c2) w6 by rw [hw]; exact CInv.store X.out DX.out E6.out _)
          have J1 := Aside0.mk (show w6.heap[g25]? = some (.cells #[.int .i64 5, .int .i64 2] 3 (0, 0)) by rw [hw, Below.heap_setCell _ _ _ _ (by show g25 ≠ g6; have := N25.out; omega)]; exact K25.out)
          have J2 := Aside0.mk (show w6.heap[g26]? = some (.cells #[.int .i64 2, .int .i64 1] 3 (0, 0)) by rw [hw, Below.heap_setCell _ _ _ _ (by show g26 ≠ g6; have := N26.out; omega)]; exact K26.out)
          have J3 := Aside0.mk (show w6.heap[g27]? = some (.cells #[.slice (some ⟨g25, 0, none⟩) 2 2, .slice (some ⟨g26, 0, none⟩) 2 2] 35 (0, 0)) by rw [hw, Below.heap_setCell _ _ _ _ (by show g27 ≠ g6; have := N27.out; omega)]; exact K27.out)
          clear hw K17 K18 K19 K6 N6 E6 D XV hz6 hf6 hzm hnm hnm2 X HG d1 d2 hbs X6 D6 K25 K26 K27 N25 N26 N27 DX hz6b hf6b hzmb
          have hP := Aside0.mk (prodL_sq (M := [[5, 2], [2, 1]]) HM.out.1)
          refine (cohn_times M A2 c2 g27 g25 g26 5 2 2 1 _ _ _ w6 HM.out.1 HM.out.2 (Kd.S_reads' X7.out.s).2.2 J3.out J1.out J2.out).mono ?_
          rintro e w7 ⟨v, rfl, hS, hb⟩
          obtain ⟨A3, c3, rfl, hl3, hC3⟩ := Kd.S_reads hS
          have X8 := Aside0.mk (X7.out.next hb hS)
          have X7b := Aside0.mk (X7.out.below hb)
          clear J1 J2 J3 hS hb hl3 hC3 X7
          generalize prodL M [[5, 2], [2, 1]] = P at HN hP X8 ⊢
          have hzm : w7.cell? ⟨gm, 0, none⟩ = some (.slice A2 M.length c2) := (blk_cell X7b.out.bm 0).trans rfl
          have hfm := blk_frozen X7b.out.bm 0
          go_wp2_with fail
          clear hzm hfm
          obtain ⟨w8, hw⟩ : ∃ x, x = w7.setCell ⟨gm, 0, none⟩ (.slice A3 P.length c3) := ⟨_, rfl⟩
          rw [← hw]
          replace X8 := Aside0.mk (show CInv w gr gm P (.slice A3 P.length c3) w8 by rw [hw]; exact X8.out)
          clear hw X7b
          have CI := isMatrix_any A3 c3 P w8 (Kd.S_reads' X8.out.s).2.2
          cases hm : isMat P with
          | true =>
            rw [hm] at CI
            rw [if_pos hm] at HN
            clear hm
            refine CI.mono ?_
            rintro e w9 ⟨rfl, hb⟩
            replace X8 := Aside0.mk (X8.out.below hb)
            clear hb CI
            go_wp2
            go_roundg k1
            case rel => exact ⟨i + 1, P, _, HI.out, w_succ i (by have := HZ.out; omega), HN, ⟨hP.out.1, hP.out.2.trans HM.out.2⟩, X8⟩
            case measure => omega
          | false =>
            rw [hm] at CI
            rw [if_neg (by rw [hm]; simp)] at HN
            clear hm
            refine CI.mono ?_
            rintro e w9 ⟨rfl, hb⟩
            replace X8 := Aside0.mk (X8.out.below hb)
            clear hb CI
            obtain ⟨rfl, rfl⟩ := HN.out
            have hz : w9.cell? ⟨gr, 0, none⟩ = some (.slice none 0 0) := (blk_cell X8.out.br 0).trans rfl
            have hf := blk_frozen X8.out.br 0
            have Y := Aside0.mk (X8.out.b.setCell (p := ⟨gr, 0, none⟩) X8.out.r (.slice none 0 0))
            have HB0 := Aside0.mk (show (w9.setCell ⟨gr, 0, none⟩ (.slice none 0 0)).heap[gr]? = some (.cells #[.slice none 0 0] 27 (0, 0)) by simpa using blk_set X8.out.br 0 (.slice none 0 0))
            clear X8 HM HI hP HN
            go_wp2
            refine bodyPost_ret (results_ct rfl _ _ gr 27 #[.slice none 0 0] (0, 0) _ rfl HB0.out Try.underlying27 rfl (by kernel_rfl)) rfl ?_
            exact ⟨_, rfl, Kd.S_nil _ _ _ _ _, Y.out⟩
        · have hst : cohnStep (bt s (i : Int)) = [[2, 1], [1, 1]] := if_neg h98
          rw [hst] at HN
          rw [hbs] at h98
          have d1 : ((((s[i]'hlt).toNat : Int)) == 98) = false := beq_eq_false_iff_ne.mpr h98
          have d2 : ((((s[i]'hlt).toNat : Int)) != 98) = true := bne_iff_ne.mpr h98
          clear h98 hst hbs
          have hbs := True.intro
          go_wp2_with (first | ((with_reducible refine gate_dst (N := 17) rfl ?_); refine slice_event ?hg (N := 17) ?hd (cs := #[.int .i64 2, .int .i64 1]) (t := 3) (n := 2) ?hr ?_; (case hd => rfl); (case hg => rfl); (case hr => first | (go_simp; done) | (go_simp; rfl)); intro g17 hg v17 hbox hb; have D := Aside0.mk hb; have K17 := Aside0.mk hbox; clear hb hbox hg) | ((with_reducible refine gate_dst (N := 18) rfl ?_); refine slice_event ?hg (N := 18) ?hd (cs := #[.int .i64 1, .int .i64 1]) (t := 3) (n := 2) ?hr ?_; (case hd => rfl); (case hg => rfl); (case hr => first | (go_simp; done) | (go_simp; rfl)); intro g18 hg v18 hbox hb; replace D := Aside0.mk (below_step D.out hb); replace K17 := Aside0.mk (blk_below K17.out hb); have K18 := Aside0.mk hbox; clear hb hbox hg) | ((with_reducible refine gate_dst (N := 19) rfl ?_); refine slice_event ?hg (N := 19) ?hd (cs := #[.slice (some ⟨g17, 0, none⟩) 2 2, .slice (some ⟨g18, 0, none⟩) 2 2]) (t := 35) (n := 2) ?hr ?_; (case hd => rfl); (case hg => rfl); (case hr => first | (go_simp; done) | (go_simp; rfl)); intro g19 hg v19 hbox hb; replace D := Aside0.mk (below_step D.out hb); replace K17 := Aside0.mk (blk_below K17.out hb); replace K18 := Aside0.mk (blk_below K18.out hb); have K19 := Aside0.mk hbox; clear hb hbox hg) | ((with_reducible refine gate_dst (N := 6) rfl ?_); refine box_event ?hg (N := 6) ?hd (cs := #[.slice none 0 0]) (t := 27) ?hr ?_; (case hd => rfl); (case hg => rfl); (case hr => first | (go_simp; done) | (go_simp; rfl)); intro g6 hg v6 hbox hb; have N6 := Aside0.mk (show g17 ≠ g6 ∧ g18 ≠ g6 ∧ g19 ≠ g6 from by have h1 := blk_lt K17.out; have h2 := blk_lt K18.out; have h3 := blk_lt K19.out; omega); have E6 := Aside0.mk (show wr.heap.size ≤ g6 by rw [hg]; exact D.out.size); replace D := Aside0.mk (below_step D.out hb); replace K17 := Aside0.mk (blk_below K17.out hb); replace K18 := Aside0.mk (blk_below K18.out hb); replace K19 := Aside0.mk (blk_below K19.out hb); have K6 := Aside0.mk hbox; have XV := Aside0.mk (X.out.below D.out); clear hb hbox hg; have hz6 : v6.cell? ⟨g6, 0, none⟩ = some (.slice none 0 0) := (blk_cell K6.out 0).trans rfl; have hf6 := blk_frozen K6.out 0; have hzm : v6.cell? ⟨gm, 0, none⟩ = some (.slice A2 M.length c2) := (blk_cell XV.out.bm 0).trans rfl; have hnm : gm ≠ g6 := (by have h1 := blk_lt X.out.bm; have h2 := E6.out; omega); have hnm2 : g6 ≠ gm := Ne.symm hnm))
          obtain ⟨w6, hw⟩ : ∃ x, x = v6.setCell ⟨g6, 0, none⟩ (.slice (some ⟨g19, 0, none⟩) 2 2) := ⟨_, rfl⟩
          rw [← hw]
          have X7 := Aside0.mk (show CInv w gr gm M (.slice A2 M.length c2) w6 by rw [hw]; exact CInv.store X.out D.out E6.out _)
          have J1 := Aside0.mk (show w6.heap[g17]? = some (.cells #[.int .i64 2, .int .i64 1] 3 (0, 0)) by rw [hw, Below.heap_setCell _ _ _ _ (by show g17 ≠ g6; exact N6.out.1)]; exact K17.out)
          have J2 := Aside0.mk (show w6.heap[g18]? = some (.cells #[.int .i64 1, .int .i64 1] 3 (0, 0)) by rw [hw, Below.heap_setCell _ _ _ _ (by show g18 ≠ g6; exact N6.out.2.1)]; exact K18.out)
          have J3 := Aside0.mk (show w6.heap[g19]? = some (.cells #[.slice (some ⟨g17, 0, none⟩) 2 2, .slice (some ⟨g18, 0, none⟩) 2 2] 35 (0, 0)) by rw [hw, Below.heap_setCell _ _ _ _ (by show g19 ≠ g6; exact N6.out.2.2)]; exact K19.out)
          clear hw K17 K18 K19 K6 N6 E6 D XV hz6 hf6 hzm hnm hnm2 X HG d1 d2 hbs
          have hP := Aside0.mk (prodL_sq (M := [[2, 1], [1, 1]]) HM.out.1)
          refine (cohn_times M A2 c2 g19 g17 g18 2 1 1 1 _ _ _ w6 HM.out.1 HM.out.2 (Kd.S_reads' X7.out.s).2.2 J3.out J1.out J2.out).mono ?_
          rintro e w7 ⟨v, rfl, hS, hb⟩
          obtain ⟨A3, c3, rfl, hl3, hC3⟩ := Kd.S_reads hS
          have X8 := Aside0.mk (X7.out.next hb hS)
          have X7b := Aside0.mk (X7.out.below hb)
          clear J1 J2 J3 hS hb hl3 hC3 X7
          generalize prodL M [[2, 1], [1, 1]] = P at HN hP X8 ⊢
          have hzm : w7.cell? ⟨gm, 0, none⟩ = some (.slice A2 M.length c2) := (blk_cell X7b.out.bm 0).trans rfl
          have hfm := blk_frozen X7b.out.bm 0
          go_wp2_with fail
          clear hzm hfm
          obtain ⟨w8, hw⟩ : ∃ x, x = w7.setCell ⟨gm, 0, none⟩ (.slice A3 P.length c3) := ⟨_, rfl⟩
          rw [← hw]
          replace X8 := Aside0.mk (show CInv w gr gm P (.slice A3 P.length c3) w8 by rw [hw]; exact X8.out)
          clear hw X7b
          have CI := isMatrix_any A3 c3 P w8 (Kd.S_reads' X8.out.s).2.2
          cases hm : isMat P with
          | true =>
            rw [hm] at CI
            rw [if_pos hm] at HN
            clear hm
            refine CI.mono ?_
            rintro e w9 ⟨rfl, hb⟩
            replace X8 := Aside0.mk (X8.out.below hb)
            clear hb CI
            go_wp2
            go_roundg k1
            case rel => exact ⟨i + 1, P, _, HI.out, w_succ i (by have := HZ.out; omega), HN, ⟨hP.out.1, hP.out.2.trans HM.out.2⟩, X8⟩
            case measure => omega
          | false =>
            rw [hm] at CI
            rw [if_neg (by rw [hm]; simp)] at HN
            clear hm
            refine CI.mono ?_
            rintro e w9 ⟨rfl, hb⟩
            replace X8 := Aside0.mk (X8.out.below hb)
            clear hb CI
            obtain ⟨rfl, rfl⟩ := HN.out
            have hz : w9.cell? ⟨gr, 0, none⟩ = some (.slice none 0 0) := (blk_cell X8.out.br 0).trans rfl
            have hf := blk_frozen X8.out.br 0
            have Y := Aside0.mk (X8.out.b.setCell (p := ⟨gr, 0, none⟩) X8.out.r (.slice none 0 0))
            have HB0 := Aside0.mk (show (w9.setCell ⟨gr, 0, none⟩ (.slice none 0 0)).heap[gr]? = some (.cells #[.slice none 0 0] 27 (0, 0)) by simpa using blk_set X8.out.br 0 (.slice none 0 0))
            clear X8 HM HI hP HN
            go_wp2
            refine bodyPost_ret (results_ct rfl _ _ gr 27 #[.slice none 0 0] (0, 0) _ rfl HB0.out Try.underlying27 rfl (by kernel_rfl)) rfl ?_
            exact ⟨_, rfl, Kd.S_nil _ _ _ _ _, Y.out⟩
  · have hR : cohnR s = ([], false) := if_neg hL
    rw [Bool.eq_false_iff.2 hL] at CL
    rw [hR]
    clear hR hL
    go_enter Try.func36, Try.ntmps36
    go_wp2_with (first | ((with_reducible refine gate_dst (N := 2) rfl ?_); refine box_event ?hg (N := 2) ?hd (cs := #[.slice none 0 0]) (t := 27) ?hr ?_; (case hd => rfl); (case hg => rfl); (case hr => first | (go_simp; done) | (go_simp; rfl)); intro gr hg w1 hbox hb; have KR := Aside0.mk hbox; have BW := Aside0.mk hb; have GR := Aside0.mk (show w.heap.size ≤ gr by omega); have GR2 := Aside0.mk (blk_lt hbox); clear hb hbox hg))
    refine (CL _).mono ?_
    rintro e w2 ⟨rfl, hb⟩
    replace KR := Aside0.mk (blk_below KR.out hb)
    replace BW := Aside0.mk (below_step BW.out hb)
    clear hb CL
    have hz : w2.cell? ⟨gr, 0, none⟩ = some (.slice none 0 0) := (blk_cell KR.out 0).trans rfl
    have hf := blk_frozen KR.out 0
    go_wp2
    refine bodyPost_ret (results_ct rfl _ _ gr 27 #[.slice none 0 0] (0, 0) _ rfl (by simpa using blk_set KR.out 0 (.slice none 0 0)) Try.underlying27 rfl (by kernel_rfl)) rfl ?_
    exact ⟨_, rfl, Kd.S_nil _ _ _ _ _, BW.out.setCell GR.out _⟩
end Go.Proofs.Ytbchhpplglllmaa.G
