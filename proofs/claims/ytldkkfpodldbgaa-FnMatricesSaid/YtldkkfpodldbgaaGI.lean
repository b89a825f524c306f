/- Several parts in one text: impl.checked by hand. impl.InverseOf by hand: its closure, what is made with it, and the function. -/
import Derived.Test.YtldkkfpodldbgaaGA
import Derived.Test.YtldkkfpodldbgaaWMore
import Derived.Test.YtldkkfpodldbgaaQM
namespace Go.Proofs.Ytldkkfpodldbgaa.G
open Go.RowKit Go.Proofs.YtldkkfpodldbgaaW.PrintWords Go.Proofs.YtldkkfpodldbgaaW.PrintLast
set_option linter.unusedVariables false
set_option linter.unusedSimpArgs false
set_option maxHeartbeats 8000000 in
set_option maxRecDepth 100000 in
theorem checked_any (A : Option Addr) (c : Nat) (L : List (List Int)) (w : World) (hr : Kd.C (Kd.slice 3 (Kd.int .i64)) w A L.length L) (b : Bool) (u : Value) (hm : isMat L = b) (hv : (if b = true then .slice A L.length c else .slice none 0 0) = u) :
    Calls Try.prog 65 #[.agg #[.slice A L.length c]] w fun e w' => e = .returned (.tuple #[.agg #[u], .bool b]) ∧ Below w.heap.size w w' := by
  have hu := Try.underlying26
  have CL := Aside0.mk (fun (W : World) (hb : Below w.heap.size w W) => isMatrix_any A c L W (Kd.C_below hr hb))
  rw [hm] at CL
  have HV := Aside0.mk hv
  clear hr hm hv
  go_enter Try.func65, Try.ntmps65
  go_wp2_with (first | ((with_reducible refine gate_dst (N := 1) rfl ?_); refine box_event ?hg (N := 1) ?hd (cs := #[.slice A L.length c]) (t := 26) ?hr ?_; (case hd => rfl); (case hg => rfl); (case hr => first | (go_simp; done) | (go_simp; rfl)); intro g1 hg w1 hbox hb; have K1 := Aside0.mk hbox; have B1 := Aside0.mk hb; clear hb hbox hg) | ((with_reducible refine gate_dst (N := 2) rfl ?_); refine box_event ?hg (N := 2) ?hd (cs := #[.slice none 0 0]) (t := 26) ?hr ?_; (case hd => rfl); (case hg => rfl); (case hr => first | (go_simp; done) | (go_simp; rfl)); intro g2 hg w2 hbox hb; have N2 := Aside0.mk (show g1 ≠ g2 from (by have h1 := blk_lt K1.out; omega)); have G2 := Aside0.mk (show w.heap.size ≤ g2 from (by have h1 := B1.out.size; omega)); have K2 := Aside0.mk hbox; replace K1 := Aside0.mk (blk_below K1.out hb); have B2 := Aside0.mk (below_step B1.out hb); clear hb hbox hg; have hz1 : w2.cell? ⟨g1, 0, none⟩ = some (.slice A L.length c) := (blk_cell K1.out 0).trans rfl))
  clear hz1
  refine (CL.out _ B2.out).mono ?_
  rintro e w3 ⟨rfl, hb⟩
  have K3 := Aside0.mk (blk_below K1.out hb)
  have K4 := Aside0.mk (blk_below K2.out hb)
  have B3 := Aside0.mk (below_step B2.out hb)
  clear hb CL K1 K2 B1 B2
  have hz1 : w3.cell? ⟨g1, 0, none⟩ = some (.slice A L.length c) := (blk_cell K3.out 0).trans rfl
  have hz2 : w3.cell? ⟨g2, 0, none⟩ = some (.slice none 0 0) := (blk_cell K4.out 0).trans rfl
  have hf2 := blk_frozen K4.out 0
  have hne := N2.out
  cases b with
  | false =>
    obtain rfl := HV.out
    clear HV
    have Y := Aside0.mk (B3.out.setCell (p := ⟨g2, 0, none⟩) G2.out (.slice none 0 0))
    have HB0 := Aside0.mk (show (w3.setCell ⟨g2, 0, none⟩ (.slice none 0 0)).heap[g2]? = some (.cells #[.slice none 0 0] 26 (0, 0)) by simpa using blk_set K4.out 0 (.slice none 0 0))
    clear K3 K4 B3 N2 G2
    go_wp2
    refine bodyPost_ret (results_ct rfl _ _ g2 26 #[.slice none 0 0] (0, 0) _ rfl HB0.out Try.underlying26 rfl (by kernel_rfl)) rfl ?_
    exact ⟨rfl, Y.out⟩
  | true =>
    obtain rfl := HV.out
    clear HV
    have Y := Aside0.mk (B3.out.setCell (p := ⟨g2, 0, none⟩) G2.out (.slice A L.length c))
    have HB0 := Aside0.mk (show (w3.setCell ⟨g2, 0, none⟩ (.slice A L.length c)).heap[g2]? = some (.cells #[.slice A L.length c] 26 (0, 0)) by simpa using blk_set K4.out 0 (.slice A L.length c))
    clear K3 K4 B3 N2 G2
    go_wp2
    refine bodyPost_ret (results_ct rfl _ _ g2 26 #[.slice A L.length c] (0, 0) _ rfl HB0.out Try.underlying26 rfl (by kernel_rfl)) rfl ?_
    exact ⟨rfl, Y.out⟩
end Go.Proofs.Ytldkkfpodldbgaa.G
namespace Go.Proofs.Ytldkkfpodldbgaa.G
open Go.RowKit Go.Proofs.Ytldkkfpodldbgaa.P Go.Proofs.YtldkkfpodldbgaaW.PrintWords Go.Proofs.YtldkkfpodldbgaaW.PrintLast Go.Proofs.YtldkkfpodldbgaaW.PrintMore Go.Proofs.Ytldkkfpodldbgaa.Q
set_option linter.unusedVariables false
set_option linter.unusedSimpArgs false

set_option maxHeartbeats 4000000 in
/-- impl.made with the closure loop.example/g01122/impl.InverseOf$1. -/
theorem madeInverse_any (p0 p1 : Value) (n : Nat) (g : Nat → Nat → Int) (w : World) (hn : n ≤ 1000)
    (V : ∀ i j : Nat, i < n → j < n → ∀ W : World, Below w.heap.size w W → Calls Try.prog 68 #[.int .i64 i, .int .i64 j, p0, p1] W fun e W' => e = .returned (.int .i64 (g i j)) ∧ Below W.heap.size W W') :
    Calls Try.prog 66 #[.int .i64 n, .func (.func 68) #[] #[p0, p1]] w fun e w' => ∃ v0 : Value, e = .returned (.agg #[v0]) ∧ Kd.S (Kd.slice 3 (Kd.int .i64)) 34 w' w.heap.size (fun _ => True) v0 (rowsOf g n n) ∧ Below w.heap.size w w' := by
  have hu := Try.underlying26
  have VV := Aside0.mk V
  have HN := Aside0.mk hn
  have X := Aside0.mk (show MInv w (w.heap.size + 2) (rowsOf g n 0) (.slice none 0 0) ((w.alloc (.cells #[.slice none 0 0] 26)).alloc (.cells #[.slice none 0 0] 26)) from
    ⟨by rw [Below.heap_alloc _ _ _ (by simp)]; exact heap_alloc_new w _, by simpa using heap_alloc_new (w.alloc (.cells #[.slice none 0 0] 26)) (.cells #[.slice none 0 0] 26),
      Kd.S_nil _ _ _ _ _, ((Below.refl w.heap.size w).alloc (Nat.le_refl _) _).alloc (by simp) _, Nat.le_refl _, by simp⟩)
  clear V hn
  go_enter Try.func66, Try.ntmps66
  go_wp2
  go_loopg [11] n (fun kq v11 w' => ∃ i : Nat, i + kq = n ∧ v11 = .int .i64 i ∧ Aside0 (∃ N0 u, MInv w N0 (rowsOf g n i) u w'))
  case atStart => exact ⟨0, by omega, rfl, ⟨_, _, X.out⟩⟩
  case round =>
    clear X
    obtain ⟨i, hi, rfl, ⟨N1, u, X1⟩⟩ := hrel
    cases gk with
    | zero =>
      have hd : decide (i < n) = false := decide_eq_false (by omega)
      have hin : i = n := by omega
      have X := Aside0.mk X1
      have hc : wr.cell? ⟨w.heap.size + 1, 0, none⟩ = some u := (blk_cell X1.b1 0).trans rfl
      have hf : wr.frozen? ⟨w.heap.size, 0, none⟩ = false := blk_frozen X1.b0 0
      have hc0 : wr.cell? ⟨w.heap.size, 0, none⟩ = some (.slice none 0 0) := (blk_cell X1.b0 0).trans rfl
      obtain ⟨A2, c2, rfl⟩ := Kd.S_slice X1.s
      have HB0 := Aside0.mk (show (wr.setCell ⟨w.heap.size, 0, none⟩ (.slice A2 (rowsOf g n i).length c2)).heap[w.heap.size]? = some (.cells #[.slice A2 (rowsOf g n i).length c2] 26 (0, 0)) by simpa using blk_set X1.b0 0 (.slice A2 (rowsOf g n i).length c2))
      have Y := Aside0.mk (show Kd.S (Kd.slice 3 (Kd.int .i64)) 34 (wr.setCell ⟨w.heap.size, 0, none⟩ (.slice A2 (rowsOf g n i).length c2)) w.heap.size (fun _ => True) (.slice A2 (rowsOf g n i).length c2) (rowsOf g n n) ∧
          Below w.heap.size w (wr.setCell ⟨w.heap.size, 0, none⟩ (.slice A2 (rowsOf g n i).length c2)) from by
        refine ⟨?_, X1.b.setCell (Nat.le_refl _) _⟩
        have h := Kd.S_far (p := ⟨w.heap.size, 0, none⟩) X1.s (fun k hk => hk.1.1) (.slice A2 (rowsOf g n i).length c2)
        rw [← hin] at h ⊢
        exact Kd.S_mono h (fun _ _ => trivial))
      clear X1 X
      generalize (rowsOf g n i).length = m at hc Y HB0
      go_wp2
      refine bodyPost_ret (results_cell_row rfl _ _ w.heap.size 26 #[.slice A2 m c2] (0, 0) _ rfl HB0.out Try.underlying26 rfl (by kernel_rfl)) rfl ?_
      exact ⟨_, rfl, Y.out⟩
    | succ k1 =>
      have hd : decide (i < n) = true := decide_eq_true (by omega)
      have hr0 := R_empty wr w.heap.size (fun k => wr.heap.size ≤ k) X1.b.size (Nat.le_refl _)
      have X := Aside0.mk (show MInv w wr.heap.size (rowsOf g n i) u (wr.alloc (.cells #[] 3)) ∧ Kd.R (Kd.int .i64) 3 (wr.alloc (.cells #[] 3)) w.heap.size (fun k => wr.heap.size ≤ k) (.slice (some ⟨wr.heap.size, 0, none⟩) 0 0) (rowOf g i 0) from
        ⟨X1.raise.below (below_alloc (Below.refl _ _) _), hr0⟩)
      have HI := Aside0.mk hi
      clear X1 hr0
      go_wp2
      generalize hN0 : wr.heap.size = N0 at X ⊢
      go_loopg [7, 16] n (fun kq v7 v16 w' => ∃ j : Nat, j + kq = n ∧ v16 = .int .i64 j ∧ Aside0 (MInv w N0 (rowsOf g n i) u w' ∧ Kd.R (Kd.int .i64) 3 w' w.heap.size (fun k => N0 ≤ k) v7 (rowOf g i j)))
      case atStart => exact ⟨0, by omega, rfl, X⟩
      case round =>
        clear X
        obtain ⟨j, hj, rfl, X⟩ := hrel
        cases gk with
        | zero =>
          have hd2 : decide (j < n) = false := decide_eq_false (by omega)
          have hjn : j = n := by omega
          subst hjn
          obtain ⟨X1, HR⟩ := X.out
          clear X
          obtain ⟨A3, c3, rfl⟩ := Kd.R_slice HR
          obtain ⟨A2, c2, rfl⟩ := Kd.S_slice X1.s
          have hub := (Kd.S_R X1.s).1
          have hne := HR.1
          have hbb := X1.n
          have hM := Aside0.mk (Kd.M_row (e := 3) (Kd.R_tight rfl HR))
          have hokp := Aside0.mk (show ∀ k, some k = (Value.slice A3 (rowOf g i j).length c3).ownBlock → (k ≠ w.heap.size ∧ k ≠ w.heap.size + 1) ∧ some k ≠ (Value.slice A2 (rowsOf g j i).length c2).ownBlock from
            fun k hk => by
              have h1 := hne k hk.symm
              refine ⟨⟨by omega, by omega⟩, fun he => ?_⟩
              have h2 := (hub k he.symm).2
              omega)
          have hSa := Aside0.mk (Kd.S_mono (ok' := fun k => (k ≠ w.heap.size ∧ k ≠ w.heap.size + 1) ∧ ¬ some k = (Value.slice A3 (rowOf g i j).length c3).ownBlock) X1.s (fun k hk => ⟨hk.1, fun he => by have := hne k he.symm; omega⟩))
          have hfr := Aside0.mk (show ∀ k, wr.heap.size ≤ k → k ≠ w.heap.size ∧ k ≠ w.heap.size + 1 from fun k hk => by have := X1.h; omega)
          have hl := Aside0.mk (show ((rowsOf g j i).length + 1) * 24 ≤ 140737488355328 by rw [rowsOf_length]; have := HN.out; omega)
          have hc : wr.cell? ⟨w.heap.size + 1, 0, none⟩ = some (.slice A2 (rowsOf g j i).length c2) := (blk_cell X1.b1 0).trans rfl
          have hf : wr.frozen? ⟨w.heap.size + 1, 0, none⟩ = false := blk_frozen X1.b1 0
          have X := Aside0.mk X1
          have hHB := Aside0.mk X1.b
          clear X1 HR hub hne hbb
          go_wp2_with (at_builtin; refine Kd.S_append (Kd.slice 3 (Kd.int .i64)) (w0 := w) w.heap.size rfl _ _ 22 34 (.slice none 0 0) 24 rfl Try.underlying22 rinfo rfl (by decide) (by decide) (.slice A2 (rowsOf g j i).length c2) (rowsOf g j i) (rowOf g i j) [.slice A3 (rowOf g i j).length c3] (fun k => k ≠ w.heap.size ∧ k ≠ w.heap.size + 1) (fun k => some k = (Value.slice A3 (rowOf g i j).length c3).ownBlock) rfl rfl hM.out hokp.out hfr.out hSa.out hHB.out hHB.out.size hl.out ?_)
          intro v1 w1 hS1 hb1 hg1 hat1
          have h1 : w1.heap[w.heap.size + 1]? = some (.cells #[.slice A2 (rowsOf g j i).length c2] 26 (0, 0)) := blk_grown X.out.b1 hg1 (fun he => by have := ((Kd.S_R X.out.s).1 _ he.symm).1.2; omega)
          have h0 : w1.heap[w.heap.size]? = some (.cells #[.slice none 0 0] 26 (0, 0)) := blk_grown X.out.b0 hg1 (fun he => by have := ((Kd.S_R X.out.s).1 _ he.symm).1.1; omega)
          have hc1 : w1.cell? ⟨w.heap.size + 1, 0, none⟩ = some (.slice A2 (rowsOf g j i).length c2) := (blk_cell h1 0).trans rfl
          have hf1 : w1.frozen? ⟨w.heap.size + 1, 0, none⟩ = false := blk_frozen h1 0
          have hnn : w.heap.size + 2 ≤ w1.heap.size := Nat.le_trans X.out.n (Nat.le_trans X.out.h hg1.size)
          have Z := Aside0.mk (show ∃ N0 u, MInv w N0 (rowsOf g j (i + 1)) u (w1.setCell ⟨w.heap.size + 1, 0, none⟩ v1) from by
            refine ⟨w1.heap.size, v1, ?_, by simpa using blk_set h1 0 v1, ?_, hb1.setCell (by simp) _, hnn, by simp⟩
            · rw [Below.heap_setCell _ _ _ _ (by simp)]
              exact h0
            · rw [rowsOf_succ]
              refine Kd.S_mono (Kd.S_far (p := ⟨w.heap.size + 1, 0, none⟩) (Kd.S_bound hS1) (fun k hk => hk.1.2) v1) (fun k hk => ⟨hk.1, hk.2.2.1⟩))
          obtain ⟨A4, c4, hv1⟩ := Kd.S_slice hS1
          generalize (rowsOf g j i ++ [rowOf g i j]).length = m at hv1
          subst hv1
          clear hS1 hb1 hg1 hat1 h1 h0 hc hf X hnn
          go_wp2
          go_roundg k1
          case rel => exact ⟨i + 1, by omega, w_succ i (by have := HN.out; omega), Z⟩
          case measure => omega
        | succ k2 =>
          have hd2 : decide (j < n) = true := decide_eq_true (by omega)
          have C := Aside0.mk (VV.out i j (by omega) (by omega) wr X.out.1.b)
          go_wp2_with fail
          refine C.out.mono ?_
          rintro e w2 ⟨rfl, hb⟩
          have X2 := Aside0.mk (show MInv w N0 (rowsOf g n i) u w2 ∧ Kd.R (Kd.int .i64) 3 w2 w.heap.size (fun k => N0 ≤ k) u7 (rowOf g i j) from ⟨X.out.1.below hb, Kd.R_below X.out.2 hb⟩)
          have HJ := Aside0.mk (show ((rowOf g i j).length + 1) * 8 ≤ 140737488355328 by rw [rowOf_length]; have := HN.out; omega)
          clear X C hb
          go_wp2_with (at_builtin; refine Kd.R_append (Kd.int .i64) (w0 := w) w.heap.size rfl _ _ 34 3 (.int .i64 0) 8 rfl Try.underlying34 iinfo rfl (by decide) (by decide) u7 (rowOf g i j) (g i j) [.int .i64 (g i j)] (fun k => N0 ≤ k) (fun _ => False) rfl rfl rfl (fun _ hk => hk.elim) (fun k hk => Nat.le_trans X2.out.1.h hk) X2.out.2 X2.out.1.b X2.out.1.b.size HJ.out ?_)
          intro v1 w1 hR1 hb1 hg1 hat1
          have Z := Aside0.mk (show MInv w N0 (rowsOf g n i) u w1 ∧ Kd.R (Kd.int .i64) 3 w1 w.heap.size (fun k => N0 ≤ k) v1 (rowOf g i (j + 1)) from
            ⟨X2.out.1.grown hg1 hb1 (fun k hk => X2.out.2.1 k hk), by rw [rowOf_succ]; exact hR1⟩)
          clear X2 hR1 hb1 hg1 hat1
          go_wp2
          go_roundg k2
          case rel => exact ⟨j + 1, by omega, w_succ j (by have := HN.out; omega), Z⟩
          case measure => omega

set_option maxHeartbeats 4000000 in
set_option maxRecDepth 100000 in
theorem inverse1_any (B1 B2 : Nat) (A : Option Addr) (c : Nat) (L : List (List Int)) (d : Int) (i j : Nat) (w : World) (hr : Kd.C (Kd.slice 3 (Kd.int .i64)) w A L.length L)
    (hb1 : w.cell? ⟨B1, 0, none⟩ = some (.int .i64 d)) (hb2 : w.cell? ⟨B2, 0, none⟩ = some (.slice A L.length c)) (hs : isSq L = true) (hi : i < L.length) (hj : j < L.length) :
    Calls Try.prog 68 #[.int .i64 i, .int .i64 j, .pointer (some ⟨B1, 0, none⟩), .pointer (some ⟨B2, 0, none⟩)] w fun e w' => e = .returned (.int .i64 (invAt L d i j)) ∧ Below w.heap.size w w' := by
  have hu := Try.underlying26
  have hle := isSq_le hs
  obtain ⟨kd, hkd⟩ := Ev_out (g := fun k => impl_Matrix_determinant.f k (minorL L (j : Int) (i : Int))) (det_ev (L.length - 1) (minorL L (j : Int) (i : Int)) (by omega) (minor_sq hs _ _) (minor_len L _ _))
  have CW := Aside0.mk (fun (W : World) (hB : Below w.heap.size w W) => without_any A c L (j : Int) (i : Int) W (Kd.C_below hr hB) hs (by omega))
  have CD := Aside0.mk (fun (W : World) (A2 : Option Addr) (c2 : Nat) (hC : Kd.C (Kd.slice 3 (Kd.int .i64)) W A2 (minorL L (j : Int) (i : Int)).length (minorL L (j : Int) (i : Int))) (hl : (minorL L (j : Int) (i : Int)).length ≤ c2) =>
    impl_Matrix_determinant.calls kd A2 c2 (minorL L (j : Int) (i : Int)) _ W hC hl hkd)
  have hw : wrap64 ((i : Int) + (j : Int)) = ((i + j : Nat) : Int) := by unfold wrap64; omega
  have ht : Int.tmod ((i + j : Nat) : Int) 2 = (((i + j) % 2 : Nat) : Int) := by rw [Int.tmod_eq_emod_of_nonneg (by omega)]; omega
  have HI := Aside0.mk (show invAt L d i j = if (i + j) % 2 = 1 then wrap64 (-(wrap64 (d * detN (L.length - 1) (minorL L (j : Int) (i : Int))))) else wrap64 (d * detN (L.length - 1) (minorL L (j : Int) (i : Int))) from rfl)
  generalize detN (L.length - 1) (minorL L (j : Int) (i : Int)) = z at HI CD hkd
  generalize invAt L d i j = R at HI ⊢
  generalize minorL L (j : Int) (i : Int) = M at CW CD hkd
  have HB1 := Aside0.mk hb1
  have HB2 := Aside0.mk hb2
  have HW := Aside0.mk hw
  have HT := Aside0.mk ht
  clear hr hs hi hj hle hkd hb1 hb2 hw ht
  go_enter Try.func68, Try.ntmps68
  go_wp2_with fail
  refine start_ (n := 8) (S := fun w' => w'.cell? ⟨B1, 0, none⟩ = some (.int .i64 d) ∧ w'.cell? ⟨B2, 0, none⟩ = some (.slice A L.length c)) (ds := []) #[false, false, false, false, false, false, false, false] (by kernel_rfl) rfl rfl ⟨pw_cell_below (below_drew1 (Below.refl _ _)) HB1.out, pw_cell_below (below_drew1 (Below.refl _ _)) HB2.out⟩ (fun hHeld => ?_)
  have HB := Aside0.mk (below_drew1 (Below.refl w.heap.size w))
  generalize w.drew = w1 at HB hHeld ⊢
  refine take_ (i := 0) (N := some 8) (v := ?_) (a' := ?_) #[true, false, false, false, false, false, false, false] rfl rfl (by kernel_rfl) (fun _ _ _ h => h) (Or.inl ⟨by rfl, ?_⟩) hHeld ?_ ?_
  rotate_left
  · rintro w' ⟨s0, s1⟩
    go_simp
    with_reducible rfl
  rotate_left
  · simp only [Act.put, List.setIfInBounds_toArray, List.set_cons_zero, List.set_cons_succ, i64_w, i32_w]
    rfl
  refine take_ (i := 1) (N := some 9) (v := ?_) (a' := ?_) #[true, true, false, false, false, false, false, false] rfl rfl (by kernel_rfl) (fun _ _ _ h => h) (Or.inl ⟨by rfl, ?_⟩) hHeld ?_ ?_
  rotate_left
  · rintro w' ⟨s0, s1⟩
    go_simp
    with_reducible rfl
  rotate_left
  · simp only [Act.put, List.setIfInBounds_toArray, List.set_cons_zero, List.set_cons_succ, i64_w, i32_w]
    rfl
  refine pure_ (i := 2) (N := some 10) (v := ?_) (a' := ?_) #[true, true, true, false, false, false, false, false] rfl rfl (by kernel_rfl) (fun _ _ _ h => h) (Or.inl ⟨by rfl, ?_⟩) ?_ ?_
  rotate_left
  · intro w'
    go_simp
    with_reducible rfl
  rotate_left
  · simp only [Act.put, List.setIfInBounds_toArray, List.set_cons_zero, List.set_cons_succ, i64_w, i32_w]
    rfl
  refine pure_ (i := 3) (N := some 11) (v := ?_) (a' := ?_) #[true, true, true, true, false, false, false, false] rfl rfl (by kernel_rfl) (fun _ _ _ h => h) (Or.inl ⟨by rfl, ?_⟩) ?_ ?_
  rotate_left
  · intro w'
    go_simp
    with_reducible rfl
  rotate_left
  · simp only [Act.put, List.setIfInBounds_toArray, List.set_cons_zero, List.set_cons_succ, i64_w, i32_w]
    rfl
  refine one_ (i := 4) (N := some 12) #[true, true, true, true, true, false, false, false] rfl rfl (by kernel_rfl) (by decide) (fun K hK => ?_)
  refine goes_ Try.func69 (by kernel_rfl) rfl #[.agg #[.slice A L.length c], .int .i64 j, .int .i64 i] (by rfl) rfl rfl (by (try simp only [List.map_toArray, List.map_cons, List.map_nil]); first | done | rfl) ?_
  refine (CW.out _ HB.out).mono ?_
  rintro e y1 ⟨v0, rfl, hS, hb⟩
  refine ⟨_, rfl, ?_⟩
  obtain ⟨A2, c2, rfl, hl2, hC2⟩ := Kd.S_reads hS
  have DD := Aside0.mk (CD.out y1 A2 c2 hC2 hl2)
  replace HB := Aside0.mk (below_step HB.out hb)
  clear hS hb hl2 hC2 CW CD
  refine hK.out _ _ ⟨pw_cell_below HB.out HB1.out, pw_cell_below HB.out HB2.out⟩ (fun hHeld => ?_)
  clear hK K
  refine norm_ (a' := ?_) ?_ ?_
  rotate_left
  · show Act.put _ (some 12) _ = _
    simp only [Act.put, List.setIfInBounds_toArray, List.set_cons_zero, List.set_cons_succ, i64_w, i32_w]
    rfl
  refine one_ (i := 5) (N := some 13) #[true, true, true, true, true, true, false, false] rfl rfl (by kernel_rfl) (by decide) (fun K hK => ?_)
  refine goes_ Try.func64 (by kernel_rfl) rfl #[.agg #[.slice A2 M.length c2]] (by rfl) rfl rfl (by (try simp only [List.map_toArray, List.map_cons, List.map_nil]); first | done | rfl) ?_
  refine DD.out.mono ?_
  rintro e y2 ⟨rfl, hb⟩
  refine ⟨_, rfl, ?_⟩
  replace HB := Aside0.mk (below_step HB.out hb)
  clear hb DD
  refine hK.out _ _ ⟨pw_cell_below HB.out HB1.out, pw_cell_below HB.out HB2.out⟩ (fun hHeld => ?_)
  clear hK K
  refine norm_ (a' := ?_) ?_ ?_
  rotate_left
  · show Act.put _ (some 13) _ = _
    simp only [Act.put, List.setIfInBounds_toArray, List.set_cons_zero, List.set_cons_succ, i64_w, i32_w]
    rfl
  refine pure_ (i := 6) (N := some 14) (v := ?_) (a' := ?_) #[true, true, true, true, true, true, true, false] rfl rfl (by kernel_rfl) (fun _ _ _ h => h) (Or.inl ⟨by rfl, ?_⟩) ?_ ?_
  rotate_left
  · intro w'
    go_simp
    with_reducible rfl
  rotate_left
  · simp only [Act.put, List.setIfInBounds_toArray, List.set_cons_zero, List.set_cons_succ, i64_w, i32_w]
    rfl
  refine pure_ (i := 7) (N := some 7) (v := ?_) (a' := ?_) #[true, true, true, true, true, true, true, true] rfl rfl (by kernel_rfl) (fun _ _ _ h => h) (Or.inl ⟨by rfl, ?_⟩) ?_ ?_
  rotate_left
  · intro w'
    go_simp
    with_reducible rfl
  rotate_left
  · simp only [Act.put, List.setIfInBounds_toArray, List.set_cons_zero, List.set_cons_succ, i64_w, i32_w]
    rfl
  refine done_ (by kernel_rfl) ?_
  have hI := HI.out
  by_cases h2 : (i + j) % 2 = 1
  · rw [if_pos h2] at hI
    have d0 : (Int.tmod (wrap64 ((i : Int) + (j : Int))) 2 == 1) = true := by rw [HW.out, HT.out, h2]; rfl
    clear h2 HI HW HT hHeld
    subst hI
    go_wp2
    go_ret
    exact ⟨rfl, HB.out⟩
  · rw [if_neg h2] at hI
    have d0 : (Int.tmod (wrap64 ((i : Int) + (j : Int))) 2 == 1) = false := by rw [HW.out, HT.out]; exact beq_eq_false_iff_ne.mpr (by omega)
    clear h2 HI HW HT hHeld
    subst hI
    go_wp2
    go_ret
    exact ⟨rfl, HB.out⟩
set_option maxHeartbeats 8000000 in
set_option maxRecDepth 100000 in
theorem inverse_any (A : Option Addr) (c : Nat) (L : List (List Int)) (w : World) (hr : Kd.C (Kd.slice 3 (Kd.int .i64)) w A L.length L) (hc : L.length ≤ c) :
    Calls Try.prog 12 #[.agg #[.slice A L.length c]] w fun e w' => ∃ v : Value, e = .returned (.tuple #[.agg #[v], .bool (invR L).2]) ∧ Kd.S (Kd.slice 3 (Kd.int .i64)) 34 w' w.heap.size (fun _ => True) v (invR L).1 ∧ Below w.heap.size w w' := by
  have hmf : ∀ (fn : Fn) (first cap : Array Value) (w : World), (Instr.makeFunc fn first cap).run Try.prog w = .ok (.func fn first cap) w := fun _ _ _ _ => rfl
  have hu := Try.underlying26
  have CM := Aside0.mk (fun (W : World) (hb : Below w.heap.size w W) => isMatrix_any A c L W (Kd.C_below hr hb))
  have CS := Aside0.mk (fun (W : World) (hb : Below w.heap.size w W) => isSmall_any A c L 1000 W (Kd.C_below hr hb))
  have HS := fun W => size_any A L.length c W
  have CD := Aside0.mk (fun (W : World) (hb : Below w.heap.size w W) (hs : isSq L = true) =>
    have h := Ev_out (g := fun k => impl_Matrix_determinant.f k L) (det_ev L.length L (isSq_le hs) hs rfl)
    impl_Matrix_determinant.calls h.choose A c L (detN L.length L) W (Kd.C_below hr hb) hc h.choose_spec)
  have CT := Aside0.mk (fun (d : Int) (g4 g1 : Nat) (W : World) (hb : Below w.heap.size w W) (hs : isSq L = true) (h4 : W.cell? ⟨g4, 0, none⟩ = some (.int .i64 d)) (h1 : W.cell? ⟨g1, 0, none⟩ = some (.slice A L.length c)) =>
    madeInverse_any (.pointer (some ⟨g4, 0, none⟩)) (.pointer (some ⟨g1, 0, none⟩)) L.length (invAt L d) W (isSq_le hs)
      (fun i j hi hj W1 hB1 => inverse1_any g4 g1 A c L d i j W1 (Kd.C_below hr (below_step hb hB1)) (pw_cell_below hB1 h4) (pw_cell_below hB1 h1) hs hi hj))
  have HR := Aside0.mk (show (invR L) = ((invR L).1, (invR L).2) from rfl)
  generalize (invR L).1 = G at HR ⊢
  generalize (invR L).2 = b at HR ⊢
  clear hr hc
  go_enter Try.func12, Try.ntmps12
  go_wp2_with (first | ((with_reducible refine gate_dst (N := 1) rfl ?_); refine box_event ?hg (N := 1) ?hd (cs := #[.slice A L.length c]) (t := 26) ?hr ?_; (case hd => rfl); (case hg => rfl); (case hr => first | (go_simp; done) | (go_simp; rfl)); intro g1 hg w1 hbox hb; have K1 := Aside0.mk hbox; have B1 := Aside0.mk hb; clear hb hbox hg) | ((with_reducible refine gate_dst (N := 2) rfl ?_); refine box_event ?hg (N := 2) ?hd (cs := #[.slice none 0 0]) (t := 26) ?hr ?_; (case hd => rfl); (case hg => rfl); (case hr => first | (go_simp; done) | (go_simp; rfl)); intro g2 hg w2 hbox hb; have N2 := Aside0.mk (show g1 ≠ g2 from (by have h1 := blk_lt K1.out; omega)); have G2 := Aside0.mk (show w.heap.size ≤ g2 from (by have h1 := B1.out.size; omega)); have K2 := Aside0.mk hbox; replace K1 := Aside0.mk (blk_below K1.out hb); have B2 := Aside0.mk (below_step B1.out hb); clear hb hbox hg; have hz1 : w2.cell? ⟨g1, 0, none⟩ = some (.slice A L.length c) := (blk_cell K1.out 0).trans rfl))
  clear hz1
  refine (CM.out _ B2.out).mono ?_
  rintro e w3 ⟨rfl, hb⟩
  replace K1 := Aside0.mk (blk_below K1.out hb)
  replace K2 := Aside0.mk (blk_below K2.out hb)
  replace B2 := Aside0.mk (below_step B2.out hb)
  clear hb CM B1
  have hR := HR.out
  unfold invR at hR
  cases hm : isMat L with
  | false =>
    rw [if_neg (by rw [hm]; simp)] at hR
    obtain ⟨rfl, rfl⟩ := Prod.mk.inj hR
    have hz2 : w3.cell? ⟨g2, 0, none⟩ = some (.slice none 0 0) := (blk_cell K2.out 0).trans rfl
    have hf2 := blk_frozen K2.out 0
    have Y := Aside0.mk (B2.out.setCell (p := ⟨g2, 0, none⟩) G2.out (.slice none 0 0))
    have HB0 := Aside0.mk (show (w3.setCell ⟨g2, 0, none⟩ (.slice none 0 0)).heap[g2]? = some (.cells #[.slice none 0 0] 26 (0, 0)) by simpa using blk_set K2.out 0 (.slice none 0 0))
    clear hR HR K1 K2 B2 N2 G2 CS CD CT HS hm
    go_wp2
    refine bodyPost_ret (results_ct rfl _ _ g2 26 #[.slice none 0 0] (0, 0) _ rfl HB0.out Try.underlying26 rfl (by kernel_rfl)) rfl ?_
    exact ⟨_, rfl, Kd.S_nil _ _ _ _ _, Y.out⟩
  | true =>
    rw [if_pos hm] at hR
    have hs := isMat_sq hm
    have HS1 := Aside0.mk hs
    have hz1 : w3.cell? ⟨g1, 0, none⟩ = some (.slice A L.length c) := (blk_cell K1.out 0).trans rfl
    replace HR := Aside0.mk hR
    clear hm hs hR
    go_wp2_with fail
    clear hz1
    refine (CS.out _ B2.out).mono ?_
    rintro e w4 ⟨rfl, hb⟩
    replace K1 := Aside0.mk (blk_below K1.out hb)
    replace K2 := Aside0.mk (blk_below K2.out hb)
    replace B2 := Aside0.mk (below_step B2.out hb)
    clear hb CS
    have hR := HR.out
    cases hl : L.all (isLow 1000) with
    | false =>
      rw [if_neg (by rw [hl]; simp)] at hR
      obtain ⟨rfl, rfl⟩ := Prod.mk.inj hR
      have hz2 : w4.cell? ⟨g2, 0, none⟩ = some (.slice none 0 0) := (blk_cell K2.out 0).trans rfl
      have hf2 := blk_frozen K2.out 0
      have Y := Aside0.mk (B2.out.setCell (p := ⟨g2, 0, none⟩) G2.out (.slice none 0 0))
      have HB0 := Aside0.mk (show (w4.setCell ⟨g2, 0, none⟩ (.slice none 0 0)).heap[g2]? = some (.cells #[.slice none 0 0] 26 (0, 0)) by simpa using blk_set K2.out 0 (.slice none 0 0))
      clear hR HR K1 K2 B2 N2 G2 CD CT HS HS1 hl
      go_wp2
      refine bodyPost_ret (results_ct rfl _ _ g2 26 #[.slice none 0 0] (0, 0) _ rfl HB0.out Try.underlying26 rfl (by kernel_rfl)) rfl ?_
      exact ⟨_, rfl, Kd.S_nil _ _ _ _ _, Y.out⟩
    | true =>
      rw [if_pos hl] at hR
      have hz1 : w4.cell? ⟨g1, 0, none⟩ = some (.slice A L.length c) := (blk_cell K1.out 0).trans rfl
      replace HR := Aside0.mk hR
      clear hl hR
      go_wp2_with fail
      clear hz1
      refine (CD.out _ B2.out HS1.out).mono ?_
      rintro e w5 ⟨rfl, hb⟩
      replace K1 := Aside0.mk (blk_below K1.out hb)
      replace K2 := Aside0.mk (blk_below K2.out hb)
      replace B2 := Aside0.mk (below_step B2.out hb)
      clear hb CD
      generalize detN L.length L = d at HR ⊢
      go_upto_region 4 with (first | ((with_reducible refine gate_dst (N := 4) rfl ?_); refine box_event ?hg (N := 4) ?hd (cs := #[.int .i64 0]) (t := 3) ?hr ?_; (case hd => rfl); (case hg => rfl); (case hr => first | (go_simp; done) | (go_simp; rfl)); intro g4 hg w6 hbox hb; have N4 := Aside0.mk (show g1 ≠ g4 ∧ g2 ≠ g4 from (by have h1 := blk_lt K1.out; have h2 := blk_lt K2.out; omega)); have G4 := Aside0.mk (show w.heap.size ≤ g4 from (by have h1 := B2.out.size; omega)); have K4 := Aside0.mk hbox; replace K1 := Aside0.mk (blk_below K1.out hb); replace K2 := Aside0.mk (blk_below K2.out hb); replace B2 := Aside0.mk (below_step B2.out hb); clear hb hbox hg; have hz4 : w6.cell? ⟨g4, 0, none⟩ = some (.int .i64 0) := (blk_cell K4.out 0).trans rfl; have hf4 := blk_frozen K4.out 0))
      clear hz4 hf4
      obtain ⟨w7, hw⟩ : ∃ x, x = w6.setCell ⟨g4, 0, none⟩ (.int .i64 d) := ⟨_, rfl⟩
      rw [← hw]
      replace K1 := Aside0.mk (show w7.heap[g1]? = some (.cells #[.slice A L.length c] 26 (0, 0)) by rw [hw, Below.heap_setCell _ _ _ _ (by show g1 ≠ g4; exact N4.out.1)]; exact K1.out)
      replace K2 := Aside0.mk (show w7.heap[g2]? = some (.cells #[.slice none 0 0] 26 (0, 0)) by rw [hw, Below.heap_setCell _ _ _ _ (by show g2 ≠ g4; exact N4.out.2)]; exact K2.out)
      replace K4 := Aside0.mk (show w7.heap[g4]? = some (.cells #[.int .i64 d] 3 (0, 0)) by rw [hw]; simpa using blk_set K4.out 0 (.int .i64 d))
      replace B2 := Aside0.mk (show Below w.heap.size w w7 by rw [hw]; exact B2.out.setCell (p := ⟨g4, 0, none⟩) G4.out _)
      clear hw
      have hR := HR.out
      have hz4 : w7.cell? ⟨g4, 0, none⟩ = some (.int .i64 d) := (blk_cell K4.out 0).trans rfl
      by_cases hd : d = 1 ∨ d = -1
      · rw [if_pos hd] at hR
        replace HR := Aside0.mk hR
        have hz1 : w7.cell? ⟨g1, 0, none⟩ = some (.slice A L.length c) := (blk_cell K1.out 0).trans rfl
        have CT2 := Aside0.mk (CT.out d g4 g1)
        clear hR CT
        have fin : (d != 1) = false ∨ ((d != 1) = true ∧ (d != -1) = false) := by
          by_cases h : d = 1
          · exact .inl (bne_eq_false_iff_eq.mpr h)
          · exact .inr ⟨bne_iff_ne.mpr h, bne_eq_false_iff_eq.mpr (by omega)⟩
        clear hd
        rcases fin with d1 | ⟨d1, d2⟩
        all_goals
          go_wp2_with fail
          clear hz1 hz4
          refine (HS _).mono ?_
          rintro e w8 ⟨rfl, hw⟩
          have hb : Below w7.heap.size w7 w8 := by rw [hw]; exact below_alloc (Below.refl _ _) _
          clear hw
          replace K1 := Aside0.mk (blk_below K1.out hb)
          replace K2 := Aside0.mk (blk_below K2.out hb)
          replace K4 := Aside0.mk (blk_below K4.out hb)
          replace B2 := Aside0.mk (below_step B2.out hb)
          clear hb
          have DD := Aside0.mk (CT2.out w8 B2.out HS1.out ((blk_cell K4.out 0).trans rfl) ((blk_cell K1.out 0).trans rfl))
          rw [show rowsOf (invAt L d) L.length L.length = invL L d from rfl] at DD
          clear CT2 HS
          go_wp2_with fail
          refine DD.out.mono ?_
          rintro e w9 ⟨v, rfl, hS, hb⟩
          clear DD
          generalize invL L d = P at hS HR
          obtain ⟨bP, hm⟩ : ∃ x, x = isMat P := ⟨_, rfl⟩
          obtain ⟨A3, c3, rfl, hl3, hC3⟩ := Kd.S_reads hS
          have S6 := Aside0.mk (show Kd.S (Kd.slice 3 (Kd.int .i64)) 34 w9 w.heap.size (fun k => k ≠ g2) (.slice A3 P.length c3) P from Kd.S_lower (Kd.S_mono (Kd.S_bound hS) (fun k hk => by have h1 := hk.2.1; have h2 := blk_lt K2.out; omega)) B2.out.size)
          obtain ⟨u, hu2⟩ : ∃ x, x = (if bP = true then Value.slice A3 P.length c3 else .slice none 0 0) := ⟨_, rfl⟩
          have C6 := Aside0.mk (checked_any A3 c3 P w9 hC3 bP u hm.symm hu2.symm)
          have HU := Aside0.mk hu2
          have HM := Aside0.mk hm
          clear hu2 hm
          replace K2 := Aside0.mk (blk_below K2.out hb)
          replace B2 := Aside0.mk (below_step B2.out hb)
          clear hS hb hl3 hC3 K1 K4
          go_wp2_with fail
          refine C6.out.mono ?_
          rintro e w10 ⟨rfl, hb⟩
          replace K2 := Aside0.mk (blk_below K2.out hb)
          replace B2 := Aside0.mk (below_step B2.out hb)
          have S7 := Aside0.mk (Kd.S_below S6.out hb)
          have hz4 : w10.cell? ⟨g2, 0, none⟩ = some (.slice none 0 0) := (blk_cell K2.out 0).trans rfl
          have hf4 := blk_frozen K2.out 0
          clear hb C6 S6
          have hR := HR.out
          rw [← HM.out] at hR
          clear HM HR
          cases bP with
          | false =>
            obtain rfl := HU.out
            rw [if_neg (by simp)] at hR
            obtain ⟨rfl, rfl⟩ := Prod.mk.inj hR
            clear hR HU
            have Y := Aside0.mk (B2.out.setCell (p := ⟨g2, 0, none⟩) G2.out (.slice none 0 0))
            have HB0 := Aside0.mk (show (w10.setCell ⟨g2, 0, none⟩ (.slice none 0 0)).heap[g2]? = some (.cells #[.slice none 0 0] 26 (0, 0)) by simpa using blk_set K2.out 0 (.slice none 0 0))
            clear K2 B2 G2 S7
            go_wp2
            refine bodyPost_ret (results_ct rfl _ _ g2 26 #[.slice none 0 0] (0, 0) _ rfl HB0.out Try.underlying26 rfl (by kernel_rfl)) rfl ?_
            exact ⟨_, rfl, Kd.S_nil _ _ _ _ _, Y.out⟩
          | true =>
            obtain rfl := HU.out
            rw [if_pos rfl] at hR
            obtain ⟨rfl, rfl⟩ := Prod.mk.inj hR
            clear hR HU
            have Y := Aside0.mk (show Kd.S (Kd.slice 3 (Kd.int .i64)) 34 (w10.setCell ⟨g2, 0, none⟩ (.slice A3 P.length c3)) w.heap.size (fun _ => True) (.slice A3 P.length c3) P ∧ Below w.heap.size w (w10.setCell ⟨g2, 0, none⟩ (.slice A3 P.length c3)) from
              ⟨Kd.S_mono (Kd.S_far (p := ⟨g2, 0, none⟩) S7.out (fun k hk => hk) _) (fun _ _ => trivial), B2.out.setCell (p := ⟨g2, 0, none⟩) G2.out _⟩)
            have HB0 := Aside0.mk (show (w10.setCell ⟨g2, 0, none⟩ (.slice A3 P.length c3)).heap[g2]? = some (.cells #[.slice A3 P.length c3] 26 (0, 0)) by simpa using blk_set K2.out 0 (.slice A3 P.length c3))
            clear K2 B2 G2 S7
            generalize P.length = m at Y HB0 hz4 ⊢
            go_wp2
            refine bodyPost_ret (results_ct rfl _ _ g2 26 #[.slice A3 m c3] (0, 0) _ rfl HB0.out Try.underlying26 rfl (by kernel_rfl)) rfl ?_
            exact ⟨_, rfl, Y.out⟩
      · rw [if_neg hd] at hR
        have d1 : (d != 1) = true := bne_iff_ne.mpr (fun h => hd (.inl h))
        have d2 : (d != -1) = true := bne_iff_ne.mpr (fun h => hd (.inr h))
        clear hd
        obtain ⟨rfl, rfl⟩ := Prod.mk.inj hR
        have hz2 : w7.cell? ⟨g2, 0, none⟩ = some (.slice none 0 0) := (blk_cell K2.out 0).trans rfl
        have hf2 := blk_frozen K2.out 0
        have Y := Aside0.mk (B2.out.setCell (p := ⟨g2, 0, none⟩) G2.out (.slice none 0 0))
        have HB0 := Aside0.mk (show (w7.setCell ⟨g2, 0, none⟩ (.slice none 0 0)).heap[g2]? = some (.cells #[.slice none 0 0] 26 (0, 0)) by simpa using blk_set K2.out 0 (.slice none 0 0))
        clear hR HR K1 K2 B2 N2 G2 N4 G4 K4 CT HS HS1
        go_wp2
        refine bodyPost_ret (results_ct rfl _ _ g2 26 #[.slice none 0 0] (0, 0) _ rfl HB0.out Try.underlying26 rfl (by kernel_rfl)) rfl ?_
        exact ⟨_, rfl, Kd.S_nil _ _ _ _ _, Y.out⟩
end Go.Proofs.Ytldkkfpodldbgaa.G
