/- Matrices: times, by hand. -/
import Derived.Test.YtbchhpplglllmaaGMade
namespace Go.Proofs.Ytbchhpplglllmaa.G
open Go.RowKit Go.Proofs.YtbchhpplglllmaaW.PrintWords Go.Proofs.YtbchhpplglllmaaW.PrintLast Go.Proofs.YtbchhpplglllmaaW.PrintMore
set_option linter.unusedVariables false
set_option linter.unusedSimpArgs false

set_option maxHeartbeats 4000000 in
/-- impl.made with the closure (loop.example/g01122/impl.Matrix).times$1. -/
theorem madeTimes_any (p0 p1 : Value) (n : Nat) (g : Nat → Nat → Int) (w : World) (hn : n ≤ 1000)
    (V : ∀ i j : Nat, i < n → j < n → ∀ W : World, Below w.heap.size w W → Calls Try.prog 88 #[.int .i64 i, .int .i64 j, p0, p1] W fun e W' => e = .returned (.int .i64 (g i j)) ∧ Below W.heap.size W W') :
    Calls Try.prog 80 #[.int .i64 n, .func (.func 88) #[] #[p0, p1]] w fun e w' => ∃ v0 : Value, e = .returned (.agg #[v0]) ∧ Kd.S (Kd.slice 3 (Kd.int .i64)) 35 w' w.heap.size (fun _ => True) v0 (rowsOf g n n) ∧ Below w.heap.size w w' := by
  have hu := Try.underlying27
  have VV := Aside0.mk V
  have HN := Aside0.mk hn
  have X := Aside0.mk (show MInv w (w.heap.size + 2) (rowsOf g n 0) (.slice none 0 0) ((w.alloc (.cells #[.slice none 0 0] 27)).alloc (.cells #[.slice none 0 0] 27)) from
    ⟨by rw [Below.heap_alloc _ _ _ (by simp)]; exact heap_alloc_new w _, by simpa using heap_alloc_new (w.alloc (.cells #[.slice none 0 0] 27)) (.cells #[.slice none 0 0] 27),
      Kd.S_nil _ _ _ _ _, ((Below.refl w.heap.size w).alloc (Nat.le_refl _) _).alloc (by simp) _, Nat.le_refl _, by simp⟩)
  clear V hn
  go_enter Try.func80, Try.ntmps80
  go_wp2
  go_loopg [11] n (fun kq v11 w' => ∃ i : Nat, i + kq = n ∧ v11 = .int .i64 i ∧ Aside0 (∃ N0 u, MInv w N0 (rowsOf g n i) u w'))
  case atStart => exact ⟨0, by omega, rfl, ⟨_, _, X.out⟩⟩
  case round =>
    clear X
    obtain ⟨i, hi, rfl, ⟨N1, u, X1⟩⟩ := hrel
    cases gk with
    | zero =>
      have hd : decide (i < n) = false := decide_eq_false (by omega)
      have hin : i = n := by omega
      have X := Aside0.mk X1
      have hc : wr.cell? ⟨w.heap.size + 1, 0, none⟩ = some u := (blk_cell X1.b1 0).trans rfl
      have hf : wr.frozen? ⟨w.heap.size, 0, none⟩ = false := blk_frozen X1.b0 0
      have hc0 : wr.cell? ⟨w.heap.size, 0, none⟩ = some (.slice none 0 0) := (blk_cell X1.b0 0).trans rfl
      obtain ⟨A2, c2, rfl⟩ := Kd.S_slice X1.s
      have HB0 := Aside0.mk (show (wr.setCell ⟨w.heap.size, 0, none⟩ (.slice A2 (rowsOf g n i).length c2)).heap[w.heap.size]? = some (.cells #[.slice A2 (rowsOf g n i).length c2] 27 (0, 0)) by simpa using blk_set X1.b0 0 (.slice A2 (rowsOf g n i).length c2))
      have Y := Aside0.mk (show Kd.S (Kd.slice 3 (Kd.int .i64)) 35 (wr.setCell ⟨w.heap.size, 0, none⟩ (.slice A2 (rowsOf g n i).length c2)) w.heap.size (fun _ => True) (.slice A2 (rowsOf g n i).length c2) (rowsOf g n n) ∧
          Below w.heap.size w (wr.setCell ⟨w.heap.size, 0, none⟩ (.slice A2 (rowsOf g n i).length c2)) from by
        refine ⟨?_, X1.b.setCell (Nat.le_refl _) _⟩
        have h := Kd.S_far (p := ⟨w.heap.size, 0, none⟩) X1.s (fun k hk => hk.1.1) (.slice A2 (rowsOf g n i).length c2)
        rw [← hin] at h ⊢
        exact Kd.S_mono h (fun _ _ => trivial))
      clear X1 X
      generalize (rowsOf g n i).length = m at hc Y HB0
      go_wp2
      refine bodyPost_ret (results_cell_row rfl _ _ w.heap.size 27 #[.slice A2 m c2] (0, 0) _ rfl HB0.out Try.underlying27 rfl (by kernel_rfl)) rfl ?_
      exact ⟨_, rfl, Y.out⟩
    | succ k1 =>
      have hd : decide (i < n) = true := decide_eq_true (by omega)
      have hr0 := R_empty wr w.heap.size (fun k => wr.heap.size ≤ k) X1.b.size (Nat.le_refl _)
      have X := Aside0.mk (show MInv w wr.heap.size (rowsOf g n i) u (wr.alloc (.cells #[] 3)) ∧ Kd.R (Kd.int .i64) 3 (wr.alloc (.cells #[] 3)) w.heap.size (fun k => wr.heap.size ≤ k) (.slice (some ⟨wr.heap.size, 0, none⟩) 0 0) (rowOf g i 0) from
        ⟨X1.raise.below (below_alloc (Below.refl _ _) _), hr0⟩)
      have HI := Aside0.mk hi
      clear X1 hr0
      go_wp2
      generalize hN0 : wr.heap.size = N0 at X ⊢
      go_loopg [7, 16] n (fun kq v7 v16 w' => ∃ j : Nat, j + kq = n ∧ v16 = .int .i64 j ∧ Aside0 (MInv w N0 (rowsOf g n i) u w' ∧ Kd.R (Kd.int .i64) 3 w' w.heap.size (fun k => N0 ≤ k) v7 (rowOf g i j)))
      case atStart => exact ⟨0, by omega, rfl, X⟩
      case round =>
        clear X
        obtain ⟨j, hj, rfl, X⟩ := hrel
        cases gk with
        | zero =>
          have hd2 : decide (j < n) = false := decide_eq_false (by omega)
          have hjn : j = n := by omega
          subst hjn
          obtain ⟨X1, HR⟩ := X.out
          clear X
          obtain ⟨A3, c3, rfl⟩ := Kd.R_slice HR
          obtain ⟨A2, c2, rfl⟩ := Kd.S_slice X1.s
          have hub := (Kd.S_R X1.s).1
          have hne := HR.1
          have hbb := X1.n
          have hM := Aside0.mk (Kd.M_row (e := 3) (Kd.R_tight rfl HR))
          have hokp := Aside0.mk (show ∀ k, some k = (Value.slice A3 (rowOf g i j).length c3).ownBlock → (k ≠ w.heap.size ∧ k ≠ w.heap.size + 1) ∧ some k ≠ (Value.slice A2 (rowsOf g j i).length c2).ownBlock from
            fun k hk => by
              have h1 := hne k hk.symm
              refine ⟨⟨by omega, by omega⟩, fun he => ?_⟩
              have h2 := (hub k he.symm).2
              omega)
          have hSa := Aside0.mk (Kd.S_mono (ok' := fun k => (k ≠ w.heap.size ∧ k ≠ w.heap.size + 1) ∧ ¬ some k = (Value.slice A3 (rowOf g i j).length c3).ownBlock) X1.s (fun k hk => ⟨hk.1, fun he => by have := hne k he.symm; omega⟩))
          have hfr := Aside0.mk (show ∀ k, wr.heap.size ≤ k → k ≠ w.heap.size ∧ k ≠ w.heap.size + 1 from fun k hk => by have := X1.h; omega)
          have hl := Aside0.mk (show ((rowsOf g j i).length + 1) * 24 ≤ 140737488355328 by rw [rowsOf_length]; have := HN.out; omega)
          have hc : wr.cell? ⟨w.heap.size + 1, 0, none⟩ = some (.slice A2 (rowsOf g j i).length c2) := (blk_cell X1.b1 0).trans rfl
          have hf : wr.frozen? ⟨w.heap.size + 1, 0, none⟩ = false := blk_frozen X1.b1 0
          have X := Aside0.mk X1
          have hHB := Aside0.mk X1.b
          clear X1 HR hub hne hbb
          go_wp2_with (at_builtin; refine Kd.S_append (Kd.slice 3 (Kd.int .i64)) (w0 := w) w.heap.size rfl _ _ 22 35 (.slice none 0 0) 24 rfl Try.underlying22 rinfo rfl (by decide) (by decide) (.slice A2 (rowsOf g j i).length c2) (rowsOf g j i) (rowOf g i j) [.slice A3 (rowOf g i j).length c3] (fun k => k ≠ w.heap.size ∧ k ≠ w.heap.size + 1) (fun k => some k = (Value.slice A3 (rowOf g i j).length c3).ownBlock) rfl rfl hM.out hokp.out hfr.out hSa.out hHB.out hHB.out.size hl.out ?_)
          intro v1 w1 hS1 hb1 hg1 hat1
          have h1 : w1.heap[w.heap.size + 1]? = some (.cells #[.slice A2 (rowsOf g j i).length c2] 27 (0, 0)) := blk_grown X.out.b1 hg1 (fun he => by have := ((Kd.S_R X.out.s).1 _ he.symm).1.2; omega)
          have h0 : w1.heap[w.heap.size]? = some (.cells #[.slice none 0 0] 27 (0, 0)) := blk_grown X.out.b0 hg1 (fun he => by have := ((Kd.S_R X.out.s).1 _ he.symm).1.1; omega)
          have hc1 : w1.cell? ⟨w.heap.size + 1, 0, none⟩ = some (.slice A2 (rowsOf g j i).length c2) := (blk_cell h1 0).trans rfl
          have hf1 : w1.frozen? ⟨w.heap.size + 1, 0, none⟩ = false := blk_frozen h1 0
          have hnn : w.heap.size + 2 ≤ w1.heap.size := Nat.le_trans X.out.n (Nat.le_trans X.out.h hg1.size)
          have Z := Aside0.mk (show ∃ N0 u, MInv w N0 (rowsOf g j (i + 1)) u (w1.setCell ⟨w.heap.size + 1, 0, none⟩ v1) from by
            refine ⟨w1.heap.size, v1, ?_, by simpa using blk_set h1 0 v1, ?_, hb1.setCell (by simp) _, hnn, by simp⟩
            · rw [Below.heap_setCell _ _ _ _ (by simp)]
              exact h0
            · rw [rowsOf_succ]
              refine Kd.S_mono (Kd.S_far (p := ⟨w.heap.size + 1, 0, none⟩) (Kd.S_bound hS1) (fun k hk => hk.1.2) v1) (fun k hk => ⟨hk.1, hk.2.2.1⟩))
          obtain ⟨A4, c4, hv1⟩ := Kd.S_slice hS1
          generalize (rowsOf g j i ++ [rowOf g i j]).length = m at hv1
          subst hv1
          clear hS1 hb1 hg1 hat1 h1 h0 hc hf X hnn
          go_wp2
          go_roundg k1
          case rel => exact ⟨i + 1, by omega, w_succ i (by have := HN.out; omega), Z⟩
          case measure => omega
        | succ k2 =>
          have hd2 : decide (j < n) = true := decide_eq_true (by omega)
          have C := Aside0.mk (VV.out i j (by omega) (by omega) wr X.out.1.b)
          go_wp2_with fail
          refine C.out.mono ?_
          rintro e w2 ⟨rfl, hb⟩
          have X2 := Aside0.mk (show MInv w N0 (rowsOf g n i) u w2 ∧ Kd.R (Kd.int .i64) 3 w2 w.heap.size (fun k => N0 ≤ k) u7 (rowOf g i j) from ⟨X.out.1.below hb, Kd.R_below X.out.2 hb⟩)
          have HJ := Aside0.mk (show ((rowOf g i j).length + 1) * 8 ≤ 140737488355328 by rw [rowOf_length]; have := HN.out; omega)
          clear X C hb
          go_wp2_with (at_builtin; refine Kd.R_append (Kd.int .i64) (w0 := w) w.heap.size rfl _ _ 35 3 (.int .i64 0) 8 rfl Try.underlying35 iinfo rfl (by decide) (by decide) u7 (rowOf g i j) (g i j) [.int .i64 (g i j)] (fun k => N0 ≤ k) (fun _ => False) rfl rfl rfl (fun _ hk => hk.elim) (fun k hk => Nat.le_trans X2.out.1.h hk) X2.out.2 X2.out.1.b X2.out.1.b.size HJ.out ?_)
          intro v1 w1 hR1 hb1 hg1 hat1
          have Z := Aside0.mk (show MInv w N0 (rowsOf g n i) u w1 ∧ Kd.R (Kd.int .i64) 3 w1 w.heap.size (fun k => N0 ≤ k) v1 (rowOf g i (j + 1)) from
            ⟨X2.out.1.grown hg1 hb1 (fun k hk => X2.out.2.1 k hk), by rw [rowOf_succ]; exact hR1⟩)
          clear X2 hR1 hb1 hg1 hat1
          go_wp2
          go_roundg k2
          case rel => exact ⟨j + 1, by omega, w_succ j (by have := HN.out; omega), Z⟩
          case measure => omega

/-- The sum of the first k products of a row and a column. -/
def dotK (L M : List (List Int)) (i j : Nat) : Nat → Int
  | 0 => 0
  | k + 1 => wrap64 (dotK L M i j k + wrap64 (at2 L i k * at2 M k j))
set_option maxHeartbeats 1000000 in
theorem times1_any (B : Nat) (A : Option Addr) (c : Nat) (L : List (List Int)) (A' : Option Addr) (c' : Nat) (M : List (List Int)) (i j : Nat) (w : World) (hr : Kd.C (Kd.slice 3 (Kd.int .i64)) w A L.length L) (hr' : Kd.C (Kd.slice 3 (Kd.int .i64)) w A' M.length M)
    (hb : w.cell? ⟨B, 0, none⟩ = some (.slice A L.length c)) (hb' : w.cell? ⟨B + 1, 0, none⟩ = some (.slice A' M.length c')) (hs : isSq L = true) (hs' : isSq M = true) (hLM : L.length = M.length) (hi : i < L.length) (hj : j < L.length) :
    Calls Try.prog 88 #[.int .i64 i, .int .i64 j, .pointer (some ⟨B, 0, none⟩), .pointer (some ⟨B + 1, 0, none⟩)] w fun e w' => e = .returned (.int .i64 (dotK L M i j L.length)) ∧ Below w.heap.size w w' := by
  have hu := Try.underlying27
  have HS := fun W => size_any A L.length c W
  have HR := Aside0.mk hr
  have HR' := Aside0.mk hr'
  have HB := Aside0.mk hb
  have HB' := Aside0.mk hb'
  have HS1 := Aside0.mk hs
  have HS2 := Aside0.mk hs'
  have HLM := Aside0.mk hLM
  have HI := Aside0.mk hi
  have HJ := Aside0.mk hj
  have HN := Aside0.mk (isSq_le hs)
  have di : decide (i < L.length) = true := decide_eq_true hi
  clear hr hr' hb' hs hs' hLM hi hj
  go_enter Try.func88, Try.ntmps88
  go_wp2_with fail
  refine (HS _).mono ?_
  rintro e w1 ⟨rfl, hw1⟩
  have B1 := Aside0.mk (show Below w.heap.size w w1 by rw [hw1]; exact below_alloc (Below.refl _ _) _)
  clear hw1 hb
  go_wp2
  go_loopg [7, 11] L.length (fun kq v7 v11 w' => ∃ k : Nat, k + kq = L.length ∧ v7 = .int .i64 (dotK L M i j k) ∧ v11 = .int .i64 k ∧ Aside0 (Below w.heap.size w w'))
  case atStart => exact ⟨0, by omega, rfl, rfl, B1⟩
  case round =>
    clear B1
    obtain ⟨k, hk, rfl, rfl, BW⟩ := hrel
    cases gk with
    | zero =>
      have hd : decide (k < L.length) = false := decide_eq_false (by omega)
      have hkn : k = L.length := by omega
      rw [hkn]
      go_wp2
      go_ret
      exact ⟨rfl, BW.out⟩
    | succ q =>
      have hkl : k < L.length := by omega
      have hd : decide (k < L.length) = true := decide_eq_true hkl
      have hm : wr.cell? ⟨B, 0, none⟩ = some (.slice A L.length c) := pw_cell_below BW.out HB.out
      have hm' : wr.cell? ⟨B + 1, 0, none⟩ = some (.slice A' M.length c') := pw_cell_below BW.out HB'.out
      have hik : k < (L[i]'HI.out).length := by rw [isSq_at HS1.out HI.out]; exact hkl
      have hkM : k < M.length := by rw [← HLM.out]; exact hkl
      have hkj : j < (M[k]'hkM).length := by rw [isSq_at HS2.out hkM, ← HLM.out]; exact HJ.out
      obtain ⟨ad, A1, c1, hA, hx, hl, hC⟩ := row_at (Kd.C_below HR.out BW.out) i HI.out
      obtain ⟨ad1, hA1, hy⟩ := num_at hC k hik
      obtain ⟨ad', A1', c1', hA', hx', hl', hC'⟩ := row_at (Kd.C_below HR'.out BW.out) k hkM
      obtain ⟨ad1', hA1', hy'⟩ := num_at hC' j hkj
      have e1 := at2_eq HI.out hik
      have e2 := at2_eq hkM hkj
      rw [← e1] at hy
      rw [← e2] at hy'
      have hstep : dotK L M i j (k + 1) = wrap64 (dotK L M i j k + wrap64 (at2 L i k * at2 M k j)) := rfl
      have HSt := Aside0.mk hstep
      have d2 : decide (k < (L[i]'HI.out).length) = true := decide_eq_true hik
      have d3 : decide (k < M.length) = true := decide_eq_true hkM
      have d4 : decide (j < (M[k]'hkM).length) = true := decide_eq_true hkj
      clear hC hC' hl hl' hstep e1 e2
      generalize at2 L i k = x at hy HSt
      generalize at2 M k j = y at hy' HSt
      generalize dotK L M i j k = s at HSt ⊢
      subst hA hA1 hA' hA1'
      have hil := HI.out
      go_wp2
      repeat (go_quiet (fail); try go_wp2)
      have BX := Aside0.mk (pw_below_drewN BW.out)
      go_roundg q
      case rel => exact ⟨k + 1, by omega, by rw [HSt.out], w_succ k (by have := HN.out; omega), by first | exact ⟨BX.out _⟩ | exact BW⟩
      case measure => omega
/-- The product of two matrices. -/
def prodL (L M : List (List Int)) : List (List Int) := rowsOf (fun i j => dotK L M i j L.length) L.length L.length
theorem times_any (A : Option Addr) (c : Nat) (L : List (List Int)) (A' : Option Addr) (c' : Nat) (M : List (List Int)) (w : World) (hr : Kd.C (Kd.slice 3 (Kd.int .i64)) w A L.length L) (hr' : Kd.C (Kd.slice 3 (Kd.int .i64)) w A' M.length M) (hs : isSq L = true) (hs' : isSq M = true) (hLM : L.length = M.length) :
    Calls Try.prog 66 #[.agg #[.slice A L.length c], .agg #[.slice A' M.length c']] w fun e w' => ∃ v0 : Value, e = .returned (.agg #[v0]) ∧ Kd.S (Kd.slice 3 (Kd.int .i64)) 35 w' w.heap.size (fun _ => True) v0 (prodL L M) ∧ Below w.heap.size w w' := by
  have hmf : ∀ (fn : Fn) (first cap : Array Value) (w : World), (Instr.makeFunc fn first cap).run Try.prog w = .ok (.func fn first cap) w := fun _ _ _ _ => rfl
  have hu := Try.underlying27
  have HS := fun W => size_any A L.length c W
  have CC := Aside0.mk (fun (W : World) (hB : Below w.heap.size w W) (hb : W.cell? ⟨w.heap.size, 0, none⟩ = some (.slice A L.length c)) (hb' : W.cell? ⟨w.heap.size + 1, 0, none⟩ = some (.slice A' M.length c')) =>
    madeTimes_any (.pointer (some ⟨w.heap.size, 0, none⟩)) (.pointer (some ⟨w.heap.size + 1, 0, none⟩)) L.length (fun i j => dotK L M i j L.length) W (isSq_le hs)
      (fun i j hi hj W1 hB1 => times1_any w.heap.size A c L A' c' M i j W1 (Kd.C_below hr (below_step hB hB1)) (Kd.C_below hr' (below_step hB hB1)) (pw_cell_below hB1 hb) (pw_cell_below hB1 hb') hs hs' hLM hi hj))
  clear hr hr' hs hs' hLM
  go_enter Try.func66, Try.ntmps66
  go_wp2_with fail
  refine (HS _).mono ?_
  rintro e w1 ⟨rfl, hw1⟩
  have B1 := Aside0.mk (show Below w.heap.size w w1 by rw [hw1]; exact below_alloc (below_alloc (below_alloc (below_alloc (Below.refl _ _) _) _) _) _)
  have M0 : (w.alloc (.cells #[.slice A L.length c] 27)).cell? ⟨w.heap.size, 0, none⟩ = some (.slice A L.length c) := by rw [World.cell?_alloc_at _ _ _ _ rfl]; rfl
  have M1 : w1.cell? ⟨w.heap.size, 0, none⟩ = some (.slice A L.length c) := by rw [hw1]; exact pw_cell_below (below_alloc (below_alloc (below_alloc (Below.refl _ _) _) _) _) M0
  have N0 : ((w.alloc (.cells #[.slice A L.length c] 27)).alloc (.cells #[.slice A' M.length c'] 27)).cell? ⟨w.heap.size + 1, 0, none⟩ = some (.slice A' M.length c') := by rw [World.cell?_alloc_at _ _ _ _ (by simp)]; rfl
  have N1 : w1.cell? ⟨w.heap.size + 1, 0, none⟩ = some (.slice A' M.length c') := by rw [hw1]; exact pw_cell_below (below_alloc (below_alloc (Below.refl _ _) _) _) N0
  have H1 := Aside0.mk (show w1.heap[w.heap.size + 2]? = some (.cells #[.slice none 0 0] 27 (0, 0)) by
    rw [hw1, Below.heap_alloc _ _ _ (by simp)]
    simpa using heap_alloc_new ((w.alloc (.cells #[.slice A L.length c] 27)).alloc (.cells #[.slice A' M.length c'] 27)) (.cells #[.slice none 0 0] 27))
  clear hw1 M0 N0
  have DD := CC.out w1 B1.out M1 N1
  rw [show rowsOf (fun i j => dotK L M i j L.length) L.length L.length = prodL L M from rfl] at DD
  clear CC
  go_wp2_with fail
  refine DD.mono ?_
  rintro e w2 ⟨v0, rfl, hS, hb2⟩
  have H2 := blk_below H1.out hb2
  have hc2 : w2.cell? ⟨w.heap.size + 2, 0, none⟩ = some (.slice none 0 0) := (blk_cell H2 0).trans rfl
  have hf2 : w2.frozen? ⟨w.heap.size + 2, 0, none⟩ = false := blk_frozen H2 0
  have hlt := blk_lt H1.out
  obtain ⟨A2, c2, rfl⟩ := Kd.S_slice hS
  have HB0 := Aside0.mk (show (w2.setCell ⟨w.heap.size + 2, 0, none⟩ (.slice A2 (prodL L M).length c2)).heap[w.heap.size + 2]? = some (.cells #[.slice A2 (prodL L M).length c2] 27 (0, 0)) by simpa using blk_set H2 0 (.slice A2 (prodL L M).length c2))
  have Y := Aside0.mk (show Kd.S (Kd.slice 3 (Kd.int .i64)) 35 (w2.setCell ⟨w.heap.size + 2, 0, none⟩ (.slice A2 (prodL L M).length c2)) w.heap.size (fun _ => True) (.slice A2 (prodL L M).length c2) (prodL L M) ∧
      Below w.heap.size w (w2.setCell ⟨w.heap.size + 2, 0, none⟩ (.slice A2 (prodL L M).length c2)) from
    ⟨Kd.S_mono (Kd.S_far (p := ⟨w.heap.size + 2, 0, none⟩) (Kd.S_lower (Kd.S_bound hS) B1.out.size) (fun k hk => by have := hk.2.1; show k ≠ w.heap.size + 2; omega) _) (fun _ _ => trivial),
      (below_step B1.out hb2).setCell (by simp) _⟩)
  clear hS hb2 H2 H1 DD B1 M1 N1
  generalize (prodL L M).length = m at HB0 Y
  go_wp2
  refine bodyPost_ret (results_cell_row rfl _ _ (w.heap.size + 2) 27 #[.slice A2 m c2] (0, 0) _ rfl HB0.out Try.underlying27 rfl (by kernel_rfl)) rfl ?_
  exact ⟨_, rfl, Y.out⟩
end Go.Proofs.Ytbchhpplglllmaa.G
