/- Matrices: unit, by hand. -/
import Derived.Test.YtbchhpplglllmaaGMade
namespace Go.Proofs.Ytbchhpplglllmaa.G
open Go.RowKit Go.Proofs.YtbchhpplglllmaaW.PrintWords Go.Proofs.YtbchhpplglllmaaW.PrintLast Go.Proofs.YtbchhpplglllmaaW.PrintMore
set_option linter.unusedVariables false
set_option linter.unusedSimpArgs false

set_option maxHeartbeats 4000000 in
/-- impl.made with the closure loop.example/g01122/impl.unit$1. -/
theorem madeUnit_any (n : Nat) (g : Nat → Nat → Int) (w : World) (hn : n ≤ 1000)
    (V : ∀ i j : Nat, i < n → j < n → ∀ W : World, Below w.heap.size w W → Calls Try.prog 87 #[.int .i64 i, .int .i64 j] W fun e W' => e = .returned (.int .i64 (g i j)) ∧ Below W.heap.size W W') :
    Calls Try.prog 80 #[.int .i64 n, .func (.func 87) #[] #[]] w fun e w' => ∃ v0 : Value, e = .returned (.agg #[v0]) ∧ Kd.S (Kd.slice 3 (Kd.int .i64)) 35 w' w.heap.size (fun _ => True) v0 (rowsOf g n n) ∧ Below w.heap.size w w' := by
  have hu := Try.underlying27
  have VV := Aside0.mk V
  have HN := Aside0.mk hn
  have X := Aside0.mk (show MInv w (w.heap.size + 2) (rowsOf g n 0) (.slice none 0 0) ((w.alloc (.cells #[.slice none 0 0] 27)).alloc (.cells #[.slice none 0 0] 27)) from
    ⟨by rw [Below.heap_alloc _ _ _ (by simp)]; exact heap_alloc_new w _, by simpa using heap_alloc_new (w.alloc (.cells #[.slice none 0 0] 27)) (.cells #[.slice none 0 0] 27),
      Kd.S_nil _ _ _ _ _, ((Below.refl w.heap.size w).alloc (Nat.le_refl _) _).alloc (by simp) _, Nat.le_refl _, by simp⟩)
  clear V hn
  go_enter Try.func80, Try.ntmps80
  go_wp2
  go_loopg [11] n (fun kq v11 w' => ∃ i : Nat, i + kq = n ∧ v11 = .int .i64 i ∧ Aside0 (∃ N0 u, MInv w N0 (rowsOf g n i) u w'))
  case atStart => exact ⟨0, by omega, rfl, ⟨_, _, X.out⟩⟩
  case round =>
    clear X
    obtain ⟨i, hi, rfl, ⟨N1, u, X1⟩⟩ := hrel
    cases gk with
    | zero =>
      have hd : decide (i < n) = false := decide_eq_false (by omega)
      have hin : i = n := by omega
      have X := Aside0.mk X1
      have hc : wr.cell? ⟨w.heap.size + 1, 0, none⟩ = some u := (blk_cell X1.b1 0).trans rfl
      have hf : wr.frozen? ⟨w.heap.size, 0, none⟩ = false := blk_frozen X1.b0 0
      have hc0 : wr.cell? ⟨w.heap.size, 0, none⟩ = some (.slice none 0 0) := (blk_cell X1.b0 0).trans rfl
      obtain ⟨A2, c2, rfl⟩ := Kd.S_slice X1.s
      have HB0 := Aside0.mk (show (wr.setCell ⟨w.heap.size, 0, none⟩ (.slice A2 (rowsOf g n i).length c2)).heap[w.heap.size]? = some (.cells #[.slice A2 (rowsOf g n i).length c2] 27 (0, 0)) by simpa using blk_set X1.b0 0 (.slice A2 (rowsOf g n i).length c2))
      have Y := Aside0.mk (show Kd.S (Kd.slice 3 (Kd.int .i64)) 35 (wr.setCell ⟨w.heap.size, 0, none⟩ (.slice A2 (rowsOf g n i).length c2)) w.heap.size (fun _ => True) (.slice A2 (rowsOf g n i).length c2) (rowsOf g n n) ∧
          Below w.heap.size w (wr.setCell ⟨w.heap.size, 0, none⟩ (.slice A2 (rowsOf g n i).length c2)) from by
        refine ⟨?_, X1.b.setCell (Nat.le_refl _) _⟩
        have h := Kd.S_far (p := ⟨w.heap.size, 0, none⟩) X1.s (fun k hk => hk.1.1) (.slice A2 (rowsOf g n i).length c2)
        rw [← hin] at h ⊢
        exact Kd.S_mono h (fun _ _ => trivial))
      clear X1 X
      generalize (rowsOf g n i).length = m at hc Y HB0
      go_wp2
      refine bodyPost_ret (results_cell_row rfl _ _ w.heap.size 27 #[.slice A2 m c2] (0, 0) _ rfl HB0.out Try.underlying27 rfl (by kernel_rfl)) rfl ?_
      exact ⟨_, rfl, Y.out⟩
    | succ k1 =>
      have hd : decide (i < n) = true := decide_eq_true (by omega)
      have hr0 := R_empty wr w.heap.size (fun k => wr.heap.size ≤ k) X1.b.size (Nat.le_refl _)
      have X := Aside0.mk (show MInv w wr.heap.size (rowsOf g n i) u (wr.alloc (.cells #[] 3)) ∧ Kd.R (Kd.int .i64) 3 (wr.alloc (.cells #[] 3)) w.heap.size (fun k => wr.heap.size ≤ k) (.slice (some ⟨wr.heap.size, 0, none⟩) 0 0) (rowOf g i 0) from
        ⟨X1.raise.below (below_alloc (Below.refl _ _) _), hr0⟩)
      have HI := Aside0.mk hi
      clear X1 hr0
      go_wp2
      generalize hN0 : wr.heap.size = N0 at X ⊢
      go_loopg [7, 16] n (fun kq v7 v16 w' => ∃ j : Nat, j + kq = n ∧ v16 = .int .i64 j ∧ Aside0 (MInv w N0 (rowsOf g n i) u w' ∧ Kd.R (Kd.int .i64) 3 w' w.heap.size (fun k => N0 ≤ k) v7 (rowOf g i j)))
      case atStart => exact ⟨0, by omega, rfl, X⟩
      case round =>
        clear X
        obtain ⟨j, hj, rfl, X⟩ := hrel
        cases gk with
        | zero =>
          have hd2 : decide (j < n) = false := decide_eq_false (by omega)
          have hjn : j = n := by omega
          subst hjn
          obtain ⟨X1, HR⟩ := X.out
          clear X
          obtain ⟨A3, c3, rfl⟩ := Kd.R_slice HR
          obtain ⟨A2, c2, rfl⟩ := Kd.S_slice X1.s
          have hub := (Kd.S_R X1.s).1
          have hne := HR.1
          have hbb := X1.n
          have hM := Aside0.mk (Kd.M_row (e := 3) (Kd.R_tight rfl HR))
          have hokp := Aside0.mk (show ∀ k, some k = (Value.slice A3 (rowOf g i j).length c3).ownBlock → (k ≠ w.heap.size ∧ k ≠ w.heap.size + 1) ∧ some k ≠ (Value.slice A2 (rowsOf g j i).length c2).ownBlock from
            fun k hk => by
              have h1 := hne k hk.symm
              refine ⟨⟨by omega, by omega⟩, fun he => ?_⟩
              have h2 := (hub k he.symm).2
              omega)
          have hSa := Aside0.mk (Kd.S_mono (ok' := fun k => (k ≠ w.heap.size ∧ k ≠ w.heap.size + 1) ∧ ¬ some k = (Value.slice A3 (rowOf g i j).length c3).ownBlock) X1.s (fun k hk => ⟨hk.1, fun he => by have := hne k he.symm; omega⟩))
          have hfr := Aside0.mk (show ∀ k, wr.heap.size ≤ k → k ≠ w.heap.size ∧ k ≠ w.heap.size + 1 from fun k hk => by have := X1.h; omega)
          have hl := Aside0.mk (show ((rowsOf g j i).length + 1) * 24 ≤ 140737488355328 by rw [rowsOf_length]; have := HN.out; omega)
          have hc : wr.cell? ⟨w.heap.size + 1, 0, none⟩ = some (.slice A2 (rowsOf g j i).length c2) := (blk_cell X1.b1 0).trans rfl
          have hf : wr.frozen? ⟨w.heap.size + 1, 0, none⟩ = false := blk_frozen X1.b1 0
          have X := Aside0.mk X1
          have hHB := Aside0.mk X1.b
          clear X1 HR hub hne hbb
          go_wp2_with (at_builtin; refine Kd.S_append (Kd.slice 3 (Kd.int .i64)) (w0 := w) w.heap.size rfl _ _ 22 35 (.slice none 0 0) 24 rfl Try.underlying22 rinfo rfl (by decide) (by decide) (.slice A2 (rowsOf g j i).length c2) (rowsOf g j i) (rowOf g i j) [.slice A3 (rowOf g i j).length c3] (fun k => k ≠ w.heap.size ∧ k ≠ w.heap.size + 1) (fun k => some k = (Value.slice A3 (rowOf g i j).length c3).ownBlock) rfl rfl hM.out hokp.out hfr.out hSa.out hHB.out hHB.out.size hl.out ?_)
          intro v1 w1 hS1 hb1 hg1 hat1
          have h1 : w1.heap[w.heap.size + 1]? = some (.cells #[.slice A2 (rowsOf g j i).length c2] 27 (0, 0)) := blk_grown X.out.b1 hg1 (fun he => by have := ((Kd.S_R X.out.s).1 _ he.symm).1.2; omega)
          have h0 : w1.heap[w.heap.size]? = some (.cells #[.slice none 0 0] 27 (0, 0)) := blk_grown X.out.b0 hg1 (fun he => by have := ((Kd.S_R X.out.s).1 _ he.symm).1.1; omega)
          have hc1 : w1.cell? ⟨w.heap.size + 1, 0, none⟩ = some (.slice A2 (rowsOf g j i).length c2) := (blk_cell h1 0).trans rfl
          have hf1 : w1.frozen? ⟨w.heap.size + 1, 0, none⟩ = false := blk_frozen h1 0
          have hnn : w.heap.size + 2 ≤ w1.heap.size := Nat.le_trans X.out.n (Nat.le_trans X.out.h hg1.size)
          have Z := Aside0.mk (show ∃ N0 u, MInv w N0 (rowsOf g j (i + 1)) u (w1.setCell ⟨w.heap.size + 1, 0, none⟩ v1) from by
            refine ⟨w1.heap.size, v1, ?_, by simpa using blk_set h1 0 v1, ?_, hb1.setCell (by simp) _, hnn, by simp⟩
            · rw [Below.heap_setCell _ _ _ _ (by simp)]
              exact h0
            · rw [rowsOf_succ]
              refine Kd.S_mono (Kd.S_far (p := ⟨w.heap.size + 1, 0, none⟩) (Kd.S_bound hS1) (fun k hk => hk.1.2) v1) (fun k hk => ⟨hk.1, hk.2.2.1⟩))
          obtain ⟨A4, c4, hv1⟩ := Kd.S_slice hS1
          generalize (rowsOf g j i ++ [rowOf g i j]).length = m at hv1
          subst hv1
          clear hS1 hb1 hg1 hat1 h1 h0 hc hf X hnn
          go_wp2
          go_roundg k1
          case rel => exact ⟨i + 1, by omega, w_succ i (by have := HN.out; omega), Z⟩
          case measure => omega
        | succ k2 =>
          have hd2 : decide (j < n) = true := decide_eq_true (by omega)
          have C := Aside0.mk (VV.out i j (by omega) (by omega) wr X.out.1.b)
          go_wp2_with fail
          refine C.out.mono ?_
          rintro e w2 ⟨rfl, hb⟩
          have X2 := Aside0.mk (show MInv w N0 (rowsOf g n i) u w2 ∧ Kd.R (Kd.int .i64) 3 w2 w.heap.size (fun k => N0 ≤ k) u7 (rowOf g i j) from ⟨X.out.1.below hb, Kd.R_below X.out.2 hb⟩)
          have HJ := Aside0.mk (show ((rowOf g i j).length + 1) * 8 ≤ 140737488355328 by rw [rowOf_length]; have := HN.out; omega)
          clear X C hb
          go_wp2_with (at_builtin; refine Kd.R_append (Kd.int .i64) (w0 := w) w.heap.size rfl _ _ 35 3 (.int .i64 0) 8 rfl Try.underlying35 iinfo rfl (by decide) (by decide) u7 (rowOf g i j) (g i j) [.int .i64 (g i j)] (fun k => N0 ≤ k) (fun _ => False) rfl rfl rfl (fun _ hk => hk.elim) (fun k hk => Nat.le_trans X2.out.1.h hk) X2.out.2 X2.out.1.b X2.out.1.b.size HJ.out ?_)
          intro v1 w1 hR1 hb1 hg1 hat1
          have Z := Aside0.mk (show MInv w N0 (rowsOf g n i) u w1 ∧ Kd.R (Kd.int .i64) 3 w1 w.heap.size (fun k => N0 ≤ k) v1 (rowOf g i (j + 1)) from
            ⟨X2.out.1.grown hg1 hb1 (fun k hk => X2.out.2.1 k hk), by rw [rowOf_succ]; exact hR1⟩)
          clear X2 hR1 hb1 hg1 hat1
          go_wp2
          go_roundg k2
          case rel => exact ⟨j + 1, by omega, w_succ j (by have := HN.out; omega), Z⟩
          case measure => omega

theorem unit1_any (i j : Nat) (w : World) :
    Calls Try.prog 87 #[.int .i64 i, .int .i64 j] w fun e w' => e = .returned (.int .i64 (if i = j then 1 else 0)) ∧ Below w.heap.size w w' := by
  by_cases h : i = j
  · subst h
    have d : ((i : Int) == (i : Int)) = true := beq_self_eq_true _
    rw [if_pos rfl]
    go_enter Try.func87, Try.ntmps87
    go_wp2
    go_ret
    exact ⟨rfl, Below.refl _ _⟩
  · have d : ((i : Int) == (j : Int)) = false := beq_eq_false_iff_ne.mpr (by omega)
    rw [if_neg h]
    clear h
    go_enter Try.func87, Try.ntmps87
    go_wp2
    go_ret
    exact ⟨rfl, Below.refl _ _⟩
def unitL (n : Nat) : List (List Int) := rowsOf (fun i j => if i = j then 1 else 0) n n
theorem unit_any (n : Nat) (w : World) (hn : n ≤ 1000) :
    Calls Try.prog 65 #[.int .i64 n] w fun e w' => ∃ v0 : Value, e = .returned (.agg #[v0]) ∧ Kd.S (Kd.slice 3 (Kd.int .i64)) 35 w' w.heap.size (fun _ => True) v0 (unitL n) ∧ Below w.heap.size w w' := by
  have hu := Try.underlying27
  have CC := Aside0.mk (fun W => show Calls Try.prog 80 #[.int .i64 n, .func (.func 87) #[] #[]] W fun e w' => ∃ v0 : Value, e = .returned (.agg #[v0]) ∧ Kd.S (Kd.slice 3 (Kd.int .i64)) 35 w' W.heap.size (fun _ => True) v0 (unitL n) ∧ Below W.heap.size W w' from
    madeUnit_any n (fun i j => if i = j then 1 else 0) W hn (fun i j _ _ W1 _ => unit1_any i j W1))
  clear hn
  go_enter Try.func65, Try.ntmps65
  go_wp2_with fail
  have DD := CC.out (w.alloc (.cells #[.slice none 0 0] 27))
  clear CC
  refine DD.mono ?_
  rintro e w2 ⟨v0, rfl, hS, hb2⟩
  have H2 := blk_below (heap_alloc_new w (.cells #[.slice none 0 0] 27)) hb2
  have hc2 : w2.cell? ⟨w.heap.size, 0, none⟩ = some (.slice none 0 0) := (blk_cell H2 0).trans rfl
  have hf2 : w2.frozen? ⟨w.heap.size, 0, none⟩ = false := blk_frozen H2 0
  obtain ⟨A2, c2, rfl⟩ := Kd.S_slice hS
  have HB0 := Aside0.mk (show (w2.setCell ⟨w.heap.size, 0, none⟩ (.slice A2 (unitL n).length c2)).heap[w.heap.size]? = some (.cells #[.slice A2 (unitL n).length c2] 27 (0, 0)) by simpa using blk_set H2 0 (.slice A2 (unitL n).length c2))
  have Y := Aside0.mk (show Kd.S (Kd.slice 3 (Kd.int .i64)) 35 (w2.setCell ⟨w.heap.size, 0, none⟩ (.slice A2 (unitL n).length c2)) w.heap.size (fun _ => True) (.slice A2 (unitL n).length c2) (unitL n) ∧
      Below w.heap.size w (w2.setCell ⟨w.heap.size, 0, none⟩ (.slice A2 (unitL n).length c2)) from
    ⟨Kd.S_mono (Kd.S_far (p := ⟨w.heap.size, 0, none⟩) (Kd.S_lower (Kd.S_bound hS) (by simp)) (fun k hk => by have := hk.2.1; simp at this; show k ≠ w.heap.size; omega) _) (fun _ _ => trivial),
      (below_step (below_alloc (Below.refl _ _) _) hb2).setCell (Nat.le_refl _) _⟩)
  clear hS hb2 H2 DD
  generalize (unitL n).length = m at HB0 Y
  go_wp2
  refine bodyPost_ret (results_cell_row rfl _ _ w.heap.size 27 #[.slice A2 m c2] (0, 0) _ rfl HB0.out Try.underlying27 rfl (by kernel_rfl)) rfl ?_
  exact ⟨_, rfl, Y.out⟩
end Go.Proofs.Ytbchhpplglllmaa.G
