/- Several parts in one text: impl.made, by hand, with a closure that writes one block beside. impl.checked by hand. impl.ReflectionOf by hand: its closure, and the function. -/
import Derived.Test.YtldkkfpodldbgaaGA
import Derived.Test.YtldkkfpodldbgaaWKept
import Derived.Test.YtldkkfpodldbgaaWMore
import Derived.Test.YtldkkfpodldbgaaQRA
namespace Go.Proofs.Ytldkkfpodldbgaa.G
open Go.RowKit Go.Proofs.YtldkkfpodldbgaaW.PrintWords Go.Proofs.YtldkkfpodldbgaaW.PrintLast Go.Proofs.YtldkkfpodldbgaaW.PrintMore
set_option linter.unusedVariables false
set_option linter.unusedSimpArgs false
/-- As MInv, while one block beside is written. -/
structure MInv2 (w0 : World) (B gb : Nat) (ob : Obj) (w : World) (N0 : Nat) (rows : List (List Int)) (u : Value) (W : World) : Prop where
  b0 : W.heap[w.heap.size]? = some (.cells #[.slice none 0 0] 26 (0, 0))
  b1 : W.heap[w.heap.size + 1]? = some (.cells #[u] 26 (0, 0))
  s : Kd.S (Kd.slice 3 (Kd.int .i64)) 34 W B (fun k => (k ≠ w.heap.size ∧ k ≠ w.heap.size + 1) ∧ w.heap.size ≤ k ∧ k < N0) u rows
  b : Below B w0 W
  kp : Kept w W (fun k => k = gb)
  g : W.heap[gb]? = some ob
  n : w.heap.size + 2 ≤ N0
  h : N0 ≤ W.heap.size
theorem MInv2.below {w0 : World} {B gb : Nat} {ob : Obj} {w W W1 : World} {N0 : Nat} {rows : List (List Int)} {u : Value} (h : MInv2 w0 B gb ob w N0 rows u W) (hb : Below W.heap.size W W1) (hB : B ≤ w.heap.size) : MInv2 w0 B gb ob w N0 rows u W1 :=
  ⟨blk_below h.b0 hb, blk_below h.b1 hb, Kd.S_below h.s hb, below_then h.b (Nat.le_trans hB h.kp.1) hb, h.kp.below hb, blk_below h.g hb, h.n, Nat.le_trans h.h hb.size⟩
theorem MInv2.step {w0 : World} {B gb : Nat} {ob ob' : Obj} {w W W1 : World} {N0 : Nat} {rows : List (List Int)} {u : Value} (h : MInv2 w0 B gb ob w N0 rows u W) (hgb : gb < w.heap.size) (hb : Below B w0 W1) (hk : Kept W W1 (fun k => k = gb)) (hg : W1.heap[gb]? = some ob') : MInv2 w0 B gb ob' w N0 rows u W1 :=
  ⟨blk_kept h.b0 hk (by omega), blk_kept h.b1 hk (by omega), Kd.S_kept h.s hk (fun k h1 h2 => by have := h1.2.1; omega), hb, h.kp.then_ hk (fun k h1 => .inl h1), hg, h.n, Nat.le_trans h.h hk.1⟩
theorem MInv2.grown {w0 : World} {B gb : Nat} {ob : Obj} {w W W1 : World} {N0 : Nat} {rows : List (List Int)} {u : Value} (h : MInv2 w0 B gb ob w N0 rows u W) (hgb : gb < w.heap.size) {row : Option Nat} (hg : W.grownBy W1 row) (hb : Below B w0 W1) (hr : ∀ k, row = some k → N0 ≤ k) : MInv2 w0 B gb ob w N0 rows u W1 := by
  have hn := h.n
  refine ⟨blk_grown h.b0 hg (fun e => ?_), blk_grown h.b1 hg (fun e => ?_), Kd.S_grown h.s hg (fun k hk e => ?_), hb, Kept.of_grown hg h.kp (fun k hk => .inr ?_), blk_grown h.g hg (fun e => ?_), h.n, Nat.le_trans h.h hg.size⟩
  · have := hr _ e.symm
    omega
  · have := hr _ e.symm
    omega
  · have := hr _ e.symm
    have := hk.2.2
    omega
  · have := hr _ hk
    omega
  · have := hr _ e.symm
    omega
theorem MInv2.raise {w0 : World} {B gb : Nat} {ob : Obj} {w W : World} {N0 : Nat} {rows : List (List Int)} {u : Value} (h : MInv2 w0 B gb ob w N0 rows u W) : MInv2 w0 B gb ob w W.heap.size rows u W :=
  ⟨h.b0, h.b1, Kd.S_mono h.s (fun k hk => ⟨hk.1, hk.2.1, Nat.lt_of_lt_of_le hk.2.2 h.h⟩), h.b, h.kp, h.g, Nat.le_trans h.n h.h, Nat.le_refl _⟩
set_option maxHeartbeats 4000000 in
/-- impl.made with the closure loop.example/g01122/impl.ReflectionOf$1, which writes one block. -/
theorem madeReflection_any (p0 p1 p2 p3 : Value) (n : Nat) (g : Nat → Nat → Int) (w0 : World) (B gb : Nat) (ob : Nat → Nat → Obj) (w : World) (hn : n ≤ 1000) (hbb : B ≤ gb) (hgb : gb < w.heap.size) (hB0 : Below B w0 w) (hg0 : w.heap[gb]? = some (ob 0 0)) (hob : ∀ i, ob i n = ob (i + 1) 0)
    (V : ∀ i j : Nat, i < n → j < n → ∀ W : World, Below B w0 W → Kept w W (fun k => k = gb) → W.heap[gb]? = some (ob i j) → Calls Try.prog 88 #[.int .i64 i, .int .i64 j, p0, p1, p2, p3] W fun e W' => e = .returned (.int .i64 (g i j)) ∧ Below B w0 W' ∧ Kept W W' (fun k => k = gb) ∧ W'.heap[gb]? = some (ob i (j + 1))) :
    Calls Try.prog 66 #[.int .i64 n, .func (.func 88) #[] #[p0, p1, p2, p3]] w fun e w' => ∃ v0 : Value, e = .returned (.agg #[v0]) ∧ Kd.S (Kd.slice 3 (Kd.int .i64)) 34 w' B (fun k => w.heap.size ≤ k) v0 (rowsOf g n n) ∧ Below B w0 w' ∧ Kept w w' (fun k => k = gb) ∧ w'.heap[gb]? = some (ob n 0) := by
  have hu := Try.underlying26
  have VV := Aside0.mk V
  have HN := Aside0.mk hn
  have HG := Aside0.mk hgb
  have HBB := Aside0.mk hbb
  have HOB := Aside0.mk hob
  have X := Aside0.mk (show MInv2 w0 B gb (ob 0 0) w (w.heap.size + 2) (rowsOf g n 0) (.slice none 0 0) ((w.alloc (.cells #[.slice none 0 0] 26)).alloc (.cells #[.slice none 0 0] 26)) from
    ⟨by rw [Below.heap_alloc _ _ _ (by simp)]; exact heap_alloc_new w _, by simpa using heap_alloc_new (w.alloc (.cells #[.slice none 0 0] 26)) (.cells #[.slice none 0 0] 26),
      Kd.S_nil _ _ _ _ _, (hB0.alloc (by omega) _).alloc (by simp; omega) _, ((Kept.refl w _).alloc _).alloc _, blk_alloc (blk_alloc hg0 _) _, Nat.le_refl _, by simp⟩)
  clear V hn hgb hbb hob hB0 hg0
  go_enter Try.func66, Try.ntmps66
  go_wp2
  go_loopg [11] n (fun kq v11 w' => ∃ i : Nat, i + kq = n ∧ v11 = .int .i64 i ∧ Aside0 (∃ N0 u, MInv2 w0 B gb (ob i 0) w N0 (rowsOf g n i) u w'))
  case atStart => exact ⟨0, by omega, rfl, ⟨_, _, X.out⟩⟩
  case round =>
    clear X
    obtain ⟨i, hi, rfl, ⟨N1, u, X1⟩⟩ := hrel
    cases gk with
    | zero =>
      have hd : decide (i < n) = false := decide_eq_false (by omega)
      have hin : i = n := by omega
      have X := Aside0.mk X1
      have hc : wr.cell? ⟨w.heap.size + 1, 0, none⟩ = some u := (blk_cell X1.b1 0).trans rfl
      have hf : wr.frozen? ⟨w.heap.size, 0, none⟩ = false := blk_frozen X1.b0 0
      have hc0 : wr.cell? ⟨w.heap.size, 0, none⟩ = some (.slice none 0 0) := (blk_cell X1.b0 0).trans rfl
      obtain ⟨A2, c2, rfl⟩ := Kd.S_slice X1.s
      have HB0 := Aside0.mk (show (wr.setCell ⟨w.heap.size, 0, none⟩ (.slice A2 (rowsOf g n i).length c2)).heap[w.heap.size]? = some (.cells #[.slice A2 (rowsOf g n i).length c2] 26 (0, 0)) by simpa using blk_set X1.b0 0 (.slice A2 (rowsOf g n i).length c2))
      have hbg := HBB.out
      have hgg := HG.out
      have hbw : B ≤ w.heap.size := by omega
      have Y := Aside0.mk (show Kd.S (Kd.slice 3 (Kd.int .i64)) 34 (wr.setCell ⟨w.heap.size, 0, none⟩ (.slice A2 (rowsOf g n i).length c2)) B (fun k => w.heap.size ≤ k) (.slice A2 (rowsOf g n i).length c2) (rowsOf g n n) ∧
          Below B w0 (wr.setCell ⟨w.heap.size, 0, none⟩ (.slice A2 (rowsOf g n i).length c2)) ∧ Kept w (wr.setCell ⟨w.heap.size, 0, none⟩ (.slice A2 (rowsOf g n i).length c2)) (fun k => k = gb) ∧ (wr.setCell ⟨w.heap.size, 0, none⟩ (.slice A2 (rowsOf g n i).length c2)).heap[gb]? = some (ob n 0) from by
        refine ⟨?_, X1.b.setCell hbw _, X1.kp.setCell (.inr (Nat.le_refl _)) _, ?_⟩
        · have h := Kd.S_far (p := ⟨w.heap.size, 0, none⟩) X1.s (fun k hk => hk.1.1) (.slice A2 (rowsOf g n i).length c2)
          rw [← hin] at h ⊢
          exact Kd.S_mono h (fun _ hk => hk.2.1)
        · rw [Below.heap_setCell _ _ _ _ (by show gb ≠ w.heap.size; omega), ← hin]
          exact X1.g)
      clear hbg hgg hbw
      clear X1 X
      generalize (rowsOf g n i).length = m at hc Y HB0
      go_wp2
      refine bodyPost_ret (results_cell_row rfl _ _ w.heap.size 26 #[.slice A2 m c2] (0, 0) _ rfl HB0.out Try.underlying26 rfl (by kernel_rfl)) rfl ?_
      exact ⟨_, rfl, Y.out⟩
    | succ k1 =>
      have hd : decide (i < n) = true := decide_eq_true (by omega)
      have hr0 := R_empty wr B (fun k => wr.heap.size ≤ k) (Nat.le_trans (Nat.le_of_lt (Nat.lt_of_le_of_lt HBB.out HG.out)) X1.kp.1) (Nat.le_refl _)
      have X := Aside0.mk (show MInv2 w0 B gb (ob i 0) w wr.heap.size (rowsOf g n i) u (wr.alloc (.cells #[] 3)) ∧ Kd.R (Kd.int .i64) 3 (wr.alloc (.cells #[] 3)) B (fun k => wr.heap.size ≤ k) (.slice (some ⟨wr.heap.size, 0, none⟩) 0 0) (rowOf g i 0) from
        ⟨X1.raise.below (below_alloc (Below.refl _ _) _) (Nat.le_of_lt (Nat.lt_of_le_of_lt HBB.out HG.out)), hr0⟩)
      have HI := Aside0.mk hi
      clear X1 hr0
      go_wp2
      generalize hN0 : wr.heap.size = N0 at X ⊢
      go_loopg [7, 16] n (fun kq v7 v16 w' => ∃ j : Nat, j + kq = n ∧ v16 = .int .i64 j ∧ Aside0 (MInv2 w0 B gb (ob i j) w N0 (rowsOf g n i) u w' ∧ Kd.R (Kd.int .i64) 3 w' B (fun k => N0 ≤ k) v7 (rowOf g i j)))
      case atStart => exact ⟨0, by omega, rfl, X⟩
      case round =>
        clear X
        obtain ⟨j, hj, rfl, X⟩ := hrel
        cases gk with
        | zero =>
          have hd2 : decide (j < n) = false := decide_eq_false (by omega)
          have hjn : j = n := by omega
          subst hjn
          obtain ⟨X1, HR⟩ := X.out
          clear X
          obtain ⟨A3, c3, rfl⟩ := Kd.R_slice HR
          obtain ⟨A2, c2, rfl⟩ := Kd.S_slice X1.s
          have hub := (Kd.S_R X1.s).1
          have hne := HR.1
          have hbb := X1.n
          have hM := Aside0.mk (Kd.M_row (e := 3) (Kd.R_tight rfl HR))
          have hokp := Aside0.mk (show ∀ k, some k = (Value.slice A3 (rowOf g i j).length c3).ownBlock → ((k ≠ w.heap.size ∧ k ≠ w.heap.size + 1) ∧ w.heap.size ≤ k) ∧ some k ≠ (Value.slice A2 (rowsOf g j i).length c2).ownBlock from
            fun k hk => by
              have h1 := hne k hk.symm
              refine ⟨⟨⟨by omega, by omega⟩, by omega⟩, fun he => ?_⟩
              have h2 := (hub k he.symm).2.2
              omega)
          have hSa := Aside0.mk (Kd.S_mono (ok' := fun k => ((k ≠ w.heap.size ∧ k ≠ w.heap.size + 1) ∧ w.heap.size ≤ k) ∧ ¬ some k = (Value.slice A3 (rowOf g i j).length c3).ownBlock) X1.s (fun k hk => ⟨⟨hk.1, hk.2.1⟩, fun he => by have := hne k he.symm; have := hk.2.2; omega⟩))
          have hfr := Aside0.mk (show ∀ k, wr.heap.size ≤ k → (k ≠ w.heap.size ∧ k ≠ w.heap.size + 1) ∧ w.heap.size ≤ k from fun k hk => by have := X1.h; omega)
          have hl := Aside0.mk (show ((rowsOf g j i).length + 1) * 24 ≤ 140737488355328 by rw [rowsOf_length]; have := HN.out; omega)
          have hc : wr.cell? ⟨w.heap.size + 1, 0, none⟩ = some (.slice A2 (rowsOf g j i).length c2) := (blk_cell X1.b1 0).trans rfl
          have hf : wr.frozen? ⟨w.heap.size + 1, 0, none⟩ = false := blk_frozen X1.b1 0
          have X := Aside0.mk X1
          have hHB := Aside0.mk X1.b
          have hbz := Aside0.mk (show B ≤ wr.heap.size from Nat.le_trans (Nat.le_of_lt (Nat.lt_of_le_of_lt HBB.out HG.out)) X1.kp.1)
          clear X1 HR hub hne hbb
          go_wp2_with (at_builtin; refine Kd.S_append (Kd.slice 3 (Kd.int .i64)) (w0 := w0) B rfl _ _ 22 34 (.slice none 0 0) 24 rfl Try.underlying22 rinfo rfl (by decide) (by decide) (.slice A2 (rowsOf g j i).length c2) (rowsOf g j i) (rowOf g i j) [.slice A3 (rowOf g i j).length c3] (fun k => (k ≠ w.heap.size ∧ k ≠ w.heap.size + 1) ∧ w.heap.size ≤ k) (fun k => some k = (Value.slice A3 (rowOf g i j).length c3).ownBlock) rfl rfl hM.out hokp.out hfr.out hSa.out hHB.out hbz.out hl.out ?_)
          intro v1 w1 hS1 hb1 hg1 hat1
          have h1 : w1.heap[w.heap.size + 1]? = some (.cells #[.slice A2 (rowsOf g j i).length c2] 26 (0, 0)) := blk_grown X.out.b1 hg1 (fun he => by have := ((Kd.S_R X.out.s).1 _ he.symm).1.2; omega)
          have h0 : w1.heap[w.heap.size]? = some (.cells #[.slice none 0 0] 26 (0, 0)) := blk_grown X.out.b0 hg1 (fun he => by have := ((Kd.S_R X.out.s).1 _ he.symm).1.1; omega)
          have hc1 : w1.cell? ⟨w.heap.size + 1, 0, none⟩ = some (.slice A2 (rowsOf g j i).length c2) := (blk_cell h1 0).trans rfl
          have hf1 : w1.frozen? ⟨w.heap.size + 1, 0, none⟩ = false := blk_frozen h1 0
          have hnn : w.heap.size + 2 ≤ w1.heap.size := Nat.le_trans X.out.n (Nat.le_trans X.out.h hg1.size)
          have hgr : ∀ k, (Value.slice A2 (rowsOf g j i).length c2).ownBlock = some k → k = gb ∨ w.heap.size ≤ k := fun k he => .inr ((Kd.S_R X.out.s).1 _ he).2.1
          have hgg := HG.out
          have hbg := HBB.out
          have hg2 : w1.heap[gb]? = some (ob i j) := blk_grown X.out.g hg1 (fun he => by have := ((Kd.S_R X.out.s).1 _ he.symm).2.1; omega)
          have Z := Aside0.mk (show ∃ N0 u, MInv2 w0 B gb (ob (i + 1) 0) w N0 (rowsOf g j (i + 1)) u (w1.setCell ⟨w.heap.size + 1, 0, none⟩ v1) from by
            refine ⟨w1.heap.size, v1, ?_, by simpa using blk_set h1 0 v1, ?_, hb1.setCell (by show B ≤ w.heap.size + 1; omega) _, (Kept.of_grown hg1 X.out.kp hgr).setCell (.inr (by show w.heap.size ≤ w.heap.size + 1; omega)) _, ?_, hnn, by simp⟩
            · rw [Below.heap_setCell _ _ _ _ (by simp)]
              exact h0
            · rw [rowsOf_succ]
              refine Kd.S_mono (Kd.S_far (p := ⟨w.heap.size + 1, 0, none⟩) (Kd.S_bound hS1) (fun k hk => hk.1.1.2) v1) (fun k hk => ⟨hk.1.1, hk.1.2, hk.2.2.1⟩)
            · rw [Below.heap_setCell _ _ _ _ (by show gb ≠ w.heap.size + 1; omega), ← HOB.out i]
              exact hg2)
          obtain ⟨A4, c4, hv1⟩ := Kd.S_slice hS1
          generalize (rowsOf g j i ++ [rowOf g i j]).length = m at hv1
          subst hv1
          clear hS1 hb1 hg1 hat1 h1 h0 hc hf X hnn hgr hgg hbg hg2
          go_wp2
          go_roundg k1
          case rel => exact ⟨i + 1, by omega, w_succ i (by have := HN.out; omega), Z⟩
          case measure => omega
        | succ k2 =>
          have hd2 : decide (j < n) = true := decide_eq_true (by omega)
          have C := Aside0.mk (VV.out i j (by omega) (by omega) wr X.out.1.b X.out.1.kp X.out.1.g)
          go_wp2_with fail
          refine C.out.mono ?_
          rintro e w2 ⟨rfl, hb, hk, hg2⟩
          have X2 := Aside0.mk (show MInv2 w0 B gb (ob i (j + 1)) w N0 (rowsOf g n i) u w2 ∧ Kd.R (Kd.int .i64) 3 w2 B (fun k => N0 ≤ k) u7 (rowOf g i j) from ⟨X.out.1.step HG.out hb hk hg2, Kd.R_kept X.out.2 hk (fun k h1 h2 => by have h3 := X.out.1.n; have h4 := HG.out; omega)⟩)
          have HJ := Aside0.mk (show ((rowOf g i j).length + 1) * 8 ≤ 140737488355328 by rw [rowOf_length]; have := HN.out; omega)
          have hbz := Aside0.mk (show B ≤ w2.heap.size from Nat.le_trans (Nat.le_of_lt (Nat.lt_of_le_of_lt HBB.out HG.out)) X2.out.1.kp.1)
          clear X C hb hk hg2
          go_wp2_with (at_builtin; refine Kd.R_append (Kd.int .i64) (w0 := w0) B rfl _ _ 34 3 (.int .i64 0) 8 rfl Try.underlying34 iinfo rfl (by decide) (by decide) u7 (rowOf g i j) (g i j) [.int .i64 (g i j)] (fun k => N0 ≤ k) (fun _ => False) rfl rfl rfl (fun _ hk => hk.elim) (fun k hk => Nat.le_trans X2.out.1.h hk) X2.out.2 X2.out.1.b hbz.out HJ.out ?_)
          intro v1 w1 hR1 hb1 hg1 hat1
          have Z := Aside0.mk (show MInv2 w0 B gb (ob i (j + 1)) w N0 (rowsOf g n i) u w1 ∧ Kd.R (Kd.int .i64) 3 w1 B (fun k => N0 ≤ k) v1 (rowOf g i (j + 1)) from
            ⟨X2.out.1.grown HG.out hg1 hb1 (fun k hk => X2.out.2.1 k hk), by rw [rowOf_succ]; exact hR1⟩)
          clear X2 hR1 hb1 hg1 hat1 hbz
          go_wp2
          go_roundg k2
          case rel => exact ⟨j + 1, by omega, w_succ j (by have := HN.out; omega), Z⟩
          case measure => omega

end Go.Proofs.Ytldkkfpodldbgaa.G
namespace Go.Proofs.Ytldkkfpodldbgaa.G
open Go.RowKit Go.Proofs.YtldkkfpodldbgaaW.PrintWords Go.Proofs.YtldkkfpodldbgaaW.PrintLast
set_option linter.unusedVariables false
set_option linter.unusedSimpArgs false
set_option maxHeartbeats 8000000 in
set_option maxRecDepth 100000 in
theorem checked_any (A : Option Addr) (c : Nat) (L : List (List Int)) (w : World) (hr : Kd.C (Kd.slice 3 (Kd.int .i64)) w A L.length L) (b : Bool) (u : Value) (hm : isMat L = b) (hv : (if b = true then .slice A L.length c else .slice none 0 0) = u) :
    Calls Try.prog 65 #[.agg #[.slice A L.length c]] w fun e w' => e = .returned (.tuple #[.agg #[u], .bool b]) ∧ Below w.heap.size w w' := by
  have hu := Try.underlying26
  have CL := Aside0.mk (fun (W : World) (hb : Below w.heap.size w W) => isMatrix_any A c L W (Kd.C_below hr hb))
  rw [hm] at CL
  have HV := Aside0.mk hv
  clear hr hm hv
  go_enter Try.func65, Try.ntmps65
  go_wp2_with (first | ((with_reducible refine gate_dst (N := 1) rfl ?_); refine box_event ?hg (N := 1) ?hd (cs := #[.slice A L.length c]) (t := 26) ?hr ?_; (case hd => rfl); (case hg => rfl); (case hr => first | (go_simp; done) | (go_simp; rfl)); intro g1 hg w1 hbox hb; have K1 := Aside0.mk hbox; have B1 := Aside0.mk hb; clear hb hbox hg) | ((with_reducible refine gate_dst (N := 2) rfl ?_); refine box_event ?hg (N := 2) ?hd (cs := #[.slice none 0 0]) (t := 26) ?hr ?_; (case hd => rfl); (case hg => rfl); (case hr => first | (go_simp; done) | (go_simp; rfl)); intro g2 hg w2 hbox hb; have N2 := Aside0.mk (show g1 ≠ g2 from (by have h1 := blk_lt K1.out; omega)); have G2 := Aside0.mk (show w.heap.size ≤ g2 from (by have h1 := B1.out.size; omega)); have K2 := Aside0.mk hbox; replace K1 := Aside0.mk (blk_below K1.out hb); have B2 := Aside0.mk (below_step B1.out hb); clear hb hbox hg; have hz1 : w2.cell? ⟨g1, 0, none⟩ = some (.slice A L.length c) := (blk_cell K1.out 0).trans rfl))
  clear hz1
  refine (CL.out _ B2.out).mono ?_
  rintro e w3 ⟨rfl, hb⟩
  have K3 := Aside0.mk (blk_below K1.out hb)
  have K4 := Aside0.mk (blk_below K2.out hb)
  have B3 := Aside0.mk (below_step B2.out hb)
  clear hb CL K1 K2 B1 B2
  have hz1 : w3.cell? ⟨g1, 0, none⟩ = some (.slice A L.length c) := (blk_cell K3.out 0).trans rfl
  have hz2 : w3.cell? ⟨g2, 0, none⟩ = some (.slice none 0 0) := (blk_cell K4.out 0).trans rfl
  have hf2 := blk_frozen K4.out 0
  have hne := N2.out
  cases b with
  | false =>
    obtain rfl := HV.out
    clear HV
    have Y := Aside0.mk (B3.out.setCell (p := ⟨g2, 0, none⟩) G2.out (.slice none 0 0))
    have HB0 := Aside0.mk (show (w3.setCell ⟨g2, 0, none⟩ (.slice none 0 0)).heap[g2]? = some (.cells #[.slice none 0 0] 26 (0, 0)) by simpa using blk_set K4.out 0 (.slice none 0 0))
    clear K3 K4 B3 N2 G2
    go_wp2
    refine bodyPost_ret (results_ct rfl _ _ g2 26 #[.slice none 0 0] (0, 0) _ rfl HB0.out Try.underlying26 rfl (by kernel_rfl)) rfl ?_
    exact ⟨rfl, Y.out⟩
  | true =>
    obtain rfl := HV.out
    clear HV
    have Y := Aside0.mk (B3.out.setCell (p := ⟨g2, 0, none⟩) G2.out (.slice A L.length c))
    have HB0 := Aside0.mk (show (w3.setCell ⟨g2, 0, none⟩ (.slice A L.length c)).heap[g2]? = some (.cells #[.slice A L.length c] 26 (0, 0)) by simpa using blk_set K4.out 0 (.slice A L.length c))
    clear K3 K4 B3 N2 G2
    go_wp2
    refine bodyPost_ret (results_ct rfl _ _ g2 26 #[.slice A L.length c] (0, 0) _ rfl HB0.out Try.underlying26 rfl (by kernel_rfl)) rfl ?_
    exact ⟨rfl, Y.out⟩
end Go.Proofs.Ytldkkfpodldbgaa.G
namespace Go.Proofs.Ytldkkfpodldbgaa.G
open Go.RowKit Go.Proofs.Ytldkkfpodldbgaa.P Go.Proofs.YtldkkfpodldbgaaW.PrintWords Go.Proofs.YtldkkfpodldbgaaW.PrintLast Go.Proofs.YtldkkfpodldbgaaW.PrintMore Go.Proofs.Ytldkkfpodldbgaa.Q
set_option linter.unusedVariables false
set_option linter.unusedSimpArgs false
set_option maxHeartbeats 4000000 in
set_option maxRecDepth 100000 in
theorem reflection1_any (w0 : World) (B g3 g8 gb g6 : Nat) (Av : Option Addr) (cv : Nat) (v : List Int) (Ap : Option Addr) (cp : Nat) (p : List Int) (q : Int) (b : Bool) (i j : Nat) (w : World) (hB : Below B w0 w) (hbb : B ≤ gb)
    (hv : Kd.C (Kd.int .i64) w Av v.length v) (hp : Kd.C (Kd.int .i64) w Ap p.length p) (h3 : w.cell? ⟨g3, 0, none⟩ = some (.slice Av v.length cv)) (h8 : w.cell? ⟨g8, 0, none⟩ = some (.slice Ap p.length cp))
    (hg : w.heap[gb]? = some (.cells #[.bool b] 4 (0, 0))) (h6 : w.cell? ⟨g6, 0, none⟩ = some (.int .i64 q)) (hq : q ≠ 0) (hi : i < v.length) (hj : j < p.length) (hne : g6 ≠ gb) :
    Calls Try.prog 88 #[.int .i64 i, .int .i64 j, .pointer (some ⟨g3, 0, none⟩), .pointer (some ⟨g8, 0, none⟩), .pointer (some ⟨gb, 0, none⟩), .pointer (some ⟨g6, 0, none⟩)] w fun e W' =>
      e = .returned (.int .i64 (refAt v p q i j)) ∧ Below B w0 W' ∧ Kept w W' (fun k => k = gb) ∧ W'.heap[gb]? = some (.cells #[.bool (b && (Int.tmod (refX v p i j) q == 0))] 4 (0, 0)) := by
  obtain ⟨ad, hA, hy⟩ := num_at hv i hi
  obtain ⟨ad', hA', hy'⟩ := num_at hp j hj
  have e1 : v.getD i 0 = v[i] := by simp [List.getD_eq_getElem?_getD, List.getElem?_eq_getElem hi]
  have e2 : p.getD j 0 = p[j] := by simp [List.getD_eq_getElem?_getD, List.getElem?_eq_getElem hj]
  have HX := Aside0.mk (show refX v p i j = wrap64 (wrap64 (v[i] * 2) * p[j]) by unfold refX; rw [e1, e2])
  have HR := Aside0.mk (show refAt v p q i j = if i = j then wrap64 (wrap64 (Int.tdiv (wrap64 (-(refX v p i j))) q) + 1) else wrap64 (Int.tdiv (wrap64 (-(refX v p i j))) q) from rfl)
  generalize refAt v p q i j = R at HR ⊢
  generalize refX v p i j = x at HX HR ⊢
  obtain ⟨b2, hb2⟩ : ∃ z, z = (b && (Int.tmod x q == 0)) := ⟨_, rfl⟩
  rw [← hb2]
  have HB2 := Aside0.mk hb2
  clear hb2
  have d2 : decide (i < v.length) = true := decide_eq_true hi
  have d3 : decide (j < p.length) = true := decide_eq_true hj
  have hq0 : (q == 0) = false := beq_eq_false_iff_ne.mpr hq
  have hb0 : w.cell? ⟨gb, 0, none⟩ = some (.bool b) := (blk_cell hg 0).trans rfl
  have hf0 := blk_frozen hg 0
  have Y := Aside0.mk (fun (b' : Bool) (m : Nat) => show Below B w0 ((w.drewN m).setCell ⟨gb, 0, none⟩ (.bool b')) ∧ Kept w ((w.drewN m).setCell ⟨gb, 0, none⟩ (.bool b')) (fun k => k = gb) ∧ ((w.drewN m).setCell ⟨gb, 0, none⟩ (.bool b')).heap[gb]? = some (.cells #[.bool b'] 4 (0, 0)) from
    ⟨(pw_below_drewN hB m).setCell hbb _, ((Kept.refl w (fun k => k = gb)).drewN m).setCell (p := ⟨gb, 0, none⟩) (.inl rfl) _, by simpa using blk_set (blk_drewN hg m) 0 (.bool b')⟩)
  generalize v[i] = y at hy HX
  generalize p[j] = y' at hy' HX
  clear hv hp hg e1 e2 hB hbb
  subst hA hA'
  go_enter Try.func88, Try.ntmps88
  go_wp2
  go_quiet (fail)
  rw [← HX.out]
  clear HX hy hy' h3 h8 d2 d3
  have hR := HR.out
  clear HR
  by_cases hij : i = j
  · have dij : ((i : Int) == (j : Int)) = true := beq_iff_eq.mpr (by omega)
    rw [if_pos hij] at hR
    clear hij hi hj
    subst hR
    cases b with
    | false =>
      obtain rfl : b2 = false := HB2.out.trans rfl
      clear HB2
      go_wp2
      go_ret
      exact ⟨rfl, Y.out _ _⟩
    | true =>
      by_cases hm : Int.tmod x q = 0
      · have dm : (Int.tmod x q == 0) = true := beq_iff_eq.mpr hm
        obtain rfl : b2 = true := HB2.out.trans (by rw [dm]; rfl)
        clear HB2 hm
        go_wp2
        go_ret
        exact ⟨rfl, Y.out _ _⟩
      · have dm : (Int.tmod x q == 0) = false := beq_eq_false_iff_ne.mpr hm
        obtain rfl : b2 = false := HB2.out.trans (by rw [dm]; rfl)
        clear HB2 hm
        go_wp2
        go_ret
        exact ⟨rfl, Y.out _ _⟩
  · have dij : ((i : Int) == (j : Int)) = false := beq_eq_false_iff_ne.mpr (by omega)
    rw [if_neg hij] at hR
    clear hij hi hj
    subst hR
    cases b with
    | false =>
      obtain rfl : b2 = false := HB2.out.trans rfl
      clear HB2
      go_wp2
      go_ret
      exact ⟨rfl, Y.out _ _⟩
    | true =>
      by_cases hm : Int.tmod x q = 0
      · have dm : (Int.tmod x q == 0) = true := beq_iff_eq.mpr hm
        obtain rfl : b2 = true := HB2.out.trans (by rw [dm]; rfl)
        clear HB2 hm
        go_wp2
        go_ret
        exact ⟨rfl, Y.out _ _⟩
      · have dm : (Int.tmod x q == 0) = false := beq_eq_false_iff_ne.mpr hm
        obtain rfl : b2 = false := HB2.out.trans (by rw [dm]; rfl)
        clear HB2 hm
        go_wp2
        go_ret
        exact ⟨rfl, Y.out _ _⟩
set_option maxHeartbeats 8000000 in
set_option maxRecDepth 100000 in
theorem reflection_any (A : Option Addr) (c : Nat) (L : List (List Int)) (A1 : Option Addr) (c1 : Nat) (v : List Int) (w : World) (hr : Kd.C (Kd.slice 3 (Kd.int .i64)) w A L.length L) (hc : L.length ≤ c) (hr1 : Kd.C (Kd.int .i64) w A1 v.length v) (hc1 : v.length ≤ c1) :
    Calls Try.prog 26 #[.agg #[.slice A L.length c], .slice A1 v.length c1] w fun e w' => ∃ u : Value, e = .returned (.tuple #[.agg #[u], .bool (refR L v).2]) ∧ Kd.S (Kd.slice 3 (Kd.int .i64)) 34 w' w.heap.size (fun _ => True) u (refR L v).1 ∧ Below w.heap.size w w' := by
  have hmf : ∀ (fn : Fn) (first cap : Array Value) (w : World), (Instr.makeFunc fn first cap).run Try.prog w = .ok (.func fn first cap) w := fun _ _ _ _ => rfl
  have hu := Try.underlying26
  have CF := Aside0.mk (fun (W : World) (hb : Below w.heap.size w W) =>
    have h := Ev_out (g := fun k => impl_FormAt.f k L v) (formAt_ev L v)
    impl_FormAt.calls h.choose A c L A1 c1 v (productR L v v).1 (productR L v v).2 W (Kd.C_below hr hb) hc (Kd.C_below hr1 hb) hc1 h.choose_spec)
  have CP := Aside0.mk (fun (W : World) (hb : Below w.heap.size w W) (hs : isSq L = true) (hv : v.length = L.length) =>
    have h := Ev_out (g := fun k => impl_Matrix_apply.f k L v) (apply_ev hs hv)
    impl_Matrix_apply.calls h.choose A c L A1 c1 v (applyL L v) W (Kd.C_below hr hb) hc (Kd.C_below hr1 hb) hc1 h.choose_spec)
  have HV := Aside0.mk (fun (W : World) (hb : Below w.heap.size w W) => Kd.C_below hr1 hb)
  have HR := Aside0.mk (show (refR L v) = ((refR L v).1, (refR L v).2) from rfl)
  generalize (refR L v).1 = G at HR ⊢
  generalize (refR L v).2 = b at HR ⊢
  have HP0 := Aside0.mk (show (productR L v v).2 = true → isSq L = true ∧ v.length = L.length from fun h => ⟨(product_good h).2.2.1, (product_good h).2.2.2⟩)
  clear hr hc hr1 hc1
  have hR0 := HR.out
  unfold refR at hR0
  replace HR := Aside0.mk hR0
  clear hR0
  generalize (productR L v v).1 = q at HR CF
  generalize (productR L v v).2 = ok at HR CF HP0
  go_enter Try.func26, Try.ntmps26
  go_wp2_with (first | ((with_reducible refine gate_dst (N := 2) rfl ?_); refine box_event ?hg (N := 2) ?hd (cs := #[.slice A L.length c]) (t := 26) ?hr ?_; (case hd => rfl); (case hg => rfl); (case hr => first | (go_simp; done) | (go_simp; rfl)); intro g2 hg v2 hbox hb; have K2 := Aside0.mk hbox; have B2 := Aside0.mk hb; clear hb hbox hg) | ((with_reducible refine gate_dst (N := 3) rfl ?_); refine box_event ?hg (N := 3) ?hd (cs := #[.slice A1 v.length c1]) (t := 34) ?hr ?_; (case hd => rfl); (case hg => rfl); (case hr => first | (go_simp; done) | (go_simp; rfl)); intro g3 hg v3 hbox hb; have N23 := Aside0.mk (show g2 ≠ g3 from (by have h1 := blk_lt K2.out; omega)); have K3 := Aside0.mk hbox; replace K2 := Aside0.mk (blk_below K2.out hb); replace B2 := Aside0.mk (below_step B2.out hb); clear hb hbox hg) | ((with_reducible refine gate_dst (N := 4) rfl ?_); refine box_event ?hg (N := 4) ?hd (cs := #[.slice none 0 0]) (t := 26) ?hr ?_; (case hd => rfl); (case hg => rfl); (case hr => first | (go_simp; done) | (go_simp; rfl)); intro g4 hg v4 hbox hb; have N4 := Aside0.mk (show g2 ≠ g4 ∧ g3 ≠ g4 from (by have h1 := blk_lt K2.out; have h2 := blk_lt K3.out; omega)); have G4 := Aside0.mk (show w.heap.size ≤ g4 from (by have h1 := B2.out.size; omega)); have K4 := Aside0.mk hbox; replace K2 := Aside0.mk (blk_below K2.out hb); replace K3 := Aside0.mk (blk_below K3.out hb); replace B2 := Aside0.mk (below_step B2.out hb); have hz2 : v4.cell? ⟨g2, 0, none⟩ = some (.slice A L.length c) := (blk_cell K2.out 0).trans rfl; have hz3 : v4.cell? ⟨g3, 0, none⟩ = some (.slice A1 v.length c1) := (blk_cell K3.out 0).trans rfl; clear hb hbox hg))
  clear hz2 hz3
  refine (CF.out _ B2.out).mono ?_
  rintro e w1 ⟨rfl, hb⟩
  replace K2 := Aside0.mk (blk_below K2.out hb)
  replace K3 := Aside0.mk (blk_below K3.out hb)
  replace K4 := Aside0.mk (blk_below K4.out hb)
  replace B2 := Aside0.mk (below_step B2.out hb)
  clear hb CF
  go_upto_region 2 with (first | ((with_reducible refine gate_dst (N := 6) rfl ?_); refine box_event ?hg (N := 6) ?hd (cs := #[.int .i64 0]) (t := 3) ?hr ?_; (case hd => rfl); (case hg => rfl); (case hr => first | (go_simp; done) | (go_simp; rfl)); intro g6 hg v6 hbox hb; have N6 := Aside0.mk (show g2 ≠ g6 ∧ g3 ≠ g6 ∧ g4 ≠ g6 from (by have h1 := blk_lt K2.out; have h2 := blk_lt K3.out; have h3 := blk_lt K4.out; omega)); have G6 := Aside0.mk (show w.heap.size ≤ g6 from (by have h1 := B2.out.size; omega)); have K6 := Aside0.mk hbox; replace K2 := Aside0.mk (blk_below K2.out hb); replace K3 := Aside0.mk (blk_below K3.out hb); replace K4 := Aside0.mk (blk_below K4.out hb); replace B2 := Aside0.mk (below_step B2.out hb); have hz6 : v6.cell? ⟨g6, 0, none⟩ = some (.int .i64 0) := (blk_cell K6.out 0).trans rfl; have hf6 := blk_frozen K6.out 0; clear hb hbox hg))
  clear hz6 hf6
  obtain ⟨w1', hw⟩ : ∃ x, x = v6.setCell ⟨g6, 0, none⟩ (.int .i64 q) := ⟨_, rfl⟩
  rw [← hw]
  replace K2 := Aside0.mk (show w1'.heap[g2]? = some (.cells #[.slice A L.length c] 26 (0, 0)) by rw [hw, Below.heap_setCell _ _ _ _ (by show g2 ≠ g6; exact N6.out.1)]; exact K2.out)
  replace K3 := Aside0.mk (show w1'.heap[g3]? = some (.cells #[.slice A1 v.length c1] 34 (0, 0)) by rw [hw, Below.heap_setCell _ _ _ _ (by show g3 ≠ g6; exact N6.out.2.1)]; exact K3.out)
  replace K4 := Aside0.mk (show w1'.heap[g4]? = some (.cells #[.slice none 0 0] 26 (0, 0)) by rw [hw, Below.heap_setCell _ _ _ _ (by show g4 ≠ g6; exact N6.out.2.2)]; exact K4.out)
  replace K6 := Aside0.mk (show w1'.heap[g6]? = some (.cells #[.int .i64 q] 3 (0, 0)) by rw [hw]; simpa using blk_set K6.out 0 (.int .i64 q))
  replace B2 := Aside0.mk (show Below w.heap.size w w1' by rw [hw]; exact B2.out.setCell (p := ⟨g6, 0, none⟩) G6.out _)
  clear hw
  have hR := HR.out
  have hz6 : w1'.cell? ⟨g6, 0, none⟩ = some (.int .i64 q) := (blk_cell K6.out 0).trans rfl
  cases ok with
  | false =>
    rw [if_neg (by simp)] at hR
    obtain ⟨rfl, rfl⟩ := Prod.mk.inj hR
    have hz4 : w1'.cell? ⟨g4, 0, none⟩ = some (.slice none 0 0) := (blk_cell K4.out 0).trans rfl
    have hf4 := blk_frozen K4.out 0
    have Y := Aside0.mk (B2.out.setCell (p := ⟨g4, 0, none⟩) G4.out (.slice none 0 0))
    have HB0 := Aside0.mk (show (w1'.setCell ⟨g4, 0, none⟩ (.slice none 0 0)).heap[g4]? = some (.cells #[.slice none 0 0] 26 (0, 0)) by simpa using blk_set K4.out 0 (.slice none 0 0))
    clear hR HR K2 K3 K4 K6 B2 N23 N4 G4 N6 G6 CP HV HP0
    go_wp2
    refine bodyPost_ret (results_ct rfl _ _ g4 26 #[.slice none 0 0] (0, 0) _ rfl HB0.out Try.underlying26 rfl (by kernel_rfl)) rfl ?_
    exact ⟨_, rfl, Kd.S_nil _ _ _ _ _, Y.out⟩
  | true =>
    rw [if_pos rfl] at hR
    obtain ⟨hs, hv⟩ := HP0.out rfl
    by_cases hq : q = 0
    · rw [if_pos hq] at hR
      have dq : (q == 0) = true := beq_iff_eq.mpr hq
      clear hq hs hv
      obtain ⟨rfl, rfl⟩ := Prod.mk.inj hR
      have hz4 : w1'.cell? ⟨g4, 0, none⟩ = some (.slice none 0 0) := (blk_cell K4.out 0).trans rfl
      have hf4 := blk_frozen K4.out 0
      have Y := Aside0.mk (B2.out.setCell (p := ⟨g4, 0, none⟩) G4.out (.slice none 0 0))
      have HB0 := Aside0.mk (show (w1'.setCell ⟨g4, 0, none⟩ (.slice none 0 0)).heap[g4]? = some (.cells #[.slice none 0 0] 26 (0, 0)) by simpa using blk_set K4.out 0 (.slice none 0 0))
      clear hR HR K2 K3 K4 K6 B2 N23 N4 G4 N6 G6 CP HV HP0
      go_wp2
      refine bodyPost_ret (results_ct rfl _ _ g4 26 #[.slice none 0 0] (0, 0) _ rfl HB0.out Try.underlying26 rfl (by kernel_rfl)) rfl ?_
      exact ⟨_, rfl, Kd.S_nil _ _ _ _ _, Y.out⟩
    · rw [if_neg hq] at hR
      replace HR := Aside0.mk hR
      have HQ := Aside0.mk hq
      have dq : (q == 0) = false := beq_eq_false_iff_ne.mpr hq
      have CP2 := Aside0.mk (fun (W : World) (hb : Below w.heap.size w W) => CP.out W hb hs hv)
      have hpl : (applyL L v).length = v.length := (applyL_length L v).trans hv.symm
      have hn4 : v.length ≤ 1000 := by have := isSq_le hs; omega
      have HPL := Aside0.mk hpl
      have HN4 := Aside0.mk hn4
      have hz2 : w1'.cell? ⟨g2, 0, none⟩ = some (.slice A L.length c) := (blk_cell K2.out 0).trans rfl
      have hz3 : w1'.cell? ⟨g3, 0, none⟩ = some (.slice A1 v.length c1) := (blk_cell K3.out 0).trans rfl
      clear hR hq CP HP0 hs hv hpl hn4
      go_wp2_with fail
      clear hz2 hz3 hz6
      refine (CP2.out _ B2.out).mono ?_
      rintro e w2 ⟨u0, rfl, hP, hb⟩
      generalize applyL L v = p at hP HR HPL
      obtain ⟨Ap, cp, rfl, hlp, hCp⟩ := Kd.R_reads hP
      have HP := Aside0.mk (show Kd.R (Kd.int .i64) 3 w2 w.heap.size (fun k => k < w2.heap.size) (.slice Ap p.length cp) p from Kd.R_lower (Kd.R_mono (Kd.R_bound hP) (fun k hk => hk.2.2.1)) B2.out.size)
      replace K2 := Aside0.mk (blk_below K2.out hb)
      replace K3 := Aside0.mk (blk_below K3.out hb)
      replace K4 := Aside0.mk (blk_below K4.out hb)
      replace K6 := Aside0.mk (blk_below K6.out hb)
      replace B2 := Aside0.mk (below_step B2.out hb)
      clear hb hP hlp hCp CP2
      go_upto_region 5 with (first | ((with_reducible refine gate_dst (N := 8) rfl ?_); refine box_event ?hg (N := 8) ?hd (cs := #[.slice none 0 0]) (t := 34) ?hr ?_; (case hd => rfl); (case hg => rfl); (case hr => first | (go_simp; done) | (go_simp; rfl)); intro g8 hg v8 hbox hb; have N8 := Aside0.mk (show g3 ≠ g8 ∧ g4 ≠ g8 ∧ g6 ≠ g8 from (by have h1 := blk_lt K3.out; have h2 := blk_lt K4.out; have h3 := blk_lt K6.out; omega)); have G8 := Aside0.mk (show w.heap.size ≤ g8 ∧ w2.heap.size ≤ g8 from (by have h1 := B2.out.size; omega)); have K8 := Aside0.mk hbox; replace K3 := Aside0.mk (blk_below K3.out hb); replace K4 := Aside0.mk (blk_below K4.out hb); replace K6 := Aside0.mk (blk_below K6.out hb); replace B2 := Aside0.mk (below_step B2.out hb); replace HP := Aside0.mk (Kd.R_below HP.out hb); clear hb hbox hg) | ((with_reducible refine gate_dst (N := 9) rfl ?_); refine box_event ?hg (N := 9) ?hd (cs := #[.bool false]) (t := 4) ?hr ?_; (case hd => rfl); (case hg => rfl); (case hr => first | (go_simp; done) | (go_simp; rfl)); intro g9 hg v9 hbox hb; have N9 := Aside0.mk (show g3 ≠ g9 ∧ g4 ≠ g9 ∧ g6 ≠ g9 ∧ g8 ≠ g9 from (by have h1 := blk_lt K3.out; have h2 := blk_lt K4.out; have h3 := blk_lt K6.out; have h4 := blk_lt K8.out; omega)); have G9 := Aside0.mk (show w.heap.size ≤ g9 ∧ w2.heap.size ≤ g9 from (by have h1 := B2.out.size; have h2 := G8.out.2; have h3 := blk_lt K8.out; omega)); have K9 := Aside0.mk hbox; replace K3 := Aside0.mk (blk_below K3.out hb); replace K4 := Aside0.mk (blk_below K4.out hb); replace K6 := Aside0.mk (blk_below K6.out hb); replace K8 := Aside0.mk (blk_below K8.out hb); replace B2 := Aside0.mk (below_step B2.out hb); replace HP := Aside0.mk (Kd.R_below HP.out hb); have hz8 : v9.cell? ⟨g8, 0, none⟩ = some (.slice none 0 0) := (blk_cell K8.out 0).trans rfl; have hf8 := blk_frozen K8.out 0; have hz9 : v9.cell? ⟨g9, 0, none⟩ = some (.bool false) := (blk_cell K9.out 0).trans rfl; have hf9 := blk_frozen K9.out 0; have hn89 : g8 ≠ g9 := N9.out.2.2.2; have hn98 : g9 ≠ g8 := Ne.symm hn89; clear hb hbox hg))
      clear hz8 hf8 hz9 hf9 hn89 hn98
      obtain ⟨w3, hw⟩ : ∃ x, x = (v9.setCell ⟨g8, 0, none⟩ (.slice Ap p.length cp)).setCell ⟨g9, 0, none⟩ (.bool true) := ⟨_, rfl⟩
      rw [← hw]
      replace K3 := Aside0.mk (show w3.heap[g3]? = some (.cells #[.slice A1 v.length c1] 34 (0, 0)) by rw [hw, Below.heap_setCell _ _ _ _ (by show g3 ≠ g9; exact N9.out.1), Below.heap_setCell _ _ _ _ (by show g3 ≠ g8; exact N8.out.1)]; exact K3.out)
      replace K4 := Aside0.mk (show w3.heap[g4]? = some (.cells #[.slice none 0 0] 26 (0, 0)) by rw [hw, Below.heap_setCell _ _ _ _ (by show g4 ≠ g9; exact N9.out.2.1), Below.heap_setCell _ _ _ _ (by show g4 ≠ g8; exact N8.out.2.1)]; exact K4.out)
      replace K6 := Aside0.mk (show w3.heap[g6]? = some (.cells #[.int .i64 q] 3 (0, 0)) by rw [hw, Below.heap_setCell _ _ _ _ (by show g6 ≠ g9; exact N9.out.2.2.1), Below.heap_setCell _ _ _ _ (by show g6 ≠ g8; exact N8.out.2.2)]; exact K6.out)
      replace K8 := Aside0.mk (show w3.heap[g8]? = some (.cells #[.slice Ap p.length cp] 34 (0, 0)) by rw [hw, Below.heap_setCell _ _ _ _ (by show g8 ≠ g9; exact N9.out.2.2.2)]; simpa using blk_set K8.out 0 (.slice Ap p.length cp))
      replace K9 := Aside0.mk (show w3.heap[g9]? = some (.cells #[.bool true] 4 (0, 0)) by
        rw [hw]
        have h := K9.out
        rw [← Below.heap_setCell v9 ⟨g8, 0, none⟩ (.slice Ap p.length cp) g9 (Ne.symm N9.out.2.2.2)] at h
        simpa using blk_set h 0 (.bool true))
      replace HP := Aside0.mk (show Kd.R (Kd.int .i64) 3 w3 w.heap.size (fun k => k < w2.heap.size) (.slice Ap p.length cp) p by
        rw [hw]
        exact Kd.R_far (p := ⟨g9, 0, none⟩) (Kd.R_far (p := ⟨g8, 0, none⟩) HP.out (fun k hk e => by have := G8.out.2; have e2 : k = g8 := e; omega) _) (fun k hk e => by have := G9.out.2; have e2 : k = g9 := e; omega) _)
      replace B2 := Aside0.mk (show Below w.heap.size w w3 by rw [hw]; exact (B2.out.setCell (p := ⟨g8, 0, none⟩) G8.out.1 _).setCell (p := ⟨g9, 0, none⟩) G9.out.1 _)
      clear hw K2
      have hz3 : w3.cell? ⟨g3, 0, none⟩ = some (.slice A1 v.length c1) := (blk_cell K3.out 0).trans rfl
      have DD := Aside0.mk (madeReflection_any (.pointer (some ⟨g3, 0, none⟩)) (.pointer (some ⟨g8, 0, none⟩)) (.pointer (some ⟨g9, 0, none⟩)) (.pointer (some ⟨g6, 0, none⟩)) v.length (refAt v p q) w w.heap.size g9 (fun i j => .cells #[.bool (refWh v p q v.length i j)] 4 (0, 0)) w3 HN4.out G9.out.1 (blk_lt K9.out) B2.out K9.out (fun i => by rw [refWh_next])
        (fun i j hi hj W hB hk hg => by
          rw [← refWh_step]
          exact reflection1_any w w.heap.size g3 g8 g9 g6 A1 c1 v Ap cp p q _ i j W hB G9.out.1 (HV.out W hB) (Kd.R_reads' (Kd.R_kept HP.out hk (fun k hk2 e => by have := G9.out.2; omega))).2.2
            (cell_kept ((blk_cell K3.out 0).trans rfl) hk N9.out.1) (cell_kept ((blk_cell K8.out 0).trans rfl) hk N9.out.2.2.2) hg (cell_kept ((blk_cell K6.out 0).trans rfl) hk N9.out.2.2.1) HQ.out hi (by rw [HPL.out]; exact hj) N9.out.2.2.1))
      rw [show rowsOf (refAt v p q) v.length v.length = refL v p q from rfl] at DD
      clear HP
      go_wp2_with fail
      clear hz3
      refine DD.out.mono ?_
      rintro e w5 ⟨v0, rfl, hS, hb, hk, hg⟩
      generalize refL v p q = P at hS HR
      generalize refWh v p q v.length v.length 0 = wb at hg HR
      obtain ⟨A3, c3, rfl, hl3, hC3⟩ := Kd.S_reads hS
      have L4 := Aside0.mk (blk_lt K4.out)
      replace K4 := Aside0.mk (blk_kept K4.out hk N9.out.2.1)
      replace K9 := Aside0.mk hg
      replace B2 := Aside0.mk hb
      have S5 := Aside0.mk (show Kd.S (Kd.slice 3 (Kd.int .i64)) 34 w5 w.heap.size (fun k => k < w5.heap.size ∧ k ≠ g4) (.slice A3 P.length c3) P from Kd.S_mono (Kd.S_bound hS) (fun k h1 => ⟨h1.2.2.1, fun e => by have h2 := h1.1; have h3 := L4.out; omega⟩))
      clear DD hS hb hk hg hl3 hC3 K3 K6 K8 HV HQ HPL HN4
      go_upto_region 6 with (first | ((with_reducible refine gate_dst (N := 10) rfl ?_); refine box_event ?hg (N := 10) ?hd (cs := #[.slice none 0 0]) (t := 26) ?hr ?_; (case hd => rfl); (case hg => rfl); (case hr => first | (go_simp; done) | (go_simp; rfl)); intro g10 hg v10 hbox hb; have N10 := Aside0.mk (show g4 ≠ g10 ∧ g9 ≠ g10 from (by have h1 := blk_lt K4.out; have h2 := blk_lt K9.out; omega)); have G10 := Aside0.mk (show w.heap.size ≤ g10 ∧ w5.heap.size ≤ g10 from (by have h1 := B2.out.size; omega)); have K10 := Aside0.mk hbox; replace K4 := Aside0.mk (blk_below K4.out hb); replace K9 := Aside0.mk (blk_below K9.out hb); replace B2 := Aside0.mk (below_step B2.out hb); replace S5 := Aside0.mk (Kd.S_below S5.out hb); have hz10 : v10.cell? ⟨g10, 0, none⟩ = some (.slice none 0 0) := (blk_cell K10.out 0).trans rfl; have hf10 := blk_frozen K10.out 0; clear hb hbox hg))
      clear hz10 hf10
      obtain ⟨w6, hw⟩ : ∃ x, x = v10.setCell ⟨g10, 0, none⟩ (.slice A3 P.length c3) := ⟨_, rfl⟩
      rw [← hw]
      replace K4 := Aside0.mk (show w6.heap[g4]? = some (.cells #[.slice none 0 0] 26 (0, 0)) by rw [hw, Below.heap_setCell _ _ _ _ (by show g4 ≠ g10; exact N10.out.1)]; exact K4.out)
      replace K9 := Aside0.mk (show w6.heap[g9]? = some (.cells #[.bool wb] 4 (0, 0)) by rw [hw, Below.heap_setCell _ _ _ _ (by show g9 ≠ g10; exact N10.out.2)]; exact K9.out)
      replace K10 := Aside0.mk (show w6.heap[g10]? = some (.cells #[.slice A3 P.length c3] 26 (0, 0)) by rw [hw]; simpa using blk_set K10.out 0 (.slice A3 P.length c3))
      replace S5 := Aside0.mk (show Kd.S (Kd.slice 3 (Kd.int .i64)) 34 w6 w.heap.size (fun k => k ≠ g4) (.slice A3 P.length c3) P by
        rw [hw]
        exact Kd.S_mono (Kd.S_far (p := ⟨g10, 0, none⟩) S5.out (fun k hk e => by have := G10.out.2; have e2 : k = g10 := e; omega) _) (fun k hk => hk.2))
      replace B2 := Aside0.mk (show Below w.heap.size w w6 by rw [hw]; exact B2.out.setCell (p := ⟨g10, 0, none⟩) G10.out.1 _)
      clear hw
      have hR := HR.out
      have hz9 : w6.cell? ⟨g9, 0, none⟩ = some (.bool wb) := (blk_cell K9.out 0).trans rfl
      cases wb with
      | false =>
        rw [if_neg (by simp)] at hR
        obtain ⟨rfl, rfl⟩ := Prod.mk.inj hR
        have hz4 : w6.cell? ⟨g4, 0, none⟩ = some (.slice none 0 0) := (blk_cell K4.out 0).trans rfl
        have hf4 := blk_frozen K4.out 0
        have Y := Aside0.mk (B2.out.setCell (p := ⟨g4, 0, none⟩) G4.out (.slice none 0 0))
        have HB0 := Aside0.mk (show (w6.setCell ⟨g4, 0, none⟩ (.slice none 0 0)).heap[g4]? = some (.cells #[.slice none 0 0] 26 (0, 0)) by simpa using blk_set K4.out 0 (.slice none 0 0))
        clear hR HR K4 K9 K10 B2 S5
        go_wp2
        refine bodyPost_ret (results_ct rfl _ _ g4 26 #[.slice none 0 0] (0, 0) _ rfl HB0.out Try.underlying26 rfl (by kernel_rfl)) rfl ?_
        exact ⟨_, rfl, Kd.S_nil _ _ _ _ _, Y.out⟩
      | true =>
        rw [if_pos rfl] at hR
        replace HR := Aside0.mk hR
        have hz10 : w6.cell? ⟨g10, 0, none⟩ = some (.slice A3 P.length c3) := (blk_cell K10.out 0).trans rfl
        obtain ⟨bP, hm⟩ : ∃ x, x = isMat P := ⟨_, rfl⟩
        obtain ⟨u, hu2⟩ : ∃ x, x = (if bP = true then Value.slice A3 P.length c3 else .slice none 0 0) := ⟨_, rfl⟩
        have C6 := Aside0.mk (checked_any A3 c3 P w6 (Kd.S_reads' S5.out).2.2 bP u hm.symm hu2.symm)
        have HU := Aside0.mk hu2
        have HM := Aside0.mk hm
        clear hu2 hm hR
        go_wp2_with fail
        clear hz9 hz10
        refine C6.out.mono ?_
        rintro e w10 ⟨rfl, hb⟩
        replace K4 := Aside0.mk (blk_below K4.out hb)
        replace B2 := Aside0.mk (below_step B2.out hb)
        have S7 := Aside0.mk (Kd.S_below S5.out hb)
        have hz4 : w10.cell? ⟨g4, 0, none⟩ = some (.slice none 0 0) := (blk_cell K4.out 0).trans rfl
        have hf4 := blk_frozen K4.out 0
        clear hb C6 S5 K9 K10
        have hR := HR.out
        rw [← HM.out] at hR
        clear HM HR
        cases bP with
        | false =>
          obtain rfl := HU.out
          rw [if_neg (by simp)] at hR
          obtain ⟨rfl, rfl⟩ := Prod.mk.inj hR
          clear hR HU
          have Y := Aside0.mk (B2.out.setCell (p := ⟨g4, 0, none⟩) G4.out (.slice none 0 0))
          have HB0 := Aside0.mk (show (w10.setCell ⟨g4, 0, none⟩ (.slice none 0 0)).heap[g4]? = some (.cells #[.slice none 0 0] 26 (0, 0)) by simpa using blk_set K4.out 0 (.slice none 0 0))
          clear K4 B2 G4 S7
          go_wp2
          refine bodyPost_ret (results_ct rfl _ _ g4 26 #[.slice none 0 0] (0, 0) _ rfl HB0.out Try.underlying26 rfl (by kernel_rfl)) rfl ?_
          exact ⟨_, rfl, Kd.S_nil _ _ _ _ _, Y.out⟩
        | true =>
          obtain rfl := HU.out
          rw [if_pos rfl] at hR
          obtain ⟨rfl, rfl⟩ := Prod.mk.inj hR
          clear hR HU
          have Y := Aside0.mk (show Kd.S (Kd.slice 3 (Kd.int .i64)) 34 (w10.setCell ⟨g4, 0, none⟩ (.slice A3 P.length c3)) w.heap.size (fun _ => True) (.slice A3 P.length c3) P ∧ Below w.heap.size w (w10.setCell ⟨g4, 0, none⟩ (.slice A3 P.length c3)) from
            ⟨Kd.S_mono (Kd.S_far (p := ⟨g4, 0, none⟩) S7.out (fun k hk => hk) _) (fun _ _ => trivial), B2.out.setCell (p := ⟨g4, 0, none⟩) G4.out _⟩)
          have HB0 := Aside0.mk (show (w10.setCell ⟨g4, 0, none⟩ (.slice A3 P.length c3)).heap[g4]? = some (.cells #[.slice A3 P.length c3] 26 (0, 0)) by simpa using blk_set K4.out 0 (.slice A3 P.length c3))
          clear K4 B2 G4 S7
          generalize P.length = m at Y HB0 hz4 ⊢
          go_wp2
          refine bodyPost_ret (results_ct rfl _ _ g4 26 #[.slice A3 m c3] (0, 0) _ rfl HB0.out Try.underlying26 rfl (by kernel_rfl)) rfl ?_
          exact ⟨_, rfl, Y.out⟩
end Go.Proofs.Ytldkkfpodldbgaa.G
