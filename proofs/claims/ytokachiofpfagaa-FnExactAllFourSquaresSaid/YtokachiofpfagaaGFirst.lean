/- impl.firstSquares: the first list that squares visits. -/
import Derived.Test.YtokachiofpfagaaGSquaresFirst
namespace Go.Proofs.Ytokachiofpfagaa.G
open Go.RowKit Go.Proofs.YtokachiofpfagaaW.PrintWords Go.Proofs.YtokachiofpfagaaW.PrintLast Go.Proofs.YtokachiofpfagaaW.PrintMore
set_option linter.unusedVariables false
set_option linter.unusedSimpArgs false

def firstStep (_ : List Int) (xs : List Int) : Option (List Int × Bool) := some (xs, true)
/-- The captured variable's block holds a row that reads so. -/
def FirstInv (B : Nat) (w0 : World) (s : List Int) (W : World) (ok : Nat → Prop) : Prop :=
  ∃ u : Value, W.heap[B]? = some (.cells #[u] 22 (0, 0)) ∧ ok B ∧ Kd.R (Kd.int .i64) 3 W w0.heap.size (fun k => ok k ∧ k ≠ B) u s

theorem first_call (B : Nat) (W : World) (u v : Value) (h : W.heap[B]? = some (.cells #[u] 22 (0, 0))) (hv : ∃ A n c, v = .slice A n c) :
    Calls Try.prog 107 #[v, .pointer (some ⟨B, 0, none⟩)] W fun e W' => e = .returned (.bool true) ∧ W' = W.setCell ⟨B, 0, none⟩ v := by
  obtain ⟨A, n, c, rfl⟩ := hv
  have hc : W.cell? ⟨B, 0, none⟩ = some u := (blk_cell h 0).trans rfl
  have hf : W.frozen? ⟨B, 0, none⟩ = false := blk_frozen h 0
  clear h
  go_enter Try.func107, Try.ntmps107
  go_wp2
  go_ret
  exact ⟨rfl, rfl⟩

theorem first_vis (B : Nat) (w0 : World) (hB : w0.heap.size ≤ B) : Vis 107 B w0 (FirstInv B w0) firstStep where
  mono := fun s W ok ok' ⟨u, h1, h2, h3⟩ hok => ⟨u, h1, hok _ h2, Kd.R_mono h3 (fun k hk => ⟨hok k hk.1, hk.2⟩)⟩
  bound := fun s W ok ⟨u, h1, h2, h3⟩ => ⟨u, h1, ⟨h2, blk_lt h1⟩, Kd.R_mono (Kd.R_bound h3) (fun k hk => ⟨⟨hk.1.1, hk.2.2.1⟩, hk.1.2⟩)⟩
  move := fun s W W' ok ⟨u, h1, h2, h3⟩ hm => ⟨u, (hm _ h2).trans h1, h2, Kd.R_move h3 (fun k hk => hm k hk.1)⟩
  call := fun s xs q W ok v hs ⟨u, h1, h2, h3⟩ hb hok hR => by
    obtain rfl := Option.some.inj hs
    obtain ⟨A, c, hv⟩ := Kd.R_slice hR
    refine (first_call B W u v h1 ⟨_, _, _, hv⟩).mono fun e W' ⟨he, hW⟩ => ?_
    subst he hW
    refine ⟨rfl, hb.setCell hB _, (Kept.refl W ok).setCell (p := ⟨B, 0, none⟩) (.inl h2) _, v, by simpa using blk_set h1 0 v, .inl h2, ?_⟩
    have hne := hR.1
    refine Kd.R_mono (Kd.R_far (p := ⟨B, 0, none⟩) (Kd.R_tight rfl hR) (fun k hk he => hne k hk.symm (by rw [he]; exact h2)) v) (fun k hk => ⟨.inr (.inr hk.symm), fun he => hne k hk.symm (by rw [he]; exact h2)⟩)

def firstF (RF : Nat → Int → Option Int) (k : Nat) (parts n : Int) : Option (List Int × Bool) := sqF RF firstStep k [] parts n n []

theorem first_any {RF : Nat → Int → Option Int}
    (hroot : ∀ k n r W, RF k n = some r → Calls Try.prog 117 #[.int .i64 n] W fun e W' => e = .returned (.int .i64 r) ∧ Drawn0 W W')
    (k : Nat) (parts n : Int) (r1 : List Int) (r2 : Bool) (w : World) (h : firstF RF k parts n = some (r1, r2)) :
    Calls Try.prog 72 #[.int .i64 parts, .int .i64 n] w fun e w' => ∃ v0_ : Value, e = .returned (.tuple #[v0_, .bool r2]) ∧ Kd.R (Kd.int .i64) 3 w' w.heap.size (fun _ => True) v0_ r1 ∧ Below w.heap.size w w' := by
  have hmf : ∀ (fn : Fn) (first cap : Array Value) (w : World), (Instr.makeFunc fn first cap).run Try.prog w = .ok (.func fn first cap) w := fun _ _ _ _ => rfl
  have CC := Aside0.mk (fun (W : World) (hb : Below w.heap.size w W) (hi : FirstInv w.heap.size w [] W (fun k => k = w.heap.size)) =>
    squares_first hroot (first_vis w.heap.size w (Nat.le_refl _)) k (.slice none 0 0) [] parts n n [] (r1, r2) (fun k => k = w.heap.size) W h (by simp) hb ⟨by simp [nums], .inl ⟨rfl, rfl⟩⟩ hi (fun b hb => by simp [Value.ownBlock] at hb) (fun b hb => by omega))
  clear h hroot
  go_enter Try.func72, Try.ntmps72
  go_wp2_with fail
  refine (CC.out _ ((Below.refl w.heap.size w).alloc (Nat.le_refl _) _) ⟨.slice none 0 0, heap_alloc_new w _, rfl, Kd.R_nil _ _ _ _ _⟩).mono ?_
  rintro e W' ⟨rfl, hP⟩
  obtain ⟨u, h1, _, h3⟩ := hP.inv
  have hc : W'.cell? ⟨w.heap.size, 0, none⟩ = some u := (blk_cell h1 0).trans rfl
  have HB := Aside0.mk hP.below
  have H3 := Aside0.mk h3
  clear hP h1 h3 CC
  go_wp2
  go_ret2
  exact ⟨u, rfl, Kd.R_mono H3.out (fun _ _ => trivial), HB.out⟩

theorem sq_mono {RF : Nat → Int → Option Int} (hR : ∀ n k, LeO (RF k n) (RF (k + 1) n)) {σ : Type} (step : σ → List Int → Option (σ × Bool)) :
    ∀ k, (∀ xs parts most n s, LeO (sqF RF step k xs parts most n s) (sqF RF step (k + 1) xs parts most n s)) ∧ (∀ xs parts n a s, LeO (sqL RF step k xs parts n a s) (sqL RF step (k + 1) xs parts n a s))
  | 0 => ⟨fun xs parts most n s r h => by simp [sqF] at h, fun xs parts n a s r h => by simp [sqL] at h⟩
  | k + 1 => by
    obtain ⟨h1, h2⟩ := sq_mono hR step k
    constructor
    · intro xs parts most n s
      rw [sqF, sqF]
      exact LeO.ite (LeO.refl _) (LeO.bind (hR n k) (fun r => h2 _ _ _ _ _))
    · intro xs parts n a s
      rw [sqL, sqL]
      exact LeO.ite (LeO.ite (LeO.ite (LeO.bind (h1 _ _ _ _ _) (fun q => LeO.ite (LeO.refl _) (h2 _ _ _ _ _))) (LeO.refl _)) (LeO.refl _)) (LeO.refl _)
theorem first_mono {RF : Nat → Int → Option Int} (hR : ∀ n k, LeO (RF k n) (RF (k + 1) n)) (parts n : Int) (k : Nat) : LeO (firstF RF k parts n) (firstF RF (k + 1) parts n) :=
  (sq_mono hR firstStep k).1 _ _ _ _ _
end Go.Proofs.Ytokachiofpfagaa.G
