/- impl.allSquares: all lists that squares visits. -/
import Derived.Test.YtokachiofpfagaaGSquaresAll
import Derived.Test.YtokachiofpfagaaGFirst
namespace Go.Proofs.Ytokachiofpfagaa.G
open Go.RowKit Go.Proofs.YtokachiofpfagaaW.PrintWords Go.Proofs.YtokachiofpfagaaW.PrintLast Go.Proofs.YtokachiofpfagaaW.PrintMore
set_option linter.unusedVariables false
set_option linter.unusedSimpArgs false

/-- At most 5000000000000 lists: more than any call makes. -/
def allStep (s : List (List Int)) (xs : List Int) : Option (List (List Int) × Bool) := if s.length < 5000000000000 then some (s ++ [xs], false) else none
/-- The captured variable's block holds a row of rows that reads so. -/
def AllInv (B : Nat) (w0 : World) (s : List (List Int)) (W : World) (ok : Nat → Prop) : Prop :=
  ∃ u : Value, W.heap[B]? = some (.cells #[u] 30 (0, 0)) ∧ ok B ∧ Kd.S (Kd.slice 3 (Kd.int .i64)) 22 W w0.heap.size (fun k => ok k ∧ k ≠ B) u s

theorem ainfo : (Try.prog.info? 22).map (fun i => (i.zero, i.size, i.bytes)) = some (some (.slice none 0 0), 1, 24) := by kernel_rfl

theorem all_call (B : Nat) (w0 W : World) (s : List (List Int)) (ok : Nat → Prop) (u v : Value) (xs : List Int) (hB : w0.heap.size ≤ B) (h : W.heap[B]? = some (.cells #[u] 30 (0, 0))) (hokB : ok B)
    (hS : Kd.S (Kd.slice 3 (Kd.int .i64)) 22 W w0.heap.size (fun k => ok k ∧ k ≠ B) u s) (hl : s.length < 5000000000000) (hb : Below w0.heap.size w0 W)
    (hR : Kd.R (Kd.int .i64) 3 W w0.heap.size (fun k => ¬ ok k) v xs) :
    Calls Try.prog 111 #[v, .pointer (some ⟨B, 0, none⟩)] W fun e W' => e = .returned (.bool false) ∧ Below w0.heap.size w0 W' ∧ Kept W W' ok ∧
      AllInv B w0 (s ++ [xs]) W' (fun k => ok k ∨ W.heap.size ≤ k ∨ v.ownBlock = some k) := by
  have hne := hR.1
  have hub := (Kd.S_R hS).1
  have hBl := blk_lt h
  have hM := Aside0.mk (Kd.M_row (Kd.R_tight rfl hR))
  have hokp := Aside0.mk (show ∀ k, some k = v.ownBlock → ((ok k ∨ W.heap.size ≤ k ∨ v.ownBlock = some k) ∧ k ≠ B) ∧ some k ≠ u.ownBlock from
    fun k hk => ⟨⟨.inr (.inr hk.symm), fun he => hne k hk.symm (by rw [he]; exact hokB)⟩, fun he => hne k hk.symm (hub k he.symm).1⟩)
  have hfr := Aside0.mk (show ∀ k, W.heap.size ≤ k → (ok k ∨ W.heap.size ≤ k ∨ v.ownBlock = some k) ∧ k ≠ B from fun k hk => ⟨.inr (.inl hk), by omega⟩)
  have hSa := Aside0.mk (Kd.S_mono (ok' := fun k => ((ok k ∨ W.heap.size ≤ k ∨ v.ownBlock = some k) ∧ k ≠ B) ∧ ¬ some k = v.ownBlock) hS (fun k hk => ⟨⟨.inl hk.1, hk.2⟩, fun he => hne k he.symm hk.1⟩))
  have hBu := Aside0.mk (show some B ≠ u.ownBlock from fun he => (hub B he.symm).2 rfl)
  have hKu := Aside0.mk (show ∀ k, u.ownBlock = some k → ok k from fun k hk => (hub k hk).1)
  obtain ⟨A, c, rfl⟩ := Kd.R_slice hR
  obtain ⟨A2, c2, hu⟩ := Kd.S_slice hS
  have hc : W.cell? ⟨B, 0, none⟩ = some u := (blk_cell h 0).trans rfl
  rw [hu] at hc
  have hf : W.frozen? ⟨B, 0, none⟩ = false := blk_frozen h 0
  have HB := Aside0.mk hb
  have HH := Aside0.mk h
  have HL := Aside0.mk hl
  clear hne hub hS hR h hb hl
  rw [hu] at hSa hBu hKu hokp
  clear hu
  go_enter Try.func111, Try.ntmps111
  go_wp2_with (at_builtin; refine Kd.S_append (Kd.slice 3 (Kd.int .i64)) (w0 := w0) w0.heap.size rfl _ _ 30 22 (.slice none 0 0) 24 rfl Try.underlying30 ainfo rfl (by decide) (by decide) (.slice A2 s.length c2) s xs [.slice A xs.length c] (fun k => (ok k ∨ W.heap.size ≤ k ∨ (Value.slice A xs.length c).ownBlock = some k) ∧ k ≠ B) (fun k => some k = (Value.slice A xs.length c).ownBlock) rfl rfl hM.out hokp.out hfr.out hSa.out HB.out HB.out.size (by have := HL.out; omega) ?_)
  intro v1 w1 hS1 hb1 hg1 hat1
  have h1 : w1.heap[B]? = some (.cells #[u] 30 (0, 0)) := blk_grown HH.out hg1 hBu.out
  have hc1 : w1.cell? ⟨B, 0, none⟩ = some u := (blk_cell h1 0).trans rfl
  have hf1 : w1.frozen? ⟨B, 0, none⟩ = false := blk_frozen h1 0
  have X := Aside0.mk (show Below w0.heap.size w0 (w1.setCell ⟨B, 0, none⟩ v1) ∧ Kept W (w1.setCell ⟨B, 0, none⟩ v1) ok ∧
      AllInv B w0 (s ++ [xs]) (w1.setCell ⟨B, 0, none⟩ v1) (fun k => ok k ∨ W.heap.size ≤ k ∨ (Value.slice A xs.length c).ownBlock = some k) from
    ⟨hb1.setCell hB _, (Kept.of_grown hg1 (Kept.refl W ok) (fun k hk => .inl (hKu.out k hk))).setCell (p := ⟨B, 0, none⟩) (.inl hokB) _, v1, by simpa using blk_set h1 0 v1, .inl hokB,
      Kd.S_far (p := ⟨B, 0, none⟩) hS1 (fun k hk => hk.2) v1⟩)
  obtain ⟨A3, c3, hv1⟩ := Kd.S_slice hS1
  generalize (s ++ [xs]).length = m at hv1
  subst hv1
  clear hS1 hb1 hg1 hat1 h1 HH hc hf
  go_wp2
  go_ret
  exact ⟨rfl, X.out⟩

theorem all_vis (B : Nat) (w0 : World) (hB : w0.heap.size ≤ B) : Vis 111 B w0 (AllInv B w0) allStep where
  mono := fun s W ok ok' ⟨u, h1, h2, h3⟩ hok => ⟨u, h1, hok _ h2, Kd.S_mono h3 (fun k hk => ⟨hok k hk.1, hk.2⟩)⟩
  bound := fun s W ok ⟨u, h1, h2, h3⟩ => ⟨u, h1, ⟨h2, blk_lt h1⟩, Kd.S_mono (Kd.S_bound h3) (fun k hk => ⟨⟨hk.1.1, hk.2.2.1⟩, hk.1.2⟩)⟩
  move := fun s W W' ok ⟨u, h1, h2, h3⟩ hm => ⟨u, (hm _ h2).trans h1, h2, Kd.S_move h3 (fun k hk => hm k hk.1)⟩
  call := fun s xs q W ok v hs ⟨u, h1, h2, h3⟩ hb hok hR => by
    unfold allStep at hs
    split at hs
    · rename_i hl
      obtain rfl := Option.some.inj hs
      exact all_call B w0 W s ok u v xs hB h1 h2 h3 hl hb hR
    · cases hs

def allF (RF : Nat → Int → Option Int) (k : Nat) (parts n : Int) : Option (List (List Int)) := (sqF RF allStep k [] parts n n []).map (·.1)

theorem all_any {RF : Nat → Int → Option Int}
    (hroot : ∀ k n r W, RF k n = some r → Calls Try.prog 117 #[.int .i64 n] W fun e W' => e = .returned (.int .i64 r) ∧ Drawn0 W W')
    (k : Nat) (parts n : Int) (r : List (List Int)) (w : World) (h : allF RF k parts n = some r) :
    Calls Try.prog 78 #[.int .i64 parts, .int .i64 n] w fun e w' => ∃ v0_ : Value, e = .returned v0_ ∧ Kd.S (Kd.slice 3 (Kd.int .i64)) 22 w' w.heap.size (fun _ => True) v0_ r ∧ Below w.heap.size w w' := by
  have hmf : ∀ (fn : Fn) (first cap : Array Value) (w : World), (Instr.makeFunc fn first cap).run Try.prog w = .ok (.func fn first cap) w := fun _ _ _ _ => rfl
  obtain ⟨⟨q1, q2⟩, hq, rfl⟩ := Option.map_eq_some_iff.mp h
  have CC := Aside0.mk (fun (W : World) (hb : Below w.heap.size w W) (hi : AllInv (w.heap.size + 1) w [] W (fun k => w.heap.size ≤ k ∧ k ≤ w.heap.size + 1)) =>
    squares_all hroot (all_vis (w.heap.size + 1) w (by omega)) k (.slice none 0 0) [] parts n n [] (q1, q2) (fun k => w.heap.size ≤ k ∧ k ≤ w.heap.size + 1) W hq (by simp) hb ⟨by simp [nums], .inl ⟨rfl, rfl⟩⟩ hi (fun b hb => by simp [Value.ownBlock] at hb) (fun b hb => hb.1))
  clear h hroot hq
  go_enter Try.func78, Try.ntmps78
  go_wp2_with fail
  have hown : (w.alloc (.cells #[] 22)).ownsRow w.heap.size 22 1 (.slice (some ⟨w.heap.size, 0, none⟩) 0 0) 0 [] := own_lit w w.heap.size 22 .i64 [] (Nat.le_refl _) (by simp)
  refine (CC.out _ (((Below.refl w.heap.size w).alloc (Nat.le_refl _) _).alloc (by simp) _) ⟨.slice (some ⟨w.heap.size, 0, none⟩) 0 0, by simpa using heap_alloc_new (w.alloc (.cells #[] 22)) (.cells #[.slice (some ⟨w.heap.size, 0, none⟩) 0 0] 30), ⟨by omega, by omega⟩,
    fun _ => 0, fun k hk => ?_, [], hown.alloc _, Reps.none _ _⟩).mono ?_
  · have : w.heap.size = k := by simpa [Value.ownBlock] using hk
    omega
  rintro e W' ⟨rfl, hP⟩
  obtain ⟨u, h1, _, h3⟩ := hP.inv
  have hc : W'.cell? ⟨w.heap.size + 1, 0, none⟩ = some u := (blk_cell h1 0).trans rfl
  have HB := Aside0.mk hP.below
  have H3 := Aside0.mk h3
  clear hP h1 h3 CC hown
  go_wp2
  go_ret
  exact ⟨u, rfl, Kd.S_mono H3.out (fun _ _ => trivial), HB.out⟩
theorem all_mono {RF : Nat → Int → Option Int} (hR : ∀ n k, LeO (RF k n) (RF (k + 1) n)) (parts n : Int) (k : Nat) : LeO (allF RF k parts n) (allF RF (k + 1) parts n) := by
  intro r hr
  obtain ⟨q, hq, rfl⟩ := Option.map_eq_some_iff.mp hr
  exact Option.map_eq_some_iff.mpr ⟨q, (sq_mono hR allStep k).1 _ _ _ _ _ q hq, rfl⟩
end Go.Proofs.Ytokachiofpfagaa.G
