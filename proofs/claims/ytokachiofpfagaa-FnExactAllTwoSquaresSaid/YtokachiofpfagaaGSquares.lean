/- impl.squares, visiting lists of numbers with a sum of squares, for whatever closure visits: what it comes to. -/
import Derived.Test.YtokachiofpfagaaGClone
import Derived.Test.YtokachiofpfagaaWKept
import Derived.Test.YtokachiofpfagaaWMore
namespace Go.Proofs.Ytokachiofpfagaa.G
open Go.RowKit Go.Proofs.YtokachiofpfagaaW.PrintWords Go.Proofs.YtokachiofpfagaaW.PrintLast Go.Proofs.YtokachiofpfagaaW.PrintMore
set_option linter.unusedVariables false
attribute [local go_sem] max2_int min2_int max_two min_two max_three min_three max_four min_four

/-! ### the plain function -/
section
variable (RF : Nat → Int → Option Int) {σ : Type} (step : σ → List Int → Option (σ × Bool))
mutual
def sqF : Nat → List Int → Int → Int → Int → σ → Option (σ × Bool)
  | 0, _, _, _, _, _ => none
  | k + 1, xs, parts, most, n, s => if parts = 0 then (if n = 0 then step s xs else some (s, false)) else ((RF k n).bind fun r => sqL k xs parts n (mn most r) s)
def sqL : Nat → List Int → Int → Int → Int → σ → Option (σ × Bool)
  | 0, _, _, _, _, _ => none
  | k + 1, xs, parts, n, a, s => if 0 ≤ a then (if n ≤ wrap64 (wrap64 (parts * a) * a) then
      (if xs.length < 100 then ((sqF k (xs ++ [a]) (wrap64 (parts - 1)) a (wrap64 (n - wrap64 (a * a))) s).bind fun q => if q.2 = true then some (q.1, true) else sqL k xs parts n (wrap64 (a - 1)) q.1) else none)
      else some (s, false)) else some (s, false)
end
end

/-! ### append onto a row whose former value is used again -/
theorem own_prefix {W : World} {base e g n m cap : Nat} {xs ys : List Value} (h : W.ownsRow base e 1 (.slice (some ⟨g, 0, none⟩) m cap) m (xs ++ ys)) (hn : xs.length = n) : W.ownsRow base e 1 (.slice (some ⟨g, 0, none⟩) n cap) n xs := by
  obtain ⟨h1, h2⟩ := h
  rcases h2 with ⟨hv, _⟩ | ⟨g', cap', cur, hv, hb, hh, hnc, hcm, hcs, ht⟩
  · cases hv
  · injection hv with ha hb2 hc2
    injection ha with ha
    injection ha with ha
    subst ha hc2
    rw [List.length_append] at h1
    refine ⟨by omega, .inr ⟨g, cap, cur, rfl, hb, hh, by omega, hcm, hcs, ?_⟩⟩
    have h3 : (cur.toList.take (m * 1)).take n = (xs ++ ys).take n := by rw [ht]
    rw [List.take_take, Nat.min_eq_left (by omega)] at h3
    rw [Nat.mul_one, h3, List.take_left' hn]

section
variable {P : Program} {ops : Array Oper} {rest : List Oper} {o : Oper} {a : Act} {Q : Exit → Act → World → Prop}
theorem append_keep {W : World} (base : Nat) (hgd : o.guard = none) (s x : Operand) (t e : TypeId) (k : IntKind) (bytes : Nat)
    (ho : o.op = .call { callee := .builtin .append, args := #[s, x], argTypes := #[t, t] })
    (ht : P.underlying t = some (.slice e)) (hinfo : (P.info? e).map (fun i => (i.zero, i.size, i.bytes)) = some (some (.int k 0), 1, bytes)) (hb0 : 0 < bytes)
    (v : Value) (xs : List Int) (y : Int) (hs : a.eval s = v) (hx : a.eval x = .slice (some ⟨W.heap.size, 0, none⟩) 1 1)
    (HO : W.ownsRow base e 1 v xs.length (nums k xs)) (hbase : base ≤ W.heap.size) (hl : (xs.length + 1) * bytes ≤ 140737488355328)
    (h : ∀ v1 w1, w1.ownsRow base e 1 v1 (xs ++ [y]).length (nums k (xs ++ [y])) → w1.ownsRow base e 1 v xs.length (nums k xs) → W.grownBy w1 v.ownBlock → (v1.ownBlock = v.ownBlock ∨ ∃ b, v1.ownBlock = some b ∧ W.heap.size ≤ b) →
      (∀ W' : World, W'.ownsRow base e 1 v1 (xs ++ [y]).length (nums k (xs ++ [y])) → v1.ownBlock = v.ownBlock → W'.ownsRow base e 1 v xs.length (nums k xs)) → wpList P ops Q rest (a.put o.dst v1) w1) :
    wpList P ops Q (o :: rest) a (W.alloc (.cells #[.int k y] e)) := by
  obtain ⟨i0, hi, hzz⟩ := Option.map_eq_some_iff.1 hinfo
  simp only [Prod.mk.injEq] at hzz
  obtain ⟨hz0, hz1, hz2⟩ := hzz
  have hlen : xs.length + 1 ≤ 140737488355328 := Nat.le_trans (Nat.le_mul_of_pos_right _ hb0) hl
  have hnews : ∀ j u, [Value.int k y][j]? = some u → (W.alloc (.cells #[.int k y] e)).cell? ((⟨W.heap.size, 0, none⟩ : Addr).add j) = some u := by
    have := World.news_of_block (cs := #[Value.int k y]) (t := e) (fr := (0, 0)) (heap_alloc_new W (.cells #[.int k y] e))
    simpa using this
  have hone : ∀ u ∈ [Value.int k y], u.oneCell' = true := by intro u hu; simp at hu; subst hu; rfl
  have hg0 := World.grownBy_alloc W (.cells #[.int k y] e) none
  have HO1 := HO.alloc (.cells #[.int k y] e)
  have en : nums k xs ++ [Value.int k y] = nums k (xs ++ [y]) := by simp [nums]
  have el : (xs ++ [y]).length = xs.length + 1 := by simp
  rcases HO.2 with ⟨rfl, hn0⟩ | ⟨g, cap, cur, rfl, hg, hh, hnc, hcm, hcs, htk⟩
  · have hx0 : xs = [] := List.eq_nil_of_length_eq_zero hn0
    subst hx0
    refine wpList_append_grows (W.alloc (.cells #[.int k y] e)) hgd s x t ho e i0 (.int k 0) 1 bytes ht hi hz0 hz1 hz2 rfl (by omega) none 0 0 [] hs (fun _ => ⟨rfl, rfl⟩) (by simp) (fun b hb => by cases hb)
      ⟨W.heap.size, 0, none⟩ 1 1 [.int k y] hx rfl hnews hone (by omega) (by simp only [maxLen]; omega) (by simpa using hl) ?_
    intro v1 w1 hown hgr
    refine h v1 w1 ?_ ⟨by simp [nums], .inl ⟨rfl, rfl⟩⟩ ⟨hgr.os.trans hg0.os, hgr.tape, hgr.output.trans hg0.output, Nat.le_trans (by simp) hgr.size, fun i hi hr => (hgr.block i (by simp; omega) (by simp)).trans (Below.heap_alloc W _ i hi)⟩ ?_ (fun W' _ _ => ⟨by simp [nums], .inl ⟨rfl, rfl⟩⟩)
    · exact own_weaken (show w1.ownsRow (W.alloc (.cells #[.int k y] e)).heap.size e 1 v1 ([] ++ [y]).length (nums k ([] ++ [y])) from hown) (by simp; omega)
    · rcases hown.2 with ⟨rfl, h0⟩ | ⟨g', cap', cur', rfl, hg', _⟩
      · exact .inl rfl
      · exact .inr ⟨g', rfl, by simp at hg'; omega⟩
  · by_cases hfit : xs.length + 1 ≤ cap
    · refine wpList_append_fits (W.alloc (.cells #[.int k y] e)) hgd s x t ho base e i0 1 ht hi hz1 g xs.length cap (nums k xs) hs HO1 ⟨W.heap.size, 0, none⟩ 1 1 [.int k y] hx rfl hnews hone hfit ?_
      intro w1 hown hgr
      rw [en] at hown
      have hgl : g < W.heap.size := blk_lt hh
      refine h _ w1 (by rw [el]; exact hown) (own_prefix (by rw [← en] at hown; exact hown) (by simp [nums])) ⟨hgr.os.trans hg0.os, hgr.tape, hgr.output.trans hg0.output, Nat.le_trans (by simp) hgr.size, fun i hi hr => (hgr.block i (by simp; omega) hr).trans (Below.heap_alloc W _ i hi)⟩ (.inl rfl) (fun W' hW _ => ?_)
      rw [el, ← en] at hW
      exact own_prefix hW (by simp [nums])
    · refine wpList_append_grows (W.alloc (.cells #[.int k y] e)) hgd s x t ho e i0 (.int k 0) 1 bytes ht hi hz0 hz1 hz2 rfl (by omega) (some ⟨g, 0, none⟩) xs.length cap (nums k xs) hs (fun h => by cases h) (by simp [nums]) (fun b hb j u hu => ?_)
        ⟨W.heap.size, 0, none⟩ 1 1 [.int k y] hx rfl hnews hone (by omega) (by simp only [maxLen]; omega) hl ?_
      · injection hb with hb
        subst hb
        exact HO1.cells (g := g) rfl j u hu
      · intro v1 w1 hown hgr
        have hgl : g < W.heap.size := blk_lt hh
        refine h v1 w1 ?_ (own_other HO1 hgr (.inr (by simp [Value.ownBlock]))) ⟨hgr.os.trans hg0.os, hgr.tape, hgr.output.trans hg0.output, Nat.le_trans (by simp) hgr.size, fun i hi hr => (hgr.block i (by simp; omega) (by simp)).trans (Below.heap_alloc W _ i hi)⟩ ?_ (fun W' hW he => ?_)
        · rw [en] at hown
          rw [el]
          exact own_weaken hown (by simp; omega)
        · rcases hown.2 with ⟨rfl, h0⟩ | ⟨g', cap', cur', rfl, hg', _⟩
          · omega
          · exact .inr ⟨g', rfl, by simp at hg'; omega⟩
        · rcases hown.2 with ⟨rfl, h0⟩ | ⟨g', cap', cur', rfl, hg', _⟩
          · omega
          · simp [Value.ownBlock] at he
            simp at hg'
            omega
end

/-! ### what is asked of a visitor that captures the variable in block B -/
structure Vis (g B : Nat) {σ : Type} (w0 : World) (Inv : σ → World → (Nat → Prop) → Prop) (step : σ → List Int → Option (σ × Bool)) : Prop where
  mono : ∀ s W (ok ok' : Nat → Prop), Inv s W ok → (∀ k, ok k → ok' k) → Inv s W ok'
  bound : ∀ s W (ok : Nat → Prop), Inv s W ok → Inv s W (fun k => ok k ∧ k < W.heap.size)
  move : ∀ s W W' (ok : Nat → Prop), Inv s W ok → (∀ k, ok k → W'.heap[k]? = W.heap[k]?) → Inv s W' ok
  call : ∀ s xs q W (ok : Nat → Prop) v, step s xs = some q → Inv s W ok → Below w0.heap.size w0 W → (∀ k, ok k → w0.heap.size ≤ k) → Kd.R (Kd.int .i64) 3 W w0.heap.size (fun k => ¬ ok k) v xs →
    Calls Try.prog g #[v, .pointer (some ⟨B, 0, none⟩)] W fun e W' => e = .returned (.bool q.2) ∧ Below w0.heap.size w0 W' ∧ Kept W W' ok ∧ Inv q.1 W' (fun k => ok k ∨ W.heap.size ≤ k ∨ v.ownBlock = some k)

/-- What holds behind a call of squares, and at each round of its loop. -/
structure SqPost {σ : Type} (w0 : World) (Inv : σ → World → (Nat → Prop) → Prop) (ok : Nat → Prop) (v : Value) (xs : List Int) (W : World) (s : σ) (W' : World) : Prop where
  below : Below w0.heap.size w0 W'
  own : W'.ownsRow w0.heap.size 3 1 v xs.length (nums .i64 xs)
  inv : Inv s W' (fun k => ok k ∨ W.heap.size ≤ k)
  kept : Kept W W' (fun k => ok k ∨ v.ownBlock = some k)

section
variable {g B : Nat} {σ : Type} {w0 : World} {Inv : σ → World → (Nat → Prop) → Prop} {step : σ → List Int → Option (σ × Bool)} {ok : Nat → Prop} {v v1 : Value} {xs : List Int} {W W' w1 W2 : World} {s s' : σ} {a : Int}
theorem SqPost.start (V : Vis g B w0 Inv step) (hb : Below w0.heap.size w0 W) (ho : W.ownsRow w0.heap.size 3 1 v xs.length (nums .i64 xs)) (hi : Inv s W ok) : SqPost w0 Inv ok v xs W s W :=
  ⟨hb, ho, V.mono _ _ _ _ hi (fun _ h => .inl h), Kept.refl _ _⟩
theorem SqPost.drewN (V : Vis g B w0 Inv step) (h : SqPost w0 Inv ok v xs W s W') (m : Nat) : SqPost w0 Inv ok v xs W s (W'.drewN m) :=
  ⟨pw_below_drewN h.below m, h.own, V.move _ _ _ _ h.inv (fun _ _ => rfl), h.kept⟩
/-- Behind the append: the call of itself may begin. -/
theorem SqPost.ahead (V : Vis g B w0 Inv step) (h : SqPost w0 Inv ok v xs W s W') (hok : ∀ b, v.ownBlock = some b → ¬ ok b ∧ b < W.heap.size) (hg : W'.grownBy w1 v.ownBlock)
    (hat : v1.ownBlock = v.ownBlock ∨ ∃ b, v1.ownBlock = some b ∧ W'.heap.size ≤ b) :
    Below w0.heap.size w0 w1 ∧ Inv s w1 (fun k => (ok k ∨ W.heap.size ≤ k) ∧ k < W'.heap.size) ∧ (∀ b, v1.ownBlock = some b → ¬ ((ok b ∨ W.heap.size ≤ b) ∧ b < W'.heap.size)) := by
  refine ⟨h.below.grown hg h.below.size (own_base h.own), V.move _ _ _ _ (V.bound _ _ _ h.inv) (fun k hk => hg.block k hk.2 (fun he => ?_)), fun b hb hn => ?_⟩
  · obtain ⟨h1, h2⟩ := hok k he.symm
    rcases hk.1 with h3 | h3
    · exact h1 h3
    · omega
  · rcases hat with hat | ⟨b', hb', hle⟩
    · rw [hat] at hb
      obtain ⟨h1, h2⟩ := hok b hb
      rcases hn.1 with h3 | h3
      · exact h1 h3
      · omega
    · rw [hb'] at hb
      injection hb with hb
      omega
/-- Behind the call of itself: the loop goes on. -/
theorem SqPost.after (V : Vis g B w0 Inv step) (h : SqPost w0 Inv ok v xs W s W') (hok : ∀ b, v.ownBlock = some b → ¬ ok b ∧ b < W.heap.size) (hg : W'.grownBy w1 v.ownBlock)
    (hat : v1.ownBlock = v.ownBlock ∨ ∃ b, v1.ownBlock = some b ∧ W'.heap.size ≤ b) (hv : w1.ownsRow w0.heap.size 3 1 v xs.length (nums .i64 xs))
    (hback : ∀ W' : World, W'.ownsRow w0.heap.size 3 1 v1 (xs ++ [a]).length (nums .i64 (xs ++ [a])) → v1.ownBlock = v.ownBlock → W'.ownsRow w0.heap.size 3 1 v xs.length (nums .i64 xs))
    (h2 : SqPost w0 Inv (fun k => (ok k ∨ W.heap.size ≤ k) ∧ k < W'.heap.size) v1 (xs ++ [a]) w1 s' W2) : SqPost w0 Inv ok v xs W s' W2 := by
  have hle : W.heap.size ≤ W'.heap.size := h.kept.1
  have hle1 : W'.heap.size ≤ w1.heap.size := hg.size
  refine ⟨h2.below, ?_, V.mono _ _ _ _ h2.inv (fun k hk => ?_), ?_⟩
  · by_cases he : v1.ownBlock = v.ownBlock
    · exact hback W2 h2.own he
    · refine own_move hv (fun k hk => h2.kept.2 k (own_lt hv k hk) (fun hn => ?_))
      obtain ⟨h3, h4⟩ := hok k hk
      rcases hn with ⟨hn | hn, _⟩ | hn
      · exact h3 hn
      · omega
      · exact he (by rw [hn, hk])
  · rcases hk with ⟨hk, _⟩ | hk
    · exact hk
    · exact .inr (by omega)
  · have hk1 : Kept W w1 (fun k => ok k ∨ v.ownBlock = some k) := Kept.of_grown hg h.kept (fun k hk => .inl (.inr hk))
    refine hk1.then_ h2.kept (fun k hk => ?_)
    rcases hk with ⟨hk | hk, _⟩ | hk
    · exact .inl (.inl hk)
    · exact .inr hk
    · rcases hat with hat | ⟨b, hb, hl⟩
      · exact .inl (.inr (by rw [← hat]; exact hk))
      · rw [hb] at hk
        injection hk with hk
        exact .inr (by omega)
end
end Go.Proofs.Ytokachiofpfagaa.G
