/- Several parts in one text: impl.allWithin: all numbers of a list lie between two others: its closure, slices.IndexFunc and slices.ContainsFunc at []int, and itself. slices.Clone at []int: a new slice with the same numbers. impl.squares, visiting lists of numbers with a sum of squares, for whatever closure visits: what it comes to. impl.squares with the visitor of impl.firstSquares: the call comes to what the plain function comes to. impl.firstSquares: the first list that squares visits. impl.squares with the visitor of impl.allSquares: the call comes to what the plain function comes to. impl.allSquares: all lists that squares visits. -/
import Derived.Test.YtpmbffchkcemoaaProg
import Derived.Test.YtpmbffchkcemoaaWWords
import Derived.WalkSpells
import Derived.Test.YtpmbffchkcemoaaWKept
import Derived.Test.YtpmbffchkcemoaaWMore
namespace Go.Proofs.Ytpmbffchkcemoaa.G
open Go.RowKit Go.Proofs.YtpmbffchkcemoaaW.PrintWords

/-- The closure: is a number outside? The captured bounds lie in two blocks. -/
theorem outside_any (B : Nat) (lo hi x : Int) (w : World) (h1 : w.cell? ⟨B, 0, none⟩ = some (.int .i64 lo)) (h2 : w.cell? ⟨B + 1, 0, none⟩ = some (.int .i64 hi)) :
    Calls Try.prog 114 #[.int .i64 x, .pointer (some ⟨B, 0, none⟩), .pointer (some ⟨B + 1, 0, none⟩)] w fun e w' => e = .returned (.bool (!(decide (lo ≤ x) && decide (x ≤ hi)))) ∧ w = w' := by
  by_cases c1 : lo ≤ x
  · have d1 : decide (lo ≤ x) = true := decide_eq_true c1
    clear c1
    go_enter Try.func114, Try.ntmps114
    go_wp2
    go_ret
    exact ⟨by simp [d1], rfl⟩
  · have d1 : decide (lo ≤ x) = false := decide_eq_false c1
    clear c1
    go_enter Try.func114, Try.ntmps114
    go_wp2
    go_ret
    exact ⟨by simp [d1], rfl⟩

def inB (lo hi x : Int) : Bool := decide (lo ≤ x) && decide (x ≤ hi)
/-- What the search comes to: an index from 0 on if a number lies outside. -/
def IdxPost (b : Bool) (w : World) (e : Ending) (w' : World) : Prop := (∃ r : Int, e = .returned (.int .i64 r) ∧ decide (0 ≤ r) = b) ∧ w = w'

theorem take_all (p : Int → Bool) (l : List Int) (k : Nat) (h : k < l.length) : (l.take (k + 1)).all p = ((l.take k).all p && p l[k]) := by
  rw [List.take_succ_eq_append_getElem h, List.all_append]
  simp

set_option maxHeartbeats 1000000 in
theorem index_any (B : Nat) (lo hi : Int) (A0 : Option Addr) (c0 : Nat) (l : List Int) (w : World) (hr0 : Kd.C (Kd.int .i64) w A0 l.length l)
    (h1 : w.cell? ⟨B, 0, none⟩ = some (.int .i64 lo)) (h2 : w.cell? ⟨B + 1, 0, none⟩ = some (.int .i64 hi)) :
    Calls Try.prog 115 #[.slice A0 l.length c0, .func (.func 114) #[] #[.pointer (some ⟨B, 0, none⟩), .pointer (some ⟨B + 1, 0, none⟩)]] w (IdxPost (!(l.all (inB lo hi))) w) := by
  have HR0 := Aside0.mk hr0
  have hm : l.length ≤ 9223372036854775807 := hr0.2.1
  clear hr0
  go_enter Try.func115, Try.ntmps115
  go_wp2
  go_loop [5, 8] (fun _ v => ∃ k : Nat, k ≤ l.length ∧ v = .int .i64 k ∧ Aside0 ((l.take k).all (inB lo hi) = true)) (fun _ v => l.length - (intOf v).toNat)
  case atStart => exact ⟨0, Nat.zero_le _, rfl, ⟨by simp⟩⟩
  case round =>
    obtain ⟨k, hk, rfl, hall⟩ := hrel
    by_cases hlt : k < l.length
    · obtain ⟨ad, e0, hx⟩ := Kd.at_int HR0.out (k : Int) (by omega) (by omega)
      cases e0
      have hrd : rd l (k : Int) = l[k] := by simp [rd, List.getD_eq_getElem?_getD, List.getElem?_eq_getElem hlt]
      rw [hrd] at hx
      simp only [Int.toNat_natCast] at hx
      have TA := Aside0.mk (take_all (inB lo hi) l k hlt)
      generalize l[k] = x at hx TA
      clear hrd
      cases hb : (decide (lo ≤ x) && decide (x ≤ hi)) with
      | true =>
        have hN := Aside0.mk (show (l.take (k + 1)).all (inB lo hi) = true by rw [TA.out, hall.out]; exact hb)
        clear TA hall
        have C := fun W (g1 : W.cell? ⟨B, 0, none⟩ = some (.int .i64 lo)) (g2 : W.cell? ⟨B + 1, 0, none⟩ = some (.int .i64 hi)) => outside_any B lo hi x W g1 g2
        rw [hb] at C
        clear hb
        go_wp2_with (go_at_call 114; refine (C _ h1 h2).mono ?_; rintro e w' ⟨rfl, rfl⟩)
        go_round
        case rel => exact ⟨k + 1, by omega, by go_num, hN⟩
        case measure => simp [intOf]; omega
      | false =>
        have hN := Aside0.mk (show l.all (inB lo hi) = false by
          rw [← List.take_append_drop (k + 1) l, List.all_append, TA.out, hall.out]
          show (true && (decide (lo ≤ x) && decide (x ≤ hi)) && _) = false
          rw [hb]; rfl)
        clear TA hall
        have C := fun W (g1 : W.cell? ⟨B, 0, none⟩ = some (.int .i64 lo)) (g2 : W.cell? ⟨B + 1, 0, none⟩ = some (.int .i64 hi)) => outside_any B lo hi x W g1 g2
        rw [hb] at C
        clear hb
        go_wp2_with (go_at_call 114; refine (C _ h1 h2).mono ?_; rintro e w' ⟨rfl, rfl⟩)
        go_ret
        exact ⟨⟨_, rfl, by rw [hN.out]; exact decide_eq_true (by omega)⟩, rfl⟩
    · have hN := Aside0.mk (show l.all (inB lo hi) = true by
        have h := hall.out
        rwa [List.take_of_length_le (by omega)] at h)
      clear hall
      go_wp2
      go_ret
      exact ⟨⟨_, rfl, by rw [hN.out]; rfl⟩, rfl⟩

theorem contains_any (B : Nat) (lo hi : Int) (A0 : Option Addr) (c0 : Nat) (l : List Int) (w : World) (hr0 : Kd.C (Kd.int .i64) w A0 l.length l)
    (h1 : w.cell? ⟨B, 0, none⟩ = some (.int .i64 lo)) (h2 : w.cell? ⟨B + 1, 0, none⟩ = some (.int .i64 hi)) :
    Calls Try.prog 113 #[.slice A0 l.length c0, .func (.func 114) #[] #[.pointer (some ⟨B, 0, none⟩), .pointer (some ⟨B + 1, 0, none⟩)]] w fun e w' => e = .returned (.bool (!(l.all (inB lo hi)))) ∧ w = w' := by
  have C := fun W (g0 : Kd.C (Kd.int .i64) W A0 l.length l) (g1 : W.cell? ⟨B, 0, none⟩ = some (.int .i64 lo)) (g2 : W.cell? ⟨B + 1, 0, none⟩ = some (.int .i64 hi)) => index_any B lo hi A0 c0 l W g0 g1 g2
  generalize (!(l.all (inB lo hi))) = b at C
  have HR0 := Aside0.mk hr0
  clear hr0
  go_enter Try.func113, Try.ntmps113
  go_wp2_with (go_at_call 115; refine (C _ HR0.out h1 h2).mono ?_; rintro e w' ⟨⟨r, rfl, hr⟩, rfl⟩; replace hr := Aside0.mk hr)
  go_ret
  exact ⟨by rw [← hr.out]; rfl, rfl⟩

/-- impl.allWithin. -/
theorem allWithin_any (A0 : Option Addr) (c0 : Nat) (l : List Int) (lo hi : Int) (w : World) (hr0 : Kd.C (Kd.int .i64) w A0 l.length l) :
    Calls Try.prog 107 #[.slice A0 l.length c0, .int .i64 lo, .int .i64 hi] w fun e w' => e = .returned (.bool (l.all (inB lo hi))) ∧ Below w.heap.size w w' := by
  have hmf : ∀ (fn : Fn) (first cap : Array Value) (w : World), (Instr.makeFunc fn first cap).run Try.prog w = .ok (.func fn first cap) w := fun _ _ _ _ => rfl
  have HB := Aside0.mk (((Below.refl w.heap.size w).alloc (Nat.le_refl _) (.cells #[.int .i64 lo] 3)).alloc (by simp) (.cells #[.int .i64 hi] 3))
  have HR0 := Aside0.mk (Kd.C_below hr0 HB.out)
  have M2 : ((w.alloc (.cells #[.int .i64 lo] 3)).alloc (.cells #[.int .i64 hi] 3)).cell? ⟨w.heap.size, 0, none⟩ = some (.int .i64 lo) := by
    rw [World.cell?_alloc_past _ _ _ (by simp), World.cell?_alloc_at _ _ _ _ rfl]; rfl
  have D2 : ((w.alloc (.cells #[.int .i64 lo] 3)).alloc (.cells #[.int .i64 hi] 3)).cell? ⟨w.heap.size + 1, 0, none⟩ = some (.int .i64 hi) := by
    rw [World.cell?_alloc_at _ _ _ _ (by simp)]; rfl
  have C := contains_any w.heap.size lo hi A0 c0 l _ HR0.out M2 D2
  clear M2 D2 hr0 HR0
  go_enter Try.func107, Try.ntmps107
  go_wp2_with fail
  refine C.mono ?_
  rintro e w' ⟨rfl, rfl⟩
  go_wp2
  go_ret
  exact ⟨by simp, HB.out⟩
end Go.Proofs.Ytpmbffchkcemoaa.G
namespace Go.Proofs.Ytpmbffchkcemoaa.G
open Go.RowKit Go.Proofs.YtpmbffchkcemoaaW.PrintWords

theorem cinfo : (Try.prog.info? 3).map (fun i => (i.zero, i.size, i.bytes)) = some (some (.int .i64 0), 1, 8) := by kernel_rfl

/-- A row of whole numbers that the call owns, in the print's form. -/
theorem R_of_own {W : World} {base : Nat} {v : Value} {xs : List Int} (h : W.ownsRow base 3 1 v xs.length (nums .i64 xs)) : Kd.R (Kd.int .i64) 3 W base (fun _ => True) v xs := by
  refine ⟨fun _ _ => trivial, nums .i64 xs, h, by simp [nums, Kd.int, Kd.scalar], fun j p hj => ?_⟩
  have hl := (List.getElem?_eq_some_iff.1 hj).1
  obtain ⟨_, rfl⟩ := List.getElem?_eq_some_iff.1 hj
  show ((nums .i64 xs).drop (j * 1)).take 1 = [Value.int .i64 xs[j]]
  rw [Nat.mul_one, List.drop_eq_getElem_cons (by simpa [nums] using hl)]
  simp [nums]
theorem C_int {W : World} {A : Option Addr} {n : Nat} {xs : List Int} (h : Kd.C (Kd.int .i64) W A n xs) : ReadsInt W .i64 A n xs := by
  refine ⟨h.1, h.2.1, fun hn => ?_⟩
  obtain ⟨ad, e, hc⟩ := h.2.2 hn
  refine ⟨ad, e, fun j hj => ?_⟩
  have hl : j < xs.length := by have := h.1; omega
  obtain ⟨c, hcl, hk, hcell⟩ := hc j xs[j] (List.getElem?_eq_getElem hl)
  have hk : c = [Value.int .i64 xs[j]] := hk
  subst hk
  have h0 := hcell 0 (.int .i64 xs[j]) rfl
  have e1 : j * (Kd.int .i64).sz + 0 = j := by show j * 1 + 0 = j; omega
  rw [e1] at h0
  rw [h0]
  simp [List.getD_eq_getElem?_getD, List.getElem?_eq_getElem hl]

set_option maxHeartbeats 1000000 in
theorem clone_any (A0 : Option Addr) (c0 : Nat) (l0 : List Int) (w : World) (hr0 : Kd.C (Kd.int .i64) w A0 l0.length l0) (hlim : l0.length ≤ 17592186044416) :
    Calls Try.prog 68 #[.slice A0 l0.length c0] w fun e w' => ∃ v0_ : Value, e = .returned v0_ ∧ Kd.R (Kd.int .i64) 3 w' w.heap.size (fun _ => True) v0_ l0 ∧ Below w.heap.size w w' := by
  have HR := Aside0.mk (C_int hr0)
  have HL := Aside0.mk hlim
  clear hr0 hlim
  cases A0 with
  | none =>
    have h0 : l0 = [] := by
      rcases l0 with _ | ⟨x, l⟩
      · rfl
      · obtain ⟨ad, e, _⟩ := HR.out.2.2 (by simp)
        cases e
    subst h0
    clear HR HL
    have he := fun (W : World) (a : Option Addr) (n c : Nat) => Lib.run_eql_slice_nil (P := Try.prog) W 35 3 a n c 0 0 Try.underlying35
    go_enter Try.func68, Try.ntmps68
    go_wp2
    go_ret
    exact ⟨_, rfl, Kd.R_nil _ _ _ _ _, Below.refl _ _⟩
  | some ad =>
    have he := fun (W : World) (a : Option Addr) (n c : Nat) => Lib.run_eql_slice_nil (P := Try.prog) W 35 3 a n c 0 0 Try.underlying35
    have HO := Aside0.mk (own_lit w w.heap.size 3 .i64 [] (Nat.le_refl _) (by simp))
    have HB := Aside0.mk ((Below.refl w.heap.size w).alloc (Nat.le_refl _) (.cells (nums .i64 []).toArray 3))
    have HR2 := Aside0.mk (HR.out.below (below_alloc (Below.refl _ _) (.cells (nums .i64 []).toArray 3)))
    go_enter Try.func68, Try.ntmps68
    go_wp2_with (at_builtin; refine print_append_row (w0 := w) w.heap.size rfl _ _ 35 3 .i64 8 rfl Try.underlying35 cinfo (by decide) (.slice (some ⟨w.heap.size, 0, none⟩) 0 0) [] l0 (some ad) l0.length c0 rfl rfl HO.out HR2.out HB.out (by simp) (by have := HL.out; simp; omega) ?_)
    intro v1 w1 hown hb _ _
    have hown := Aside0.mk hown
    have hb := Aside0.mk hb
    go_wp2
    go_ret
    exact ⟨_, rfl, R_of_own hown.out, hb.out⟩
end Go.Proofs.Ytpmbffchkcemoaa.G
namespace Go.Proofs.Ytpmbffchkcemoaa.G
open Go.RowKit Go.Proofs.YtpmbffchkcemoaaW.PrintWords Go.Proofs.YtpmbffchkcemoaaW.PrintLast Go.Proofs.YtpmbffchkcemoaaW.PrintMore
set_option linter.unusedVariables false
attribute [local go_sem] max2_int min2_int max_two min_two max_three min_three max_four min_four

/-! ### the plain function -/
section
variable (RF : Nat → Int → Option Int) {σ : Type} (step : σ → List Int → Option (σ × Bool))
mutual
def sqF : Nat → List Int → Int → Int → Int → σ → Option (σ × Bool)
  | 0, _, _, _, _, _ => none
  | k + 1, xs, parts, most, n, s => if parts = 0 then (if n = 0 then step s xs else some (s, false)) else ((RF k n).bind fun r => sqL k xs parts n (mn most r) s)
def sqL : Nat → List Int → Int → Int → Int → σ → Option (σ × Bool)
  | 0, _, _, _, _, _ => none
  | k + 1, xs, parts, n, a, s => if 0 ≤ a then (if n ≤ wrap64 (wrap64 (parts * a) * a) then
      (if xs.length < 100 then ((sqF k (xs ++ [a]) (wrap64 (parts - 1)) a (wrap64 (n - wrap64 (a * a))) s).bind fun q => if q.2 = true then some (q.1, true) else sqL k xs parts n (wrap64 (a - 1)) q.1) else none)
      else some (s, false)) else some (s, false)
end
end

/-! ### append onto a row whose former value is used again -/
theorem own_prefix {W : World} {base e g n m cap : Nat} {xs ys : List Value} (h : W.ownsRow base e 1 (.slice (some ⟨g, 0, none⟩) m cap) m (xs ++ ys)) (hn : xs.length = n) : W.ownsRow base e 1 (.slice (some ⟨g, 0, none⟩) n cap) n xs := by
  obtain ⟨h1, h2⟩ := h
  rcases h2 with ⟨hv, _⟩ | ⟨g', cap', cur, hv, hb, hh, hnc, hcm, hcs, ht⟩
  · cases hv
  · injection hv with ha hb2 hc2
    injection ha with ha
    injection ha with ha
    subst ha hc2
    rw [List.length_append] at h1
    refine ⟨by omega, .inr ⟨g, cap, cur, rfl, hb, hh, by omega, hcm, hcs, ?_⟩⟩
    have h3 : (cur.toList.take (m * 1)).take n = (xs ++ ys).take n := by rw [ht]
    rw [List.take_take, Nat.min_eq_left (by omega)] at h3
    rw [Nat.mul_one, h3, List.take_left' hn]

section
variable {P : Program} {ops : Array Oper} {rest : List Oper} {o : Oper} {a : Act} {Q : Exit → Act → World → Prop}
theorem append_keep {W : World} (base : Nat) (hgd : o.guard = none) (s x : Operand) (t e : TypeId) (k : IntKind) (bytes : Nat)
    (ho : o.op = .call { callee := .builtin .append, args := #[s, x], argTypes := #[t, t] })
    (ht : P.underlying t = some (.slice e)) (hinfo : (P.info? e).map (fun i => (i.zero, i.size, i.bytes)) = some (some (.int k 0), 1, bytes)) (hb0 : 0 < bytes)
    (v : Value) (xs : List Int) (y : Int) (hs : a.eval s = v) (hx : a.eval x = .slice (some ⟨W.heap.size, 0, none⟩) 1 1)
    (HO : W.ownsRow base e 1 v xs.length (nums k xs)) (hbase : base ≤ W.heap.size) (hl : (xs.length + 1) * bytes ≤ 140737488355328)
    (h : ∀ v1 w1, w1.ownsRow base e 1 v1 (xs ++ [y]).length (nums k (xs ++ [y])) → w1.ownsRow base e 1 v xs.length (nums k xs) → W.grownBy w1 v.ownBlock → (v1.ownBlock = v.ownBlock ∨ ∃ b, v1.ownBlock = some b ∧ W.heap.size ≤ b) →
      (∀ W' : World, W'.ownsRow base e 1 v1 (xs ++ [y]).length (nums k (xs ++ [y])) → v1.ownBlock = v.ownBlock → W'.ownsRow base e 1 v xs.length (nums k xs)) → wpList P ops Q rest (a.put o.dst v1) w1) :
    wpList P ops Q (o :: rest) a (W.alloc (.cells #[.int k y] e)) := by
  obtain ⟨i0, hi, hzz⟩ := Option.map_eq_some_iff.1 hinfo
  simp only [Prod.mk.injEq] at hzz
  obtain ⟨hz0, hz1, hz2⟩ := hzz
  have hlen : xs.length + 1 ≤ 140737488355328 := Nat.le_trans (Nat.le_mul_of_pos_right _ hb0) hl
  have hnews : ∀ j u, [Value.int k y][j]? = some u → (W.alloc (.cells #[.int k y] e)).cell? ((⟨W.heap.size, 0, none⟩ : Addr).add j) = some u := by
    have := World.news_of_block (cs := #[Value.int k y]) (t := e) (fr := (0, 0)) (heap_alloc_new W (.cells #[.int k y] e))
    simpa using this
  have hone : ∀ u ∈ [Value.int k y], u.oneCell' = true := by intro u hu; simp at hu; subst hu; rfl
  have hg0 := World.grownBy_alloc W (.cells #[.int k y] e) none
  have HO1 := HO.alloc (.cells #[.int k y] e)
  have en : nums k xs ++ [Value.int k y] = nums k (xs ++ [y]) := by simp [nums]
  have el : (xs ++ [y]).length = xs.length + 1 := by simp
  rcases HO.2 with ⟨rfl, hn0⟩ | ⟨g, cap, cur, rfl, hg, hh, hnc, hcm, hcs, htk⟩
  · have hx0 : xs = [] := List.eq_nil_of_length_eq_zero hn0
    subst hx0
    refine wpList_append_grows (W.alloc (.cells #[.int k y] e)) hgd s x t ho e i0 (.int k 0) 1 bytes ht hi hz0 hz1 hz2 rfl (by omega) none 0 0 [] hs (fun _ => ⟨rfl, rfl⟩) (by simp) (fun b hb => by cases hb)
      ⟨W.heap.size, 0, none⟩ 1 1 [.int k y] hx rfl hnews hone (by omega) (by simp only [maxLen]; omega) (by simpa using hl) ?_
    intro v1 w1 hown hgr
    refine h v1 w1 ?_ ⟨by simp [nums], .inl ⟨rfl, rfl⟩⟩ ⟨hgr.os.trans hg0.os, hgr.tape, hgr.output.trans hg0.output, Nat.le_trans (by simp) hgr.size, fun i hi hr => (hgr.block i (by simp; omega) (by simp)).trans (Below.heap_alloc W _ i hi)⟩ ?_ (fun W' _ _ => ⟨by simp [nums], .inl ⟨rfl, rfl⟩⟩)
    · exact own_weaken (show w1.ownsRow (W.alloc (.cells #[.int k y] e)).heap.size e 1 v1 ([] ++ [y]).length (nums k ([] ++ [y])) from hown) (by simp; omega)
    · rcases hown.2 with ⟨rfl, h0⟩ | ⟨g', cap', cur', rfl, hg', _⟩
      · exact .inl rfl
      · exact .inr ⟨g', rfl, by simp at hg'; omega⟩
  · by_cases hfit : xs.length + 1 ≤ cap
    · refine wpList_append_fits (W.alloc (.cells #[.int k y] e)) hgd s x t ho base e i0 1 ht hi hz1 g xs.length cap (nums k xs) hs HO1 ⟨W.heap.size, 0, none⟩ 1 1 [.int k y] hx rfl hnews hone hfit ?_
      intro w1 hown hgr
      rw [en] at hown
      have hgl : g < W.heap.size := blk_lt hh
      refine h _ w1 (by rw [el]; exact hown) (own_prefix (by rw [← en] at hown; exact hown) (by simp [nums])) ⟨hgr.os.trans hg0.os, hgr.tape, hgr.output.trans hg0.output, Nat.le_trans (by simp) hgr.size, fun i hi hr => (hgr.block i (by simp; omega) hr).trans (Below.heap_alloc W _ i hi)⟩ (.inl rfl) (fun W' hW _ => ?_)
      rw [el, ← en] at hW
      exact own_prefix hW (by simp [nums])
    · refine wpList_append_grows (W.alloc (.cells #[.int k y] e)) hgd s x t ho e i0 (.int k 0) 1 bytes ht hi hz0 hz1 hz2 rfl (by omega) (some ⟨g, 0, none⟩) xs.length cap (nums k xs) hs (fun h => by cases h) (by simp [nums]) (fun b hb j u hu => ?_)
        ⟨W.heap.size, 0, none⟩ 1 1 [.int k y] hx rfl hnews hone (by omega) (by simp only [maxLen]; omega) hl ?_
      · injection hb with hb
        subst hb
        exact HO1.cells (g := g) rfl j u hu
      · intro v1 w1 hown hgr
        have hgl : g < W.heap.size := blk_lt hh
        refine h v1 w1 ?_ (own_other HO1 hgr (.inr (by simp [Value.ownBlock]))) ⟨hgr.os.trans hg0.os, hgr.tape, hgr.output.trans hg0.output, Nat.le_trans (by simp) hgr.size, fun i hi hr => (hgr.block i (by simp; omega) (by simp)).trans (Below.heap_alloc W _ i hi)⟩ ?_ (fun W' hW he => ?_)
        · rw [en] at hown
          rw [el]
          exact own_weaken hown (by simp; omega)
        · rcases hown.2 with ⟨rfl, h0⟩ | ⟨g', cap', cur', rfl, hg', _⟩
          · omega
          · exact .inr ⟨g', rfl, by simp at hg'; omega⟩
        · rcases hown.2 with ⟨rfl, h0⟩ | ⟨g', cap', cur', rfl, hg', _⟩
          · omega
          · simp [Value.ownBlock] at he
            simp at hg'
            omega
end

/-! ### what is asked of a visitor that captures the variable in block B -/
structure Vis (g B : Nat) {σ : Type} (w0 : World) (Inv : σ → World → (Nat → Prop) → Prop) (step : σ → List Int → Option (σ × Bool)) : Prop where
  mono : ∀ s W (ok ok' : Nat → Prop), Inv s W ok → (∀ k, ok k → ok' k) → Inv s W ok'
  bound : ∀ s W (ok : Nat → Prop), Inv s W ok → Inv s W (fun k => ok k ∧ k < W.heap.size)
  move : ∀ s W W' (ok : Nat → Prop), Inv s W ok → (∀ k, ok k → W'.heap[k]? = W.heap[k]?) → Inv s W' ok
  call : ∀ s xs q W (ok : Nat → Prop) v, step s xs = some q → Inv s W ok → Below w0.heap.size w0 W → (∀ k, ok k → w0.heap.size ≤ k) → Kd.R (Kd.int .i64) 3 W w0.heap.size (fun k => ¬ ok k) v xs →
    Calls Try.prog g #[v, .pointer (some ⟨B, 0, none⟩)] W fun e W' => e = .returned (.bool q.2) ∧ Below w0.heap.size w0 W' ∧ Kept W W' ok ∧ Inv q.1 W' (fun k => ok k ∨ W.heap.size ≤ k ∨ v.ownBlock = some k)

/-- What holds behind a call of squares, and at each round of its loop. -/
structure SqPost {σ : Type} (w0 : World) (Inv : σ → World → (Nat → Prop) → Prop) (ok : Nat → Prop) (v : Value) (xs : List Int) (W : World) (s : σ) (W' : World) : Prop where
  below : Below w0.heap.size w0 W'
  own : W'.ownsRow w0.heap.size 3 1 v xs.length (nums .i64 xs)
  inv : Inv s W' (fun k => ok k ∨ W.heap.size ≤ k)
  kept : Kept W W' (fun k => ok k ∨ v.ownBlock = some k)

section
variable {g B : Nat} {σ : Type} {w0 : World} {Inv : σ → World → (Nat → Prop) → Prop} {step : σ → List Int → Option (σ × Bool)} {ok : Nat → Prop} {v v1 : Value} {xs : List Int} {W W' w1 W2 : World} {s s' : σ} {a : Int}
theorem SqPost.start (V : Vis g B w0 Inv step) (hb : Below w0.heap.size w0 W) (ho : W.ownsRow w0.heap.size 3 1 v xs.length (nums .i64 xs)) (hi : Inv s W ok) : SqPost w0 Inv ok v xs W s W :=
  ⟨hb, ho, V.mono _ _ _ _ hi (fun _ h => .inl h), Kept.refl _ _⟩
theorem SqPost.drewN (V : Vis g B w0 Inv step) (h : SqPost w0 Inv ok v xs W s W') (m : Nat) : SqPost w0 Inv ok v xs W s (W'.drewN m) :=
  ⟨pw_below_drewN h.below m, h.own, V.move _ _ _ _ h.inv (fun _ _ => rfl), h.kept⟩
/-- Behind the append: the call of itself may begin. -/
theorem SqPost.ahead (V : Vis g B w0 Inv step) (h : SqPost w0 Inv ok v xs W s W') (hok : ∀ b, v.ownBlock = some b → ¬ ok b ∧ b < W.heap.size) (hg : W'.grownBy w1 v.ownBlock)
    (hat : v1.ownBlock = v.ownBlock ∨ ∃ b, v1.ownBlock = some b ∧ W'.heap.size ≤ b) :
    Below w0.heap.size w0 w1 ∧ Inv s w1 (fun k => (ok k ∨ W.heap.size ≤ k) ∧ k < W'.heap.size) ∧ (∀ b, v1.ownBlock = some b → ¬ ((ok b ∨ W.heap.size ≤ b) ∧ b < W'.heap.size)) := by
  refine ⟨h.below.grown hg h.below.size (own_base h.own), V.move _ _ _ _ (V.bound _ _ _ h.inv) (fun k hk => hg.block k hk.2 (fun he => ?_)), fun b hb hn => ?_⟩
  · obtain ⟨h1, h2⟩ := hok k he.symm
    rcases hk.1 with h3 | h3
    · exact h1 h3
    · omega
  · rcases hat with hat | ⟨b', hb', hle⟩
    · rw [hat] at hb
      obtain ⟨h1, h2⟩ := hok b hb
      rcases hn.1 with h3 | h3
      · exact h1 h3
      · omega
    · rw [hb'] at hb
      injection hb with hb
      omega
/-- Behind the call of itself: the loop goes on. -/
theorem SqPost.after (V : Vis g B w0 Inv step) (h : SqPost w0 Inv ok v xs W s W') (hok : ∀ b, v.ownBlock = some b → ¬ ok b ∧ b < W.heap.size) (hg : W'.grownBy w1 v.ownBlock)
    (hat : v1.ownBlock = v.ownBlock ∨ ∃ b, v1.ownBlock = some b ∧ W'.heap.size ≤ b) (hv : w1.ownsRow w0.heap.size 3 1 v xs.length (nums .i64 xs))
    (hback : ∀ W' : World, W'.ownsRow w0.heap.size 3 1 v1 (xs ++ [a]).length (nums .i64 (xs ++ [a])) → v1.ownBlock = v.ownBlock → W'.ownsRow w0.heap.size 3 1 v xs.length (nums .i64 xs))
    (h2 : SqPost w0 Inv (fun k => (ok k ∨ W.heap.size ≤ k) ∧ k < W'.heap.size) v1 (xs ++ [a]) w1 s' W2) : SqPost w0 Inv ok v xs W s' W2 := by
  have hle : W.heap.size ≤ W'.heap.size := h.kept.1
  have hle1 : W'.heap.size ≤ w1.heap.size := hg.size
  refine ⟨h2.below, ?_, V.mono _ _ _ _ h2.inv (fun k hk => ?_), ?_⟩
  · by_cases he : v1.ownBlock = v.ownBlock
    · exact hback W2 h2.own he
    · refine own_move hv (fun k hk => h2.kept.2 k (own_lt hv k hk) (fun hn => ?_))
      obtain ⟨h3, h4⟩ := hok k hk
      rcases hn with ⟨hn | hn, _⟩ | hn
      · exact h3 hn
      · omega
      · exact he (by rw [hn, hk])
  · rcases hk with ⟨hk, _⟩ | hk
    · exact hk
    · exact .inr (by omega)
  · have hk1 : Kept W w1 (fun k => ok k ∨ v.ownBlock = some k) := Kept.of_grown hg h.kept (fun k hk => .inl (.inr hk))
    refine hk1.then_ h2.kept (fun k hk => ?_)
    rcases hk with ⟨hk | hk, _⟩ | hk
    · exact .inl (.inl hk)
    · exact .inr hk
    · rcases hat with hat | ⟨b, hb, hl⟩
      · exact .inl (.inr (by rw [← hat]; exact hk))
      · rw [hb] at hk
        injection hk with hk
        exact .inr (by omega)
end
end Go.Proofs.Ytpmbffchkcemoaa.G
namespace Go.Proofs.Ytpmbffchkcemoaa.G
open Go.RowKit Go.Proofs.YtpmbffchkcemoaaW.PrintWords Go.Proofs.YtpmbffchkcemoaaW.PrintLast Go.Proofs.YtpmbffchkcemoaaW.PrintMore
set_option linter.unusedVariables false
attribute [local go_sem] max2_int min2_int max_two min_two max_three min_three max_four min_four

set_option maxHeartbeats 8000000 in
set_option maxRecDepth 100000 in
theorem squares_first {RF : Nat → Int → Option Int}
    (hroot : ∀ k n r W, RF k n = some r → Calls Try.prog 112 #[.int .i64 n] W fun e W' => e = .returned (.int .i64 r) ∧ Drawn0 W W')
    {B : Nat} {σ : Type} {w0 : World} {Inv : σ → World → (Nat → Prop) → Prop} {step : σ → List Int → Option (σ × Bool)} (V : Vis 105 B w0 Inv step) (k : Nat) :
    ∀ (v : Value) (xs : List Int) (parts most n : Int) (s : σ) (q : σ × Bool) (ok : Nat → Prop) (W : World) (H : sqF RF step k xs parts most n s = some q) (hxs : xs.length ≤ 100) (hb : Below w0.heap.size w0 W)
      (ho : W.ownsRow w0.heap.size 3 1 v xs.length (nums .i64 xs)) (hi : Inv s W ok) (hok : ∀ b, v.ownBlock = some b → ¬ ok b) (hok0 : ∀ b, ok b → w0.heap.size ≤ b),
      Calls Try.prog 104 #[v, .int .i64 parts, .int .i64 most, .int .i64 n, .func (.func 105) #[] #[.pointer (some ⟨B, 0, none⟩)]] W
        fun e W' => e = .returned (.bool q.2) ∧ SqPost w0 Inv ok v xs W q.1 W' := by
  induction k using Nat.strongRecOn with
  | _ k ih =>
  intro v xs parts most n s q ok W H hxs hb ho hi hok hok0
  cases k with
  | zero => exact absurd H (by simp [sqF])
  | succ k =>
  simp only [sqF] at H
  by_cases hp : parts = 0
  · rw [if_pos hp] at H
    have hp0 : (parts == 0) = true := beq_iff_eq.mpr hp
    clear hp
    by_cases hn : n = 0
    · rw [if_pos hn] at H
      have hn0 : (n == 0) = true := beq_iff_eq.mpr hn
      clear hn
      have hlt := own_lt ho
      obtain ⟨A, c, rfl, hle, hC⟩ := Kd.R_reads (R_of_own ho)
      have C1 := Aside0.mk (clone_any A c xs W hC (by omega))
      have V2 := Aside0.mk (fun (W1 : World) (u : Value) (hR : Kd.R (Kd.int .i64) 3 W1 W.heap.size (fun _ => True) u xs) (hB : Below W.heap.size W W1) =>
        V.call s xs q W1 (fun k => ok k ∧ k < W.heap.size) u H (V.move _ _ _ _ (V.bound _ _ _ hi) (fun k hk => hB.block k hk.2)) (below_then hb hb.size hB) (fun k hk => hok0 k hk.1)
          (Kd.R_mono (Kd.R_lower (Kd.R_bound hR) hb.size) (fun k hk h2 => by have := hk.2.1; omega)))
      have OB := Aside0.mk (show ∀ W2 : World, (∀ k, k < W.heap.size → ¬ ok k → W2.heap[k]? = W.heap[k]?) → W2.ownsRow w0.heap.size 3 1 (.slice A xs.length c) xs.length (nums .i64 xs) from
        fun W2 h => own_move ho (fun k hk => h k (hlt k hk) (hok k hk)))
      clear hC hle hlt ho hi H hok
      go_enter Try.func104, Try.ntmps104
      go_wp2_with fail
      refine C1.out.mono ?_
      rintro e W1 ⟨u, rfl, hR, hB⟩
      have VC := V2.out W1 u hR hB
      have hB := Aside0.mk hB
      have hR := Aside0.mk hR
      go_wp2_with fail
      refine VC.mono ?_
      rintro e W2 ⟨rfl, hb2, hk2, hi2⟩
      have X := Aside0.mk (show SqPost w0 Inv ok (.slice A xs.length c) xs W q.1 W2 from by
        refine ⟨hb2, OB.out W2 (fun k hk hn => ?_), V.mono _ _ _ _ hi2 (fun k hk => ?_), ?_⟩
        · exact (hk2.2 k (Nat.lt_of_lt_of_le hk hB.out.size) (fun h => hn h.1)).trans (hB.out.block k hk)
        · rcases hk with hk | hk | hk
          · exact .inl hk.1
          · exact .inr (Nat.le_trans hB.out.size hk)
          · exact .inr (Kd.R_base hR.out k hk)
        · exact ((Kept.of_below hB.out _).then_ hk2 (fun k hk => .inl (.inl hk.1))))
      clear hb2 hk2 hi2
      go_wp2
      go_ret
      exact ⟨by simp, X.out⟩
    · rw [if_neg hn] at H
      have hn0 : (n == 0) = false := beq_eq_false_iff_ne.mpr hn
      clear hn
      obtain rfl := Option.some.inj H
      have X := Aside0.mk (SqPost.start V hb ho hi)
      clear H hb ho hi hok
      go_enter Try.func104, Try.ntmps104
      go_wp2
      go_ret
      exact ⟨rfl, X.out⟩
  · rw [if_neg hp] at H
    have hp0 : (parts == 0) = false := beq_eq_false_iff_ne.mpr hp
    clear hp
    obtain ⟨r, hr, H⟩ := Option.bind_eq_some_iff.mp H
    obtain ⟨j, hj⟩ : ∃ j : Int, mn most r = j := ⟨_, rfl⟩
    rw [hj] at H
    have hj_ : (if r < most then r else most) = j := hj
    clear hj
    have CR := Aside0.mk (fun W => hroot k n r W hr)
    clear hr
    have HO := Aside0.mk (show ∀ b, v.ownBlock = some b → ¬ ok b ∧ b < W.heap.size from fun b h => ⟨hok b h, own_lt ho b h⟩)
    have X := Aside0.mk (SqPost.start V hb ho hi)
    have H' := Aside0.mk H
    have HX := Aside0.mk hxs
    have HW0 := Aside0.mk hb.size
    have HK0 := Aside0.mk hok0
    clear H hb ho hi hok hxs hok0
    have IH := Aside0.mk ih
    clear ih
    go_enter Try.func104, Try.ntmps104
    go_wp2_with (go_at_call 112; refine (CR.out _).mono ?_; rintro e W1 ⟨rfl, ⟨m, rfl⟩⟩)
    replace X := Aside0.mk (X.out.drewN V m)
    go_loopg [11] k (fun kq v11 W' => ∃ (a : Int) (s1 : σ), v11 = .int .i64 a ∧ Aside0 (sqL RF step kq xs parts n a s1 = some q) ∧ Aside0 (kq ≤ k) ∧ Aside0 (SqPost w0 Inv ok v xs W s1 W'))
    case atStart => exact ⟨j, s, rfl, H', ⟨Nat.le_refl _⟩, X⟩
    case round =>
      clear H' X hj_
      obtain ⟨a, s1, rfl, HA, HK, X⟩ := hrel
      cases gk with
      | zero => exact absurd HA.out (by simp [sqL])
      | succ k1 =>
        have H := HA.out
        clear HA
        simp only [sqL] at H
        by_cases c1 : 0 ≤ a
        · rw [if_pos c1] at H
          have d1 : decide (0 ≤ a) = true := decide_eq_true c1
          clear c1
          by_cases c2 : n ≤ wrap64 (wrap64 (parts * a) * a)
          · rw [if_pos c2] at H
            have d2 : decide (n ≤ wrap64 (wrap64 (parts * a) * a)) = true := decide_eq_true c2
            clear c2
            by_cases c3 : xs.length < 100
            · rw [if_pos c3] at H
              obtain ⟨q1, hq1, H⟩ := Option.bind_eq_some_iff.mp H
              have REC := Aside0.mk (IH.out k1 (by have := HK.out; omega))
              have AP := Aside0.mk (fun (v1 : Value) (w1 : World) (hown : w1.ownsRow w0.heap.size 3 1 v1 (xs.length + 1) (nums .i64 (xs ++ [a]))) (hat : v1.ownBlock = v.ownBlock ∨ ∃ b, v1.ownBlock = some b ∧ wr.heap.size ≤ b) (hg : wr.grownBy w1 v.ownBlock) =>
                REC.out v1 (xs ++ [a]) _ _ _ s1 q1 (fun k => (ok k ∨ W.heap.size ≤ k) ∧ k < wr.heap.size) w1 hq1 (by simp; omega) (X.out.ahead V HO.out hg hat).1 (by simpa using hown) (X.out.ahead V HO.out hg hat).2.1 (X.out.ahead V HO.out hg hat).2.2 (fun b hb => hb.1.elim (HK0.out b) (fun h => Nat.le_trans HW0.out h)))
              clear hq1 REC
              have HXl := Aside0.mk c3
              clear c3
              go_wp2_with (at_builtin; refine append_keep w0.heap.size rfl _ _ 35 3 .i64 8 rfl Try.underlying35 cinfo (by decide) v xs a rfl rfl X.out.own X.out.below.size (by have := HXl.out; omega) ?_)
              intro v1 w1 hown hv hg hat hback
              have CC := AP.out v1 w1 hown hat hg
              have AF := Aside0.mk (fun (s' : σ) (W2 : World) => X.out.after (s' := s') (W2 := W2) (a := a) V HO.out hg hat hv (fun W' h he => hback W' (by simpa using h) he))
              clear hown hv hg hat hback AP
              go_wp2_with fail
              refine CC.mono ?_
              rintro e W2 ⟨rfl, hP⟩
              have X2 := Aside0.mk (AF.out _ _ hP)
              clear hP AF X CC
              obtain ⟨s2, b2⟩ := q1
              cases b2 with
              | true =>
                simp only [if_true] at H
                obtain rfl := Option.some.inj H
                clear H
                go_wp2
                go_ret
                exact ⟨rfl, X2.out⟩
              | false =>
                have H2 := Aside0.mk (show sqL RF step k1 xs parts n (wrap64 (a - 1)) s2 = some q from by simpa using H)
                clear H
                go_wp2
                go_roundg k1
                case measure => have := HK.out; omega
                case rel => exact ⟨wrap64 (a - 1), s2, rfl, H2, ⟨by have := HK.out; omega⟩, X2⟩
            · rw [if_neg c3] at H
              exact absurd H (by simp)
          · rw [if_neg c2] at H
            have d2 : decide (n ≤ wrap64 (wrap64 (parts * a) * a)) = false := decide_eq_false c2
            clear c2
            obtain rfl := Option.some.inj H
            clear H
            go_wp2
            go_ret
            exact ⟨rfl, X.out⟩
        · rw [if_neg c1] at H
          have d1 : decide (0 ≤ a) = false := decide_eq_false c1
          clear c1
          obtain rfl := Option.some.inj H
          clear H
          go_wp2
          go_ret
          exact ⟨rfl, X.out⟩
end Go.Proofs.Ytpmbffchkcemoaa.G
namespace Go.Proofs.Ytpmbffchkcemoaa.G
open Go.RowKit Go.Proofs.YtpmbffchkcemoaaW.PrintWords Go.Proofs.YtpmbffchkcemoaaW.PrintLast Go.Proofs.YtpmbffchkcemoaaW.PrintMore
set_option linter.unusedVariables false
set_option linter.unusedSimpArgs false

def firstStep (_ : List Int) (xs : List Int) : Option (List Int × Bool) := some (xs, true)
/-- The captured variable's block holds a row that reads so. -/
def FirstInv (B : Nat) (w0 : World) (s : List Int) (W : World) (ok : Nat → Prop) : Prop :=
  ∃ u : Value, W.heap[B]? = some (.cells #[u] 35 (0, 0)) ∧ ok B ∧ Kd.R (Kd.int .i64) 3 W w0.heap.size (fun k => ok k ∧ k ≠ B) u s

theorem first_call (B : Nat) (W : World) (u v : Value) (h : W.heap[B]? = some (.cells #[u] 35 (0, 0))) (hv : ∃ A n c, v = .slice A n c) :
    Calls Try.prog 105 #[v, .pointer (some ⟨B, 0, none⟩)] W fun e W' => e = .returned (.bool true) ∧ W' = W.setCell ⟨B, 0, none⟩ v := by
  obtain ⟨A, n, c, rfl⟩ := hv
  have hc : W.cell? ⟨B, 0, none⟩ = some u := (blk_cell h 0).trans rfl
  have hf : W.frozen? ⟨B, 0, none⟩ = false := blk_frozen h 0
  clear h
  go_enter Try.func105, Try.ntmps105
  go_wp2
  go_ret
  exact ⟨rfl, rfl⟩

theorem first_vis (B : Nat) (w0 : World) (hB : w0.heap.size ≤ B) : Vis 105 B w0 (FirstInv B w0) firstStep where
  mono := fun s W ok ok' ⟨u, h1, h2, h3⟩ hok => ⟨u, h1, hok _ h2, Kd.R_mono h3 (fun k hk => ⟨hok k hk.1, hk.2⟩)⟩
  bound := fun s W ok ⟨u, h1, h2, h3⟩ => ⟨u, h1, ⟨h2, blk_lt h1⟩, Kd.R_mono (Kd.R_bound h3) (fun k hk => ⟨⟨hk.1.1, hk.2.2.1⟩, hk.1.2⟩)⟩
  move := fun s W W' ok ⟨u, h1, h2, h3⟩ hm => ⟨u, (hm _ h2).trans h1, h2, Kd.R_move h3 (fun k hk => hm k hk.1)⟩
  call := fun s xs q W ok v hs ⟨u, h1, h2, h3⟩ hb hok hR => by
    obtain rfl := Option.some.inj hs
    obtain ⟨A, c, hv⟩ := Kd.R_slice hR
    refine (first_call B W u v h1 ⟨_, _, _, hv⟩).mono fun e W' ⟨he, hW⟩ => ?_
    subst he hW
    refine ⟨rfl, hb.setCell hB _, (Kept.refl W ok).setCell (p := ⟨B, 0, none⟩) (.inl h2) _, v, by simpa using blk_set h1 0 v, .inl h2, ?_⟩
    have hne := hR.1
    refine Kd.R_mono (Kd.R_far (p := ⟨B, 0, none⟩) (Kd.R_tight rfl hR) (fun k hk he => hne k hk.symm (by rw [he]; exact h2)) v) (fun k hk => ⟨.inr (.inr hk.symm), fun he => hne k hk.symm (by rw [he]; exact h2)⟩)

def firstF (RF : Nat → Int → Option Int) (k : Nat) (parts n : Int) : Option (List Int × Bool) := sqF RF firstStep k [] parts n n []

theorem first_any {RF : Nat → Int → Option Int}
    (hroot : ∀ k n r W, RF k n = some r → Calls Try.prog 112 #[.int .i64 n] W fun e W' => e = .returned (.int .i64 r) ∧ Drawn0 W W')
    (k : Nat) (parts n : Int) (r1 : List Int) (r2 : Bool) (w : World) (h : firstF RF k parts n = some (r1, r2)) :
    Calls Try.prog 82 #[.int .i64 parts, .int .i64 n] w fun e w' => ∃ v0_ : Value, e = .returned (.tuple #[v0_, .bool r2]) ∧ Kd.R (Kd.int .i64) 3 w' w.heap.size (fun _ => True) v0_ r1 ∧ Below w.heap.size w w' := by
  have hmf : ∀ (fn : Fn) (first cap : Array Value) (w : World), (Instr.makeFunc fn first cap).run Try.prog w = .ok (.func fn first cap) w := fun _ _ _ _ => rfl
  have CC := Aside0.mk (fun (W : World) (hb : Below w.heap.size w W) (hi : FirstInv w.heap.size w [] W (fun k => k = w.heap.size)) =>
    squares_first hroot (first_vis w.heap.size w (Nat.le_refl _)) k (.slice none 0 0) [] parts n n [] (r1, r2) (fun k => k = w.heap.size) W h (by simp) hb ⟨by simp [nums], .inl ⟨rfl, rfl⟩⟩ hi (fun b hb => by simp [Value.ownBlock] at hb) (fun b hb => by omega))
  clear h hroot
  go_enter Try.func82, Try.ntmps82
  go_wp2_with fail
  refine (CC.out _ ((Below.refl w.heap.size w).alloc (Nat.le_refl _) _) ⟨.slice none 0 0, heap_alloc_new w _, rfl, Kd.R_nil _ _ _ _ _⟩).mono ?_
  rintro e W' ⟨rfl, hP⟩
  obtain ⟨u, h1, _, h3⟩ := hP.inv
  have hc : W'.cell? ⟨w.heap.size, 0, none⟩ = some u := (blk_cell h1 0).trans rfl
  have HB := Aside0.mk hP.below
  have H3 := Aside0.mk h3
  clear hP h1 h3 CC
  go_wp2
  go_ret2
  exact ⟨u, rfl, Kd.R_mono H3.out (fun _ _ => trivial), HB.out⟩

theorem sq_mono {RF : Nat → Int → Option Int} (hR : ∀ n k, LeO (RF k n) (RF (k + 1) n)) {σ : Type} (step : σ → List Int → Option (σ × Bool)) :
    ∀ k, (∀ xs parts most n s, LeO (sqF RF step k xs parts most n s) (sqF RF step (k + 1) xs parts most n s)) ∧ (∀ xs parts n a s, LeO (sqL RF step k xs parts n a s) (sqL RF step (k + 1) xs parts n a s))
  | 0 => ⟨fun xs parts most n s r h => by simp [sqF] at h, fun xs parts n a s r h => by simp [sqL] at h⟩
  | k + 1 => by
    obtain ⟨h1, h2⟩ := sq_mono hR step k
    constructor
    · intro xs parts most n s
      rw [sqF, sqF]
      exact LeO.ite (LeO.refl _) (LeO.bind (hR n k) (fun r => h2 _ _ _ _ _))
    · intro xs parts n a s
      rw [sqL, sqL]
      exact LeO.ite (LeO.ite (LeO.ite (LeO.bind (h1 _ _ _ _ _) (fun q => LeO.ite (LeO.refl _) (h2 _ _ _ _ _))) (LeO.refl _)) (LeO.refl _)) (LeO.refl _)
theorem first_mono {RF : Nat → Int → Option Int} (hR : ∀ n k, LeO (RF k n) (RF (k + 1) n)) (parts n : Int) (k : Nat) : LeO (firstF RF k parts n) (firstF RF (k + 1) parts n) :=
  (sq_mono hR firstStep k).1 _ _ _ _ _
end Go.Proofs.Ytpmbffchkcemoaa.G
namespace Go.Proofs.Ytpmbffchkcemoaa.G
open Go.RowKit Go.Proofs.YtpmbffchkcemoaaW.PrintWords Go.Proofs.YtpmbffchkcemoaaW.PrintLast Go.Proofs.YtpmbffchkcemoaaW.PrintMore
set_option linter.unusedVariables false
attribute [local go_sem] max2_int min2_int max_two min_two max_three min_three max_four min_four

set_option maxHeartbeats 8000000 in
set_option maxRecDepth 100000 in
theorem squares_all {RF : Nat → Int → Option Int}
    (hroot : ∀ k n r W, RF k n = some r → Calls Try.prog 112 #[.int .i64 n] W fun e W' => e = .returned (.int .i64 r) ∧ Drawn0 W W')
    {B : Nat} {σ : Type} {w0 : World} {Inv : σ → World → (Nat → Prop) → Prop} {step : σ → List Int → Option (σ × Bool)} (V : Vis 106 B w0 Inv step) (k : Nat) :
    ∀ (v : Value) (xs : List Int) (parts most n : Int) (s : σ) (q : σ × Bool) (ok : Nat → Prop) (W : World) (H : sqF RF step k xs parts most n s = some q) (hxs : xs.length ≤ 100) (hb : Below w0.heap.size w0 W)
      (ho : W.ownsRow w0.heap.size 3 1 v xs.length (nums .i64 xs)) (hi : Inv s W ok) (hok : ∀ b, v.ownBlock = some b → ¬ ok b) (hok0 : ∀ b, ok b → w0.heap.size ≤ b),
      Calls Try.prog 104 #[v, .int .i64 parts, .int .i64 most, .int .i64 n, .func (.func 106) #[] #[.pointer (some ⟨B, 0, none⟩)]] W
        fun e W' => e = .returned (.bool q.2) ∧ SqPost w0 Inv ok v xs W q.1 W' := by
  induction k using Nat.strongRecOn with
  | _ k ih =>
  intro v xs parts most n s q ok W H hxs hb ho hi hok hok0
  cases k with
  | zero => exact absurd H (by simp [sqF])
  | succ k =>
  simp only [sqF] at H
  by_cases hp : parts = 0
  · rw [if_pos hp] at H
    have hp0 : (parts == 0) = true := beq_iff_eq.mpr hp
    clear hp
    by_cases hn : n = 0
    · rw [if_pos hn] at H
      have hn0 : (n == 0) = true := beq_iff_eq.mpr hn
      clear hn
      have hlt := own_lt ho
      obtain ⟨A, c, rfl, hle, hC⟩ := Kd.R_reads (R_of_own ho)
      have C1 := Aside0.mk (clone_any A c xs W hC (by omega))
      have V2 := Aside0.mk (fun (W1 : World) (u : Value) (hR : Kd.R (Kd.int .i64) 3 W1 W.heap.size (fun _ => True) u xs) (hB : Below W.heap.size W W1) =>
        V.call s xs q W1 (fun k => ok k ∧ k < W.heap.size) u H (V.move _ _ _ _ (V.bound _ _ _ hi) (fun k hk => hB.block k hk.2)) (below_then hb hb.size hB) (fun k hk => hok0 k hk.1)
          (Kd.R_mono (Kd.R_lower (Kd.R_bound hR) hb.size) (fun k hk h2 => by have := hk.2.1; omega)))
      have OB := Aside0.mk (show ∀ W2 : World, (∀ k, k < W.heap.size → ¬ ok k → W2.heap[k]? = W.heap[k]?) → W2.ownsRow w0.heap.size 3 1 (.slice A xs.length c) xs.length (nums .i64 xs) from
        fun W2 h => own_move ho (fun k hk => h k (hlt k hk) (hok k hk)))
      clear hC hle hlt ho hi H hok
      go_enter Try.func104, Try.ntmps104
      go_wp2_with fail
      refine C1.out.mono ?_
      rintro e W1 ⟨u, rfl, hR, hB⟩
      have VC := V2.out W1 u hR hB
      have hB := Aside0.mk hB
      have hR := Aside0.mk hR
      go_wp2_with fail
      refine VC.mono ?_
      rintro e W2 ⟨rfl, hb2, hk2, hi2⟩
      have X := Aside0.mk (show SqPost w0 Inv ok (.slice A xs.length c) xs W q.1 W2 from by
        refine ⟨hb2, OB.out W2 (fun k hk hn => ?_), V.mono _ _ _ _ hi2 (fun k hk => ?_), ?_⟩
        · exact (hk2.2 k (Nat.lt_of_lt_of_le hk hB.out.size) (fun h => hn h.1)).trans (hB.out.block k hk)
        · rcases hk with hk | hk | hk
          · exact .inl hk.1
          · exact .inr (Nat.le_trans hB.out.size hk)
          · exact .inr (Kd.R_base hR.out k hk)
        · exact ((Kept.of_below hB.out _).then_ hk2 (fun k hk => .inl (.inl hk.1))))
      clear hb2 hk2 hi2
      go_wp2
      go_ret
      exact ⟨by simp, X.out⟩
    · rw [if_neg hn] at H
      have hn0 : (n == 0) = false := beq_eq_false_iff_ne.mpr hn
      clear hn
      obtain rfl := Option.some.inj H
      have X := Aside0.mk (SqPost.start V hb ho hi)
      clear H hb ho hi hok
      go_enter Try.func104, Try.ntmps104
      go_wp2
      go_ret
      exact ⟨rfl, X.out⟩
  · rw [if_neg hp] at H
    have hp0 : (parts == 0) = false := beq_eq_false_iff_ne.mpr hp
    clear hp
    obtain ⟨r, hr, H⟩ := Option.bind_eq_some_iff.mp H
    obtain ⟨j, hj⟩ : ∃ j : Int, mn most r = j := ⟨_, rfl⟩
    rw [hj] at H
    have hj_ : (if r < most then r else most) = j := hj
    clear hj
    have CR := Aside0.mk (fun W => hroot k n r W hr)
    clear hr
    have HO := Aside0.mk (show ∀ b, v.ownBlock = some b → ¬ ok b ∧ b < W.heap.size from fun b h => ⟨hok b h, own_lt ho b h⟩)
    have X := Aside0.mk (SqPost.start V hb ho hi)
    have H' := Aside0.mk H
    have HX := Aside0.mk hxs
    have HW0 := Aside0.mk hb.size
    have HK0 := Aside0.mk hok0
    clear H hb ho hi hok hxs hok0
    have IH := Aside0.mk ih
    clear ih
    go_enter Try.func104, Try.ntmps104
    go_wp2_with (go_at_call 112; refine (CR.out _).mono ?_; rintro e W1 ⟨rfl, ⟨m, rfl⟩⟩)
    replace X := Aside0.mk (X.out.drewN V m)
    go_loopg [11] k (fun kq v11 W' => ∃ (a : Int) (s1 : σ), v11 = .int .i64 a ∧ Aside0 (sqL RF step kq xs parts n a s1 = some q) ∧ Aside0 (kq ≤ k) ∧ Aside0 (SqPost w0 Inv ok v xs W s1 W'))
    case atStart => exact ⟨j, s, rfl, H', ⟨Nat.le_refl _⟩, X⟩
    case round =>
      clear H' X hj_
      obtain ⟨a, s1, rfl, HA, HK, X⟩ := hrel
      cases gk with
      | zero => exact absurd HA.out (by simp [sqL])
      | succ k1 =>
        have H := HA.out
        clear HA
        simp only [sqL] at H
        by_cases c1 : 0 ≤ a
        · rw [if_pos c1] at H
          have d1 : decide (0 ≤ a) = true := decide_eq_true c1
          clear c1
          by_cases c2 : n ≤ wrap64 (wrap64 (parts * a) * a)
          · rw [if_pos c2] at H
            have d2 : decide (n ≤ wrap64 (wrap64 (parts * a) * a)) = true := decide_eq_true c2
            clear c2
            by_cases c3 : xs.length < 100
            · rw [if_pos c3] at H
              obtain ⟨q1, hq1, H⟩ := Option.bind_eq_some_iff.mp H
              have REC := Aside0.mk (IH.out k1 (by have := HK.out; omega))
              have AP := Aside0.mk (fun (v1 : Value) (w1 : World) (hown : w1.ownsRow w0.heap.size 3 1 v1 (xs.length + 1) (nums .i64 (xs ++ [a]))) (hat : v1.ownBlock = v.ownBlock ∨ ∃ b, v1.ownBlock = some b ∧ wr.heap.size ≤ b) (hg : wr.grownBy w1 v.ownBlock) =>
                REC.out v1 (xs ++ [a]) _ _ _ s1 q1 (fun k => (ok k ∨ W.heap.size ≤ k) ∧ k < wr.heap.size) w1 hq1 (by simp; omega) (X.out.ahead V HO.out hg hat).1 (by simpa using hown) (X.out.ahead V HO.out hg hat).2.1 (X.out.ahead V HO.out hg hat).2.2 (fun b hb => hb.1.elim (HK0.out b) (fun h => Nat.le_trans HW0.out h)))
              clear hq1 REC
              have HXl := Aside0.mk c3
              clear c3
              go_wp2_with (at_builtin; refine append_keep w0.heap.size rfl _ _ 35 3 .i64 8 rfl Try.underlying35 cinfo (by decide) v xs a rfl rfl X.out.own X.out.below.size (by have := HXl.out; omega) ?_)
              intro v1 w1 hown hv hg hat hback
              have CC := AP.out v1 w1 hown hat hg
              have AF := Aside0.mk (fun (s' : σ) (W2 : World) => X.out.after (s' := s') (W2 := W2) (a := a) V HO.out hg hat hv (fun W' h he => hback W' (by simpa using h) he))
              clear hown hv hg hat hback AP
              go_wp2_with fail
              refine CC.mono ?_
              rintro e W2 ⟨rfl, hP⟩
              have X2 := Aside0.mk (AF.out _ _ hP)
              clear hP AF X CC
              obtain ⟨s2, b2⟩ := q1
              cases b2 with
              | true =>
                simp only [if_true] at H
                obtain rfl := Option.some.inj H
                clear H
                go_wp2
                go_ret
                exact ⟨rfl, X2.out⟩
              | false =>
                have H2 := Aside0.mk (show sqL RF step k1 xs parts n (wrap64 (a - 1)) s2 = some q from by simpa using H)
                clear H
                go_wp2
                go_roundg k1
                case measure => have := HK.out; omega
                case rel => exact ⟨wrap64 (a - 1), s2, rfl, H2, ⟨by have := HK.out; omega⟩, X2⟩
            · rw [if_neg c3] at H
              exact absurd H (by simp)
          · rw [if_neg c2] at H
            have d2 : decide (n ≤ wrap64 (wrap64 (parts * a) * a)) = false := decide_eq_false c2
            clear c2
            obtain rfl := Option.some.inj H
            clear H
            go_wp2
            go_ret
            exact ⟨rfl, X.out⟩
        · rw [if_neg c1] at H
          have d1 : decide (0 ≤ a) = false := decide_eq_false c1
          clear c1
          obtain rfl := Option.some.inj H
          clear H
          go_wp2
          go_ret
          exact ⟨rfl, X.out⟩
end Go.Proofs.Ytpmbffchkcemoaa.G
namespace Go.Proofs.Ytpmbffchkcemoaa.G
open Go.RowKit Go.Proofs.YtpmbffchkcemoaaW.PrintWords Go.Proofs.YtpmbffchkcemoaaW.PrintLast Go.Proofs.YtpmbffchkcemoaaW.PrintMore
set_option linter.unusedVariables false
set_option linter.unusedSimpArgs false

/-- At most 5000000000000 lists: more than any call makes. -/
def allStep (s : List (List Int)) (xs : List Int) : Option (List (List Int) × Bool) := if s.length < 5000000000000 then some (s ++ [xs], false) else none
/-- The captured variable's block holds a row of rows that reads so. -/
def AllInv (B : Nat) (w0 : World) (s : List (List Int)) (W : World) (ok : Nat → Prop) : Prop :=
  ∃ u : Value, W.heap[B]? = some (.cells #[u] 22 (0, 0)) ∧ ok B ∧ Kd.S (Kd.slice 3 (Kd.int .i64)) 35 W w0.heap.size (fun k => ok k ∧ k ≠ B) u s

theorem ainfo : (Try.prog.info? 35).map (fun i => (i.zero, i.size, i.bytes)) = some (some (.slice none 0 0), 1, 24) := by kernel_rfl

theorem all_call (B : Nat) (w0 W : World) (s : List (List Int)) (ok : Nat → Prop) (u v : Value) (xs : List Int) (hB : w0.heap.size ≤ B) (h : W.heap[B]? = some (.cells #[u] 22 (0, 0))) (hokB : ok B)
    (hS : Kd.S (Kd.slice 3 (Kd.int .i64)) 35 W w0.heap.size (fun k => ok k ∧ k ≠ B) u s) (hl : s.length < 5000000000000) (hb : Below w0.heap.size w0 W)
    (hR : Kd.R (Kd.int .i64) 3 W w0.heap.size (fun k => ¬ ok k) v xs) :
    Calls Try.prog 106 #[v, .pointer (some ⟨B, 0, none⟩)] W fun e W' => e = .returned (.bool false) ∧ Below w0.heap.size w0 W' ∧ Kept W W' ok ∧
      AllInv B w0 (s ++ [xs]) W' (fun k => ok k ∨ W.heap.size ≤ k ∨ v.ownBlock = some k) := by
  have hne := hR.1
  have hub := (Kd.S_R hS).1
  have hBl := blk_lt h
  have hM := Aside0.mk (Kd.M_row (Kd.R_tight rfl hR))
  have hokp := Aside0.mk (show ∀ k, some k = v.ownBlock → ((ok k ∨ W.heap.size ≤ k ∨ v.ownBlock = some k) ∧ k ≠ B) ∧ some k ≠ u.ownBlock from
    fun k hk => ⟨⟨.inr (.inr hk.symm), fun he => hne k hk.symm (by rw [he]; exact hokB)⟩, fun he => hne k hk.symm (hub k he.symm).1⟩)
  have hfr := Aside0.mk (show ∀ k, W.heap.size ≤ k → (ok k ∨ W.heap.size ≤ k ∨ v.ownBlock = some k) ∧ k ≠ B from fun k hk => ⟨.inr (.inl hk), by omega⟩)
  have hSa := Aside0.mk (Kd.S_mono (ok' := fun k => ((ok k ∨ W.heap.size ≤ k ∨ v.ownBlock = some k) ∧ k ≠ B) ∧ ¬ some k = v.ownBlock) hS (fun k hk => ⟨⟨.inl hk.1, hk.2⟩, fun he => hne k he.symm hk.1⟩))
  have hBu := Aside0.mk (show some B ≠ u.ownBlock from fun he => (hub B he.symm).2 rfl)
  have hKu := Aside0.mk (show ∀ k, u.ownBlock = some k → ok k from fun k hk => (hub k hk).1)
  obtain ⟨A, c, rfl⟩ := Kd.R_slice hR
  obtain ⟨A2, c2, hu⟩ := Kd.S_slice hS
  have hc : W.cell? ⟨B, 0, none⟩ = some u := (blk_cell h 0).trans rfl
  rw [hu] at hc
  have hf : W.frozen? ⟨B, 0, none⟩ = false := blk_frozen h 0
  have HB := Aside0.mk hb
  have HH := Aside0.mk h
  have HL := Aside0.mk hl
  clear hne hub hS hR h hb hl
  rw [hu] at hSa hBu hKu hokp
  clear hu
  go_enter Try.func106, Try.ntmps106
  go_wp2_with (at_builtin; refine Kd.S_append (Kd.slice 3 (Kd.int .i64)) (w0 := w0) w0.heap.size rfl _ _ 22 35 (.slice none 0 0) 24 rfl Try.underlying22 ainfo rfl (by decide) (by decide) (.slice A2 s.length c2) s xs [.slice A xs.length c] (fun k => (ok k ∨ W.heap.size ≤ k ∨ (Value.slice A xs.length c).ownBlock = some k) ∧ k ≠ B) (fun k => some k = (Value.slice A xs.length c).ownBlock) rfl rfl hM.out hokp.out hfr.out hSa.out HB.out HB.out.size (by have := HL.out; omega) ?_)
  intro v1 w1 hS1 hb1 hg1 hat1
  have h1 : w1.heap[B]? = some (.cells #[u] 22 (0, 0)) := blk_grown HH.out hg1 hBu.out
  have hc1 : w1.cell? ⟨B, 0, none⟩ = some u := (blk_cell h1 0).trans rfl
  have hf1 : w1.frozen? ⟨B, 0, none⟩ = false := blk_frozen h1 0
  have X := Aside0.mk (show Below w0.heap.size w0 (w1.setCell ⟨B, 0, none⟩ v1) ∧ Kept W (w1.setCell ⟨B, 0, none⟩ v1) ok ∧
      AllInv B w0 (s ++ [xs]) (w1.setCell ⟨B, 0, none⟩ v1) (fun k => ok k ∨ W.heap.size ≤ k ∨ (Value.slice A xs.length c).ownBlock = some k) from
    ⟨hb1.setCell hB _, (Kept.of_grown hg1 (Kept.refl W ok) (fun k hk => .inl (hKu.out k hk))).setCell (p := ⟨B, 0, none⟩) (.inl hokB) _, v1, by simpa using blk_set h1 0 v1, .inl hokB,
      Kd.S_far (p := ⟨B, 0, none⟩) hS1 (fun k hk => hk.2) v1⟩)
  obtain ⟨A3, c3, hv1⟩ := Kd.S_slice hS1
  generalize (s ++ [xs]).length = m at hv1
  subst hv1
  clear hS1 hb1 hg1 hat1 h1 HH hc hf
  go_wp2
  go_ret
  exact ⟨rfl, X.out⟩

theorem all_vis (B : Nat) (w0 : World) (hB : w0.heap.size ≤ B) : Vis 106 B w0 (AllInv B w0) allStep where
  mono := fun s W ok ok' ⟨u, h1, h2, h3⟩ hok => ⟨u, h1, hok _ h2, Kd.S_mono h3 (fun k hk => ⟨hok k hk.1, hk.2⟩)⟩
  bound := fun s W ok ⟨u, h1, h2, h3⟩ => ⟨u, h1, ⟨h2, blk_lt h1⟩, Kd.S_mono (Kd.S_bound h3) (fun k hk => ⟨⟨hk.1.1, hk.2.2.1⟩, hk.1.2⟩)⟩
  move := fun s W W' ok ⟨u, h1, h2, h3⟩ hm => ⟨u, (hm _ h2).trans h1, h2, Kd.S_move h3 (fun k hk => hm k hk.1)⟩
  call := fun s xs q W ok v hs ⟨u, h1, h2, h3⟩ hb hok hR => by
    unfold allStep at hs
    split at hs
    · rename_i hl
      obtain rfl := Option.some.inj hs
      exact all_call B w0 W s ok u v xs hB h1 h2 h3 hl hb hR
    · cases hs

def allF (RF : Nat → Int → Option Int) (k : Nat) (parts n : Int) : Option (List (List Int)) := (sqF RF allStep k [] parts n n []).map (·.1)

theorem all_any {RF : Nat → Int → Option Int}
    (hroot : ∀ k n r W, RF k n = some r → Calls Try.prog 112 #[.int .i64 n] W fun e W' => e = .returned (.int .i64 r) ∧ Drawn0 W W')
    (k : Nat) (parts n : Int) (r : List (List Int)) (w : World) (h : allF RF k parts n = some r) :
    Calls Try.prog 83 #[.int .i64 parts, .int .i64 n] w fun e w' => ∃ v0_ : Value, e = .returned v0_ ∧ Kd.S (Kd.slice 3 (Kd.int .i64)) 35 w' w.heap.size (fun _ => True) v0_ r ∧ Below w.heap.size w w' := by
  have hmf : ∀ (fn : Fn) (first cap : Array Value) (w : World), (Instr.makeFunc fn first cap).run Try.prog w = .ok (.func fn first cap) w := fun _ _ _ _ => rfl
  obtain ⟨⟨q1, q2⟩, hq, rfl⟩ := Option.map_eq_some_iff.mp h
  have CC := Aside0.mk (fun (W : World) (hb : Below w.heap.size w W) (hi : AllInv (w.heap.size + 1) w [] W (fun k => w.heap.size ≤ k ∧ k ≤ w.heap.size + 1)) =>
    squares_all hroot (all_vis (w.heap.size + 1) w (by omega)) k (.slice none 0 0) [] parts n n [] (q1, q2) (fun k => w.heap.size ≤ k ∧ k ≤ w.heap.size + 1) W hq (by simp) hb ⟨by simp [nums], .inl ⟨rfl, rfl⟩⟩ hi (fun b hb => by simp [Value.ownBlock] at hb) (fun b hb => hb.1))
  clear h hroot hq
  go_enter Try.func83, Try.ntmps83
  go_wp2_with fail
  have hown : (w.alloc (.cells #[] 35)).ownsRow w.heap.size 35 1 (.slice (some ⟨w.heap.size, 0, none⟩) 0 0) 0 [] := own_lit w w.heap.size 35 .i64 [] (Nat.le_refl _) (by simp)
  refine (CC.out _ (((Below.refl w.heap.size w).alloc (Nat.le_refl _) _).alloc (by simp) _) ⟨.slice (some ⟨w.heap.size, 0, none⟩) 0 0, by simpa using heap_alloc_new (w.alloc (.cells #[] 35)) (.cells #[.slice (some ⟨w.heap.size, 0, none⟩) 0 0] 22), ⟨by omega, by omega⟩,
    fun _ => 0, fun k hk => ?_, [], hown.alloc _, Reps.none _ _⟩).mono ?_
  · have : w.heap.size = k := by simpa [Value.ownBlock] using hk
    omega
  rintro e W' ⟨rfl, hP⟩
  obtain ⟨u, h1, _, h3⟩ := hP.inv
  have hc : W'.cell? ⟨w.heap.size + 1, 0, none⟩ = some u := (blk_cell h1 0).trans rfl
  have HB := Aside0.mk hP.below
  have H3 := Aside0.mk h3
  clear hP h1 h3 CC hown
  go_wp2
  go_ret
  exact ⟨u, rfl, Kd.S_mono H3.out (fun _ _ => trivial), HB.out⟩
theorem all_mono {RF : Nat → Int → Option Int} (hR : ∀ n k, LeO (RF k n) (RF (k + 1) n)) (parts n : Int) (k : Nat) : LeO (allF RF k parts n) (allF RF (k + 1) parts n) := by
  intro r hr
  obtain ⟨q, hq, rfl⟩ := Option.map_eq_some_iff.mp hr
  exact Option.map_eq_some_iff.mpr ⟨q, (sq_mono hR allStep k).1 _ _ _ _ _ q hq, rfl⟩
end Go.Proofs.Ytpmbffchkcemoaa.G
