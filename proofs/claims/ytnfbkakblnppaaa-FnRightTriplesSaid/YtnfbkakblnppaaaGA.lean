/- Several parts in one text: impl.allWithin: all numbers of a list lie between two others: its closure, slices.IndexFunc and slices.ContainsFunc at []int, and itself. slices.SortFunc over a row of rows of one's own, by hand: out of the shelf's contract. -/
import Derived.Test.YtnfbkakblnppaaaProg
import Derived.Test.YtnfbkakblnppaaaWWords
import Derived.Test.YtnfbkakblnppaaaSh
import Derived.Shelf.SlSortCmp.NoneTotal
import Derived.Test.YtnfbkakblnppaaaWKept
import Derived.Test.YtnfbkakblnppaaaWLast
import Derived.Test.YtnfbkakblnppaaaWNEv
import Derived.Test.YtnfbkakblnppaaaWMore
namespace Go.Proofs.Ytnfbkakblnppaaa.G
open Go.RowKit Go.Proofs.YtnfbkakblnppaaaW.PrintWords

/-- The closure: is a number outside? The captured bounds lie in two blocks. -/
theorem outside_any (B : Nat) (lo hi x : Int) (w : World) (h1 : w.cell? ⟨B, 0, none⟩ = some (.int .i64 lo)) (h2 : w.cell? ⟨B + 1, 0, none⟩ = some (.int .i64 hi)) :
    Calls Try.prog 117 #[.int .i64 x, .pointer (some ⟨B, 0, none⟩), .pointer (some ⟨B + 1, 0, none⟩)] w fun e w' => e = .returned (.bool (!(decide (lo ≤ x) && decide (x ≤ hi)))) ∧ w = w' := by
  by_cases c1 : lo ≤ x
  · have d1 : decide (lo ≤ x) = true := decide_eq_true c1
    clear c1
    go_enter Try.func117, Try.ntmps117
    go_wp2
    go_ret
    exact ⟨by simp [d1], rfl⟩
  · have d1 : decide (lo ≤ x) = false := decide_eq_false c1
    clear c1
    go_enter Try.func117, Try.ntmps117
    go_wp2
    go_ret
    exact ⟨by simp [d1], rfl⟩

def inB (lo hi x : Int) : Bool := decide (lo ≤ x) && decide (x ≤ hi)
/-- What the search comes to: an index from 0 on if a number lies outside. -/
def IdxPost (b : Bool) (w : World) (e : Ending) (w' : World) : Prop := (∃ r : Int, e = .returned (.int .i64 r) ∧ decide (0 ≤ r) = b) ∧ w = w'

theorem take_all (p : Int → Bool) (l : List Int) (k : Nat) (h : k < l.length) : (l.take (k + 1)).all p = ((l.take k).all p && p l[k]) := by
  rw [List.take_succ_eq_append_getElem h, List.all_append]
  simp

set_option maxHeartbeats 1000000 in
theorem index_any (B : Nat) (lo hi : Int) (A0 : Option Addr) (c0 : Nat) (l : List Int) (w : World) (hr0 : Kd.C (Kd.int .i64) w A0 l.length l)
    (h1 : w.cell? ⟨B, 0, none⟩ = some (.int .i64 lo)) (h2 : w.cell? ⟨B + 1, 0, none⟩ = some (.int .i64 hi)) :
    Calls Try.prog 136 #[.slice A0 l.length c0, .func (.func 117) #[] #[.pointer (some ⟨B, 0, none⟩), .pointer (some ⟨B + 1, 0, none⟩)]] w (IdxPost (!(l.all (inB lo hi))) w) := by
  have HR0 := Aside0.mk hr0
  have hm : l.length ≤ 9223372036854775807 := hr0.2.1
  clear hr0
  go_enter Try.func136, Try.ntmps136
  go_wp2
  go_loop [5, 8] (fun _ v => ∃ k : Nat, k ≤ l.length ∧ v = .int .i64 k ∧ Aside0 ((l.take k).all (inB lo hi) = true)) (fun _ v => l.length - (intOf v).toNat)
  case atStart => exact ⟨0, Nat.zero_le _, rfl, ⟨by simp⟩⟩
  case round =>
    obtain ⟨k, hk, rfl, hall⟩ := hrel
    by_cases hlt : k < l.length
    · obtain ⟨ad, e0, hx⟩ := Kd.at_int HR0.out (k : Int) (by omega) (by omega)
      cases e0
      have hrd : rd l (k : Int) = l[k] := by simp [rd, List.getD_eq_getElem?_getD, List.getElem?_eq_getElem hlt]
      rw [hrd] at hx
      simp only [Int.toNat_natCast] at hx
      have TA := Aside0.mk (take_all (inB lo hi) l k hlt)
      generalize l[k] = x at hx TA
      clear hrd
      cases hb : (decide (lo ≤ x) && decide (x ≤ hi)) with
      | true =>
        have hN := Aside0.mk (show (l.take (k + 1)).all (inB lo hi) = true by rw [TA.out, hall.out]; exact hb)
        clear TA hall
        have C := fun W (g1 : W.cell? ⟨B, 0, none⟩ = some (.int .i64 lo)) (g2 : W.cell? ⟨B + 1, 0, none⟩ = some (.int .i64 hi)) => outside_any B lo hi x W g1 g2
        rw [hb] at C
        clear hb
        go_wp2_with (go_at_call 117; refine (C _ h1 h2).mono ?_; rintro e w' ⟨rfl, rfl⟩)
        go_round
        case rel => exact ⟨k + 1, by omega, by go_num, hN⟩
        case measure => simp [intOf]; omega
      | false =>
        have hN := Aside0.mk (show l.all (inB lo hi) = false by
          rw [← List.take_append_drop (k + 1) l, List.all_append, TA.out, hall.out]
          show (true && (decide (lo ≤ x) && decide (x ≤ hi)) && _) = false
          rw [hb]; rfl)
        clear TA hall
        have C := fun W (g1 : W.cell? ⟨B, 0, none⟩ = some (.int .i64 lo)) (g2 : W.cell? ⟨B + 1, 0, none⟩ = some (.int .i64 hi)) => outside_any B lo hi x W g1 g2
        rw [hb] at C
        clear hb
        go_wp2_with (go_at_call 117; refine (C _ h1 h2).mono ?_; rintro e w' ⟨rfl, rfl⟩)
        go_ret
        exact ⟨⟨_, rfl, by rw [hN.out]; exact decide_eq_true (by omega)⟩, rfl⟩
    · have hN := Aside0.mk (show l.all (inB lo hi) = true by
        have h := hall.out
        rwa [List.take_of_length_le (by omega)] at h)
      clear hall
      go_wp2
      go_ret
      exact ⟨⟨_, rfl, by rw [hN.out]; rfl⟩, rfl⟩

theorem contains_any (B : Nat) (lo hi : Int) (A0 : Option Addr) (c0 : Nat) (l : List Int) (w : World) (hr0 : Kd.C (Kd.int .i64) w A0 l.length l)
    (h1 : w.cell? ⟨B, 0, none⟩ = some (.int .i64 lo)) (h2 : w.cell? ⟨B + 1, 0, none⟩ = some (.int .i64 hi)) :
    Calls Try.prog 116 #[.slice A0 l.length c0, .func (.func 117) #[] #[.pointer (some ⟨B, 0, none⟩), .pointer (some ⟨B + 1, 0, none⟩)]] w fun e w' => e = .returned (.bool (!(l.all (inB lo hi)))) ∧ w = w' := by
  have C := fun W (g0 : Kd.C (Kd.int .i64) W A0 l.length l) (g1 : W.cell? ⟨B, 0, none⟩ = some (.int .i64 lo)) (g2 : W.cell? ⟨B + 1, 0, none⟩ = some (.int .i64 hi)) => index_any B lo hi A0 c0 l W g0 g1 g2
  generalize (!(l.all (inB lo hi))) = b at C
  have HR0 := Aside0.mk hr0
  clear hr0
  go_enter Try.func116, Try.ntmps116
  go_wp2_with (go_at_call 136; refine (C _ HR0.out h1 h2).mono ?_; rintro e w' ⟨⟨r, rfl, hr⟩, rfl⟩; replace hr := Aside0.mk hr)
  go_ret
  exact ⟨by rw [← hr.out]; rfl, rfl⟩

/-- impl.allWithin. -/
theorem allWithin_any (A0 : Option Addr) (c0 : Nat) (l : List Int) (lo hi : Int) (w : World) (hr0 : Kd.C (Kd.int .i64) w A0 l.length l) :
    Calls Try.prog 76 #[.slice A0 l.length c0, .int .i64 lo, .int .i64 hi] w fun e w' => e = .returned (.bool (l.all (inB lo hi))) ∧ Below w.heap.size w w' := by
  have hmf : ∀ (fn : Fn) (first cap : Array Value) (w : World), (Instr.makeFunc fn first cap).run Try.prog w = .ok (.func fn first cap) w := fun _ _ _ _ => rfl
  have HB := Aside0.mk (((Below.refl w.heap.size w).alloc (Nat.le_refl _) (.cells #[.int .i64 lo] 3)).alloc (by simp) (.cells #[.int .i64 hi] 3))
  have HR0 := Aside0.mk (Kd.C_below hr0 HB.out)
  have M2 : ((w.alloc (.cells #[.int .i64 lo] 3)).alloc (.cells #[.int .i64 hi] 3)).cell? ⟨w.heap.size, 0, none⟩ = some (.int .i64 lo) := by
    rw [World.cell?_alloc_past _ _ _ (by simp), World.cell?_alloc_at _ _ _ _ rfl]; rfl
  have D2 : ((w.alloc (.cells #[.int .i64 lo] 3)).alloc (.cells #[.int .i64 hi] 3)).cell? ⟨w.heap.size + 1, 0, none⟩ = some (.int .i64 hi) := by
    rw [World.cell?_alloc_at _ _ _ _ (by simp)]; rfl
  have C := contains_any w.heap.size lo hi A0 c0 l _ HR0.out M2 D2
  clear M2 D2 hr0 HR0
  go_enter Try.func76, Try.ntmps76
  go_wp2_with fail
  refine C.mono ?_
  rintro e w' ⟨rfl, rfl⟩
  go_wp2
  go_ret
  exact ⟨by simp, HB.out⟩
end Go.Proofs.Ytnfbkakblnppaaa.G
namespace Go.Proofs.Ytnfbkakblnppaaa.G
open Go.RowKit Go.Proofs.YtnfbkakblnppaaaW.PrintWords Go.Proofs.YtnfbkakblnppaaaW.PrintLast Go.Proofs.YtnfbkakblnppaaaW.PrintMore
set_option linter.unusedVariables false
set_option linter.unusedSimpArgs false

/-- w' is w, with draws and with new blocks behind it. -/
def Gr (w w' : World) : Prop := ∃ q os, w' = Go.Sort.grow (w.drewN q) os
theorem Gr.refl (w : World) : Gr w w := ⟨0, #[], by rw [Go.Sort.grow_empty]; rfl⟩
theorem Gr.drewN {w W : World} (h : Gr w W) (n : Nat) : Gr w (W.drewN n) := by
  obtain ⟨q, os, rfl⟩ := h
  exact ⟨q + n, os, by rw [← World.drewN_drewN]; rfl⟩
theorem Gr.drew {w W : World} (h : Gr w W) : Gr w W.drew := h.drewN 1
theorem Gr.alloc {w W : World} (h : Gr w W) (o : Obj) : Gr w (W.alloc o) := by
  obtain ⟨q, os, rfl⟩ := h
  exact ⟨q, os ++ #[o], by rw [Go.Sort.alloc_eq_grow, Go.Sort.grow_grow]⟩

theorem Gr.trans {a b c : World} (h : Gr a b) (k : Gr b c) : Gr a c := by
  obtain ⟨q, os, rfl⟩ := h
  obtain ⟨p, os2, rfl⟩ := k
  refine ⟨q + p, os ++ os2, ?_⟩
  rw [← Go.Sort.grow_grow, ← World.drewN_drewN]
  rfl
theorem gU {w w0 w1 : World} (H : Aside0 (Gr w w0)) (h : Gr w w0 → Gr w w1 := by intro h_; repeat (first | exact h_ | (with_reducible first | apply Go.Proofs.Ytnfbkakblnppaaa.G.Gr.alloc | apply Go.Proofs.Ytnfbkakblnppaaa.G.Gr.drewN | apply Go.Proofs.Ytnfbkakblnppaaa.G.Gr.drew))) : Gr w w1 := h H.out
/-- A new row of numbers, in a region that draws: the world told with its draws too. -/
theorem lit_gr {P : Program} {o : Oper} {a : Act} {Kc : Act → World → Prop} {Q : Exit → Act → World → Prop} {ops : Array Oper} {α : Type} (d : Kd α) {w0 W : World} (base e : Nat) (hw : Region.wanted o (yielded ops a.tmps) = true) {N : Tmp} (_hd : o.dst = some N) {xs : List α} {inner : List Value} {ok okp : Nat → Prop}
    (hrun : (execOp a.eval o).run P W = .ok (.value (.slice (some ⟨W.heap.size, 0, none⟩) xs.length xs.length)) (W.alloc (.cells inner.toArray e)))
    (hrep : Reps (d.M W base okp) d.sz xs inner) (hok : ∀ k, okp k → ok k) (hfresh : ok W.heap.size) (HB : Below base w0 W) (hbase : base ≤ W.heap.size) (hm : xs.length ≤ 9223372036854775807)
    (h : ∀ v1 w1, d.R e w1 base ok v1 xs → Below base w0 w1 → Gr W w1 → Kc (a.put o.dst v1) w1) : if Region.wanted o (yielded ops a.tmps) = true then Oper.wp P o a W Kc Q else Kc (a.put o.dst undef) W := by
  have hm' := hm
  refine event_step hw hrun (h _ _ ⟨fun k hk => ?_, inner, ?_, ?_⟩ (HB.alloc hbase _) (Gr.alloc (Gr.refl W) _))
  · obtain rfl : W.heap.size = k := by simpa [Value.ownBlock] using hk
    exact hfresh
  · simpa using World.ownsRow_lit (base := base) (e := e) (size := d.sz) W inner.toArray xs.length hbase (by simpa [maxLen] using hm) (by simpa using hrep.1)
  · refine hrep.imp_ (fun p c hp => d.M_mono (fun k hk => ⟨hok k hk.1, fun he => ?_⟩) (Kd.M_below (d.M_bound hp) (below_alloc (Below.refl _ _) _)))
    have h3 : k = W.heap.size := by simpa [Value.ownBlock] using he
    have h4 := hk.2.2.1
    omega
section
variable {α : Type} [Inhabited α] {enc : α → Value} {w : World} {blk n : Nat} {d : Array α} {os : Array Obj}
theorem sw_other (hb : blk < w.heap.size) {k : Nat} (hk : k ≠ blk) (hlt : k < w.heap.size) : (sortWorld enc w blk 0 n d os).heap[k]? = w.heap[k]? := by
  unfold sortWorld
  rw [Go.Sort.heap_grow_old _ _ (by rw [show (Go.Sort.putRow enc (Go.Sort.ahead w n) blk 0 d).heap.size = w.heap.size from by simp [Go.Sort.putRow, Go.Sort.mapBlock, Go.Sort.ahead]]; exact hlt)]
  simp only [Go.Sort.putRow, Go.Sort.mapBlock, Go.Sort.ahead, Array.getElem?_modify]
  rw [if_neg (Ne.symm hk)]
theorem sw_size : w.heap.size ≤ (sortWorld enc w blk 0 n d os).heap.size := by
  unfold sortWorld
  rw [Go.Sort.size_grow]
  simp [Go.Sort.putRow, Go.Sort.mapBlock, Go.Sort.ahead]
theorem sw_block {cur : Array Value} {t : Nat} (hlt : blk < w.heap.size) (h : w.heap[blk]? = some (.cells cur t (0, 0))) : (sortWorld enc w blk 0 n d os).heap[blk]? = some (.cells (Go.Sort.putCells enc 0 d cur) t (0, 0)) := by
  unfold sortWorld
  rw [Go.Sort.heap_grow_old _ _ (by rw [show (Go.Sort.putRow enc (Go.Sort.ahead w n) blk 0 d).heap.size = w.heap.size from by simp [Go.Sort.putRow, Go.Sort.mapBlock, Go.Sort.ahead]]; exact hlt)]
  simp only [Go.Sort.putRow, Go.Sort.mapBlock, Go.Sort.ahead, Array.getElem?_modify, h]
  rfl
theorem sw_below {w0 : World} (hB : Below w0.heap.size w0 w) (hb : w0.heap.size ≤ blk) (hlt : blk < w.heap.size) : Below w0.heap.size w0 (sortWorld enc w blk 0 n d os) := by
  refine ⟨hB.os, hB.tape, hB.output, Nat.le_trans hB.size sw_size, fun i hi => ?_⟩
  rw [sw_other hlt (by omega) (Nat.lt_of_lt_of_le hi hB.size)]
  exact hB.block i hi
end
/-- What is asked of the closure. -/
def CmpC (I : Nat → List Int → List Int → Option Int) : Prop := ∀ (k : Nat) (A0 : Option Addr) (c0 : Nat) (l0 : List Int) (A1 : Option Addr) (c1 : Nat) (l1 : List Int) (r : Int) (w : World), (Kd.int .i64).C w A0 l0.length l0 → l0.length ≤ c0 → (Kd.int .i64).C w A1 l1.length l1 → l1.length ≤ c1 → I k l0 l1 = some r →
    Calls Try.prog 105 #[.slice A0 l0.length c0, .slice A1 l1.length c1] w fun e w' => e = .returned (.int .i64 r) ∧ Gr w w'
abbrev RowK : Kd (List Int) := Kd.slice 3 (Kd.int .i64)
/-- What a kind of rows of numbers leads to. -/
structure Rowish {β : Type} (D : Kd β) (row : β → List Int) : Prop where
  sz : D.sz = 1
  reads : ∀ {w x cs}, D.K w x cs → ∃ A c, cs = [.slice A (row x).length c] ∧ (row x).length ≤ c ∧ (Kd.int .i64).C w A (row x).length (row x)
def El {β : Type} (D : Kd β) (row : β → List Int) (w : World) (base : Nat) (okp : Nat → Prop) : Type := {p : Value × β // D.M w base okp p.2 [p.1] ∧ (row p.2).length = 3}
def El.enc {β : Type} {D : Kd β} {row : β → List Int} {w : World} {base : Nat} {okp : Nat → Prop} (x : El D row w base okp) : Value := x.1.1
def El.cf {β : Type} {D : Kd β} {row : β → List Int} {w : World} {base : Nat} {okp : Nat → Prop} (cf : List Int → List Int → Int) (x y : El D row w base okp) : Int := cf (row x.1.2) (row y.1.2)
section
variable {β : Type} {D : Kd β} {row : β → List Int}
theorem El.one {w : World} {base : Nat} {okp : Nat → Prop} : OneCell (El.enc (D := D) (row := row) (w := w) (base := base) (okp := okp)) := fun x => D.K_one (D.K_of_M x.2.1) _ (by simp [El.enc])
theorem cmp_lays (HD : Rowish D row) {I : Nat → List Int → List Int → Option Int} (HI : CmpC I) {cf : List Int → List Int → Int} (hcf : ∀ l0 l1 : List Int, l0.length = 3 → l1.length = 3 → ∃ k, I k l0 l1 = some (cf l0 l1)) {w : World} {base : Nat} {ok : Nat → Prop} {g : Nat} [Inhabited (El D row w base (fun k => ok k ∧ k ≠ g))] (hg : g < w.heap.size) (n : Nat) :
    CmpLays1 Try.prog 105 #[] (El.enc (D := D) (row := row) (w := w) (base := base) (okp := fun k => ok k ∧ k ≠ g)) (El.cf cf) g 0 n w := by
  intro m os dk hs x y
  obtain ⟨k, hk⟩ := hcf _ _ x.2.2 y.2.2
  have hx := HD.reads (D.K_of_M (Kd.M_step (w1 := sortWorld (El.enc (D := D) (row := row) (w := w) (base := base) (okp := fun k => ok k ∧ k ≠ g)) w g 0 m dk os) x.2.1 (fun k hk hlt => sw_other hg hk.2 hlt)))
  have hy := HD.reads (D.K_of_M (Kd.M_step (w1 := sortWorld (El.enc (D := D) (row := row) (w := w) (base := base) (okp := fun k => ok k ∧ k ≠ g)) w g 0 m dk os) y.2.1 (fun k hk hlt => sw_other hg hk.2 hlt)))
  obtain ⟨A, c, e1, l1, r1⟩ := hx
  obtain ⟨B, b, e2, l2, r2⟩ := hy
  have ex : El.enc x = .slice A (row x.1.2).length c := by injection e1
  have ey : El.enc y = .slice B (row y.1.2).length b := by injection e2
  rw [ex, ey]
  exact (HI k A c _ B b _ _ _ r1 l1 r2 l2 hk).mono fun e w' ⟨he, q, os', hw⟩ => ⟨he, q, os', hw⟩
theorem perm_all {α : Type} [Inhabited α] {d d' : Array α} (h : Go.Sort.PermIn 0 d.size d d') : d'.toList.Perm d.toList := by
  obtain ⟨h1, _, h2⟩ := h
  rwa [Array.extract_size, ← h1, Array.extract_size] at h2
theorem sort_rows (HD : Rowish D row) (z : β) {I : Nat → List Int → List Int → Option Int} (HI : CmpC I) {cf : List Int → List Int → Int} (hO : Go.Sort.SWO (ltOf cf)) (hcf : ∀ l0 l1 : List Int, l0.length = 3 → l1.length = 3 → ∃ k, I k l0 l1 = some (cf l0 l1))
    {w0 w : World} {ok : Nat → Prop} {v : Value} {xs : List β} (hB : Below w0.heap.size w0 w) (hN : D.R 24 w w0.heap.size ok v xs) (hx : ∀ x ∈ xs, (row x).length = 3) (hne : xs ≠ []) (hlen : xs.length < 4611686018427387904) :
    Calls Try.prog 104 #[v, .func (.func 105) #[] #[]] w fun e w' => e = .returned (.tuple #[]) ∧ Below w0.heap.size w0 w' ∧ ∃ ys : List β, ys.Perm xs ∧ (ys.Pairwise fun a b => ltOf cf (row b) (row a) = false) ∧ D.R 24 w' w0.heap.size ok v ys := by
  obtain ⟨h0, inner, ⟨hil, hown⟩, hrep⟩ := id hN
  have hpos : 0 < xs.length := List.length_pos_iff.2 hne
  rcases hown with ⟨_, hz⟩ | ⟨g, cap, cur, rfl, hg, hh, hcap, hmax, hsz, htake⟩
  · omega
  rw [HD.sz] at hil hsz htake
  have hgl : g < w.heap.size := (Array.getElem?_eq_some_iff.1 hh).1
  have hel : ∀ i : Fin xs.length, ∃ x : El D row w w0.heap.size (fun k => ok k ∧ k ≠ g), x.1.2 = xs[i] ∧ w.cell? ⟨g, 0 + i.1, none⟩ = some x.1.1 ∧ w.frozen? ⟨g, 0 + i.1, none⟩ = false := by
    intro i
    obtain ⟨c, hc1, hc2, hc3, hc4⟩ := Kd.R_elem hN z (i.1 : Int) (by omega) (by have := i.2; omega)
    rw [HD.sz] at hc1 hc3 hc4
    obtain ⟨u, rfl⟩ : ∃ u, c = [u] := List.length_eq_one_iff.1 hc1
    have hgd : xs.getD (i.1 : Int).toNat z = xs[i] := by simp [List.getD_eq_getElem?_getD]
    rw [hgd] at hc2
    have e0 : (i.1 : Int).toNat * 1 + 0 = 0 + i.1 := by omega
    have h3 := hc3 0 u rfl
    have h4 := hc4 0
    rw [e0] at h3 h4
    exact ⟨⟨(u, xs[i]), hc2, hx _ (List.getElem_mem _)⟩, rfl, h3, h4⟩
  let d : Array (El D row w w0.heap.size (fun k => ok k ∧ k ≠ g)) := Array.ofFn fun i => Classical.choose (hel i)
  have inh : Inhabited (El D row w w0.heap.size (fun k => ok k ∧ k ≠ g)) := ⟨Classical.choose (hel ⟨0, hpos⟩)⟩
  have hd : d.size = xs.length := by simp [d]
  have hdj : ∀ j (hj : j < xs.length), d[j]! = Classical.choose (hel ⟨j, hj⟩) := by
    intro j hj
    rw [getElem!_pos d j (by omega)]
    simp [d]
  have hdl : d.toList.map (fun x => x.1.2) = xs := by
    apply List.ext_getElem
    · simp [d]
    · intro i h1 h2
      have := (Classical.choose_spec (hel ⟨i, h2⟩)).1
      simpa [d] using this
  have hH : Go.Sort.Holds El.enc w g 0 d := fun j hj => by
    have h := Classical.choose_spec (hel ⟨j, by omega⟩)
    rw [hdj j (by omega)]
    exact ⟨h.2.1, h.2.2⟩
  have eg : ∀ args w, (callFunc 105 args).run Try.prog w = .ok (.enter 105 args) w := enters_of Try.func105 (by kernel_rfl) rfl
  have hcon := Any.slices_SortFunc Try.sortRows El.enc El.one (El.cf cf) ⟨fun x => hO.irrefl _, fun x y z => hO.trans _ _ _, fun x y z => hO.ntrans _ _ _⟩ 105 #[] g 0 cap d w eg (cmp_lays HD HI hcf hgl d.size) hH hgl (by omega)
  change Calls Try.prog 104 _ _ _ at hcon
  rw [hd] at hcon
  refine hcon.mono ?_
  rintro e w' ⟨he, d', n, os, hp, hs, rfl⟩
  rw [← hd] at hp
  have hpl := perm_all hp
  have hd' : d'.toList.length = xs.length := by rw [hpl.length_eq]; simpa using hd
  have hd2 : d'.size = xs.length := by simpa using hd'
  refine ⟨he, sw_below hB hg hgl, d'.toList.map (fun x => x.1.2), ?_, ?_, ?_⟩
  · have := hpl.map (fun x => x.1.2)
    rwa [hdl] at this
  · rw [List.pairwise_map, List.pairwise_iff_getElem]
    intro i j hi hj hij
    have := hs i j (Nat.zero_le _) hij (by omega)
    rw [getElem!_pos d' i (by omega), getElem!_pos d' j (by omega)] at this
    show ltOf (El.cf cf) (d'.toList[j]) (d'.toList[i]) = false
    rw [Array.getElem_toList, Array.getElem_toList]
    exact this
  · refine ⟨by simpa [hd2] using h0, d'.toList.map El.enc, ⟨?_, .inr ⟨g, cap, Go.Sort.putCells El.enc 0 d' cur, ?_, hg, sw_block hgl hh, ?_, hmax, ?_, ?_⟩⟩, ?_, fun j p hp => ?_⟩
    · rw [HD.sz]; simp
    · simp [hd2]
    · simpa [hd2] using hcap
    · rw [HD.sz]; simp [Go.Sort.putCells, hsz]
    · rw [HD.sz]
      apply List.ext_getElem
      · simp [Go.Sort.putCells, hsz, hd2]
        omega
      · intro i h1 h2
        simp only [List.length_map] at h2
        have hi : i < d'.size := by simpa using h2
        simp only [List.getElem_take, Go.Sort.putCells, Array.getElem_toList, Array.getElem_mapIdx, List.getElem_map]
        rw [if_pos (by omega), getElem!_pos d' (i - 0) (by omega)]
        rfl
    · rw [HD.sz]; simp
    · obtain ⟨hj, rfl⟩ := List.getElem?_eq_some_iff.1 hp
      have hj' : j < d'.size := by simpa using hj
      have e1 : ((d'.toList.map El.enc).drop (j * D.sz)).take D.sz = [d'[j].1.1] := by
        rw [HD.sz, Nat.mul_one, List.drop_eq_getElem_cons (by simpa using hj')]
        simp [El.enc]
      rw [e1]
      simp only [List.getElem_map, Array.getElem_toList]
      exact D.M_mono (fun k hk => ⟨hk.1, fun e => hk.2 (by simpa [Value.ownBlock] using e)⟩) (Kd.M_step d'[j].2.1 (fun k hk hlt => sw_other hgl hk.2 hlt))
end
/-! ### The order of right triples -/
def bef (t u : List Int) : Bool := decide (rd t 2 < rd u 2 ∨ (rd t 2 = rd u 2 ∧ rd t 0 < rd u 0))
def cmpI (x y : Int) : Int := if x < y then -1 else if x > y then 1 else 0
def cfT (t u : List Int) : Int := if cmpI (rd t 2) (rd u 2) ≠ 0 then cmpI (rd t 2) (rd u 2) else cmpI (rd t 0) (rd u 0)
theorem lt_cfT (t u : List Int) : ltOf cfT t u = bef t u := by
  unfold ltOf bef
  rw [decide_eq_decide]
  unfold cfT cmpI
  repeat' split
  all_goals omega
theorem swo_cfT : Go.Sort.SWO (ltOf cfT) where
  irrefl x := by rw [lt_cfT]; simp [bef]
  trans x y z h1 h2 := by rw [lt_cfT] at *; simp only [bef, decide_eq_true_eq] at *; omega
  ntrans x y z h1 h2 := by rw [lt_cfT] at *; simp only [bef, decide_eq_false_iff_not] at *; omega
/-- Where a triple goes in a list in order: from the end on. -/
def kpos (t : List Int) (L : List (List Int)) : Nat → Nat
  | 0 => 0
  | k + 1 => if bef t (L.getD k []) = true then kpos t L k else k + 1
def insT (t : List Int) (L : List (List Int)) : List (List Int) := L.take (kpos t L L.length) ++ [t] ++ L.drop (kpos t L L.length)
def sortL (xs : List (List Int)) : List (List Int) := xs.foldl (fun o t => insT t o) []
def Ord (L : List (List Int)) : Prop := L.Pairwise fun a b => bef b a = false
theorem kpos_le (t : List Int) (L : List (List Int)) : ∀ k, kpos t L k ≤ k
  | 0 => Nat.le_refl 0
  | k + 1 => by
    unfold kpos
    split
    · exact Nat.le_succ_of_le (kpos_le t L k)
    · exact Nat.le_refl _
theorem rdL {L : List (List Int)} {i : Nat} (h : i < L.length) : L.getD i [] = L[i] := by
  simp [List.getD_eq_getElem?_getD, List.getElem?_eq_getElem h]
theorem kpos_spec (t : List Int) (L : List (List Int)) : ∀ k, k ≤ L.length → (∀ i (h : i < L.length), kpos t L k ≤ i → i < k → bef t L[i] = true) ∧ (∀ h : kpos t L k - 1 < L.length, 0 < kpos t L k → bef t L[kpos t L k - 1] = false)
  | 0, _ => ⟨fun i h h1 h2 => by omega, fun h h1 => by simp [kpos] at h1⟩
  | k + 1, hk => by
    unfold kpos
    split
    · rename_i hb
      obtain ⟨h1, h2⟩ := kpos_spec t L k (by omega)
      refine ⟨fun i h h3 h4 => ?_, h2⟩
      by_cases e : i = k
      · subst e; rw [rdL h] at hb; exact hb
      · exact h1 i h h3 (by omega)
    · rename_i hb
      refine ⟨fun i h h3 h4 => by omega, fun h _ => ?_⟩
      have : k < L.length := by omega
      rw [rdL this] at hb
      simpa using hb
theorem insT_perm (t : List Int) (L : List (List Int)) : (insT t L).Perm (t :: L) := by
  unfold insT
  have h := List.take_append_drop (kpos t L L.length) L
  have h2 : (L.take (kpos t L L.length) ++ [t] ++ L.drop (kpos t L L.length)).Perm (t :: (L.take (kpos t L L.length) ++ L.drop (kpos t L L.length))) := by
    rw [List.append_assoc]
    exact List.perm_middle
  rwa [h] at h2
theorem bef_tr {a b c : List Int} (h1 : bef b a = false) (h2 : bef c b = false) : bef c a = false := by
  simp only [bef, decide_eq_false_iff_not] at *; omega
theorem bef_as {a b : List Int} (h1 : bef a b = true) : bef b a = false := by
  simp only [bef, decide_eq_false_iff_not, decide_eq_true_eq] at *; omega
theorem insT_ord {t : List Int} {L : List (List Int)} (h : Ord L) : Ord (insT t L) := by
  obtain ⟨h1, h2⟩ := kpos_spec t L L.length (Nat.le_refl _)
  have hk := kpos_le t L L.length
  have hp := List.pairwise_iff_getElem.1 h
  unfold insT Ord
  rw [List.append_assoc, List.pairwise_append]
  refine ⟨h.take, ?_, fun a ha b hb => ?_⟩
  · rw [List.singleton_append, List.pairwise_cons]
    refine ⟨fun b hb => ?_, h.drop⟩
    obtain ⟨i, hi, rfl⟩ := List.getElem_of_mem hb
    rw [List.getElem_drop]
    simp only [List.length_drop] at hi
    exact bef_as (h1 _ (by omega) (by omega) (by omega))
  · obtain ⟨i, hi, rfl⟩ := List.getElem_of_mem ha
    rw [List.length_take] at hi
    rw [List.getElem_take]
    have hpos : 0 < kpos t L L.length := by omega
    have hl := h2 (by omega) hpos
    have hat : bef t L[i] = false := by
      by_cases e : i = kpos t L L.length - 1
      · subst e; exact hl
      · exact bef_tr (hp i _ (by omega) (by omega) (by omega)) hl
    rcases List.mem_append.1 hb with hb | hb
    · rw [List.mem_singleton.1 hb]; exact hat
    · obtain ⟨j, hj, rfl⟩ := List.getElem_of_mem hb
      rw [List.getElem_drop]
      simp only [List.length_drop] at hj
      exact hp i _ (by omega) (by omega) (by omega)
theorem fold_ins : ∀ (xs o : List (List Int)), Ord o → Ord (xs.foldl (fun o t => insT t o) o) ∧ (xs.foldl (fun o t => insT t o) o).Perm (xs ++ o)
  | [], o, h => ⟨h, List.Perm.refl _⟩
  | x :: xs, o, h => by
    obtain ⟨h1, h2⟩ := fold_ins xs (insT x o) (insT_ord h)
    refine ⟨h1, h2.trans ?_⟩
    exact ((insT_perm x o).append_left xs).trans List.perm_middle
theorem sortL_ord (xs : List (List Int)) : Ord (sortL xs) := (fold_ins xs [] List.Pairwise.nil).1
theorem sortL_perm (xs : List (List Int)) : (sortL xs).Perm xs := by
  have := (fold_ins xs [] List.Pairwise.nil).2
  rwa [List.append_nil] at this
def NoTies (xs : List (List Int)) : Prop := ∀ a ∈ xs, ∀ b ∈ xs, a = b ∨ bef a b = true ∨ bef b a = true
instance (xs : List (List Int)) : Decidable (NoTies xs) := by unfold NoTies; infer_instance
theorem sortL_one {xs ys : List (List Int)} (hn : NoTies xs) (hp : ys.Perm xs) (ho : Ord ys) : ys = sortL xs := by
  refine List.Perm.eq_of_pairwise (le := fun a b => bef b a = false) (fun a b ha hb h1 h2 => ?_) ho (sortL_ord xs) (hp.trans (sortL_perm xs).symm)
  rcases hn a (hp.subset ha) b ((sortL_perm xs).subset hb) with h | h | h
  · exact h
  · rw [h] at h2; cases h2
  · rw [h] at h1; cases h1
/-! ### The whole, told as rows of one's own -/
theorem rowish_tag (f : Nat → Nat) : Rowish (Kd.tag f RowK) (fun p : List Int × Nat => p.1) := ⟨rfl, fun h => h⟩
theorem retag {f : Nat → Nat} {e : Nat} {w : World} {base : Nat} {ok : Nat → Prop} {v : Value} {zs : List (List Int × Nat)} (h : (Kd.tag f RowK).R e w base ok v zs) (hnd : (zs.map (·.2)).Nodup) : Kd.S RowK e w base ok v (zs.map (·.1)) := by
  obtain ⟨h0, inner, ho, hr⟩ := h
  have ez : ((zs.map (·.1)).zipIdx).length = zs.length := by simp
  refine ⟨fun k => zs.findIdx (fun p => p.2 == f k), h0, inner, by rw [ez]; exact ho, by rw [ez]; exact hr.1, fun j p hp => ?_⟩
  obtain ⟨hj, rfl⟩ := List.getElem?_eq_some_iff.1 hp
  have hj' : j < zs.length := by simpa using hj
  have h1 := hr.2 j zs[j] (List.getElem?_eq_getElem hj')
  have e1 : (zs.map (·.1)).zipIdx[j] = (zs[j].1, j) := by simp
  rw [e1]
  refine RowK.M_mono (fun k hk => ⟨hk.1, ?_⟩) h1
  have h2 : f k = zs[j].2 := hk.2
  show zs.findIdx (fun p => p.2 == f k) = j
  rw [List.findIdx_eq hj', h2]
  refine ⟨by simp, fun i hi => ?_⟩
  have h3 := List.pairwise_iff_getElem.1 hnd i j (by simpa using (by omega : i < zs.length)) (by simpa using hj') hi
  simpa using h3
def sortF (xs : List (List Int)) : Option (List (List Int)) := if (∀ x ∈ xs, x.length = 3) ∧ NoTies xs ∧ xs.length < 4611686018427387904 then some (sortL xs) else none
theorem sort_S {I : Nat → List Int → List Int → Option Int} (HI : CmpC I) (hI : ∀ l0 l1 : List Int, l0.length = 3 → l1.length = 3 → ∃ k, I k l0 l1 = some (cfT l0 l1))
    {w0 w : World} {ok : Nat → Prop} {v : Value} {xs ys : List (List Int)} (hB : Below w0.heap.size w0 w) (hS : Kd.S RowK 24 w w0.heap.size ok v xs) (h : sortF xs = some ys) :
    Calls Try.prog 104 #[v, .func (.func 105) #[] #[]] w fun e w' => e = .returned (.tuple #[]) ∧ Below w0.heap.size w0 w' ∧ Kd.S RowK 24 w' w0.heap.size ok v ys := by
  unfold sortF at h
  split at h
  · rename_i hc
    obtain ⟨h3, hn, hlen⟩ := hc
    obtain rfl := Option.some.inj h
    by_cases hne : xs = []
    · subst hne
      obtain ⟨A, c, rfl⟩ := Kd.R_slice (Kd.S_R hS)
      have hcon := AnyF.slices_SortFunc_none { Try.sortRows with } A c (.func (.func 105) #[] #[]) w
      change Calls Try.prog 104 _ _ _ at hcon
      refine hcon.mono ?_
      rintro e w' ⟨he, rfl⟩
      exact ⟨he, hB, hS⟩
    · obtain ⟨f, hR⟩ := hS
      have hzl : xs.zipIdx.length = xs.length := List.length_zipIdx
      refine (sort_rows (rowish_tag f) (([] : List Int), 0) HI swo_cfT hI hB hR (fun x hx => ?_) (fun e => hne (by rw [List.zipIdx_eq_nil_iff] at e; exact e)) (by omega)).mono ?_
      · obtain ⟨i, hi, rfl⟩ := List.getElem_of_mem hx
        simp only [List.getElem_zipIdx]
        exact h3 _ (List.getElem_mem _)
      · rintro e w' ⟨he, hb, zs, hp, ho, hz⟩
        refine ⟨he, hb, ?_⟩
        have hnd : (zs.map (·.2)).Nodup := by
          refine (hp.map (·.2)).nodup_iff.2 ?_
          rw [List.zipIdx_map_snd]
          exact List.nodup_range'
        have h4 := retag hz hnd
        have hpp : (zs.map (·.1)).Perm xs := by
          have := hp.map (·.1)
          rwa [List.zipIdx_map_fst] at this
        have hoo : Ord (zs.map (·.1)) := by
          unfold Ord
          rw [List.pairwise_map]
          exact ho.imp (fun h => by rw [← lt_cfT]; exact h)
        rw [sortL_one hn hpp hoo] at h4
        exact h4
  · cases h
end Go.Proofs.Ytnfbkakblnppaaa.G
