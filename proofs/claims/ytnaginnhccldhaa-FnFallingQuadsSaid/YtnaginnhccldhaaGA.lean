/- Several parts in one text: impl.allWithin: all numbers of a list lie between two others: its closure, slices.IndexFunc and slices.ContainsFunc at []int, and itself. slices.Clone at []int: a new slice with the same numbers. slices.Sorted(slices.Values(x)) over numbers, by hand: the walk over the iterator out of the kit's worked proofs, the sort out of the shelf. -/
import Derived.Test.YtnaginnhccldhaaProg
import Derived.Test.YtnaginnhccldhaaWWords
import Derived.WalkSpells
import Derived.Test.YtnaginnhccldhaaSh
import Derived.RangeFuncBox
import Derived.RangeFuncLeaves
import Derived.Shelf.Abstract
import Derived.WalkKit
import Derived.OwnWalkIn
import Derived.TacticsInMore
import Derived.LoopNIn
import Derived.LoopIn
import Derived.Maps.AppendAt
import Derived.Lib.SlKeysI
import Derived.Test.YtnaginnhccldhaaWKept
import Derived.Test.YtnaginnhccldhaaWLast
namespace Go.Proofs.Ytnaginnhccldhaa.G
open Go.RowKit Go.Proofs.YtnaginnhccldhaaW.PrintWords

/-- The closure: is a number outside? The captured bounds lie in two blocks. -/
theorem outside_any (B : Nat) (lo hi x : Int) (w : World) (h1 : w.cell? ⟨B, 0, none⟩ = some (.int .i64 lo)) (h2 : w.cell? ⟨B + 1, 0, none⟩ = some (.int .i64 hi)) :
    Calls Try.prog 111 #[.int .i64 x, .pointer (some ⟨B, 0, none⟩), .pointer (some ⟨B + 1, 0, none⟩)] w fun e w' => e = .returned (.bool (!(decide (lo ≤ x) && decide (x ≤ hi)))) ∧ w = w' := by
  by_cases c1 : lo ≤ x
  · have d1 : decide (lo ≤ x) = true := decide_eq_true c1
    clear c1
    go_enter Try.func111, Try.ntmps111
    go_wp2
    go_ret
    exact ⟨by simp [d1], rfl⟩
  · have d1 : decide (lo ≤ x) = false := decide_eq_false c1
    clear c1
    go_enter Try.func111, Try.ntmps111
    go_wp2
    go_ret
    exact ⟨by simp [d1], rfl⟩

def inB (lo hi x : Int) : Bool := decide (lo ≤ x) && decide (x ≤ hi)
/-- What the search comes to: an index from 0 on if a number lies outside. -/
def IdxPost (b : Bool) (w : World) (e : Ending) (w' : World) : Prop := (∃ r : Int, e = .returned (.int .i64 r) ∧ decide (0 ≤ r) = b) ∧ w = w'

theorem take_all (p : Int → Bool) (l : List Int) (k : Nat) (h : k < l.length) : (l.take (k + 1)).all p = ((l.take k).all p && p l[k]) := by
  rw [List.take_succ_eq_append_getElem h, List.all_append]
  simp

set_option maxHeartbeats 1000000 in
theorem index_any (B : Nat) (lo hi : Int) (A0 : Option Addr) (c0 : Nat) (l : List Int) (w : World) (hr0 : Kd.C (Kd.int .i64) w A0 l.length l)
    (h1 : w.cell? ⟨B, 0, none⟩ = some (.int .i64 lo)) (h2 : w.cell? ⟨B + 1, 0, none⟩ = some (.int .i64 hi)) :
    Calls Try.prog 124 #[.slice A0 l.length c0, .func (.func 111) #[] #[.pointer (some ⟨B, 0, none⟩), .pointer (some ⟨B + 1, 0, none⟩)]] w (IdxPost (!(l.all (inB lo hi))) w) := by
  have HR0 := Aside0.mk hr0
  have hm : l.length ≤ 9223372036854775807 := hr0.2.1
  clear hr0
  go_enter Try.func124, Try.ntmps124
  go_wp2
  go_loop [5, 8] (fun _ v => ∃ k : Nat, k ≤ l.length ∧ v = .int .i64 k ∧ Aside0 ((l.take k).all (inB lo hi) = true)) (fun _ v => l.length - (intOf v).toNat)
  case atStart => exact ⟨0, Nat.zero_le _, rfl, ⟨by simp⟩⟩
  case round =>
    obtain ⟨k, hk, rfl, hall⟩ := hrel
    by_cases hlt : k < l.length
    · obtain ⟨ad, e0, hx⟩ := Kd.at_int HR0.out (k : Int) (by omega) (by omega)
      cases e0
      have hrd : rd l (k : Int) = l[k] := by simp [rd, List.getD_eq_getElem?_getD, List.getElem?_eq_getElem hlt]
      rw [hrd] at hx
      simp only [Int.toNat_natCast] at hx
      have TA := Aside0.mk (take_all (inB lo hi) l k hlt)
      generalize l[k] = x at hx TA
      clear hrd
      cases hb : (decide (lo ≤ x) && decide (x ≤ hi)) with
      | true =>
        have hN := Aside0.mk (show (l.take (k + 1)).all (inB lo hi) = true by rw [TA.out, hall.out]; exact hb)
        clear TA hall
        have C := fun W (g1 : W.cell? ⟨B, 0, none⟩ = some (.int .i64 lo)) (g2 : W.cell? ⟨B + 1, 0, none⟩ = some (.int .i64 hi)) => outside_any B lo hi x W g1 g2
        rw [hb] at C
        clear hb
        go_wp2_with (go_at_call 111; refine (C _ h1 h2).mono ?_; rintro e w' ⟨rfl, rfl⟩)
        go_round
        case rel => exact ⟨k + 1, by omega, by go_num, hN⟩
        case measure => simp [intOf]; omega
      | false =>
        have hN := Aside0.mk (show l.all (inB lo hi) = false by
          rw [← List.take_append_drop (k + 1) l, List.all_append, TA.out, hall.out]
          show (true && (decide (lo ≤ x) && decide (x ≤ hi)) && _) = false
          rw [hb]; rfl)
        clear TA hall
        have C := fun W (g1 : W.cell? ⟨B, 0, none⟩ = some (.int .i64 lo)) (g2 : W.cell? ⟨B + 1, 0, none⟩ = some (.int .i64 hi)) => outside_any B lo hi x W g1 g2
        rw [hb] at C
        clear hb
        go_wp2_with (go_at_call 111; refine (C _ h1 h2).mono ?_; rintro e w' ⟨rfl, rfl⟩)
        go_ret
        exact ⟨⟨_, rfl, by rw [hN.out]; exact decide_eq_true (by omega)⟩, rfl⟩
    · have hN := Aside0.mk (show l.all (inB lo hi) = true by
        have h := hall.out
        rwa [List.take_of_length_le (by omega)] at h)
      clear hall
      go_wp2
      go_ret
      exact ⟨⟨_, rfl, by rw [hN.out]; rfl⟩, rfl⟩

theorem contains_any (B : Nat) (lo hi : Int) (A0 : Option Addr) (c0 : Nat) (l : List Int) (w : World) (hr0 : Kd.C (Kd.int .i64) w A0 l.length l)
    (h1 : w.cell? ⟨B, 0, none⟩ = some (.int .i64 lo)) (h2 : w.cell? ⟨B + 1, 0, none⟩ = some (.int .i64 hi)) :
    Calls Try.prog 110 #[.slice A0 l.length c0, .func (.func 111) #[] #[.pointer (some ⟨B, 0, none⟩), .pointer (some ⟨B + 1, 0, none⟩)]] w fun e w' => e = .returned (.bool (!(l.all (inB lo hi)))) ∧ w = w' := by
  have C := fun W (g0 : Kd.C (Kd.int .i64) W A0 l.length l) (g1 : W.cell? ⟨B, 0, none⟩ = some (.int .i64 lo)) (g2 : W.cell? ⟨B + 1, 0, none⟩ = some (.int .i64 hi)) => index_any B lo hi A0 c0 l W g0 g1 g2
  generalize (!(l.all (inB lo hi))) = b at C
  have HR0 := Aside0.mk hr0
  clear hr0
  go_enter Try.func110, Try.ntmps110
  go_wp2_with (go_at_call 124; refine (C _ HR0.out h1 h2).mono ?_; rintro e w' ⟨⟨r, rfl, hr⟩, rfl⟩; replace hr := Aside0.mk hr)
  go_ret
  exact ⟨by rw [← hr.out]; rfl, rfl⟩

/-- impl.allWithin. -/
theorem allWithin_any (A0 : Option Addr) (c0 : Nat) (l : List Int) (lo hi : Int) (w : World) (hr0 : Kd.C (Kd.int .i64) w A0 l.length l) :
    Calls Try.prog 69 #[.slice A0 l.length c0, .int .i64 lo, .int .i64 hi] w fun e w' => e = .returned (.bool (l.all (inB lo hi))) ∧ Below w.heap.size w w' := by
  have hmf : ∀ (fn : Fn) (first cap : Array Value) (w : World), (Instr.makeFunc fn first cap).run Try.prog w = .ok (.func fn first cap) w := fun _ _ _ _ => rfl
  have HB := Aside0.mk (((Below.refl w.heap.size w).alloc (Nat.le_refl _) (.cells #[.int .i64 lo] 3)).alloc (by simp) (.cells #[.int .i64 hi] 3))
  have HR0 := Aside0.mk (Kd.C_below hr0 HB.out)
  have M2 : ((w.alloc (.cells #[.int .i64 lo] 3)).alloc (.cells #[.int .i64 hi] 3)).cell? ⟨w.heap.size, 0, none⟩ = some (.int .i64 lo) := by
    rw [World.cell?_alloc_past _ _ _ (by simp), World.cell?_alloc_at _ _ _ _ rfl]; rfl
  have D2 : ((w.alloc (.cells #[.int .i64 lo] 3)).alloc (.cells #[.int .i64 hi] 3)).cell? ⟨w.heap.size + 1, 0, none⟩ = some (.int .i64 hi) := by
    rw [World.cell?_alloc_at _ _ _ _ (by simp)]; rfl
  have C := contains_any w.heap.size lo hi A0 c0 l _ HR0.out M2 D2
  clear M2 D2 hr0 HR0
  go_enter Try.func69, Try.ntmps69
  go_wp2_with fail
  refine C.mono ?_
  rintro e w' ⟨rfl, rfl⟩
  go_wp2
  go_ret
  exact ⟨by simp, HB.out⟩
end Go.Proofs.Ytnaginnhccldhaa.G
namespace Go.Proofs.Ytnaginnhccldhaa.G
open Go.RowKit Go.Proofs.YtnaginnhccldhaaW.PrintWords

theorem cinfo : (Try.prog.info? 3).map (fun i => (i.zero, i.size, i.bytes)) = some (some (.int .i64 0), 1, 8) := by kernel_rfl

/-- A row of whole numbers that the call owns, in the print's form. -/
theorem R_of_own {W : World} {base : Nat} {v : Value} {xs : List Int} (h : W.ownsRow base 3 1 v xs.length (nums .i64 xs)) : Kd.R (Kd.int .i64) 3 W base (fun _ => True) v xs := by
  refine ⟨fun _ _ => trivial, nums .i64 xs, h, by simp [nums, Kd.int, Kd.scalar], fun j p hj => ?_⟩
  have hl := (List.getElem?_eq_some_iff.1 hj).1
  obtain ⟨_, rfl⟩ := List.getElem?_eq_some_iff.1 hj
  show ((nums .i64 xs).drop (j * 1)).take 1 = [Value.int .i64 xs[j]]
  rw [Nat.mul_one, List.drop_eq_getElem_cons (by simpa [nums] using hl)]
  simp [nums]
theorem C_int {W : World} {A : Option Addr} {n : Nat} {xs : List Int} (h : Kd.C (Kd.int .i64) W A n xs) : ReadsInt W .i64 A n xs := by
  refine ⟨h.1, h.2.1, fun hn => ?_⟩
  obtain ⟨ad, e, hc⟩ := h.2.2 hn
  refine ⟨ad, e, fun j hj => ?_⟩
  have hl : j < xs.length := by have := h.1; omega
  obtain ⟨c, hcl, hk, hcell⟩ := hc j xs[j] (List.getElem?_eq_getElem hl)
  have hk : c = [Value.int .i64 xs[j]] := hk
  subst hk
  have h0 := hcell 0 (.int .i64 xs[j]) rfl
  have e1 : j * (Kd.int .i64).sz + 0 = j := by show j * 1 + 0 = j; omega
  rw [e1] at h0
  rw [h0]
  simp [List.getD_eq_getElem?_getD, List.getElem?_eq_getElem hl]

set_option maxHeartbeats 1000000 in
theorem clone_any (A0 : Option Addr) (c0 : Nat) (l0 : List Int) (w : World) (hr0 : Kd.C (Kd.int .i64) w A0 l0.length l0) (hlim : l0.length ≤ 17592186044416) :
    Calls Try.prog 70 #[.slice A0 l0.length c0] w fun e w' => ∃ v0_ : Value, e = .returned v0_ ∧ Kd.R (Kd.int .i64) 3 w' w.heap.size (fun _ => True) v0_ l0 ∧ Below w.heap.size w w' := by
  have HR := Aside0.mk (C_int hr0)
  have HL := Aside0.mk hlim
  clear hr0 hlim
  cases A0 with
  | none =>
    have h0 : l0 = [] := by
      rcases l0 with _ | ⟨x, l⟩
      · rfl
      · obtain ⟨ad, e, _⟩ := HR.out.2.2 (by simp)
        cases e
    subst h0
    clear HR HL
    have he := fun (W : World) (a : Option Addr) (n c : Nat) => Lib.run_eql_slice_nil (P := Try.prog) W 35 3 a n c 0 0 Try.underlying35
    go_enter Try.func70, Try.ntmps70
    go_wp2
    go_ret
    exact ⟨_, rfl, Kd.R_nil _ _ _ _ _, Below.refl _ _⟩
  | some ad =>
    have he := fun (W : World) (a : Option Addr) (n c : Nat) => Lib.run_eql_slice_nil (P := Try.prog) W 35 3 a n c 0 0 Try.underlying35
    have HO := Aside0.mk (own_lit w w.heap.size 3 .i64 [] (Nat.le_refl _) (by simp))
    have HB := Aside0.mk ((Below.refl w.heap.size w).alloc (Nat.le_refl _) (.cells (nums .i64 []).toArray 3))
    have HR2 := Aside0.mk (HR.out.below (below_alloc (Below.refl _ _) (.cells (nums .i64 []).toArray 3)))
    go_enter Try.func70, Try.ntmps70
    go_wp2_with (at_builtin; refine print_append_row (w0 := w) w.heap.size rfl _ _ 35 3 .i64 8 rfl Try.underlying35 cinfo (by decide) (.slice (some ⟨w.heap.size, 0, none⟩) 0 0) [] l0 (some ad) l0.length c0 rfl rfl HO.out HR2.out HB.out (by simp) (by have := HL.out; simp; omega) ?_)
    intro v1 w1 hown hb _ _
    have hown := Aside0.mk hown
    have hb := Aside0.mk hb
    go_wp2
    go_ret
    exact ⟨_, rfl, R_of_own hown.out, hb.out⟩
end Go.Proofs.Ytnaginnhccldhaa.G
namespace Go.Proofs.Ytnaginnhccldhaa.G
open Go.RowKit Go.Shelf Go.Proofs.YtnaginnhccldhaaW.PrintWords Go.Proofs.YtnaginnhccldhaaW.PrintLast
attribute [local go_sem] Oper.semAt_some
set_option linter.unusedVariables false
set_option linter.unusedSimpArgs false

def upto (zs : List Int) (k : Nat) : List Int := zs.take k
theorem upto_succ {zs : List Int} {k : Nat} (h : k < zs.length) : upto zs (k + 1) = upto zs k ++ [rd zs (k : Int)] := by
  unfold upto
  rw [List.take_succ_eq_append_getElem h]
  simp [rd, List.getD_eq_getElem?_getD, h]
theorem upto_len {zs : List Int} {k : Nat} (h : k ≤ zs.length) : (upto zs k).length = k := by simp [upto]; omega
set_option maxRecDepth 100000 in
set_option maxHeartbeats 4000000 in
/-- slices.Values's closure, for every loop body that keeps what lay below n₀. -/
theorem values1_in (F : Fence) (n : Nat) (h7 : F.fn 116) (hro : F.round = none) (hn : 1 ≤ n) (l Bs n₀ : Nat) (A : Option Addr) (cap : Nat) (zs : List Int) (hlen : zs.length ≤ 17592186044416) (J Jx : List Int → World → Prop)
    (hY : ∀ pre x W, J pre W → pre.length < zs.length → YieldAt F (n - 1) Try.prog l #[.int .i64 x] W fun e W' =>
      (e = .returned (.bool true) ∧ J (pre ++ [x]) W' ∧ Below n₀ W W') ∨ (e = .returned (.bool false) ∧ Jx (pre ++ [x]) W'))
    (W : World) (hBs : W.cell? ⟨Bs, 0, none⟩ = some (.slice A zs.length cap)) (hC : ∀ k, k < zs.length → ∃ ad, A = some ad ∧ ad.block < n₀ ∧ W.cell? (ad.add k) = some (.int .i64 (rd zs (k : Int)))) (h0 : J [] W) :
    CallsIn F n Try.prog 116 #[.func (.yield l) #[] #[], .pointer (some ⟨Bs, 0, none⟩)] W fun e W' => (∃ v, e = .returned v) ∧
      ((∃ ys, ys = zs ∧ J ys W') ∨ (∃ pre, pre <+: zs ∧ Jx pre W')) := by
  refine callsIn_of_wp Try.func116 rfl h7 ?_ hro
  simp only [Try.ntmps116, List.size_toArray, List.length_cons, List.length_nil, Nat.reduceAdd, Nat.reduceSub, Array.replicate_succ, Array.replicate_zero, List.push_toArray, List.append_toArray, List.nil_append, List.cons_append]
  gi_wp2
  gi_loopw [7] (fun i wr => ∃ k : Nat, k ≤ zs.length ∧ i = .int .i64 k ∧ J (upto zs k) wr ∧ Below n₀ W wr)
    (fun i _ => zs.length - (intOf i).toNat)
  case atStart => exact ⟨0, Nat.zero_le _, rfl, h0, Below.refl _ _⟩
  case round =>
    obtain ⟨k, hk, rfl, hJs, hnx⟩ := hrel
    by_cases hlt : k < zs.length
    · obtain ⟨ad, rfl, hb, hc⟩ := hC k hlt
      have hb' : (ad.add k).block < n₀ := by unfold Addr.add; split <;> exact hb
      have hcx : wr.cell? (ad.add k) = some (.int .i64 (rd zs (k : Int))) := (hnx.cell (p := ad.add k) hb').trans hc
      obtain ⟨fn, tmps, assign, body, hy, hR⟩ := hY _ (rd zs (k : Int)) wr hJs (by rw [upto_len (by omega)]; exact hlt)
      gi_wp2
      refine hR.mono ?_
      rintro e W3 (⟨rfl, hJ3, hk3⟩ | ⟨rfl, hJx3⟩)
      · gi_wp2
        go_roundw
        case rel => exact ⟨k + 1, by omega, by simp, by rw [upto_succ hlt]; exact hJ3, hnx.trans hk3⟩
        case measure => simp [intOf]; omega
      · gi_wp2
        refine bodyPost_ret (results_none rfl _ _ _) rfl ?_
        exact ⟨⟨_, rfl⟩, .inr ⟨_, by rw [← upto_succ hlt]; exact List.take_prefix _ _, hJx3⟩⟩
    · obtain rfl : k = zs.length := by omega
      gi_wp2
      go_end0
      exact ⟨⟨_, rfl⟩, .inl ⟨_, by unfold upto; rw [List.take_length], hJs⟩⟩
set_option maxHeartbeats 1000000 in
theorem values_in (F : Fence) (n : Nat) (h5 : F.fn 90) (hro : F.round = none) (a : Option Addr) (len cap : Nat) (w : World) :
    CallsIn F n Try.prog 90 #[.slice a len cap] w fun e w' => e = .returned (.func (.func 116) #[] #[.pointer (some ⟨w.heap.size, 0, none⟩)]) ∧ w' = w.alloc (.cells #[.slice a len cap] 35) := by
  refine callsIn_of_wp Try.func90 rfl h5 ?_ hro
  simp only [Try.ntmps90, List.size_toArray, List.length_cons, List.length_nil, Nat.reduceAdd, Nat.reduceSub, Array.replicate_succ, Array.replicate_zero, List.push_toArray, List.append_toArray, List.nil_append, List.cons_append]
  gi_wp2
  go_ret
  exact ⟨rfl, rfl⟩
theorem values_calls (a : Option Addr) (len cap : Nat) (w : World) :
    Calls Try.prog 90 #[.slice a len cap] w fun e w' => e = .returned (.func (.func 116) #[] #[.pointer (some ⟨w.heap.size, 0, none⟩)]) ∧ w' = w.alloc (.cells #[.slice a len cap] 35) :=
  (callsIn_wide (n := 5)).1 (values_in Fence.wide 5 trivial rfl a len cap w)
theorem values_stops (F : Fence) (n : Nat) (h7 : F.fn 116) (hro : F.round = none) (hn : 1 ≤ n) (Bs n₀ : Nat) (A : Option Addr) (cap : Nat) (zs : List Int) (hlen : zs.length ≤ 17592186044416) (w : World) (hBs : Bs < w.heap.size) (hn₀ : n₀ ≤ w.heap.size)
    (hc : w.cell? ⟨Bs, 0, none⟩ = some (.slice A zs.length cap)) (hC : ∀ k, k < zs.length → ∃ ad, A = some ad ∧ ad.block < n₀ ∧ w.cell? (ad.add k) = some (.int .i64 (rd zs (k : Int)))) :
    SeqStopsK F n Try.prog 116 #[.pointer (some ⟨Bs, 0, none⟩)] (fun x : Int => #[Value.int .i64 x]) (Below n₀) (fun ys => ys = zs) (fun pre => pre <+: zs) zs.length w := fun l J Jx W hW _ _ hY h0 => by
  refine values1_in F n h7 hro hn l Bs n₀ A cap zs hlen J Jx hY W ((hW.cell (p := ⟨Bs, 0, none⟩) hBs).trans hc) (fun k hk => ?_) h0
  obtain ⟨ad, e, hb, h1⟩ := hC k hk
  exact ⟨ad, e, hb, (hW.cell (p := ad.add k) (by have : (ad.add k).block = ad.block := by unfold Addr.add; split <;> rfl
                                                 rw [this]; omega)).trans h1⟩
theorem info_int : (Try.prog.info? 3).map (fun i => (i.zero, i.size, i.bytes)) = some (some (.int .i64 0), 1, 8) := by kernel_rfl
set_option maxRecDepth 100000 in
set_option maxHeartbeats 4000000 in
/-- slices.AppendSeq(nil, slices.Values(x)): a new row of the same numbers. -/
theorem appendSeq_in (F : Fence) (n : Nat) (h3 : F.fn 125) (h5 : F.fn 116) (hro : F.round = none) (hn : 3 ≤ n) (Bs n₀ : Nat) (A : Option Addr) (cap : Nat) (zs : List Int) (hlen : zs.length ≤ 17592186044416) (w : World) (hBs : Bs < w.heap.size) (hn₀ : n₀ ≤ w.heap.size)
    (hc : w.cell? ⟨Bs, 0, none⟩ = some (.slice A zs.length cap)) (hC : ∀ k, k < zs.length → ∃ ad, A = some ad ∧ ad.block < n₀ ∧ w.cell? (ad.add k) = some (.int .i64 (rd zs (k : Int)))) :
    CallsIn F n Try.prog 125 #[.slice none 0 0, .func (.func 116) #[] #[.pointer (some ⟨Bs, 0, none⟩)]] w fun e W' => ∃ v, e = .returned v ∧ W'.ownsRow w.heap.size 3 1 v zs.length (zs.map (Value.int .i64)) ∧ (v = .slice none 0 0 ↔ zs = []) ∧ Below w.heap.size w W' := by
  have h1 : 1 ≤ n := by omega
  obtain ⟨i0, hi, hz0, hz1, hz2⟩ := info_parts info_int
  refine callsIn_of_wp_marks Try.func125 rfl h3 ?_ hro
  simp only [Try.ntmps125, List.size_toArray, List.length_cons, List.length_nil, Nat.reduceAdd, Nat.reduceSub, Array.replicate_succ, Array.replicate_zero, List.push_toArray, List.append_toArray, List.nil_append, List.cons_append]
  gi_wp2
  have bO := Boxed.new w 35 (.slice none 0 0)
  have hB0 : Below w.heap.size w (w.alloc (.cells #[.slice none 0 0] 35)) := (Below.refl _ w).alloc (Nat.le_refl _) _
  refine wpIn_rangeFunc_ownG hro h1 (gf := 116) (lb := #[.pointer (some ⟨Bs, 0, none⟩)]) rfl h5 (enters_of Try.func116 (by kernel_rfl) rfl)
    (values_stops F (n - 1) h5 hro (by omega) Bs w.heap.size A cap zs hlen _ (by simp; omega) (by simp) ((hB0.cell (p := ⟨Bs, 0, none⟩) hBs).trans hc) (fun k hk => by
      obtain ⟨ad, e, hb, h1⟩ := hC k hk
      exact ⟨ad, e, by omega, (hB0.cell (p := ad.add k) (by have : (ad.add k).block = ad.block := by unfold Addr.add; split <;> rfl
                                                            rw [this]; omega)).trans h1⟩)) belowK_t (belowK_b (by simp)) (Below.refl _ _) (fun _ => rfl)
    (fun pre W => (∃ v, Boxed W w.heap.size 35 v ∧ W.ownsRow w.heap.size 3 1 v pre.length (pre.map (Value.int .i64)) ∧ (v = .slice none 0 0 ↔ pre = [])) ∧ Below w.heap.size w W)
    (fun _ _ _ => False)
    (OwnFrom.and (Own.from (holdsRow_own w.heap.size w.heap.size 35 3 1 (fun pre => pre.length) (fun pre => pre.map (Value.int .i64)) (fun pre v => v = .slice none 0 0 ↔ pre = [])) _) (ownFrom_below (Nat.le_refl _) (by simp)))
    (fun _ _ _ _ _ hs _ _ => hs)
    ⟨⟨_, bO, World.ownsRow_nil _ _ _ _, by simp⟩, hB0⟩
    (fun x => { tmps := #[.slice none 0 0, .func (.func 116) #[] #[.pointer (some ⟨Bs, 0, none⟩)], .pointer (some ⟨w.heap.size, 0, none⟩), undef, .slice none 0 0, .int .i64 x, .func (.func 116) #[] #[.pointer (some ⟨Bs, 0, none⟩)], .int .i64 x, undef, undef, undef, undef, undef], defers := [] }) ?assign ?body ?done ?stop
  case assign =>
    intro l x W K hK
    gi_wp2
    exact hK
  case body =>
    rintro l pre x W ⟨⟨v, hv, hrow, hnil⟩, hB⟩ hlt
    have hc := hv.cell
    gi_wp2_with (gi_at_builtin; refine wpListIn_append_own _ rfl _ _ 35 rfl w.heap.size 3 i0 (.int .i64 0) 1 8 Try.underlying35 hi hz0 hz1 hz2 rfl (by decide) _ _ _ rfl (hrow.alloc _) ⟨W.heap.size, 0, none⟩ 1 1 [.int .i64 x] rfl rfl (cell_one_new _ _ _) (by simp [Value.oneCell']) (by unfold maxLen; omega) (by omega) (by have := hB.size; simp; omega) ?_; intro v' w1 hown' hgrow _; obtain ⟨g', cap', rfl⟩ := ownsRow_succ hown'; obtain ⟨hv1, hv2, hr2, hk2, hb2⟩ := hv.appended (by decide) hrow hB.size (Nat.le_refl _) hown' hgrow; have hc1 := hv1.cell; have hf1 := hv1.frozen)
    exact ⟨hk2.from _, hb2, ⟨_, hv2, by simpa using hr2, by simp⟩, hB.trans hb2⟩
  case done =>
    rintro D ys W hD rfl ⟨⟨v, hv, hrow, hnil⟩, hB⟩ hK
    have hc := hv.cell
    gi_wp2
    refine ⟨by simp, .inl ⟨_, _, rfl, run_takeDeferred hK, ?_⟩⟩
    exact ⟨_, results_tmp rfl _ _ _, v, rfl, ownsRow_putObj hrow _ hK rfl, hnil, hB.trans (belowK_b (w := w) (Nat.le_refl _) W D _ _ (by simp at hD; omega) hK rfl rfl)⟩
  case stop =>
    rintro D c pre W _ _ h _
    exact h.elim
set_option maxHeartbeats 1000000 in
theorem collect_in (F : Fence) (n : Nat) (h2 : F.fn 114) (h3 : F.fn 125) (h5 : F.fn 116) (hro : F.round = none) (hn : 4 ≤ n) (Bs n₀ : Nat) (A : Option Addr) (cap : Nat) (zs : List Int) (hlen : zs.length ≤ 17592186044416) (w : World) (hBs : Bs < w.heap.size) (hn₀ : n₀ ≤ w.heap.size)
    (hc : w.cell? ⟨Bs, 0, none⟩ = some (.slice A zs.length cap)) (hC : ∀ k, k < zs.length → ∃ ad, A = some ad ∧ ad.block < n₀ ∧ w.cell? (ad.add k) = some (.int .i64 (rd zs (k : Int)))) :
    CallsIn F n Try.prog 114 #[.func (.func 116) #[] #[.pointer (some ⟨Bs, 0, none⟩)]] w fun e W' => ∃ v, e = .returned v ∧ W'.ownsRow w.heap.size 3 1 v zs.length (zs.map (Value.int .i64)) ∧ (v = .slice none 0 0 ↔ zs = []) ∧ Below w.heap.size w W' := by
  have h1 : 1 ≤ n := by omega
  refine callsIn_of_wp Try.func114 rfl h2 ?_ hro
  simp only [Try.ntmps114, List.size_toArray, List.length_cons, List.length_nil, Nat.reduceAdd, Nat.reduceSub, Array.replicate_succ, Array.replicate_zero, List.push_toArray, List.append_toArray, List.nil_append, List.cons_append]
  gi_wp2_with (gi_at_call 125; refine (appendSeq_in F (n - 1) h3 h5 hro (by omega) Bs n₀ A cap zs hlen w hBs hn₀ hc hC).mono ?_; rintro e w' ⟨v, rfl, hrow, hnil, hb⟩)
  go_ret
  exact ⟨v, rfl, hrow, hnil, hb⟩
/-- Numbers in order. -/
def srt (l : List Int) : List Int := l.mergeSort (fun x y => decide (x ≤ y))
def srtF (l : List Int) : Option (List Int) := if l.length ≤ 17592186044416 then some (srt l) else none
set_option maxHeartbeats 2000000 in
/-- slices.Sorted(slices.Values(x)), the box of x being there. -/
theorem sorted_calls {A : Option Addr} {cap : Nat} {zs ys : List Int} {w : World} (hR : (Kd.int .i64).C w A zs.length zs) (h : srtF zs = some ys) :
    Calls Try.prog 89 #[.func (.func 116) #[] #[.pointer (some ⟨w.heap.size, 0, none⟩)]] (w.alloc (.cells #[.slice A zs.length cap] 35)) fun e w' => ∃ v, e = .returned v ∧ (Kd.int .i64).R 3 w' w.heap.size (fun _ => True) v ys ∧ Below w.heap.size w w' := by
  unfold srtF at h
  split at h
  · rename_i hlen
    obtain rfl := Option.some.inj h
    refine (callsIn_wide (n := 5)).1 ?_
    have hB0 : Below w.heap.size w (w.alloc (.cells #[.slice A zs.length cap] 35)) := (Below.refl _ w).alloc (Nat.le_refl _) _
    have hC : ∀ k, k < zs.length → ∃ ad, A = some ad ∧ ad.block < w.heap.size ∧ (w.alloc (.cells #[.slice A zs.length cap] 35)).cell? (ad.add k) = some (.int .i64 (rd zs (k : Int))) := by
      intro k hk
      obtain ⟨ad, e, h1⟩ := Kd.at_int hR (k : Int) (by omega) (by omega)
      rw [Int.toNat_natCast] at h1
      have hb := World.block_lt_of_cell? w _ h1
      refine ⟨ad, e, ?_, (hB0.cell hb).trans h1⟩
      have : (ad.add k).block = ad.block := by unfold Addr.add; split <;> rfl
      rwa [this] at hb
    have hbx := (Boxed.new w 35 (.slice A zs.length cap)).cell
    have cC := collect_in Fence.wide 4 trivial trivial trivial rfl (by omega) w.heap.size w.heap.size A cap zs hlen _ (by simp) (by simp) hbx hC
    generalize w.alloc (.cells #[.slice A zs.length cap] 35) = w0 at hB0 cC ⊢
    have hf1 : Fence.wide.fn 114 := trivial
    have hf2 : Fence.wide.fn 115 := trivial
    refine callsIn_of_wp Try.func89 rfl trivial ?_ rfl
    simp only [Try.ntmps89, List.size_toArray, List.length_cons, List.length_nil, Nat.reduceAdd, Nat.reduceSub, Array.replicate_succ, Array.replicate_zero, List.push_toArray, List.append_toArray, List.nil_append, List.cons_append]
    gi_wp2_with (gi_at_call 114; refine cC.mono ?_; rintro e W ⟨v, rfl, hrow, hnil, hb⟩)
    rcases hrow.2 with ⟨rfl, hz⟩ | ⟨gb, cap', cur, rfl, hbase, hgb, r1, r2, r3, r4⟩
    · obtain rfl : zs = [] := List.eq_nil_of_length_eq_zero hz
      have cN : CallsIn Fence.wide 4 Try.prog 115 #[.slice none 0 0] W fun e w' => e = .returned (.tuple #[]) ∧ w' = W := callsIn_wide.2 (AnyM.slices_Sort_int_none Try.sortInts none 0 W)
      gi_wp2_with (gi_at_call 115; refine cN.mono ?_; rintro e w' ⟨rfl, rfl⟩)
      go_ret
      rw [show srt [] = [] from List.mergeSort_nil]
      exact ⟨.slice none 0 0, rfl, Kd.R_nil _ _ _ _ _, hB0.trans (hb.mono hB0.size)⟩
    · have hH : Go.Sort.Holds (Value.int .i64) W gb 0 zs.toArray := holds_of_block_i hgb (by simpa using r4)
      have hgl : gb < W.heap.size := (Array.getElem?_eq_some_iff.1 hgb).1
      have cS : CallsIn Fence.wide 4 Try.prog 115 #[.slice (some ⟨gb, 0, none⟩) zs.length cap'] W fun e w' => e = .returned (.tuple #[]) ∧ ∃ n os, w' = Go.Sort.grow (Go.Sort.putRow (Value.int .i64) (Go.Sort.ahead W n) gb 0 (zs.mergeSort fun x y => decide (x ≤ y)).toArray) os :=
        callsIn_wide.2 (AnyM.slices_Sort_int Try.sortInts gb 0 cap' zs W hH hgl (by omega))
      gi_wp2_with (gi_at_call 115; refine cS.mono ?_; rintro e w' ⟨rfl, nn, os, rfl⟩)
      go_ret
      have ho := ownsRow_sorted_i (ss := zs) (ts := zs.mergeSort fun x y => decide (x ≤ y)) (n := nn) (os := os) (by simp) hbase hgb r1 r2 r3
      have hb2 := hb.grown (grownBy_sorted_i (n := nn) (os := os) (zs.mergeSort fun x y => decide (x ≤ y)).toArray) hb.size (fun j hj => by cases hj; exact hbase)
      refine ⟨_, rfl, ⟨fun _ _ => trivial, (srt zs).map (Value.int .i64), ?_, ?_, ?_⟩, hB0.trans (hb2.mono hB0.size)⟩
      · have := own_weaken ho hB0.size
        rw [show (srt zs).length = zs.length by simp [srt]]
        exact this
      · simp [Kd.int, Kd.scalar]
      · intro j p hp
        obtain ⟨hj, rfl⟩ := List.getElem?_eq_some_iff.1 hp
        show (((srt zs).map (Value.int .i64)).drop (j * 1)).take 1 = [Value.int .i64 (srt zs)[j]]
        rw [Nat.mul_one, List.drop_eq_getElem_cons (by simpa using hj)]
        simp
  · cases h
end Go.Proofs.Ytnaginnhccldhaa.G
