/- Several parts in one text: Products of two lists: both programs test and multiply alike. Two lists of four. The sum of the squares of a list. The product of two lists of four numbers, and the sum of its squares. Where the descent to four squares begins: what both programs come to. Choices drawn from bytes: each comes to a number within its bounds. The draws of chapter 9: a number up to a bound, and a prime number. The draw of the numbers to be multiplied. The laws' test of their codes' sizes. The laws' own comparisons of lists. Reads of a row, and of its numbers, by what stands there. laws.vSquares: the sum of the squares. -/
import Derived.Test.YtpmbffchkcemoaaFx1
import Derived.Test.YtpmbffchkcemoaaFx10
import Derived.Test.YtpmbffchkcemoaaFQLaws
import Derived.Test.YtpmbffchkcemoaaFQEv
import Derived.Test.YtpmbffchkcemoaaFx3
import Derived.Test.YtpmbffchkcemoaaFQ1
import Derived.Test.YtpmbffchkcemoaaFx9
import Derived.Laws.BitsAllLaws
namespace Go.Proofs.Ytpmbffchkcemoaa.Q
open Go.RowKit Go.Proofs.Ytpmbffchkcemoaa.P Go.Proofs.YtpmbffchkcemoaaW.PrintWords Go.Proofs.YtpmbffchkcemoaaW.PrintLast Go.Proofs.Ytpmbffchkcemoaa.G

theorem mulIn_eq (a lo hi : Int) : spec_l1In.f a lo hi = some (decide (lo ≤ a ∧ a ≤ hi)) := by
  unfold spec_l1In.f
  by_cases h : lo ≤ a
  · rw [if_pos h]
    simp [h]
  · rw [if_neg h]
    simp [h]
theorem l1All_l0 {l : List Int} (hn : l.length ≤ 4611686018427387904) (lo up : Int) (d : Nat) : ∀ i : Nat, i + d = l.length → Ev (fun k => spec_l1All.l0 k lo up l (l.length : Int) (i : Int)) ((l.drop i).all (inB lo up)) := by
  induction d with
  | zero =>
    intro i hi
    refine Ev_succ ?_
    simp only [spec_l1All.l0]
    rw [List.drop_of_length_le (by omega)]
    exact Ev_false (by omega) Ev_some
  | succ d ih =>
    intro i h1
    have hi : i < l.length := by omega
    refine Ev_succ ?_
    simp only [spec_l1All.l0]
    rw [rd_get hi, List.drop_eq_getElem_cons hi, w64 (x := (i : Int) + 1) (by omega) (by omega), mulIn_eq]
    refine Ev_true (by omega) (Ev_true (by omega) (Ev_true (by omega) ?_))
    simp only [Option.bind_some, List.all_cons]
    by_cases hb : lo ≤ l[i] ∧ l[i] ≤ up
    · have hin : inB lo up l[i] = true := by unfold inB; simp [hb]
      rw [hin, Bool.true_and]
      exact Ev_true (by simpa using hb) (ih (i + 1) (by omega))
    · have hin : inB lo up l[i] = false := by
        unfold inB
        rw [← Bool.not_eq_true]
        intro h
        exact hb (by simpa using h)
      rw [hin, Bool.false_and]
      exact Ev_false (by simpa using hb) Ev_some
theorem l1All_ev {l : List Int} (hn : l.length ≤ 4611686018427387904) (lo up : Int) : Ev (fun k => spec_l1All.f k l lo up) (l.all (inB lo up)) :=
  l1All_l0 hn lo up l.length 0 (by omega)
theorem parts_ev {l : List Int} (hn : l.length ≤ 4611686018427387904) (m : Int) : Ev (fun k => spec_sqParts.f k l m) (decide ((l.length : Int) = m) && l.all (inB (-10000) 10000)) := by
  unfold spec_sqParts.f
  by_cases h : (l.length : Int) = m
  · rw [decide_eq_true h, Bool.true_and]
    exact Ev_true h (Ev.bind (f := fun _ t => some t) (l1All_ev hn _ _) Ev_some)
  · rw [decide_eq_false h, Bool.false_and]
    exact Ev_false h Ev_some
theorem areMul_eq (l m : List Int) (p : Int) : impl_areMultiplied.f l m p = some ((decide ((l.length : Int) = p) && l.all (inB (-10000) 10000)) && (decide ((m.length : Int) = p) && m.all (inB (-10000) 10000))) := by
  unfold impl_areMultiplied.f impl_allWithin.f
  by_cases h1 : (l.length : Int) = p
  · by_cases h2 : (m.length : Int) = p
    · rw [if_pos h1, if_pos h2]
      simp only [Option.bind_some, decide_eq_true h1, decide_eq_true h2, Bool.true_and]
      cases l.all (inB (-10000) 10000) <;> simp
    · rw [if_pos h1, if_neg h2]
      simp [h1, h2]
  · rw [if_neg h1]
    simp [h1]
end Go.Proofs.Ytpmbffchkcemoaa.Q
namespace Go.Proofs.Ytpmbffchkcemoaa.Q
open Go.RowKit Go.Proofs.Ytpmbffchkcemoaa.P Go.Proofs.YtpmbffchkcemoaaW.PrintWords Go.Proofs.YtpmbffchkcemoaaW.PrintLast Go.Proofs.Ytpmbffchkcemoaa.G

theorem mulFour_ev {l m : List Int} (hl : l.length ≤ 4611686018427387904) (hm : m.length ≤ 4611686018427387904) : ∃ r : List Int × Bool, r.1.length ≤ 4 ∧ Ev (fun k => spec_MultiplyFour.f k l m) r ∧ impl_MultiplyFour.f l m = some r := by
  unfold spec_MultiplyFour.f impl_MultiplyFour.f
  rw [areMul_eq]
  have h1 := parts_ev hl 4
  have h2 := parts_ev hm 4
  cases c1 : (decide ((l.length : Int) = 4) && l.all (inB (-10000) 10000)) with
  | false =>
    rw [c1] at h1
    exact ⟨([], false), by simp, Ev.bind h1 (Ev_false (by simp) Ev_some), by simp⟩
  | true =>
    rw [c1] at h1
    cases c2 : (decide ((m.length : Int) = 4) && m.all (inB (-10000) 10000)) with
    | false =>
      rw [c2] at h2
      exact ⟨([], false), by simp, Ev.bind h1 (Ev_true rfl (Ev.bind h2 (Ev_false (by simp) Ev_some))), by simp⟩
    | true =>
      rw [c2] at h2
      have l1 : (l.length : Int) = 4 := by
        have := (Bool.and_eq_true_iff.mp c1).1
        exact of_decide_eq_true this
      have l2 : (m.length : Int) = 4 := by
        have := (Bool.and_eq_true_iff.mp c2).1
        exact of_decide_eq_true this
      have hf : spec_sqFour.f l m = impl_multiplyFour.f l m := rfl
      have hs : ∃ p : List Int, p.length = 4 ∧ impl_multiplyFour.f l m = some p := by
        unfold impl_multiplyFour.f
        rw [if_pos (by omega), if_pos (by omega), if_pos (by omega), if_pos (by omega), if_pos (by omega), if_pos (by omega), if_pos (by omega), if_pos (by omega)]
        exact ⟨_, rfl, rfl⟩
      obtain ⟨p, hp, he⟩ := hs
      rw [hf, he]
      refine ⟨(p, true), by show p.length ≤ 4; omega, Ev.bind h1 (Ev_true rfl (Ev.bind h2 (Ev_true rfl (Ev.bind (Ev_const rfl) Ev_some)))), ?_⟩
      simp
end Go.Proofs.Ytpmbffchkcemoaa.Q
namespace Go.Proofs.Ytpmbffchkcemoaa.Q
/-- The sum of the squares. -/
def sqs : List Int → Int
  | [] => 0
  | x :: l => x * x + sqs l
theorem sq_nn (x : Int) : 0 ≤ x * x := by
  rcases Int.le_total 0 x with h | h
  · exact Int.mul_nonneg h h
  · exact Int.mul_nonneg_of_nonpos_of_nonpos h h
theorem sqs_nn : ∀ l : List Int, 0 ≤ sqs l
  | [] => by simp [sqs]
  | x :: l => by
    have h1 := sqs_nn l
    have h2 := sq_nn x
    simp only [sqs]
    omega
end Go.Proofs.Ytpmbffchkcemoaa.Q
namespace Go.Proofs.Ytpmbffchkcemoaa.Q
open Go.RowKit Go.Proofs.Ytpmbffchkcemoaa.P Go.Proofs.YtpmbffchkcemoaaW.PrintWords Go.Proofs.YtpmbffchkcemoaaW.PrintLast Go.Proofs.Ytpmbffchkcemoaa.G
def b4 (x : Int) : Prop := -10000 ≤ x ∧ x ≤ 10000
theorem mulB {x y : Int} {A B : Int} (hx : -A ≤ x ∧ x ≤ A) (hy : -B ≤ y ∧ y ≤ B) : -(A * B) ≤ x * y ∧ x * y ≤ A * B := by
  have k1 := Int.mul_nonneg (show 0 ≤ A - x by omega) (show 0 ≤ B + y by omega)
  have k2 := Int.mul_nonneg (show 0 ≤ A + x by omega) (show 0 ≤ B - y by omega)
  have k3 := Int.mul_nonneg (show 0 ≤ A - x by omega) (show 0 ≤ B - y by omega)
  have k4 := Int.mul_nonneg (show 0 ≤ A + x by omega) (show 0 ≤ B + y by omega)
  have e1 : (A - x) * (B + y) = A * B + A * y - x * B - x * y := by grind
  have e2 : (A + x) * (B - y) = A * B - A * y + x * B - x * y := by grind
  have e3 : (A - x) * (B - y) = A * B - A * y - x * B + x * y := by grind
  have e4 : (A + x) * (B + y) = A * B + A * y + x * B + x * y := by grind
  omega
theorem prB4 {x y : Int} (hx : b4 x) (hy : b4 y) : -100000000 ≤ x * y ∧ x * y ≤ 100000000 := by
  have := mulB (A := 10000) (B := 10000) hx hy
  omega
theorem wsumB {p q r s : Int} (hp : -100000000 ≤ p ∧ p ≤ 100000000) (hq : -100000000 ≤ q ∧ q ≤ 100000000) (hr : -100000000 ≤ r ∧ r ≤ 100000000) (hs : -100000000 ≤ s ∧ s ≤ 100000000) :
    wrap64 (wrap64 (wrap64 (wrap64 p + wrap64 q) + wrap64 r) + wrap64 s) = p + q + r + s := by
  rw [w64 (x := p) (by omega) (by omega), w64 (x := q) (by omega) (by omega), w64 (x := r) (by omega) (by omega), w64 (x := s) (by omega) (by omega), w64 (x := p + q) (by omega) (by omega), w64 (x := p + q + r) (by omega) (by omega), w64 (by omega) (by omega)]
theorem wdifB {p q r s : Int} (hp : -100000000 ≤ p ∧ p ≤ 100000000) (hq : -100000000 ≤ q ∧ q ≤ 100000000) (hr : -100000000 ≤ r ∧ r ≤ 100000000) (hs : -100000000 ≤ s ∧ s ≤ 100000000) :
    wrap64 (wrap64 (wrap64 (wrap64 p - wrap64 q) + wrap64 r) - wrap64 s) = p - q + r - s := by
  rw [w64 (x := p) (by omega) (by omega), w64 (x := q) (by omega) (by omega), w64 (x := r) (by omega) (by omega), w64 (x := s) (by omega) (by omega), w64 (x := p - q) (by omega) (by omega), w64 (x := p - q + r) (by omega) (by omega), w64 (by omega) (by omega)]
def prod4 (a b c d u v w x : Int) : List Int := [a * u + b * v + c * w + d * x, a * v - b * u + c * x - d * w, a * w - c * u + d * v - b * x, a * x - d * u + b * w - c * v]
theorem prod4_eq {a b c d u v w x : Int} (ha : b4 a) (hb : b4 b) (hc : b4 c) (hd : b4 d) (hu : b4 u) (hv : b4 v) (hw : b4 w) (hx : b4 x) : impl_multiplyFour.f [a, b, c, d] [u, v, w, x] = some (prod4 a b c d u v w x) := by
  unfold impl_multiplyFour.f
  rw [if_pos (by simp), if_pos (by simp), if_pos (by simp), if_pos (by simp), if_pos (by simp), if_pos (by simp), if_pos (by simp), if_pos (by simp)]
  show some [wrap64 (wrap64 (wrap64 (wrap64 (a * u) + wrap64 (b * v)) + wrap64 (c * w)) + wrap64 (d * x)),
    wrap64 (wrap64 (wrap64 (wrap64 (a * v) - wrap64 (b * u)) + wrap64 (c * x)) - wrap64 (d * w)),
    wrap64 (wrap64 (wrap64 (wrap64 (a * w) - wrap64 (c * u)) + wrap64 (d * v)) - wrap64 (b * x)),
    wrap64 (wrap64 (wrap64 (wrap64 (a * x) - wrap64 (d * u)) + wrap64 (b * w)) - wrap64 (c * v))] = _
  rw [wsumB (prB4 ha hu) (prB4 hb hv) (prB4 hc hw) (prB4 hd hx), wdifB (prB4 ha hv) (prB4 hb hu) (prB4 hc hx) (prB4 hd hw), wdifB (prB4 ha hw) (prB4 hc hu) (prB4 hd hv) (prB4 hb hx), wdifB (prB4 ha hx) (prB4 hd hu) (prB4 hb hw) (prB4 hc hv)]
  rfl
theorem euler (a b c d u v w x : Int) : sqs (prod4 a b c d u v w x) = sqs [a, b, c, d] * sqs [u, v, w, x] := by
  simp only [prod4, sqs, Int.add_zero]
  grind
theorem sq_small {x : Int} (h : b4 x) : 0 ≤ x * x ∧ x * x ≤ 100000000 := by
  have h1 := prB4 h h
  have h2 := sq_nn x
  omega
theorem four_list {l : List Int} (h1 : (l.length : Int) = 4) (h2 : l.all (inB (-10000) 10000) = true) : ∃ a b c d, l = [a, b, c, d] ∧ b4 a ∧ b4 b ∧ b4 c ∧ b4 d := by
  match l, h1 with
  | [a, b, c, d], _ =>
    simp only [List.all_cons, List.all_nil, Bool.and_true, Bool.and_eq_true, inB, decide_eq_true_eq] at h2
    obtain ⟨⟨a1, a2⟩, ⟨b1, b2⟩, ⟨c1, c2⟩, d1, d2⟩ := h2
    exact ⟨a, b, c, d, rfl, ⟨a1, a2⟩, ⟨b1, b2⟩, ⟨c1, c2⟩, d1, d2⟩
/-- The product, and that its squares' sum is the product of the sums. -/
theorem mulFour_val {l m : List Int} (hl : l.length ≤ 4611686018427387904) (hm : m.length ≤ 4611686018427387904) : ∃ r : List Int × Bool, r.1.length ≤ 4 ∧ Ev (fun k => spec_MultiplyFour.f k l m) r ∧ impl_MultiplyFour.f l m = some r ∧
    (r.2 = true → sqs r.1 = sqs l * sqs m ∧ 0 ≤ sqs l ∧ sqs l ≤ 400000000 ∧ 0 ≤ sqs m ∧ sqs m ≤ 400000000) := by
  obtain ⟨r, h1, h2, h3⟩ := mulFour_ev hl hm
  refine ⟨r, h1, h2, h3, fun hr => ?_⟩
  unfold impl_MultiplyFour.f at h3
  rw [areMul_eq] at h3
  simp only [Option.bind_some] at h3
  split at h3
  · rename_i hc
    simp only [Bool.and_eq_true, decide_eq_true_eq] at hc
    obtain ⟨⟨c1, c2⟩, c3, c4⟩ := hc
    obtain ⟨a, b, c, d, rfl, ha, hb, hc, hd⟩ := four_list c1 c2
    obtain ⟨u, v, w, x, rfl, hu, hv, hw, hx⟩ := four_list c3 c4
    rw [prod4_eq ha hb hc hd hu hv hw hx] at h3
    have h3 := Option.some.inj h3
    subst h3
    refine ⟨euler a b c d u v w x, sqs_nn _, ?_, sqs_nn _, ?_⟩
    · have k1 := sq_small ha
      have k2 := sq_small hb
      have k3 := sq_small hc
      have k4 := sq_small hd
      simp only [sqs]
      omega
    · have k1 := sq_small hu
      have k2 := sq_small hv
      have k3 := sq_small hw
      have k4 := sq_small hx
      simp only [sqs]
      omega
  · have h3 := Option.some.inj h3
    subst h3
    exact absurd hr (by simp)
end Go.Proofs.Ytpmbffchkcemoaa.Q
namespace Go.Proofs.Ytpmbffchkcemoaa.Q
open Go.RowKit Go.Proofs.Ytpmbffchkcemoaa.P Go.Proofs.YtpmbffchkcemoaaW.PrintWords Go.Proofs.YtpmbffchkcemoaaW.PrintLast
theorem start_ev (a : Int) : ∃ r : List Int × Bool, r.1.length ≤ 4 ∧ Ev (fun k => spec_FourStart.f k a) r ∧ Ev (fun k => impl_FourStart.f k a) r := by
  have hno : Ev (fun k => impl_FourStart.j0 k a true) ([], false) := by
    refine Ev_succ ?_
    simp only [impl_FourStart.j0]
    exact Ev_true trivial Ev_some
  unfold spec_FourStart.f impl_FourStart.f spec_sqGiven.f
  rw [l1In_eq, isFour_eq]
  simp only [Option.bind_some]
  by_cases h0 : 0 ≤ a ∧ a ≤ 2000
  · obtain ⟨p, rfl⟩ := Int.eq_ofNat_of_zero_le h0.1
    have hpe := isPrime_ev p (by omega)
    have hse := sqPrime_ev p (by omega)
    by_cases hp : isPr p
    · have hb := (prB_iff p).2 hp
      have hp2 := hp.1
      rw [hb] at hpe hse
      obtain ⟨a0, b0, F⟩ := first_exists hp (by omega)
      refine ⟨([(a0 : Int), (b0 : Int), 1, 0], true), by simp, ?_, Ev_true (by simpa using h0) ?_⟩
      · refine Ev.bind (a := true) (f := fun k t => if t = true then (spec_sqStart.f k (p : Int)).bind fun t210 => some (t210, true) else some ([], false)) ?_ ?_
        · exact Ev_true (by simp; omega) (Ev.bind (f := fun _ t => some t) hse Ev_some)
        · refine Ev_true rfl (Ev.bind (f := fun _ t => some (t, true)) ?_ Ev_some)
          refine Ev_succ ?_
          simp only [spec_sqStart.f, spec_sqStart.l0]
          exact sqStart_l1 (by omega) hp2 F _ 0 0 (by omega) (by omega) (fun _ => by omega) (Nat.le_refl _)
      · refine Ev.bind (f := fun k t => impl_FourStart.j0 k (p : Int) (!t)) hpe ?_
        refine Ev_succ ?_
        simp only [impl_FourStart.j0]
        refine Ev_false (by simp) ?_
        refine Ev_succ ?_
        simp only [impl_FourStart.l0]
        rw [w64 (x := 2 * 0) (by omega) (by omega), w64 (x := 0 + 1) (by omega) (by omega)]
        exact Ev_true (by omega) (fourStart_l1 (by omega) hp2 F _ 0 0 (by omega) (by omega) (fun _ => by omega) (Nat.le_refl _))
    · have hb : prB p = false := by
        rw [← Bool.not_eq_true]
        exact fun h => hp ((prB_iff p).1 h)
      rw [hb] at hpe hse
      refine ⟨([], false), by simp, ?_, Ev_true (by simpa using h0) ?_⟩
      · refine Ev.bind (a := false) (f := fun k t => if t = true then (spec_sqStart.f k (p : Int)).bind fun t210 => some (t210, true) else some ([], false)) ?_ (Ev_false (by simp) Ev_some)
        by_cases h2 : 2 ≤ (p : Int) ∧ (p : Int) ≤ 2000
        · exact Ev_true (by simpa using h2) (Ev.bind (f := fun _ t => some t) hse Ev_some)
        · exact Ev_false (by simpa using h2) Ev_some
      · exact Ev.bind (f := fun k t => impl_FourStart.j0 k (p : Int) (!t)) hpe hno
  · refine ⟨([], false), by simp, ?_, Ev_false (by simpa using h0) hno⟩
    refine Ev.bind (a := false) (f := fun k t => if t = true then (spec_sqStart.f k a).bind fun t210 => some (t210, true) else some ([], false)) ?_ (Ev_false (by simp) Ev_some)
    exact Ev_false (by simp; omega) Ev_some
end Go.Proofs.Ytpmbffchkcemoaa.Q
namespace Go.Proofs.Ytpmbffchkcemoaa.Q
open Go.RowKit Go.Proofs.Ytpmbffchkcemoaa.P Go.Proofs.YtpmbffchkcemoaaW.PrintWords Go.Proofs.YtpmbffchkcemoaaW.PrintLast

/-- Bytes. -/
def Bytes (l : List Int) : Prop := l.length ≤ 1000000000000000 ∧ ∀ x ∈ l, 0 ≤ x ∧ x ≤ 255
theorem Bytes.of {l : List Int} (h1 : l.length * 1 ≤ 140737488351232) (h2 : ∀ x ∈ l, (Lit.int .u8 x).wf = true) : Bytes l := by
  refine ⟨by omega, fun x hx => ?_⟩
  have h := h2 x hx
  simp [Lit.wf, IntKind.min, IntKind.max, IntKind.signed, IntKind.bits] at h
  omega
theorem seed_bound (x : Int) : 0 ≤ wrap64 (Go.bits .and .u64 (IntKind.u64.wrap x / 1099511627776) 255) ∧ wrap64 (Go.bits .and .u64 (IntKind.u64.wrap x / 1099511627776) 255) ≤ 255 := by
  have e := IntKind.wrap_u64 x
  have h1 : 0 ≤ IntKind.u64.wrap x / 1099511627776 ∧ IntKind.u64.wrap x / 1099511627776 < 18446744073709551616 := by
    rw [e]
    omega
  rw [u64_and _ _ h1.1 h1.2 (by omega) (by omega)]
  have h2 : (IntKind.u64.wrap x / 1099511627776).toNat &&& (255 : Int).toNat ≤ 255 := Nat.and_le_right
  rw [w64 (by omega) (by omega)]
  omega
theorem next_eq {l : List Int} (hl : Bytes l) (t s : Int) (h0 : 0 ≤ t) (h1 : t ≤ 1000000000000000) : ∃ v s', spec_l1Cur_next.f l t s = some (v, t + 1, s') ∧ 0 ≤ v ∧ v ≤ 255 := by
  have hn := hl.1
  unfold spec_l1Cur_next.f
  rw [w64 (x := t + 1) (by omega) (by omega)]
  by_cases h : t < (l.length : Int)
  · have hm : 0 ≤ rd l t ∧ rd l t ≤ 255 := by
      have h2 : t.toNat < l.length := by omega
      have h3 : rd l t = l[t.toNat] := by simp [rd, List.getD_eq_getElem?_getD, List.getElem?_eq_getElem h2]
      rw [h3]
      exact hl.2 _ (List.getElem_mem h2)
    rw [if_pos h, if_pos h0, if_pos (by omega), w64 (x := rd l t) (by omega) (by omega)]
    exact ⟨_, _, rfl, hm.1, hm.2⟩
  · rw [if_neg h, if_neg (by omega)]
    have h2 := seed_bound (IntKind.u64.wrap (IntKind.u64.wrap (s * 6364136223846793005)) + 1442695040888963407)
    exact ⟨_, _, rfl, h2.1, h2.2⟩
theorem pick_eq {l : List Int} (hl : Bytes l) (t s n : Int) (h0 : 0 ≤ t) (h1 : t ≤ 100000000000000) (hn : n ≤ 1000000000000) :
    ∃ v t' s', spec_l1Cur_pick.f l t s n = some (v, t', s') ∧ 0 ≤ v ∧ (1 ≤ n → v < n) ∧ t ≤ t' ∧ t' ≤ t + 2 := by
  unfold spec_l1Cur_pick.f
  by_cases h : n ≤ 1
  · rw [if_pos h]
    exact ⟨_, _, _, rfl, by omega, by omega, by omega, by omega⟩
  · rw [if_neg h]
    obtain ⟨v, s1, e1, v0, v1⟩ := next_eq hl t s h0 (by omega)
    rw [e1]
    simp only [Option.bind_some]
    by_cases h2 : n > 200
    · rw [if_pos h2]
      obtain ⟨u, s2, e2, u0, u1⟩ := next_eq hl (t + 1) s1 (by omega) (by omega)
      rw [e2]
      simp only [Option.bind_some]
      rw [if_neg (by omega), w64 (x := v * 256) (by omega) (by omega), w64 (x := v * 256 + u) (by omega) (by omega), Int.tmod_eq_emod_of_nonneg (by omega)]
      have h3 := Int.emod_nonneg (v * 256 + u) (show n ≠ 0 by omega)
      have h4 := Int.emod_lt_of_pos (v * 256 + u) (show 0 < n by omega)
      exact ⟨_, _, _, rfl, h3, fun _ => h4, by omega, by omega⟩
    · rw [if_neg h2, if_neg (by omega), Int.tmod_eq_emod_of_nonneg v0]
      have h3 := Int.emod_nonneg v (show n ≠ 0 by omega)
      have h4 := Int.emod_lt_of_pos v (show 0 < n by omega)
      exact ⟨_, _, _, rfl, h3, fun _ => h4, by omega, by omega⟩
theorem among_eq {l : List Int} (hl : Bytes l) (t s : Int) (m : List Int) (h0 : 0 ≤ t) (h1 : t ≤ 100000000000000) (hm : 1 ≤ m.length) (hm2 : m.length ≤ 1000000000) :
    ∃ v t' s', spec_l1Cur_among.f l t s m = some (v, t', s') ∧ v ∈ m ∧ t ≤ t' ∧ t' ≤ t + 2 := by
  unfold spec_l1Cur_among.f
  obtain ⟨v, t', s', e, v0, v1, ht, ht'⟩ := pick_eq hl t s (m.length : Int) h0 h1 (by omega)
  rw [e]
  simp only [Option.bind_some]
  have h2 := v1 (by omega)
  rw [if_pos v0, if_pos h2]
  have h3 : v.toNat < m.length := by omega
  have h4 : rd m v = m[v.toNat] := by simp [rd, List.getD_eq_getElem?_getD, List.getElem?_eq_getElem h3]
  exact ⟨_, _, _, rfl, by rw [h4]; exact List.getElem_mem h3, ht, ht'⟩
end Go.Proofs.Ytpmbffchkcemoaa.Q
namespace Go.Proofs.Ytpmbffchkcemoaa.Q
open Go.RowKit Go.Proofs.Ytpmbffchkcemoaa.P Go.Proofs.YtpmbffchkcemoaaW.PrintWords Go.Proofs.YtpmbffchkcemoaaW.PrintLast
theorem pick_low {l : List Int} (hl : Bytes l) (t s n : Int) (h0 : 0 ≤ t) (h1 : t ≤ 100000000000000) (hn : n ≤ 1000000000000) :
    ∃ v t' s', spec_l1Cur_pick.f l t s n = some (v, t', s') ∧ 0 ≤ v ∧ (1 ≤ n → v < n) ∧ v ≤ 65535 ∧ t ≤ t' ∧ t' ≤ t + 2 := by
  unfold spec_l1Cur_pick.f
  by_cases h : n ≤ 1
  · rw [if_pos h]
    exact ⟨_, _, _, rfl, by omega, by omega, by omega, by omega, by omega⟩
  · rw [if_neg h]
    obtain ⟨v, s1, e1, v0, v1⟩ := next_eq hl t s h0 (by omega)
    rw [e1]
    simp only [Option.bind_some]
    by_cases h2 : n > 200
    · rw [if_pos h2]
      obtain ⟨u, s2, e2, u0, u1⟩ := next_eq hl (t + 1) s1 (by omega) (by omega)
      rw [e2]
      simp only [Option.bind_some]
      rw [if_neg (by omega), w64 (x := v * 256) (by omega) (by omega), w64 (x := v * 256 + u) (by omega) (by omega), Int.tmod_eq_emod_of_nonneg (by omega)]
      have h3 := Int.emod_nonneg (v * 256 + u) (show n ≠ 0 by omega)
      have h4 := Int.emod_lt_of_pos (v * 256 + u) (show 0 < n by omega)
      have h5 : (v * 256 + u) % n ≤ v * 256 + u := by
        have k1 := Int.mul_ediv_add_emod (v * 256 + u) n
        have k2 := Int.mul_nonneg (show 0 ≤ n by omega) (Int.ediv_nonneg (show 0 ≤ v * 256 + u by omega) (show 0 ≤ n by omega))
        omega
      exact ⟨_, _, _, rfl, h3, fun _ => h4, by omega, by omega, by omega⟩
    · rw [if_neg h2, if_neg (by omega), Int.tmod_eq_emod_of_nonneg v0]
      have h3 := Int.emod_nonneg v (show n ≠ 0 by omega)
      have h4 := Int.emod_lt_of_pos v (show 0 < n by omega)
      exact ⟨_, _, _, rfl, h3, fun _ => h4, by omega, by omega, by omega⟩
theorem one_any {l : List Int} (hl : Bytes l) (t s n : Int) (h0 : 0 ≤ t) (h1 : t ≤ 100000000000000) (hn : n ≤ 1000000000000) : ∃ v t' s', spec_l1Cur_one.f l t s n = some (v, t', s') ∧ t ≤ t' ∧ t' ≤ t + 2 := by
  unfold spec_l1Cur_one.f
  obtain ⟨v, t1, s1, e1, v0, v1, ht, ht'⟩ := pick_eq hl t s n h0 h1 hn
  rw [e1]
  exact ⟨_, _, _, rfl, ht, ht'⟩
theorem least_eq (a b : Int) : spec_l1Least.f a b = some (if a < b then a else b) := by
  unfold spec_l1Least.f
  split <;> rfl
/-- The numbers that are drawn. -/
def Drawn9 (n v : Int) : Prop := v ∈ ([-1, 0, 1, 2, 3, 7, n, n + 1] : List Int) ∨ (0 ≤ v ∧ v < n ∧ v ≤ 65535)
theorem pr_two : isPr 2 := by
  refine ⟨by omega, fun e h1 h2 _ => ?_⟩
  have := Nat.mul_le_mul h1 h1
  omega
theorem prime_l0 {l : List Int} (t s : Int) : ∀ d : Nat, d + 2 ≤ 1000000 → EvS (fun k => spec_l1Cur_prime.l0 k ((d + 2 : Nat) : Int) l t s)
  | 0, _ => by
    refine EvS_succ ?_
    simp only [spec_l1Cur_prime.l0]
    refine EvS_bind (EvS_of (sqPrime_ev 2 (by omega))) (fun a ha => ?_)
    obtain rfl := Ev_uniq ha (sqPrime_ev 2 (by omega))
    exact EvS_true ((prB_iff 2).2 pr_two) EvS_some
  | d + 1, h => by
    refine EvS_succ ?_
    simp only [spec_l1Cur_prime.l0]
    refine EvS_bind (EvS_of (sqPrime_ev (d + 1 + 2) h)) (fun a ha => ?_)
    refine EvS_ite (fun _ => EvS_some) (fun _ => ?_)
    rw [show wrap64 (((d + 1 + 2 : Nat) : Int) - 1) = ((d + 2 : Nat) : Int) from (w64 (by omega) (by omega)).trans (by omega)]
    exact prime_l0 t s d (by omega)
theorem drawPrime_ev {l : List Int} (hl : Bytes l) {n : Int} (h1 : 2000 ≤ n) (h2 : n ≤ 1000000) : EvS (fun k => spec_l1Cur_prime.f k l 0 0 n) := by
  unfold spec_l1Cur_prime.f
  obtain ⟨v, t1, s1, e1, ht, ht'⟩ := one_any hl 0 0 8 (by omega) (by omega) (by omega)
  rw [e1]
  simp only [Option.bind_some]
  refine EvS_ite (fun _ => ?_) (fun _ => ?_)
  · obtain ⟨u, t2, s2, e2, hu, _, _⟩ := among_eq hl t1 s1 ([(-1), 0, 1, 2, 3, 4, n, wrap64 (n + 1)] : List Int) (by omega) (by omega) (by simp) (by simp)
    rw [e2]
    exact EvS_some
  · rw [least_eq]
    simp only [Option.bind_some]
    have hm : 2000 ≤ (if n < 3000 then n else 3000) ∧ (if n < 3000 then n else 3000) ≤ 3000 := by split <;> omega
    generalize (if n < 3000 then n else 3000) = m at hm ⊢
    rw [w64 (x := m - 2) (by omega) (by omega)]
    obtain ⟨u, t2, s2, e2, u0, u1, _, _⟩ := pick_eq hl t1 s1 (m - 2) (by omega) (by omega) (by omega)
    rw [e2]
    simp only [Option.bind_some]
    have := u1 (by omega)
    rw [show wrap64 (2 + u) = ((u.toNat + 2 : Nat) : Int) from (w64 (by omega) (by omega)).trans (by omega)]
    exact prime_l0 _ _ _ (by omega)
end Go.Proofs.Ytpmbffchkcemoaa.Q
namespace Go.Proofs.Ytpmbffchkcemoaa.Q
open Go.RowKit Go.Proofs.Ytpmbffchkcemoaa.P Go.Proofs.YtpmbffchkcemoaaW.PrintWords Go.Proofs.YtpmbffchkcemoaaW.PrintLast
theorem parts_l0 {l : List Int} (hl : Bytes l) (n : Nat) (hn : n ≤ 10) : ∀ (d : Nat) (x : List Int) (t s : Int), 1 ≤ n → x.length + d = n → 0 ≤ t → t + 4 * d ≤ 1000 →
    ∃ y t' s', Ev (fun k => spec_l1Cur_parts.l0 k (n : Int) x l t s) (y, t', s') ∧ y.length ≤ n + 1 ∧ 0 ≤ t' ∧ t' ≤ t + 4 * d + 10
  | 0, x, t, s, h1, hx, h0, ht => by
    obtain ⟨v, t1, s1, e1, _, _, a1, a2⟩ := pick_eq hl t s 14 h0 (by omega) (by omega)
    by_cases hv : v = 0
    · obtain ⟨u, t2, s2, e2, _, a3, a4⟩ := among_eq hl t1 s1 ([(-10001), (-10000), 10000, 10001] : List Int) (by omega) (by omega) (by simp) (by simp)
      refine ⟨x.set (0 : Int).toNat u, t2, s2, ?_, by simp; omega, by omega, by omega⟩
      refine Ev_succ ?_
      simp only [spec_l1Cur_parts.l0]
      refine Ev_false (by omega) ?_
      rw [e1]
      simp only [Option.bind_some]
      refine Ev_true hv ?_
      rw [e2]
      simp only [Option.bind_some]
      exact Ev_true (by omega) Ev_some
    · by_cases hv1 : v = 1
      · refine ⟨x ++ [1], t1, s1, ?_, by simp; omega, by omega, by omega⟩
        refine Ev_succ ?_
        simp only [spec_l1Cur_parts.l0]
        refine Ev_false (by omega) ?_
        rw [e1]
        simp only [Option.bind_some]
        exact Ev_false hv (Ev_true hv1 (Ev_true (by omega) Ev_some))
      · refine ⟨x, t1, s1, ?_, by omega, by omega, by omega⟩
        refine Ev_succ ?_
        simp only [spec_l1Cur_parts.l0]
        refine Ev_false (by omega) ?_
        rw [e1]
        simp only [Option.bind_some]
        exact Ev_false hv (Ev_false hv1 Ev_some)
  | d + 1, x, t, s, h1, hx, h0, ht => by
    obtain ⟨v, t1, s1, e1, _, _, a1, a2⟩ := pick_eq hl t s 41 h0 (by omega) (by omega)
    obtain ⟨y, t', s', g1, g2, g3, g4⟩ := parts_l0 hl n hn d (x ++ [wrap64 (v - 20)]) t1 s1 h1 (by simp; omega) (by omega) (by omega)
    refine ⟨y, t', s', ?_, g2, g3, by omega⟩
    refine Ev_succ ?_
    simp only [spec_l1Cur_parts.l0]
    refine Ev_true (by omega) ?_
    rw [e1]
    simp only [Option.bind_some]
    exact Ev_true (by omega) g1
theorem drawParts_ev {l : List Int} (hl : Bytes l) (n : Nat) (hn : n ≤ 10) (h1 : 1 ≤ n) (t s : Int) (h0 : 0 ≤ t) (ht : t ≤ 900) : ∃ y t' s', Ev (fun k => spec_l1Cur_parts.f k l t s (n : Int)) (y, t', s') ∧ y.length ≤ n + 1 ∧ 0 ≤ t' ∧ t' ≤ t + 100 := by
  obtain ⟨y, t', s', g1, g2, g3, g4⟩ := parts_l0 hl n hn n [] t s h1 (by simp) h0 (by omega)
  exact ⟨y, t', s', g1, g2, g3, by omega⟩
end Go.Proofs.Ytpmbffchkcemoaa.Q
namespace Go.Proofs.Ytpmbffchkcemoaa.Q
open Go.RowKit Go.Proofs.Ytpmbffchkcemoaa.P Go.Proofs.YtpmbffchkcemoaaW.PrintWords Go.Proofs.YtpmbffchkcemoaaW.PrintLast

theorem big_eq (l m : List Int) : ∃ b, laws_big.f l m = some b := by
  unfold laws_big.f
  split <;> exact ⟨_, rfl⟩
end Go.Proofs.Ytpmbffchkcemoaa.Q
namespace Go.Proofs.Ytpmbffchkcemoaa.Q
open Go.RowKit Go.Proofs.Ytpmbffchkcemoaa.P Go.Proofs.YtpmbffchkcemoaaW.PrintWords Go.Proofs.YtpmbffchkcemoaaW.PrintLast

theorem rdv {l : List Int} {i : Nat} (h : i < l.length) : rd l (i : Int) = l[i] := by
  simp [rd, List.getD_eq_getElem?_getD, List.getElem?_eq_getElem h]
theorem rdvRow {l : List (List Int)} {i : Nat} (h : i < l.length) : rd_L1 l (i : Int) = l[i] := by
  simp [rd_L1, List.getD_eq_getElem?_getD, List.getElem?_eq_getElem h]
theorem vSame_l0 {l m : List Int} (hl : l.length = m.length) (hn : l.length ≤ 4611686018427387904) (d : Nat) : ∀ i : Nat, i + d = l.length → Ev (fun k => laws_vSame.l0 k l m (l.length : Int) (i : Int)) (decide (l.drop i = m.drop i)) := by
  induction d with
  | zero =>
    intro i hi
    refine Ev_succ ?_
    simp only [laws_vSame.l0]
    rw [List.drop_of_length_le (by omega), List.drop_of_length_le (by omega)]
    exact Ev_false (by omega) Ev_some
  | succ d ih =>
    intro i hi
    have h1 : i < l.length := by omega
    have h2 : i < m.length := by omega
    refine Ev_succ ?_
    simp only [laws_vSame.l0]
    rw [rdv h1, rdv h2, List.drop_eq_getElem_cons h1, List.drop_eq_getElem_cons h2, w64 (by omega) (by omega)]
    refine Ev_true (by omega) (Ev_true (by omega) (Ev_true (by omega) (Ev_true (by omega) ?_)))
    by_cases he : l[i] = m[i]
    · have e : decide (l[i] :: l.drop (i + 1) = m[i] :: m.drop (i + 1)) = decide (l.drop (i + 1) = m.drop (i + 1)) :=
        decide_eq_decide.2 ⟨fun h => (List.cons.inj h).2, fun h => by rw [he, h]⟩
      rw [e]
      exact Ev_true he (ih (i + 1) (by omega))
    · have e : decide (l[i] :: l.drop (i + 1) = m[i] :: m.drop (i + 1)) = false := by
        rw [decide_eq_false_iff_not]
        intro h
        exact he (List.cons.inj h).1
      rw [e]
      exact Ev_false he Ev_some
theorem vSame_ev {l m : List Int} (hn : l.length ≤ 4611686018427387904) : Ev (fun k => laws_vSame.f k l m) (decide (l = m)) := by
  unfold laws_vSame.f
  by_cases h : l.length = m.length
  · exact Ev_true (by omega) (vSame_l0 h hn l.length 0 (by omega))
  · have e : decide (l = m) = false := by
      rw [decide_eq_false_iff_not]
      intro he
      exact h (by rw [he])
    rw [e]
    exact Ev_false (by omega) Ev_some
theorem vSame_same {l : List Int} (hn : l.length ≤ 4611686018427387904) : Ev (fun k => laws_vSame.f k l l) true := by
  have h := vSame_ev (m := l) hn
  simpa using h
theorem vSameLists_l0 {L : List (List Int)} (hn : L.length ≤ 4611686018427387904) (hx : ∀ x ∈ L, x.length ≤ 4611686018427387904) (d : Nat) : ∀ i : Nat, i + d = L.length → Ev (fun k => laws_vSameLists.l0 k L L (L.length : Int) (i : Int)) true := by
  induction d with
  | zero =>
    intro i hi
    refine Ev_succ ?_
    simp only [laws_vSameLists.l0]
    exact Ev_false (by omega) Ev_some
  | succ d ih =>
    intro i hi
    have h1 : i < L.length := by omega
    refine Ev_succ ?_
    simp only [laws_vSameLists.l0]
    rw [rdvRow h1, w64 (by omega) (by omega)]
    exact Ev_true (by omega) (Ev_true (by omega) (Ev_true (by omega) (Ev_true (by omega) (Ev.bind (vSame_same (hx _ (List.getElem_mem h1))) (Ev_true rfl (ih (i + 1) (by omega)))))))
theorem vSameLists_same {L : List (List Int)} (hn : L.length ≤ 4611686018427387904) (hx : ∀ x ∈ L, x.length ≤ 4611686018427387904) : Ev (fun k => laws_vSameLists.f k L L) true := by
  unfold laws_vSameLists.f
  exact Ev_true rfl (vSameLists_l0 hn hx L.length 0 (by omega))
end Go.Proofs.Ytpmbffchkcemoaa.Q
namespace Go.Proofs.Ytpmbffchkcemoaa.Q
open Go.RowKit Go.Proofs.Ytpmbffchkcemoaa.P Go.Proofs.YtpmbffchkcemoaaW.PrintWords Go.Proofs.YtpmbffchkcemoaaW.PrintLast
theorem rdRow {L : List (List Int)} {i : Nat} {x : List Int} (h : L[i]? = some x) : rd_L1 L (i : Int) = x ∧ i < L.length := by
  obtain ⟨h1, h2⟩ := List.getElem?_eq_some_iff.1 h
  exact ⟨(rdvRow h1).trans h2, h1⟩
theorem rdRow0 {L : List (List Int)} {x : List Int} (h : L[0]? = some x) : rd_L1 L 0 = x ∧ 0 < L.length := rdRow (i := 0) h
theorem rd30 (x y z : Int) : rd [x, y, z] 0 = x := rfl
theorem rd31 (x y z : Int) : rd [x, y, z] 1 = y := rfl
theorem rd32 (x y z : Int) : rd [x, y, z] 2 = z := rfl
theorem len3 (x y z : Int) : (([x, y, z] : List Int).length : Int) = 3 := rfl
end Go.Proofs.Ytpmbffchkcemoaa.Q
namespace Go.Proofs.Ytpmbffchkcemoaa.Q
open Go.RowKit Go.Proofs.Ytpmbffchkcemoaa.P Go.Proofs.YtpmbffchkcemoaaW.PrintWords Go.Proofs.YtpmbffchkcemoaaW.PrintLast
theorem vSq_l0 {l : List Int} (hn : l.length ≤ 4611686018427387904) (d : Nat) : ∀ (i : Nat) (acc : Int), i + d = l.length → 0 ≤ acc → acc + sqs (l.drop i) ≤ 9000000000000000000 →
    Ev (fun k => laws_vSquares.l0 k acc l (l.length : Int) (i : Int)) (acc + sqs (l.drop i)) := by
  induction d with
  | zero =>
    intro i acc hi _ _
    refine Ev_succ ?_
    simp only [laws_vSquares.l0]
    refine Ev_false (by omega) ?_
    rw [List.drop_of_length_le (by omega)]
    simp only [sqs, Int.add_zero]
    exact Ev_some
  | succ d ih =>
    intro i acc hi h0 hb
    have h1 : i < l.length := by omega
    refine Ev_succ ?_
    simp only [laws_vSquares.l0]
    rw [List.drop_eq_getElem_cons h1] at hb ⊢
    simp only [sqs] at hb ⊢
    have k1 := sq_nn l[i]
    have k2 := sqs_nn (l.drop (i + 1))
    rw [rdv h1, w64 (x := l[i] * l[i]) (by omega) (by omega), w64 (x := acc + l[i] * l[i]) (by omega) (by omega), w64 (x := (i : Int) + 1) (by omega) (by omega)]
    have := ih (i + 1) (acc + l[i] * l[i]) (by omega) (by omega) (by omega)
    rw [show acc + (l[i] * l[i] + sqs (l.drop (i + 1))) = acc + l[i] * l[i] + sqs (l.drop (i + 1)) by omega]
    exact Ev_true (by omega) (Ev_true (by omega) (Ev_true (by omega) this))
theorem vSq_ev {l : List Int} (hn : l.length ≤ 4611686018427387904) (hb : sqs l ≤ 9000000000000000000) : Ev (fun k => laws_vSquares.f k l) (sqs l) := by
  have h := vSq_l0 hn l.length 0 0 (by omega) (by omega) (by simpa using hb)
  simpa [laws_vSquares.f] using h
end Go.Proofs.Ytpmbffchkcemoaa.Q
