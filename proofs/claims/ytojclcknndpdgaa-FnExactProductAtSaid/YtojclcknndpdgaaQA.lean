/- Several parts in one text: Small lemmas: loops with a number of rounds come to their answers. What the laws' comparison of lists comes to. A law's copy of a list. All of a list lie between two numbers. Matrices: the reference's test of a matrix. Matrices: the laws' helpers, and the reference's test of a matrix. Rows of numbers by a function, and what a store makes of them. Matrices: zeros and products of the reference. Matrices: transposes of the reference. Matrices: comparisons of the reference. Matrices: the reference's test of small numbers. Matrices times vectors, of both programs. Forms and products by them, of both programs. Products of matrices with small numbers: sums without an overflow, and three factors. -/
import Derived.Test.YtojclcknndpdgaaWWords
import Derived.Test.YtojclcknndpdgaaPx8
import Derived.Test.YtojclcknndpdgaaPx5
import Derived.Test.YtojclcknndpdgaaPx1
import Derived.Test.YtojclcknndpdgaaGA
import Derived.Test.YtojclcknndpdgaaPx2
import Derived.Test.YtojclcknndpdgaaPx4
import Derived.Test.YtojclcknndpdgaaPx10
import Derived.Test.YtojclcknndpdgaaPx11
import Derived.Test.YtojclcknndpdgaaPx3
import Derived.Test.YtojclcknndpdgaaPx7
namespace Go.Proofs.Ytojclcknndpdgaa.Q
open Go.RowKit Go.Proofs.YtojclcknndpdgaaW.PrintWords

theorem Ev_succ {α : Type} {g : Nat → Option α} {r : α} (h : Ev (fun k => g (k + 1)) r) : Ev g r := Ev.step (fun _ => rfl) h
theorem Ev_none {α : Type} {r : α} (h : Ev (fun _ => (none : Option α)) r) : False := by
  obtain ⟨K, h⟩ := h
  cases h K (Nat.le_refl _)
theorem Ev_some {α : Type} {a : α} : Ev (fun _ => some a) a := Ev.now a
theorem Ev_const {α : Type} {f : Option α} {a : α} (h : f = some a) : Ev (fun _ => f) a := ⟨0, fun _ _ => h⟩
theorem Ev_eq {α : Type} {g f : Nat → Option α} {r : α} (h : ∀ k, g k = f k) (k : Ev f r) : Ev g r := Ev.congr h k
theorem Ev_uniq {α : Type} {g : Nat → Option α} {r q : α} (h : Ev g r) (k : Ev g q) : r = q := by
  obtain ⟨K, h⟩ := h
  obtain ⟨K', k⟩ := k
  have h1 := h (K + K') (by omega)
  have h2 := k (K + K') (by omega)
  rw [h1] at h2
  exact Option.some.inj h2
theorem Ev_out {α : Type} {g : Nat → Option α} {r : α} (h : Ev g r) : ∃ k, g k = some r := h.rounds
theorem Ev_true {α : Type} {c : Prop} [Decidable c] {f g : Nat → Option α} {r : α} (hc : c) (h : Ev f r) : Ev (fun k => if c then f k else g k) r := by
  simpa only [if_pos hc] using h
theorem Ev_false {α : Type} {c : Prop} [Decidable c] {f g : Nat → Option α} {r : α} (hc : ¬ c) (h : Ev g r) : Ev (fun k => if c then f k else g k) r := by
  simpa only [if_neg hc] using h

/-- It comes to an answer. -/
def EvS {α : Type} (g : Nat → Option α) : Prop := ∃ r, Ev g r
theorem EvS_of {α : Type} {g : Nat → Option α} {r : α} (h : Ev g r) : EvS g := ⟨r, h⟩
theorem EvS_succ {α : Type} {g : Nat → Option α} (h : EvS (fun k => g (k + 1))) : EvS g := h.imp fun _ h => Ev_succ h
theorem EvS_some {α : Type} {a : α} : EvS (fun _ => some a) := ⟨a, Ev_some⟩
theorem EvS_true {α : Type} {c : Prop} [Decidable c] {f g : Nat → Option α} (hc : c) (h : EvS f) : EvS (fun k => if c then f k else g k) := h.imp fun _ h => Ev_true hc h
theorem EvS_false {α : Type} {c : Prop} [Decidable c] {f g : Nat → Option α} (hc : ¬ c) (h : EvS g) : EvS (fun k => if c then f k else g k) := h.imp fun _ h => Ev_false hc h
theorem EvS_ite {α : Type} {c : Prop} [Decidable c] {f g : Nat → Option α} (h1 : c → EvS f) (h2 : ¬ c → EvS g) : EvS (fun k => if c then f k else g k) := by
  by_cases hc : c
  · exact EvS_true hc (h1 hc)
  · exact EvS_false hc (h2 hc)
theorem EvS_bind {α β : Type} {g : Nat → Option α} {f : Nat → α → Option β} (h : EvS g) (k : ∀ a, Ev g a → EvS (fun n => f n a)) : EvS (fun n => (g n).bind (f n)) := by
  obtain ⟨a, ha⟩ := h
  obtain ⟨r, hr⟩ := k a ha
  exact ⟨r, Ev.bind ha hr⟩

theorem w64 {x : Int} (h : -9223372036854775808 ≤ x) (h' : x ≤ 9223372036854775807) : wrap64 x = x := by unfold wrap64; omega
theorem w64_nat (n : Nat) (h : n ≤ 9223372036854775807) : wrap64 (n : Int) = (n : Int) := w64 (by omega) (by omega)

theorem wf_i64 {a : Int} (h : (Lit.int .i64 a).wf = true) : -9223372036854775808 ≤ a ∧ a ≤ 9223372036854775807 := by
  simp [Lit.wf, IntKind.min, IntKind.max, IntKind.signed, IntKind.bits] at h
  omega
end Go.Proofs.Ytojclcknndpdgaa.Q
namespace Go.Proofs.Ytojclcknndpdgaa.Q
open Go.RowKit Go.Proofs.Ytojclcknndpdgaa.P Go.Proofs.YtojclcknndpdgaaW.PrintWords Go.Proofs.YtojclcknndpdgaaW.PrintLast

theorem rd_get {l : List Int} {i : Nat} (h : i < l.length) : rd l (i : Int) = l[i] := by
  simp [rd, List.getD_eq_getElem?_getD, List.getElem?_eq_getElem h]

theorem eqIntS_l0 {l m : List Int} (hl : l.length = m.length) (hn : l.length ≤ 4611686018427387904) (d : Nat) : ∀ i : Nat, i + d = l.length → Ev (fun k => laws_eqIntS.l0 k l m (i : Int)) (decide (l.drop i = m.drop i)) := by
  induction d with
  | zero =>
    intro i hi
    refine Ev_succ ?_
    simp only [laws_eqIntS.l0]
    rw [List.drop_of_length_le (by omega), List.drop_of_length_le (by omega)]
    exact Ev_false (by omega) Ev_some
  | succ d ih =>
    intro i hi
    have h1 : i < l.length := by omega
    have h2 : i < m.length := by omega
    refine Ev_succ ?_
    simp only [laws_eqIntS.l0]
    rw [rd_get h1, rd_get h2, List.drop_eq_getElem_cons h1, List.drop_eq_getElem_cons h2, w64 (by omega) (by omega)]
    refine Ev_true (by omega) (Ev_true (by omega) (Ev_true (by omega) ?_))
    by_cases he : l[i] = m[i]
    · have e : decide (l[i] :: l.drop (i + 1) = m[i] :: m.drop (i + 1)) = decide (l.drop (i + 1) = m.drop (i + 1)) :=
        decide_eq_decide.2 ⟨fun h => (List.cons.inj h).2, fun h => by rw [he, h]⟩
      rw [e]
      exact Ev_true he (ih (i + 1) (by omega))
    · have e : decide (l[i] :: l.drop (i + 1) = m[i] :: m.drop (i + 1)) = false := by
        rw [decide_eq_false_iff_not]
        intro h
        exact he (List.cons.inj h).1
      rw [e]
      exact Ev_false he Ev_some
theorem eqIntS_ev {l m : List Int} (hn : l.length ≤ 4611686018427387904) : Ev (fun k => laws_eqIntS.f k l m) (decide (l = m)) := by
  unfold laws_eqIntS.f
  by_cases h : l.length = m.length
  · exact Ev_true (by omega) (eqIntS_l0 h hn l.length 0 (by omega))
  · have e : decide (l = m) = false := by
      rw [decide_eq_false_iff_not]
      intro he
      exact h (by rw [he])
    rw [e]
    exact Ev_false (by omega) Ev_some
theorem eqIntS_same {l : List Int} (hn : l.length ≤ 4611686018427387904) : Ev (fun k => laws_eqIntS.f k l l) true := by
  have h := eqIntS_ev (m := l) hn
  simpa using h

end Go.Proofs.Ytojclcknndpdgaa.Q
namespace Go.Proofs.Ytojclcknndpdgaa.Q
open Go.RowKit Go.Proofs.Ytojclcknndpdgaa.P Go.Proofs.YtojclcknndpdgaaW.PrintWords Go.Proofs.YtojclcknndpdgaaW.PrintLast

theorem toIntS_l0 {x : List Int} (hn : x.length ≤ 4611686018427387904) (d : Nat) : ∀ (y : List Int) (i : Nat), y.length = x.length → i + d = x.length → y.take i = x.take i → Ev (fun k => laws_toIntS.l0 k x y (i : Int)) x := by
  induction d with
  | zero =>
    intro y i h1 h2 h3
    refine Ev_succ ?_
    simp only [laws_toIntS.l0]
    rw [List.take_of_length_le (by omega), List.take_of_length_le (by omega)] at h3
    subst h3
    exact Ev_false (by omega) Ev_some
  | succ d ih =>
    intro y i h1 h2 h3
    have hi : i < x.length := by omega
    refine Ev_succ ?_
    simp only [laws_toIntS.l0]
    rw [rd_get hi, w64 (x := (i : Int) + 1) (by omega) (by omega)]
    refine Ev_true (by omega) (Ev_true (by omega) (Ev_true (by omega) ?_))
    refine ih (y.set i x[i]) (i + 1) (by simp [h1]) (by omega) ?_
    rw [List.take_succ_eq_append_getElem (by simp; omega), List.getElem_set_self, List.take_set_of_le (Nat.le_refl _), h3, ← List.take_succ_eq_append_getElem hi]
theorem toIntS_ev {x : List Int} (hn : x.length ≤ 35184372088832) : Ev (fun k => laws_toIntS.f k x) x := by
  unfold laws_toIntS.f
  refine Ev_true (by omega) (Ev_true (by omega) ?_)
  exact toIntS_l0 (by omega) x.length (List.replicate ((x.length : Int)).toNat 0) 0 (by simp) (by omega) (by simp)
end Go.Proofs.Ytojclcknndpdgaa.Q
namespace Go.Proofs.Ytojclcknndpdgaa.Q
open Go.RowKit Go.Proofs.Ytojclcknndpdgaa.P Go.Proofs.YtojclcknndpdgaaW.PrintWords Go.Proofs.YtojclcknndpdgaaW.PrintLast Go.Proofs.Ytojclcknndpdgaa.G

theorem allIn_eq (a lo hi : Int) : spec_l1In.f a lo hi = some (decide (lo ≤ a ∧ a ≤ hi)) := by
  unfold spec_l1In.f
  by_cases h : lo ≤ a
  · rw [if_pos h]
    simp [h]
  · rw [if_neg h]
    simp [h]
theorem rd_at {l : List Int} {i : Nat} (h : i < l.length) : rd l (i : Int) = l[i] := by
  simp [rd, List.getD_eq_getElem?_getD, List.getElem?_eq_getElem h]
theorem l1All_l0 {l : List Int} (hn : l.length ≤ 4611686018427387904) (lo up : Int) (d : Nat) : ∀ i : Nat, i + d = l.length → Ev (fun k => spec_l1All.l0 k lo up l (l.length : Int) (i : Int)) ((l.drop i).all (inB lo up)) := by
  induction d with
  | zero =>
    intro i hi
    refine Ev_succ ?_
    simp only [spec_l1All.l0]
    rw [List.drop_of_length_le (by omega)]
    exact Ev_false (by omega) Ev_some
  | succ d ih =>
    intro i h1
    have hi : i < l.length := by omega
    refine Ev_succ ?_
    simp only [spec_l1All.l0]
    rw [rd_at hi, List.drop_eq_getElem_cons hi, w64 (x := (i : Int) + 1) (by omega) (by omega), allIn_eq]
    refine Ev_true (by omega) (Ev_true (by omega) (Ev_true (by omega) ?_))
    simp only [Option.bind_some, List.all_cons]
    by_cases hb : lo ≤ l[i] ∧ l[i] ≤ up
    · have hin : inB lo up l[i] = true := by unfold inB; simp [hb]
      rw [hin, Bool.true_and]
      exact Ev_true (by simpa using hb) (ih (i + 1) (by omega))
    · have hin : inB lo up l[i] = false := by
        unfold inB
        rw [← Bool.not_eq_true]
        intro h
        exact hb (by simpa using h)
      rw [hin, Bool.false_and]
      exact Ev_false (by simpa using hb) Ev_some
theorem l1All_ev {l : List Int} (hn : l.length ≤ 4611686018427387904) (lo up : Int) : Ev (fun k => spec_l1All.f k l lo up) (l.all (inB lo up)) :=
  l1All_l0 hn lo up l.length 0 (by omega)
end Go.Proofs.Ytojclcknndpdgaa.Q
namespace Go.Proofs.Ytojclcknndpdgaa.Q
open Go.RowKit Go.Proofs.Ytojclcknndpdgaa.P Go.Proofs.YtojclcknndpdgaaW.PrintWords Go.Proofs.YtojclcknndpdgaaW.PrintLast Go.Proofs.Ytojclcknndpdgaa.G

theorem rdRow {l : List (List Int)} {i : Nat} (h : i < l.length) : rd_L1 l (i : Int) = l[i] := by
  simp [rd_L1, List.getD_eq_getElem?_getD, List.getElem?_eq_getElem h]
/-- What a law's test of sizes leaves. -/
def Fits (L : List (List Int)) : Prop := L.length ≤ 1048576 ∧ ∀ x ∈ L, x.length ≤ 1048576
theorem foGood_l0 {L : List (List Int)} (hL : Fits L) (d : Nat) : ∀ i : Nat, i + d = L.length → Ev (fun k => spec_foGood.l0 k L (L.length : Int) (i : Int) L) ((L.drop i).all (isVec L.length)) := by
  have hl := hL.1
  induction d with
  | zero =>
    intro i hi
    refine Ev_succ ?_
    simp only [spec_foGood.l0]
    rw [List.drop_of_length_le (by omega)]
    exact Ev_false (by omega) Ev_some
  | succ d ih =>
    intro i hi
    have h1 : i < L.length := by omega
    have hxi := hL.2 _ (List.getElem_mem h1)
    refine Ev_succ ?_
    simp only [spec_foGood.l0]
    rw [rdRow h1, w64 (x := (i : Int) + 1) (by omega) (by omega), List.drop_eq_getElem_cons h1, List.all_cons]
    refine Ev_true (by omega) (Ev_true (by omega) (Ev_true (by omega) ?_))
    unfold isVec
    by_cases hn : (L[i].length : Int) = L.length
    · refine Ev_true hn (Ev.bind (l1All_ev (l := L[i]) (by omega) (-1000000) 1000000) ?_)
      rw [decide_eq_true hn, Bool.true_and]
      cases hb : L[i].all (inB (-1000000) 1000000) with
      | true => exact Ev_true rfl (ih (i + 1) (by omega))
      | false => exact Ev_false (by simp) Ev_some
    · rw [decide_eq_false hn, Bool.false_and, Bool.false_and]
      exact Ev_false hn Ev_some
theorem foGood_ev {L : List (List Int)} (hL : Fits L) : Ev (fun k => spec_foGood.f k L) (isMat L) := by
  unfold spec_foGood.f isMat
  rw [allIn_eq]
  simp only [Option.bind_some]
  by_cases h : (1 : Int) ≤ L.length ∧ (L.length : Int) ≤ 4
  · rw [decide_eq_true h.1, decide_eq_true h.2]
    exact Ev_true (by simpa using h) (foGood_l0 hL L.length 0 (by omega))
  · have e : (decide ((1 : Int) ≤ L.length) && decide ((L.length : Int) ≤ 4)) = false := by
      rw [← Bool.not_eq_true, Bool.and_eq_true, decide_eq_true_iff, decide_eq_true_iff]
      exact h
    rw [e, Bool.false_and]
    exact Ev_false (by simpa using h) Ev_some
theorem isMat_len {L : List (List Int)} (h : isMat L = true) : 1 ≤ L.length ∧ L.length ≤ 4 := by
  unfold isMat at h
  rw [Bool.and_eq_true, Bool.and_eq_true, decide_eq_true_iff, decide_eq_true_iff] at h
  omega
theorem isMat_row {L : List (List Int)} (h : isMat L = true) {x : List Int} (hx : x ∈ L) : x.length = L.length ∧ ∀ a ∈ x, -1000000 ≤ a ∧ a ≤ 1000000 := by
  unfold isMat at h
  rw [Bool.and_eq_true] at h
  have h2 := List.all_eq_true.1 h.2 x hx
  unfold isVec at h2
  rw [Bool.and_eq_true, decide_eq_true_iff] at h2
  refine ⟨by omega, fun a ha => ?_⟩
  have h3 := List.all_eq_true.1 h2.2 a ha
  unfold inB at h3
  rw [Bool.and_eq_true, decide_eq_true_iff, decide_eq_true_iff] at h3
  exact h3
end Go.Proofs.Ytojclcknndpdgaa.Q
namespace Go.Proofs.Ytojclcknndpdgaa.Q
open Go.RowKit Go.Proofs.Ytojclcknndpdgaa.P Go.Proofs.YtojclcknndpdgaaW.PrintWords Go.Proofs.YtojclcknndpdgaaW.PrintLast Go.Proofs.Ytojclcknndpdgaa.G

theorem szIntS_eq {l : List Int} {a : Int} (hl : l.length ≤ maxLen) (h0 : 0 ≤ a) (h1 : a ≤ 1048576) : laws_szIntS.f l a = some (if a < l.length then -1 else a - l.length) := by
  have : maxLen = 9223372036854775807 := rfl
  unfold laws_szIntS.f
  rw [w64 (by omega) (by omega)]
  by_cases h : a < l.length
  · rw [if_pos h, if_pos (by omega)]
  · rw [if_neg h, if_neg (by omega)]
theorem szIntSS_l0 {L : List (List Int)} (hl : L.length ≤ 1048576) (hx : ∀ x ∈ L, x.length ≤ maxLen) (d : Nat) : ∀ (i : Nat) (a : Int), i + d = L.length → 0 ≤ a → a ≤ 1048576 →
    ∃ r, Ev (fun k => laws_szIntSS.l0 k L a (i : Int)) r ∧ (r < 0 ∨ ∀ x ∈ L.drop i, x.length ≤ 1048576) := by
  induction d with
  | zero =>
    intro i a hi h0 h1
    refine ⟨a, Ev_succ ?_, .inr ?_⟩
    · simp only [laws_szIntSS.l0]
      exact Ev_false (by omega) Ev_some
    · rw [List.drop_of_length_le (by omega)]
      simp
  | succ d ih =>
    intro i a hi h0 h1
    have hi' : i < L.length := by omega
    have hxi := hx _ (List.getElem_mem hi')
    by_cases h : a < L[i].length
    · refine ⟨-1, Ev_succ ?_, .inl (by omega)⟩
      simp only [laws_szIntSS.l0]
      rw [rdRow hi', szIntS_eq hxi h0 h1, if_pos h]
      simp only [Option.bind_some]
      exact Ev_true (by omega) (Ev_true (by omega) (Ev_true (by omega) Ev_some))
    · obtain ⟨r, h2, h3⟩ := ih (i + 1) (a - L[i].length) (by omega) (by omega) (by omega)
      refine ⟨r, Ev_succ ?_, h3.imp id fun h4 => ?_⟩
      · simp only [laws_szIntSS.l0]
        rw [rdRow hi', szIntS_eq hxi h0 h1, if_neg h, w64 (x := (i : Int) + 1) (by omega) (by omega)]
        simp only [Option.bind_some]
        exact Ev_true (by omega) (Ev_true (by omega) (Ev_false (by omega) h2))
      · rw [List.drop_eq_getElem_cons hi']
        intro x hx'
        rcases List.mem_cons.1 hx' with rfl | hx'
        · omega
        · exact h4 x hx'
theorem szMat_ev {L : List (List Int)} {a : Int} (h0 : 0 ≤ a) (h1 : a ≤ 1048576) (hl : L.length ≤ maxLen) (hx : ∀ x ∈ L, x.length ≤ maxLen) : ∃ r, Ev (fun k => laws_szMatrix.f k L a) r ∧ (r < 0 ∨ (Fits L ∧ 0 ≤ r ∧ r ≤ a)) := by
  have : maxLen = 9223372036854775807 := rfl
  have hb : ∀ d i (b : Int), i + d = L.length → 0 ≤ b → b ≤ a → L.length ≤ 1048576 → ∀ r, Ev (fun k => laws_szIntSS.l0 k L b (i : Int)) r → r ≤ a := by
    intro d
    induction d with
    | zero =>
      intro i b hi h0 hb hL r hr
      have : Ev (fun k => laws_szIntSS.l0 k L b (i : Int)) b := Ev_succ (by simp only [laws_szIntSS.l0]; exact Ev_false (by omega) Ev_some)
      rw [Ev_uniq hr this]
      exact hb
    | succ d ih =>
      intro i b hi h0 hb hL r hr
      have hi' : i < L.length := by omega
      have hxi := hx _ (List.getElem_mem hi')
      by_cases h : b < L[i].length
      · have : Ev (fun k => laws_szIntSS.l0 k L b (i : Int)) (-1) := by
          refine Ev_succ ?_
          simp only [laws_szIntSS.l0]
          rw [rdRow hi', szIntS_eq hxi h0 (by omega), if_pos h]
          simp only [Option.bind_some]
          exact Ev_true (by omega) (Ev_true (by omega) (Ev_true (by omega) Ev_some))
        rw [Ev_uniq hr this]
        omega
      · obtain ⟨r', h2, _⟩ := szIntSS_l0 hL hx d (i + 1) (b - L[i].length) (by omega) (by omega) (by omega)
        have : Ev (fun k => laws_szIntSS.l0 k L b (i : Int)) r' := by
          refine Ev_succ ?_
          simp only [laws_szIntSS.l0]
          rw [rdRow hi', szIntS_eq hxi h0 (by omega), if_neg h, w64 (x := (i : Int) + 1) (by omega) (by omega)]
          simp only [Option.bind_some]
          exact Ev_true (by omega) (Ev_true (by omega) (Ev_false (by omega) h2))
        rw [Ev_uniq hr this]
        exact ih (i + 1) (b - L[i].length) (by omega) (by omega) (by omega) hL r' h2
  unfold laws_szMatrix.f laws_szIntSS.f
  by_cases h : a < L.length
  · refine ⟨-1, ?_, .inl (by omega)⟩
    rw [w64 (by omega) (by omega)]
    refine Ev.bind (a := -1) (f := fun _ t => if t < 0 then some (-1) else some t) ?_ (Ev_true (by omega) Ev_some)
    exact Ev_true (by omega) Ev_some
  · obtain ⟨r, h2, h3⟩ := szIntSS_l0 (L := L) (by omega) hx L.length 0 (a - L.length) (by omega) (by omega) (by omega)
    have h4 := hb L.length 0 (a - L.length) (by omega) (by omega) (by omega) (by omega) r h2
    rw [w64 (by omega) (by omega)]
    have h5 : Ev (fun k => if a - (L.length : Int) < 0 then some (-1) else laws_szIntSS.l0 k L (a - L.length) 0) r := Ev_false (by omega) h2
    by_cases hr : r < 0
    · exact ⟨-1, Ev.bind (f := fun _ t => if t < 0 then some (-1) else some t) h5 (Ev_true hr Ev_some), .inl (by omega)⟩
    · refine ⟨r, Ev.bind (f := fun _ t => if t < 0 then some (-1) else some t) h5 (Ev_false hr Ev_some), .inr ⟨⟨by omega, ?_⟩, by omega, h4⟩⟩
      rcases h3 with h3 | h3
      · exact absurd h3 hr
      · simpa using h3
theorem toIntSS_l0 {L : List (List Int)} (hL : Fits L) (d : Nat) : ∀ (i : Nat) (Y : List (List Int)), i + d = L.length → Y.length = L.length → Y.take i = L.take i → Ev (fun k => laws_toIntSS.l0 k L Y (i : Int)) L := by
  have hl := hL.1
  induction d with
  | zero =>
    intro i Y hi hY hT
    refine Ev_succ ?_
    simp only [laws_toIntSS.l0]
    rw [List.take_of_length_le (by omega), List.take_of_length_le (by omega)] at hT
    rw [hT]
    exact Ev_false (by omega) Ev_some
  | succ d ih =>
    intro i Y hi hY hT
    have hi' : i < L.length := by omega
    have hxi := hL.2 _ (List.getElem_mem hi')
    refine Ev_succ ?_
    simp only [laws_toIntSS.l0]
    rw [rdRow hi', w64 (x := (i : Int) + 1) (by omega) (by omega)]
    refine Ev_true (by omega) (Ev_true (by omega) (Ev.bind (toIntS_ev (x := L[i]) (by omega)) (Ev_true (by omega) ?_)))
    refine ih (i + 1) (Y.set i L[i]) (by omega) (by simp [hY]) ?_
    rw [List.take_succ_eq_append_getElem (by simp; omega), List.getElem_set_self, List.take_set_of_le (Nat.le_refl _), hT, ← List.take_succ_eq_append_getElem hi']
theorem toMat_ev {L : List (List Int)} (hL : Fits L) : Ev (fun k => laws_toMatrix.f k L) L := by
  have hl := hL.1
  unfold laws_toMatrix.f laws_toIntSS.f
  refine Ev.bind (a := L) (f := fun _ t => some t) ?_ Ev_some
  exact Ev_true (by omega) (Ev_true (by omega) (toIntSS_l0 hL L.length 0 (List.replicate ((L.length : Int)).toNat []) (by omega) (by simp) (by simp)))
theorem eqRows_l0 {L : List (List Int)} (hL : Fits L) (d : Nat) : ∀ i : Nat, i + d = L.length → Ev (fun k => laws_eqIntSS.l0 k L L (i : Int)) true := by
  have hl := hL.1
  induction d with
  | zero =>
    intro i hi
    refine Ev_succ ?_
    simp only [laws_eqIntSS.l0]
    exact Ev_false (by omega) Ev_some
  | succ d ih =>
    intro i hi
    have h1 : i < L.length := by omega
    have hxi := hL.2 _ (List.getElem_mem h1)
    refine Ev_succ ?_
    simp only [laws_eqIntSS.l0]
    rw [rdRow h1, w64 (x := (i : Int) + 1) (by omega) (by omega)]
    exact Ev_true (by omega) (Ev_true (by omega) (Ev_true (by omega) (Ev.bind (eqIntS_same (l := L[i]) (by omega)) (Ev_true rfl (ih (i + 1) (by omega))))))
theorem eqRows_same {L : List (List Int)} (hL : Fits L) : Ev (fun k => laws_eqIntSS.f k L L) true := by
  unfold laws_eqIntSS.f
  exact Ev_true rfl (eqRows_l0 hL L.length 0 (by omega))
theorem eqMat_same {L : List (List Int)} (hL : Fits L) : Ev (fun k => laws_eqMatrix.f k L L) true := by
  unfold laws_eqMatrix.f
  exact Ev.bind (eqRows_same hL) (Ev_true rfl Ev_some)

end Go.Proofs.Ytojclcknndpdgaa.Q
namespace Go.Proofs.Ytojclcknndpdgaa.Q
open Go.RowKit Go.Proofs.Ytojclcknndpdgaa.P Go.Proofs.YtojclcknndpdgaaW.PrintWords Go.Proofs.YtojclcknndpdgaaW.PrintLast Go.Proofs.Ytojclcknndpdgaa.G

def upd (F : Nat → Nat → Int) (i j : Nat) (v : Int) : Nat → Nat → Int := fun a b => if a = i ∧ b = j then v else F a b
theorem upd_upd (F : Nat → Nat → Int) (i j : Nat) (v u : Int) : upd (upd F i j v) i j u = upd F i j u := by
  funext a b
  unfold upd
  by_cases h : a = i ∧ b = j
  · rw [if_pos h, if_pos h]
  · rw [if_neg h, if_neg h, if_neg h]
theorem upd_self (F : Nat → Nat → Int) (i j : Nat) {v : Int} (h : F i j = v) : upd F i j v = F := by
  funext a b
  unfold upd
  by_cases c : a = i ∧ b = j
  · rw [if_pos c, c.1, c.2, h]
  · rw [if_neg c]
theorem upd_at (F : Nat → Nat → Int) (i j : Nat) (v : Int) : upd F i j v i j = v := by
  unfold upd
  rw [if_pos ⟨rfl, rfl⟩]
theorem rd_rowOf {F : Nat → Nat → Int} {i n j : Nat} (hj : j < n) : rd (rowOf F i n) (j : Int) = F i j := by
  rw [rd_at (by rw [rowOf_length]; exact hj)]
  simp [rowOf]
theorem rdRow_rowsOf {F : Nat → Nat → Int} {n m i : Nat} (hi : i < m) : rd_L1 (rowsOf F n m) (i : Int) = rowOf F i n := by
  rw [rdRow (by rw [rowsOf_length]; exact hi)]
  simp [rowsOf]
theorem rowOf_congr {F F' : Nat → Nat → Int} {i i' n : Nat} (h : ∀ b, b < n → F i b = F' i' b) : rowOf F i n = rowOf F' i' n := by
  unfold rowOf
  exact List.map_congr_left (fun b hb => h b (List.mem_range.1 hb))
theorem rowsOf_congr {F F' : Nat → Nat → Int} {n m : Nat} (h : ∀ a b, a < m → b < n → F a b = F' a b) : rowsOf F n m = rowsOf F' n m := by
  unfold rowsOf
  exact List.map_congr_left (fun a ha => rowOf_congr (fun b hb => h a b (List.mem_range.1 ha) hb))
theorem rowOf_set {F : Nat → Nat → Int} {i n j : Nat} {v : Int} : (rowOf F i n).set j v = rowOf (upd F i j v) i n := by
  apply List.ext_getElem
  · simp [rowOf]
  · intro k h1 h2
    rw [List.getElem_set]
    simp only [rowOf, upd, List.getElem_map, List.getElem_range, true_and]
    by_cases h : j = k
    · rw [if_pos h, if_pos h.symm]
    · rw [if_neg h, if_neg (fun e => h e.symm)]
theorem rowsOf_set {F : Nat → Nat → Int} {n m i j : Nat} {v : Int} : (rowsOf F n m).set i ((rowOf F i n).set j v) = rowsOf (upd F i j v) n m := by
  apply List.ext_getElem
  · simp [rowsOf]
  · intro k h1 h2
    rw [List.getElem_set]
    by_cases h : i = k
    · subst h
      rw [if_pos rfl, rowOf_set]
      simp [rowsOf]
    · rw [if_neg h]
      simp only [rowsOf, List.getElem_map, List.getElem_range]
      exact rowOf_congr (fun b _ => by unfold upd; rw [if_neg (fun e => h e.1.symm)])
theorem rowsOf_take {F : Nat → Nat → Int} {n m i : Nat} (h : i ≤ m) : (rowsOf F n m).take i = rowsOf F n i := by
  unfold rowsOf
  rw [← List.map_take, List.take_range, Nat.min_eq_left h]
theorem rd2 (L : List (List Int)) (i j : Nat) : rd (rd_L1 L (i : Int)) (j : Int) = at2 L i j := by simp [rd, rd_L1, at2]
theorem at2_rowsOf {F : Nat → Nat → Int} {n m i j : Nat} (hi : i < m) (hj : j < n) : at2 (rowsOf F n m) i j = F i j := by
  rw [← rd2, rdRow_rowsOf hi, rd_rowOf hj]
theorem isSq_rowsOf (F : Nat → Nat → Int) {n : Nat} (hn : n ≤ 1000) : isSq (rowsOf F n n) = true := by
  unfold isSq
  rw [Bool.and_eq_true, decide_eq_true_iff, rowsOf_length]
  refine ⟨hn, List.all_eq_true.2 fun x hx => ?_⟩
  unfold rowsOf at hx
  obtain ⟨a, _, rfl⟩ := List.mem_map.1 hx
  rw [rowOf_length]
  exact decide_eq_true rfl
theorem row_len {L : List (List Int)} {n : Nat} (h : isSq L = true) (hL : L.length = n) {i : Nat} (hi : i < n) : (rd_L1 L (i : Int)).length = n := by
  subst hL
  rw [rdRow hi]
  exact isSq_at h hi
theorem isSq_rows {L : List (List Int)} {n : Nat} (h : isSq L = true) (hL : L.length = n) : L = rowsOf (at2 L) n n := by
  subst hL
  apply List.ext_getElem
  · simp [rowsOf]
  · intro i h1 h2
    apply List.ext_getElem
    · rw [isSq_at h h1]
      simp [rowsOf, rowOf]
    · intro j h3 h4
      rw [← at2_eq h1 h3]
      simp [rowsOf, rowOf]
theorem isMat_sq {L : List (List Int)} (h : isMat L = true) : isSq L = true := by
  have h1 := isMat_len h
  unfold isSq
  rw [Bool.and_eq_true, decide_eq_true_iff]
  exact ⟨by omega, List.all_eq_true.2 fun x hx => decide_eq_true (isMat_row h hx).1⟩
theorem isMat_at {L : List (List Int)} (h : isMat L = true) {i j : Nat} (hi : i < L.length) (hj : j < L.length) : -1000000 ≤ at2 L i j ∧ at2 L i j ≤ 1000000 := by
  have h1 := isSq_at (isMat_sq h) hi
  rw [at2_eq hi (by omega)]
  exact (isMat_row h (List.getElem_mem hi)).2 _ (List.getElem_mem _)
theorem fits_sq {L : List (List Int)} (h : isSq L = true) : Fits L := by
  have h1 := isSq_le h
  refine ⟨by omega, fun x hx => ?_⟩
  obtain ⟨i, hi, rfl⟩ := List.mem_iff_getElem.1 hx
  have := isSq_at h hi
  omega
end Go.Proofs.Ytojclcknndpdgaa.Q
namespace Go.Proofs.Ytojclcknndpdgaa.Q
open Go.RowKit Go.Proofs.Ytojclcknndpdgaa.P Go.Proofs.YtojclcknndpdgaaW.PrintWords Go.Proofs.YtojclcknndpdgaaW.PrintLast Go.Proofs.Ytojclcknndpdgaa.G

theorem foZero_l0 {n : Nat} (hn : n ≤ 1000) (d : Nat) : ∀ i : Nat, i + d = n → Ev (fun k => spec_foZero.l0 k (n : Int) (i : Int) (rowsOf (fun _ _ => 0) n i)) (rowsOf (fun _ _ => 0) n n) := by
  induction d with
  | zero =>
    intro i hi
    obtain rfl : i = n := by omega
    refine Ev_succ ?_
    simp only [spec_foZero.l0]
    exact Ev_false (by omega) Ev_some
  | succ d ih =>
    intro i hi
    refine Ev_succ ?_
    simp only [spec_foZero.l0]
    have e : rowsOf (fun _ _ => 0) n i ++ [List.replicate ((n : Int)).toNat 0] = rowsOf (fun _ _ => 0) n (i + 1) := by
      rw [rowsOf_succ]
      congr 2
      unfold rowOf
      rw [Int.toNat_natCast]
      apply List.ext_getElem <;> simp
    rw [e, w64 (x := (i : Int) + 1) (by omega) (by omega)]
    refine Ev_true (by omega) (Ev_true (by omega) (Ev_true (by omega) (Ev_true (by rw [rowsOf_length]; omega) (ih (i + 1) (by omega)))))
theorem foZero_ev {n : Nat} (hn : n ≤ 1000) : Ev (fun k => spec_foZero.f k (n : Int)) (rowsOf (fun _ _ => 0) n n) :=
  foZero_l0 hn n 0 (by omega)

theorem foTimes_l2 {L M : List (List Int)} {n : Nat} (hn : n ≤ 1000) (hL : isSq L = true) (hM : isSq M = true) (eL : L.length = n) (eM : M.length = n) {i j : Nat} (hi : i < n) (hj : j < n) {r : List (List Int)} (d : Nat) :
    ∀ (q : Nat) (F : Nat → Nat → Int), q + d = n → F i j = dotK L M i j q → Ev (fun k => spec_foTimes.l1 k (i : Int) (n : Int) (i : Int) (n : Int) ((j + 1 : Nat) : Int) L M (rowsOf (upd F i j (dotK L M i j n)) n n)) r →
      Ev (fun k => spec_foTimes.l2 k (i : Int) (j : Int) (n : Int) (i : Int) (n : Int) (j : Int) (n : Int) (q : Int) L M (rowsOf F n n)) r := by
  induction d with
  | zero =>
    intro q F hq hF h
    obtain rfl : q = n := by omega
    rw [upd_self F i j hF] at h
    refine Ev_succ ?_
    simp only [spec_foTimes.l2]
    rw [w64 (x := (j : Int) + 1) (by omega) (by omega)]
    exact Ev_false (by omega) h
  | succ d ih =>
    intro q F hq hF h
    have hq' : q < n := by omega
    refine Ev_succ ?_
    simp only [spec_foTimes.l2]
    rw [rdRow_rowsOf hi, rowsOf_length, rowOf_length, rd_rowOf hj, row_len hL eL hi, row_len hM eM hq', rd2, rd2, Int.toNat_natCast, Int.toNat_natCast, rowsOf_set, hF, w64 (x := (q : Int) + 1) (by omega) (by omega), eL, eM]
    refine Ev_true (by omega) (Ev_true (by omega) (Ev_true (by omega) (Ev_true (by omega) (Ev_true (by omega) (Ev_true (by omega) (Ev_true (by omega) (Ev_true (by omega) (Ev_true (by omega) (Ev_true (by omega) ?_)))))))))
    refine ih (q + 1) (upd F i j (wrap64 (dotK L M i j q + wrap64 (at2 L i q * at2 M q j)))) (by omega) (upd_at _ _ _ _) ?_
    rw [upd_upd]
    exact h
/-- How far a matrix has been written, row by row. -/
def stage (H : Nat → Nat → Int) (i j : Nat) : Nat → Nat → Int := fun a b => if a < i ∨ (a = i ∧ b < j) then H a b else 0
theorem stage_next (H : Nat → Nat → Int) (i j : Nat) : upd (stage H i j) i j (H i j) = stage H i (j + 1) := by
  funext a b
  unfold upd stage
  by_cases h : a = i ∧ b = j
  · rw [if_pos h, if_pos (by omega), h.1, h.2]
  · rw [if_neg h]
    by_cases h2 : a < i ∨ (a = i ∧ b < j)
    · rw [if_pos h2, if_pos (by omega)]
    · rw [if_neg h2, if_neg (by omega)]
theorem stage_row (H : Nat → Nat → Int) {n m : Nat} (i : Nat) : rowsOf (stage H i n) n m = rowsOf (stage H (i + 1) 0) n m := rowsOf_congr fun a b _ hb => by
  unfold stage
  by_cases h : a < i ∨ (a = i ∧ b < n)
  · rw [if_pos h, if_pos (by omega)]
  · rw [if_neg h, if_neg (by omega)]
theorem stage_end (H : Nat → Nat → Int) (n : Nat) : rowsOf (stage H n 0) n n = rowsOf H n n := rowsOf_congr fun a b ha _ => by
  unfold stage
  rw [if_pos (.inl ha)]
theorem stage_start (H : Nat → Nat → Int) (n : Nat) : rowsOf (fun _ _ => 0) n n = rowsOf (stage H 0 0) n n := rowsOf_congr fun a b _ _ => by
  unfold stage
  rw [if_neg (by omega)]
theorem foTimes_l1 {L M : List (List Int)} {n : Nat} (hn : n ≤ 1000) (hL : isSq L = true) (hM : isSq M = true) (eL : L.length = n) (eM : M.length = n) {i : Nat} (hi : i < n) {r : List (List Int)} (d : Nat) :
    ∀ j : Nat, j + d = n → Ev (fun k => spec_foTimes.l0 k (n : Int) ((i + 1 : Nat) : Int) L M (rowsOf (stage (fun i j => dotK L M i j n) (i + 1) 0) n n)) r →
      Ev (fun k => spec_foTimes.l1 k (i : Int) (n : Int) (i : Int) (n : Int) (j : Int) L M (rowsOf (stage (fun i j => dotK L M i j n) i j) n n)) r := by
  induction d with
  | zero =>
    intro j hj h
    obtain rfl : j = n := by omega
    refine Ev_succ ?_
    simp only [spec_foTimes.l1]
    rw [w64 (x := (i : Int) + 1) (by omega) (by omega), stage_row]
    exact Ev_false (by omega) h
  | succ d ih =>
    intro j hj h
    refine Ev_succ ?_
    simp only [spec_foTimes.l1]
    rw [eL]
    refine Ev_true (by omega) ?_
    refine foTimes_l2 hn hL hM eL eM hi (by omega) n 0 _ (by omega) ?_ ?_
    · show stage _ i j i j = 0
      unfold stage
      rw [if_neg (by omega)]
    · have e := stage_next (fun i j => dotK L M i j n) i j
      rw [e]
      exact ih (j + 1) (by omega) h
theorem foTimes_l0 {L M : List (List Int)} {n : Nat} (hn : n ≤ 1000) (hL : isSq L = true) (hM : isSq M = true) (eL : L.length = n) (eM : M.length = n) (d : Nat) :
    ∀ i : Nat, i + d = n → Ev (fun k => spec_foTimes.l0 k (n : Int) (i : Int) L M (rowsOf (stage (fun i j => dotK L M i j n) i 0) n n)) (rowsOf (fun i j => dotK L M i j n) n n) := by
  induction d with
  | zero =>
    intro i hi
    obtain rfl : i = n := by omega
    refine Ev_succ ?_
    simp only [spec_foTimes.l0]
    rw [stage_end]
    exact Ev_false (by omega) Ev_some
  | succ d ih =>
    intro i hi
    refine Ev_succ ?_
    simp only [spec_foTimes.l0]
    rw [eL]
    refine Ev_true (by omega) ?_
    exact foTimes_l1 hn hL hM eL eM (by omega) n 0 (by omega) (ih (i + 1) (by omega))
theorem foTimes_ev {L M : List (List Int)} (hL : isSq L = true) (hM : isSq M = true) (e : L.length = M.length) : Ev (fun k => spec_foTimes.f k L M) (prodL L M) := by
  unfold spec_foTimes.f prodL
  have hn := isSq_le hL
  refine Ev.bind (foZero_ev hn) ?_
  rw [stage_start (fun i j => dotK L M i j L.length)]
  exact foTimes_l0 hn hL hM rfl e.symm L.length 0 (by omega)

end Go.Proofs.Ytojclcknndpdgaa.Q
namespace Go.Proofs.Ytojclcknndpdgaa.Q
open Go.RowKit Go.Proofs.Ytojclcknndpdgaa.P Go.Proofs.YtojclcknndpdgaaW.PrintWords Go.Proofs.YtojclcknndpdgaaW.PrintLast Go.Proofs.Ytojclcknndpdgaa.G

theorem foTranspose_l1 {L : List (List Int)} {n : Nat} (hn : n ≤ 1000) (hL : isSq L = true) (eL : L.length = n) {i : Nat} (hi : i < n) {r : List (List Int)} (d : Nat) :
    ∀ j : Nat, j + d = n → Ev (fun k => spec_foTranspose.l0 k L (n : Int) ((i + 1 : Nat) : Int) (rowsOf (fun a b => stage (fun a b => at2 L a b) (i + 1) 0 b a) n n)) r →
      Ev (fun k => spec_foTranspose.l1 k (i : Int) L (n : Int) (i : Int) (rd_L1 L (i : Int)) (n : Int) (j : Int) (rowsOf (fun a b => stage (fun a b => at2 L a b) i j b a) n n)) r := by
  induction d with
  | zero =>
    intro j hj h
    obtain rfl : j = n := by omega
    refine Ev_succ ?_
    simp only [spec_foTranspose.l1]
    have e : rowsOf (fun a b => stage (fun a b => at2 L a b) i j b a) j j = rowsOf (fun a b => stage (fun a b => at2 L a b) (i + 1) 0 b a) j j := rowsOf_congr fun a b ha _ => by
      unfold stage
      by_cases h : b < i ∨ (b = i ∧ a < j)
      · rw [if_pos h, if_pos (by omega)]
      · rw [if_neg h, if_neg (by omega)]
    rw [w64 (x := (i : Int) + 1) (by omega) (by omega), e]
    exact Ev_false (by omega) h
  | succ d ih =>
    intro j hj h
    refine Ev_succ ?_
    simp only [spec_foTranspose.l1]
    rw [rdRow_rowsOf (by omega), rowsOf_length, rowOf_length, row_len hL eL hi, rd2, Int.toNat_natCast, Int.toNat_natCast, rowsOf_set, w64 (x := (j : Int) + 1) (by omega) (by omega)]
    refine Ev_true (by omega) (Ev_true (by omega) (Ev_true (by omega) (Ev_true (by omega) (Ev_true (by omega) (Ev_true (by omega) ?_)))))
    have e : upd (fun a b => stage (fun a b => at2 L a b) i j b a) j i (at2 L i j) = fun a b => stage (fun a b => at2 L a b) i (j + 1) b a := by
      funext a b
      unfold upd stage
      by_cases h : a = j ∧ b = i
      · rw [if_pos h, if_pos (by omega), h.1, h.2]
      · rw [if_neg h]
        show (if b < i ∨ (b = i ∧ a < j) then at2 L b a else 0) = if b < i ∨ (b = i ∧ a < j + 1) then at2 L b a else 0
        by_cases h2 : b < i ∨ (b = i ∧ a < j)
        · rw [if_pos h2, if_pos (by omega)]
        · rw [if_neg h2, if_neg (by omega)]
    rw [e]
    exact ih (j + 1) (by omega) h
theorem foTranspose_l0 {L : List (List Int)} {n : Nat} (hn : n ≤ 1000) (hL : isSq L = true) (eL : L.length = n) (d : Nat) :
    ∀ i : Nat, i + d = n → Ev (fun k => spec_foTranspose.l0 k L (n : Int) (i : Int) (rowsOf (fun a b => stage (fun a b => at2 L a b) i 0 b a) n n)) (rowsOf (fun a b => at2 L b a) n n) := by
  induction d with
  | zero =>
    intro i hi
    obtain rfl : i = n := by omega
    refine Ev_succ ?_
    simp only [spec_foTranspose.l0]
    have e : rowsOf (fun a b => stage (fun a b => at2 L a b) i 0 b a) i i = rowsOf (fun a b => at2 L b a) i i := rowsOf_congr fun a b _ hb => by
      unfold stage
      rw [if_pos (.inl hb)]
    rw [e]
    exact Ev_false (by omega) Ev_some
  | succ d ih =>
    intro i hi
    refine Ev_succ ?_
    simp only [spec_foTranspose.l0]
    rw [row_len hL eL (by omega), eL]
    refine Ev_true (by omega) (Ev_true (by omega) (Ev_true (by omega) ?_))
    exact foTranspose_l1 hn hL eL (by omega) n 0 (by omega) (ih (i + 1) (by omega))
theorem foTranspose_ev {L : List (List Int)} (hL : isSq L = true) : Ev (fun k => spec_foTranspose.f k L) (transL L) := by
  unfold spec_foTranspose.f transL
  have hn := isSq_le hL
  refine Ev.bind (foZero_ev hn) ?_
  have e : rowsOf (fun _ _ => 0) L.length L.length = rowsOf (fun a b => stage (fun a b => at2 L a b) 0 0 b a) L.length L.length := rowsOf_congr fun a b _ _ => by
    unfold stage
    rw [if_neg (by omega)]
  rw [e]
  exact foTranspose_l0 hn hL rfl L.length 0 (by omega)

end Go.Proofs.Ytojclcknndpdgaa.Q
namespace Go.Proofs.Ytojclcknndpdgaa.Q
open Go.RowKit Go.Proofs.Ytojclcknndpdgaa.P Go.Proofs.YtojclcknndpdgaaW.PrintWords Go.Proofs.YtojclcknndpdgaaW.PrintLast Go.Proofs.Ytojclcknndpdgaa.G

theorem l1Same_l0 {l m : List Int} (hl : l.length = m.length) (hn : l.length ≤ 4611686018427387904) (d : Nat) : ∀ i : Nat, i + d = l.length → Ev (fun k => spec_l1Same.l0 k l m (l.length : Int) (i : Int)) (decide (l.drop i = m.drop i)) := by
  induction d with
  | zero =>
    intro i hi
    refine Ev_succ ?_
    simp only [spec_l1Same.l0]
    rw [List.drop_of_length_le (by omega), List.drop_of_length_le (by omega)]
    exact Ev_false (by omega) Ev_some
  | succ d ih =>
    intro i hi
    have h1 : i < l.length := by omega
    have h2 : i < m.length := by omega
    refine Ev_succ ?_
    simp only [spec_l1Same.l0]
    rw [rd_at h1, rd_at h2, List.drop_eq_getElem_cons h1, List.drop_eq_getElem_cons h2, w64 (by omega) (by omega)]
    refine Ev_true (by omega) (Ev_true (by omega) (Ev_true (by omega) (Ev_true (by omega) ?_)))
    by_cases he : l[i] = m[i]
    · have e : decide (l[i] :: l.drop (i + 1) = m[i] :: m.drop (i + 1)) = decide (l.drop (i + 1) = m.drop (i + 1)) :=
        decide_eq_decide.2 ⟨fun h => (List.cons.inj h).2, fun h => by rw [he, h]⟩
      rw [e]
      exact Ev_true he (ih (i + 1) (by omega))
    · have e : decide (l[i] :: l.drop (i + 1) = m[i] :: m.drop (i + 1)) = false := by
        rw [decide_eq_false_iff_not]
        intro h
        exact he (List.cons.inj h).1
      rw [e]
      exact Ev_false he Ev_some
theorem l1Same_ev {l m : List Int} (hn : l.length ≤ 4611686018427387904) : Ev (fun k => spec_l1Same.f k l m) (decide (l = m)) := by
  unfold spec_l1Same.f
  by_cases h : l.length = m.length
  · exact Ev_true (by omega) (l1Same_l0 h hn l.length 0 (by omega))
  · have e : decide (l = m) = false := by
      rw [decide_eq_false_iff_not]
      intro he
      exact h (by rw [he])
    rw [e]
    exact Ev_false (by omega) Ev_some
theorem foSame_l0 {L M : List (List Int)} (hl : L.length = M.length) (hL : Fits L) (d : Nat) : ∀ i : Nat, i + d = L.length → Ev (fun k => spec_foSame.l0 k L (L.length : Int) (i : Int) L M) (decide (L.drop i = M.drop i)) := by
  have hn := hL.1
  induction d with
  | zero =>
    intro i hi
    refine Ev_succ ?_
    simp only [spec_foSame.l0]
    rw [List.drop_of_length_le (by omega), List.drop_of_length_le (by omega), hl]
    refine Ev_false (by omega) ?_
    simp only [beq_self_eq_true, decide_true]
    exact Ev_some
  | succ d ih =>
    intro i hi
    have h1 : i < L.length := by omega
    have h2 : i < M.length := by omega
    have hxi := hL.2 _ (List.getElem_mem h1)
    refine Ev_succ ?_
    simp only [spec_foSame.l0]
    rw [rdRow h1, rdRow h2, List.drop_eq_getElem_cons h1, List.drop_eq_getElem_cons h2, w64 (by omega) (by omega)]
    refine Ev_true (by omega) (Ev_true (by omega) (Ev_true (by omega) (Ev_true (by omega) (Ev.bind (l1Same_ev (l := L[i]) (m := M[i]) (by omega)) ?_))))
    by_cases he : L[i] = M[i]
    · have e : decide (L[i] :: L.drop (i + 1) = M[i] :: M.drop (i + 1)) = decide (L.drop (i + 1) = M.drop (i + 1)) :=
        decide_eq_decide.2 ⟨fun h => (List.cons.inj h).2, fun h => by rw [he, h]⟩
      rw [e]
      exact Ev_true (by simpa using he) (ih (i + 1) (by omega))
    · have e : decide (L[i] :: L.drop (i + 1) = M[i] :: M.drop (i + 1)) = false := by
        rw [decide_eq_false_iff_not]
        intro h
        exact he (List.cons.inj h).1
      rw [e]
      exact Ev_false (by simpa using he) Ev_some
theorem foSame_ev {L M : List (List Int)} (hl : L.length = M.length) (hL : Fits L) : Ev (fun k => spec_foSame.f k L M) (decide (L = M)) := by
  unfold spec_foSame.f
  exact foSame_l0 hl hL L.length 0 (by omega)
end Go.Proofs.Ytojclcknndpdgaa.Q
namespace Go.Proofs.Ytojclcknndpdgaa.Q
open Go.RowKit Go.Proofs.Ytojclcknndpdgaa.P Go.Proofs.YtojclcknndpdgaaW.PrintWords Go.Proofs.YtojclcknndpdgaaW.PrintLast Go.Proofs.Ytojclcknndpdgaa.G

theorem foSmall_l0 {L : List (List Int)} (hL : Fits L) (m : Int) (d : Nat) : ∀ i : Nat, i + d = L.length → Ev (fun k => spec_foSmall.l0 k m L (L.length : Int) (i : Int)) ((L.drop i).all (isLow m)) := by
  have hl := hL.1
  induction d with
  | zero =>
    intro i hi
    refine Ev_succ ?_
    simp only [spec_foSmall.l0]
    rw [List.drop_of_length_le (by omega)]
    exact Ev_false (by omega) Ev_some
  | succ d ih =>
    intro i hi
    have h1 : i < L.length := by omega
    have hxi := hL.2 _ (List.getElem_mem h1)
    refine Ev_succ ?_
    simp only [spec_foSmall.l0]
    rw [rdRow h1, w64 (x := (i : Int) + 1) (by omega) (by omega), List.drop_eq_getElem_cons h1, List.all_cons]
    refine Ev_true (by omega) (Ev_true (by omega) (Ev_true (by omega) ?_))
    refine Ev.bind (l1All_ev (l := L[i]) (by omega) (wrap64 (-m)) m) ?_
    unfold isLow
    cases hb : L[i].all (inB (wrap64 (-m)) m) with
    | true => exact Ev_true rfl (ih (i + 1) (by omega))
    | false => exact Ev_false (by simp) Ev_some
theorem foSmall_ev {L : List (List Int)} (hL : Fits L) (m : Int) : Ev (fun k => spec_foSmall.f k L m) (isMat L && L.all (isLow m)) := by
  unfold spec_foSmall.f
  refine Ev.bind (foGood_ev hL) ?_
  cases hb : isMat L with
  | true => exact Ev_true rfl (foSmall_l0 hL m L.length 0 (by omega))
  | false => exact Ev_false (by simp) Ev_some
end Go.Proofs.Ytojclcknndpdgaa.Q
namespace Go.Proofs.Ytojclcknndpdgaa.Q
open Go.RowKit Go.Proofs.Ytojclcknndpdgaa.P Go.Proofs.YtojclcknndpdgaaW.PrintWords Go.Proofs.YtojclcknndpdgaaW.PrintLast Go.Proofs.Ytojclcknndpdgaa.G

def dotV (a b : List Int) : Nat → Int
  | 0 => 0
  | k + 1 => wrap64 (dotV a b k + wrap64 (rd a (k : Int) * rd b (k : Int)))
def applyL (L : List (List Int)) (v : List Int) : List Int := L.map fun row => dotV row v row.length
theorem applyL_length (L : List (List Int)) (v : List Int) : (applyL L v).length = L.length := by simp [applyL]

theorem foApply_l1 {v : List Int} {L : List (List Int)} {n i : Nat} {row acc : List Int} (hn : n ≤ 1000) (hi : i < n) (hr : row.length ≤ v.length) (hr1 : row.length ≤ 1000) (ha : acc.length ≤ 1000) {r : List Int} (d : Nat) :
    ∀ q : Nat, q + d = row.length → Ev (fun k => spec_foApply.l0 k v (acc ++ [dotV row v row.length]) L (n : Int) ((i + 1 : Nat) : Int)) r →
      Ev (fun k => spec_foApply.l1 k v acc (dotV row v q) L (n : Int) (i : Int) row (row.length : Int) (q : Int)) r := by
  induction d with
  | zero =>
    intro q hq h
    obtain rfl : q = row.length := by omega
    refine Ev_succ ?_
    simp only [spec_foApply.l1]
    rw [w64 (x := (i : Int) + 1) (by omega) (by omega)]
    exact Ev_false (by omega) (Ev_true (by omega) h)
  | succ d ih =>
    intro q hq h
    refine Ev_succ ?_
    simp only [spec_foApply.l1]
    rw [w64 (x := (q : Int) + 1) (by omega) (by omega)]
    exact Ev_true (by omega) (Ev_true (by omega) (Ev_true (by omega) (Ev_true (by omega) (ih (q + 1) (by omega) h))))
theorem foApply_l0 {v : List Int} {L : List (List Int)} (hL : isSq L = true) (hv : v.length = L.length) (d : Nat) :
    ∀ i : Nat, i + d = L.length → Ev (fun k => spec_foApply.l0 k v (applyL (L.take i) v) L (L.length : Int) (i : Int)) (applyL L v) := by
  have hn := isSq_le hL
  induction d with
  | zero =>
    intro i hi
    obtain rfl : i = L.length := by omega
    refine Ev_succ ?_
    simp only [spec_foApply.l0]
    rw [List.take_length]
    exact Ev_false (by omega) Ev_some
  | succ d ih =>
    intro i hi
    have h1 : i < L.length := by omega
    have hrl := isSq_at hL h1
    refine Ev_succ ?_
    simp only [spec_foApply.l0]
    rw [rdRow h1]
    refine Ev_true (by omega) (Ev_true (by omega) (Ev_true (by omega) ?_))
    refine foApply_l1 hn (by omega) (by omega) (by omega) (by rw [applyL_length, List.length_take]; omega) L[i].length 0 (by omega) ?_
    have e : applyL (L.take i) v ++ [dotV L[i] v L[i].length] = applyL (L.take (i + 1)) v := by
      unfold applyL
      rw [List.take_succ_eq_append_getElem h1, List.map_append]
      rfl
    rw [e]
    exact ih (i + 1) (by omega)
theorem foApply_ev {v : List Int} {L : List (List Int)} (hL : isSq L = true) (hv : v.length = L.length) : Ev (fun k => spec_foApply.f k L v) (applyL L v) := by
  unfold spec_foApply.f
  exact foApply_l0 hL hv L.length 0 (by omega)

theorem apply_l1 {v : List Int} {L : List (List Int)} {n i : Nat} {row acc : List Int} (hn : n ≤ 1000) (hi : i < n) (hr : row.length ≤ v.length) (hr1 : row.length ≤ 1000) (ha : acc.length ≤ 1000) {r : List Int} (d : Nat) :
    ∀ q : Nat, q + d = row.length → Ev (fun k => impl_Matrix_apply.l0 k v (acc ++ [dotV row v row.length]) L (n : Int) ((i + 1 : Nat) : Int)) r →
      Ev (fun k => impl_Matrix_apply.l1 k v acc (dotV row v q) L (n : Int) (i : Int) row (row.length : Int) (q : Int)) r := by
  induction d with
  | zero =>
    intro q hq h
    obtain rfl : q = row.length := by omega
    refine Ev_succ ?_
    simp only [impl_Matrix_apply.l1]
    rw [w64 (x := (i : Int) + 1) (by omega) (by omega)]
    exact Ev_false (by omega) (Ev_true (by omega) h)
  | succ d ih =>
    intro q hq h
    refine Ev_succ ?_
    simp only [impl_Matrix_apply.l1]
    rw [w64 (x := (q : Int) + 1) (by omega) (by omega)]
    exact Ev_true (by omega) (Ev_true (by omega) (Ev_true (by omega) (Ev_true (by omega) (ih (q + 1) (by omega) h))))
theorem apply_l0 {v : List Int} {L : List (List Int)} (hL : isSq L = true) (hv : v.length = L.length) (d : Nat) :
    ∀ i : Nat, i + d = L.length → Ev (fun k => impl_Matrix_apply.l0 k v (applyL (L.take i) v) L (L.length : Int) (i : Int)) (applyL L v) := by
  have hn := isSq_le hL
  induction d with
  | zero =>
    intro i hi
    obtain rfl : i = L.length := by omega
    refine Ev_succ ?_
    simp only [impl_Matrix_apply.l0]
    rw [List.take_length]
    exact Ev_false (by omega) Ev_some
  | succ d ih =>
    intro i hi
    have h1 : i < L.length := by omega
    have hrl := isSq_at hL h1
    refine Ev_succ ?_
    simp only [impl_Matrix_apply.l0]
    rw [rdRow h1]
    refine Ev_true (by omega) (Ev_true (by omega) (Ev_true (by omega) ?_))
    refine apply_l1 hn (by omega) (by omega) (by omega) (by rw [applyL_length, List.length_take]; omega) L[i].length 0 (by omega) ?_
    have e : applyL (L.take i) v ++ [dotV L[i] v L[i].length] = applyL (L.take (i + 1)) v := by
      unfold applyL
      rw [List.take_succ_eq_append_getElem h1, List.map_append]
      rfl
    rw [e]
    exact ih (i + 1) (by omega)
theorem apply_ev {v : List Int} {L : List (List Int)} (hL : isSq L = true) (hv : v.length = L.length) : Ev (fun k => impl_Matrix_apply.f k L v) (applyL L v) := by
  unfold impl_Matrix_apply.f
  exact apply_l0 hL hv L.length 0 (by omega)
end Go.Proofs.Ytojclcknndpdgaa.Q
namespace Go.Proofs.Ytojclcknndpdgaa.Q
open Go.RowKit Go.Proofs.Ytojclcknndpdgaa.P Go.Proofs.YtojclcknndpdgaaW.PrintWords Go.Proofs.YtojclcknndpdgaaW.PrintLast Go.Proofs.Ytojclcknndpdgaa.G

def isFormB (L : List (List Int)) : Bool := (isMat L && L.all (isLow 1000)) && decide (L = transL L)
theorem isForm_mat {L : List (List Int)} (h : isFormB L = true) : isMat L = true ∧ L.all (isLow 1000) = true ∧ L = transL L := by
  unfold isFormB at h
  rw [Bool.and_eq_true, Bool.and_eq_true, decide_eq_true_iff] at h
  exact ⟨h.1.1, h.1.2, h.2⟩
theorem foForm_ev {L : List (List Int)} (hL : Fits L) : Ev (fun k => spec_foForm.f k L) (isFormB L) := by
  unfold spec_foForm.f isFormB
  refine Ev.bind (foSmall_ev hL 1000) ?_
  cases h : (isMat L && L.all (isLow 1000)) with
  | true =>
    have hm := (Bool.and_eq_true_iff.1 h).1
    rw [Bool.true_and]
    exact Ev_true rfl (Ev.bind (foTranspose_ev (isMat_sq hm)) (Ev.bind (f := fun _ t => some t) (foSame_ev (by unfold transL; rw [rowsOf_length]) hL) Ev_some))
  | false => exact Ev_false (by simp) Ev_some
theorem isForm_eq (L : List (List Int)) : impl_isForm.f L = some (isFormB L) := by
  unfold impl_isForm.f impl_IsMatrix.f impl_Matrix_isSmall.f impl_Matrix_transposed.f impl_sameMatrix.f isFormB
  simp only [Option.bind_some]
  by_cases h : isMat L = true
  · by_cases hs : L.all (isLow 1000) = true
    · rw [if_pos h, if_pos hs, if_pos (isMat_sq h), h, hs]
      rfl
    · rw [if_pos h, if_neg hs, h, Bool.eq_false_iff.2 hs]
      rfl
  · rw [if_neg h, Bool.eq_false_iff.2 h]
    rfl
theorem isVector_eq (l : List Int) (n : Int) : impl_isVector.f l n = some (isVec n l) := by
  unfold impl_isVector.f impl_allWithin.f isVec
  simp only [Option.bind_some]
  by_cases h : (l.length : Int) = n
  · rw [if_pos h, decide_eq_true h, Bool.true_and]
  · rw [if_neg h, decide_eq_false h, Bool.false_and]
theorem isVec_len {n : Nat} {l : List Int} (h : isVec (n : Int) l = true) : l.length = n := by
  unfold isVec at h
  rw [Bool.and_eq_true, decide_eq_true_iff] at h
  omega
theorem foVector_ev {L : List (List Int)} {v : List Int} (hL : Fits L) (hv : v.length ≤ 1048576) : Ev (fun k => spec_foVector.f k L v) (isMat L && isVec L.length v) := by
  unfold spec_foVector.f
  refine Ev.bind (foGood_ev hL) ?_
  cases h : isMat L with
  | true =>
    rw [Bool.true_and]
    refine Ev_true rfl ?_
    unfold isVec
    by_cases hvl : (v.length : Int) = L.length
    · rw [decide_eq_true hvl, Bool.true_and]
      exact Ev_true hvl (Ev.bind (f := fun _ t => some t) (l1All_ev (by omega) _ _) Ev_some)
    · rw [decide_eq_false hvl, Bool.false_and]
      exact Ev_false hvl Ev_some
  | false => exact Ev_false (by simp) Ev_some
theorem foProduct_l0 {v u : List Int} (hu : u.length ≤ 1000) (hv : u.length ≤ v.length) (d : Nat) : ∀ i : Nat, i + d = u.length → Ev (fun k => spec_foProduct.l0 k v (dotV v u i) u (u.length : Int) (i : Int)) (dotV v u u.length) := by
  induction d with
  | zero =>
    intro i hi
    obtain rfl : i = u.length := by omega
    refine Ev_succ ?_
    simp only [spec_foProduct.l0]
    exact Ev_false (by omega) Ev_some
  | succ d ih =>
    intro i hi
    refine Ev_succ ?_
    simp only [spec_foProduct.l0]
    rw [w64 (x := (i : Int) + 1) (by omega) (by omega)]
    exact Ev_true (by omega) (Ev_true (by omega) (Ev_true (by omega) (Ev_true (by omega) (ih (i + 1) (by omega)))))
theorem foProduct_ev {L : List (List Int)} {v w : List Int} (hL : isSq L = true) (hv : v.length = L.length) (hw : w.length = L.length) : Ev (fun k => spec_foProduct.f k L v w) (dotV v (applyL L w) L.length) := by
  have hn := isSq_le hL
  have ha := applyL_length L w
  unfold spec_foProduct.f
  refine Ev.bind (foApply_ev hL hw) ?_
  have h := foProduct_l0 (v := v) (u := applyL L w) (by omega) (by omega) (applyL L w).length 0 (by omega)
  rw [ha] at h ⊢
  exact h
theorem dot_l0 {v u : List Int} (hu : v.length ≤ 1000) (hv : v.length ≤ u.length) (d : Nat) : ∀ i : Nat, i + d = v.length → Ev (fun k => impl_dot.l0 k u (dotV v u i) v (v.length : Int) (i : Int)) (dotV v u v.length) := by
  induction d with
  | zero =>
    intro i hi
    obtain rfl : i = v.length := by omega
    refine Ev_succ ?_
    simp only [impl_dot.l0]
    exact Ev_false (by omega) Ev_some
  | succ d ih =>
    intro i hi
    refine Ev_succ ?_
    simp only [impl_dot.l0]
    rw [w64 (x := (i : Int) + 1) (by omega) (by omega)]
    exact Ev_true (by omega) (Ev_true (by omega) (Ev_true (by omega) (Ev_true (by omega) (ih (i + 1) (by omega)))))
theorem dot_ev {v u : List Int} (hu : v.length ≤ 1000) (hv : v.length ≤ u.length) : Ev (fun k => impl_dot.f k v u) (dotV v u v.length) := dot_l0 hu hv v.length 0 (by omega)
/-- A product by a form, as both programs answer. -/
def productR (L : List (List Int)) (v w : List Int) : Int × Bool := if isFormB L = true then (if isVec L.length v = true then (if isVec L.length w = true then (dotV v (applyL L w) L.length, true) else (0, false)) else (0, false)) else (0, false)
end Go.Proofs.Ytojclcknndpdgaa.Q
namespace Go.Proofs.Ytojclcknndpdgaa.Q
open Go.RowKit Go.Proofs.Ytojclcknndpdgaa.P Go.Proofs.YtojclcknndpdgaaW.PrintWords Go.Proofs.YtojclcknndpdgaaW.PrintLast Go.Proofs.Ytojclcknndpdgaa.G

def sumZ (f : Nat → Int) : Nat → Int
  | 0 => 0
  | k + 1 => sumZ f k + f k
theorem sumZ_congr {f g : Nat → Int} : ∀ n, (∀ t, t < n → f t = g t) → sumZ f n = sumZ g n
  | 0, _ => rfl
  | n + 1, h => by
    show sumZ f n + f n = sumZ g n + g n
    rw [sumZ_congr n (fun t ht => h t (by omega)), h n (by omega)]
theorem sumZ_add (f g : Nat → Int) : ∀ n, sumZ (fun t => f t + g t) n = sumZ f n + sumZ g n
  | 0 => rfl
  | n + 1 => by
    show sumZ (fun t => f t + g t) n + (f n + g n) = (sumZ f n + f n) + (sumZ g n + g n)
    rw [sumZ_add f g n]
    omega
theorem sumZ_mul_left (a : Int) (f : Nat → Int) : ∀ n, sumZ (fun t => a * f t) n = a * sumZ f n
  | 0 => by simp [sumZ]
  | n + 1 => by
    show sumZ (fun t => a * f t) n + a * f n = a * (sumZ f n + f n)
    rw [sumZ_mul_left a f n, Int.mul_add]
theorem sumZ_mul_right (a : Int) (f : Nat → Int) (n : Nat) : sumZ (fun t => f t * a) n = sumZ f n * a := by
  rw [Int.mul_comm, ← sumZ_mul_left]
  exact sumZ_congr n (fun t _ => Int.mul_comm _ _)
theorem sumZ_zero : ∀ n, sumZ (fun _ => 0) n = 0
  | 0 => rfl
  | n + 1 => by
    show sumZ (fun _ => 0) n + 0 = 0
    rw [sumZ_zero n]
    rfl
theorem sumZ_swap (f : Nat → Nat → Int) (n : Nat) : ∀ m, sumZ (fun s => sumZ (fun t => f t s) n) m = sumZ (fun t => sumZ (fun s => f t s) m) n
  | 0 => (sumZ_zero n).symm
  | m + 1 => by
    show sumZ (fun s => sumZ (fun t => f t s) n) m + sumZ (fun t => f t m) n = sumZ (fun t => sumZ (fun s => f t s) m + f t m) n
    rw [sumZ_swap f n m, sumZ_add]
theorem mul_bound {x y a b : Int} (hx : -a ≤ x ∧ x ≤ a) (hy : -b ≤ y ∧ y ≤ b) : -(a * b) ≤ x * y ∧ x * y ≤ a * b := by
  have ha : 0 ≤ a := by omega
  have hb : 0 ≤ b := by omega
  have h1 : x.natAbs ≤ a.natAbs := by omega
  have h2 : y.natAbs ≤ b.natAbs := by omega
  have h3 : (x * y).natAbs ≤ (a * b).natAbs := by rw [Int.natAbs_mul, Int.natAbs_mul]; exact Nat.mul_le_mul h1 h2
  have h4 : 0 ≤ a * b := Int.mul_nonneg ha hb
  omega
theorem sumZ_bound {f : Nat → Int} {B : Int} (hB : 0 ≤ B) : ∀ n, (∀ t, t < n → -B ≤ f t ∧ f t ≤ B) → -((n : Int) * B) ≤ sumZ f n ∧ sumZ f n ≤ (n : Int) * B
  | 0, _ => by simp [sumZ]
  | n + 1, h => by
    have h1 := sumZ_bound hB n (fun t ht => h t (by omega))
    have h2 := h n (by omega)
    have e : ((n + 1 : Nat) : Int) * B = (n : Int) * B + B := by rw [Int.natCast_add, Int.add_mul]; simp
    show _ ≤ sumZ f n + f n ∧ sumZ f n + f n ≤ _
    rw [e]
    omega
/-- Entries within a bound. -/
def Bd (B : Int) (L : List (List Int)) : Prop := ∀ i j, i < L.length → j < L.length → -B ≤ at2 L i j ∧ at2 L i j ≤ B
theorem dotK_sum {L M : List (List Int)} {i j : Nat} {a b : Int} (hL : Bd a L) (hM : Bd b M) (e : L.length = M.length) (h4 : L.length ≤ 4) (hi : i < L.length) (hj : j < L.length) (hab : a * b ≤ 1000000000000000000) (h0 : 0 ≤ a * b) :
    ∀ k, k ≤ L.length → dotK L M i j k = sumZ (fun t => at2 L i t * at2 M t j) k
  | 0, _ => rfl
  | k + 1, hk => by
    have hb : ∀ t, t < k + 1 → -(a * b) ≤ at2 L i t * at2 M t j ∧ at2 L i t * at2 M t j ≤ a * b := fun t ht => mul_bound (hL i t hi (by omega)) (hM t j (by omega) (by omega))
    have hs := sumZ_bound h0 k (fun t ht => hb t (by omega))
    have ht := hb k (by omega)
    have hkb : (k : Int) * (a * b) ≤ 4 * (a * b) := Int.mul_le_mul_of_nonneg_right (by omega) h0
    show wrap64 (dotK L M i j k + wrap64 (at2 L i k * at2 M k j)) = sumZ _ k + at2 L i k * at2 M k j
    rw [dotK_sum hL hM e h4 hi hj hab h0 k (by omega), w64 (x := at2 L i k * at2 M k j) (by omega) (by omega), w64 (by omega) (by omega)]
theorem at2_prod {L M : List (List Int)} {i j : Nat} {a b : Int} (hL : Bd a L) (hM : Bd b M) (e : L.length = M.length) (h4 : L.length ≤ 4) (hi : i < L.length) (hj : j < L.length) (hab : a * b ≤ 1000000000000000000) (h0 : 0 ≤ a * b) :
    at2 (prodL L M) i j = sumZ (fun t => at2 L i t * at2 M t j) L.length := by
  unfold prodL
  rw [at2_rowsOf hi hj, dotK_sum hL hM e h4 hi hj hab h0 _ (Nat.le_refl _)]
theorem Bd_prod {L M : List (List Int)} {a b : Int} (hL : Bd a L) (hM : Bd b M) (e : L.length = M.length) (h4 : L.length ≤ 4) (hab : a * b ≤ 1000000000000000000) (h0 : 0 ≤ a * b) : Bd (4 * (a * b)) (prodL L M) := by
  intro i j hi hj
  have hlen : (prodL L M).length = L.length := rowsOf_length _ _ _
  rw [hlen] at hi hj
  rw [at2_prod hL hM e h4 hi hj hab h0]
  have hs := sumZ_bound h0 L.length (fun t ht => mul_bound (hL i t hi ht) (hM t j (by omega) (by omega)))
  have hkb : (L.length : Int) * (a * b) ≤ 4 * (a * b) := Int.mul_le_mul_of_nonneg_right (by omega) h0
  omega
theorem prod_assoc {L M N : List (List Int)} {a b c : Int} (hL : Bd a L) (hM : Bd b M) (hN : Bd c N) (e : L.length = M.length) (e2 : M.length = N.length) (h4 : L.length ≤ 4)
    (h0 : 0 ≤ a * b) (h1 : a * b ≤ 1000000000000000000) (h2 : 0 ≤ 4 * (a * b) * c) (h3 : 4 * (a * b) * c ≤ 1000000000000000000) (h5 : 0 ≤ b * c) (h6 : b * c ≤ 1000000000000000000) (h7 : 0 ≤ a * (4 * (b * c))) (h8 : a * (4 * (b * c)) ≤ 1000000000000000000) :
    prodL (prodL L M) N = prodL L (prodL M N) := by
  have hlen : (prodL L M).length = L.length := rowsOf_length _ _ _
  have hlen2 : (prodL M N).length = M.length := rowsOf_length _ _ _
  have hP := Bd_prod hL hM e h4 h1 h0
  have hQ := Bd_prod hM hN e2 (by omega) h6 h5
  show rowsOf _ (prodL L M).length (prodL L M).length = rowsOf _ L.length L.length
  rw [hlen]
  refine rowsOf_congr fun i j hi hj => ?_
  show dotK (prodL L M) N i j L.length = dotK L (prodL M N) i j L.length
  rw [dotK_sum hP hN (by omega) (by omega) (by omega) (by omega) h3 h2 L.length (by omega), dotK_sum hL hQ (by omega) h4 hi hj h8 h7 L.length (Nat.le_refl _)]
  have e3 : sumZ (fun t => at2 (prodL L M) i t * at2 N t j) L.length = sumZ (fun s => sumZ (fun t => at2 L i t * at2 M t s * at2 N s j) L.length) L.length :=
    sumZ_congr _ fun s hs => by rw [at2_prod hL hM e h4 hi hs h1 h0, sumZ_mul_right]
  have e4 : sumZ (fun t => at2 L i t * at2 (prodL M N) t j) L.length = sumZ (fun t => sumZ (fun s => at2 L i t * at2 M t s * at2 N s j) L.length) L.length :=
    sumZ_congr _ fun t ht => by
      rw [at2_prod hM hN e2 (by omega) (by omega) (by omega) h6 h5, ← e, ← sumZ_mul_left]
      exact sumZ_congr _ fun s _ => by rw [Int.mul_assoc]
  rw [e3, e4]
  exact sumZ_swap (fun t s => at2 L i t * at2 M t s * at2 N s j) L.length L.length
theorem Bd_trans {L : List (List Int)} {a : Int} (h : Bd a L) : Bd a (transL L) := by
  intro i j hi hj
  have hlen : (transL L).length = L.length := rowsOf_length _ _ _
  rw [hlen] at hi hj
  unfold transL
  rw [at2_rowsOf hi hj]
  exact h j i hj hi
end Go.Proofs.Ytojclcknndpdgaa.Q
