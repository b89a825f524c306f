/- Christoffel words in the program, and the cut of a word by both. -/
import Derived.Test.YtljlplohicffpaaTx1
import Derived.Test.YtljlplohicffpaaTx2
import Derived.Test.YtljlplohicffpaaTx6
import Derived.Test.YtljlplohicffpaaTx7
import Derived.Lib.LazyBuf
import Derived.Test.YtljlplohicffpaaQChrEv
namespace Go.Proofs.Ytljlplohicffpaa.Q
open Go.RowKit Go.Proofs.Ytljlplohicffpaa.P Go.Proofs.YtljlplohicffpaaW.PrintWords Go.Proofs.YtljlplohicffpaaW.PrintLast Go.Proofs.Ytljlplohicffpaa.G
theorem cntL_cons (c x : Int) (l : List Int) : cntL c (x :: l) = if x = c then cntL c l + 1 else cntL c l := rfl
theorem count_cnt (c : UInt8) : ∀ l : List UInt8, l.count c = cntL (c.toNat : Int) (l.map fun b => (b.toNat : Int))
  | [] => rfl
  | x :: l => by
    rw [List.count_cons, List.map_cons, count_cnt c l, cntL_cons]
    by_cases h : x = c
    · subst h
      simp
    · have : ¬(x.toNat : Int) = (c.toNat : Int) := fun e => h (u8_inj e)
      rw [if_neg this]
      simp [h]
theorem cnt_both : ∀ l : List Int, l.all (okL 97 98) = true → cntL 97 l + cntL 98 l = l.length
  | [], _ => rfl
  | x :: l, h => by
    rw [List.all_cons, Bool.and_eq_true] at h
    have ih := cnt_both l h.2
    have hx : x = 97 ∨ x = 98 := by
      have := h.1
      unfold okL at this
      simpa using this
    rcases hx with rfl | rfl
    · rw [cntL_cons, cntL_cons, if_pos rfl, if_neg (by omega), List.length_cons]
      omega
    · rw [cntL_cons, cntL_cons, if_neg (by omega), if_pos rfl, List.length_cons]
      omega
theorem counts_eq (s : ByteArray) : impl_counts.f s = some ((cntL 97 (bytesOf s) : Int), (cntL 98 (bytesOf s) : Int)) := by
  have h1 : strings_Count.f s (⟨#[97]⟩ : ByteArray) = some ((cntL 97 (bytesOf s) : Nat) : Int) := by
    show some ((Go.Lib.countByte s.data.toList 97 : Nat) : Int) = _
    unfold Go.Lib.countByte
    rw [count_cnt]
    rfl
  have h2 : strings_Count.f s (⟨#[98]⟩ : ByteArray) = some ((cntL 98 (bytesOf s) : Nat) : Int) := by
    show some ((Go.Lib.countByte s.data.toList 98 : Nat) : Int) = _
    unfold Go.Lib.countByte
    rw [count_cnt]
    rfl
  unfold impl_counts.f
  rw [h1, h2]
  rfl
theorem christoffel_l0 {b n : Nat} (hn : n ≤ 1000) (hb : b ≤ 1000) (d : Nat) : ∀ (i : Nat), i + d = n → Ev (fun k => impl_christoffel.l0 k (b : Int) (n : Int) (chrTo b n i) (n : Int) (i : Int)) (strOfNums (chrW b n)) := by
  induction d with
  | zero =>
    intro i hi
    obtain rfl : i = n := by omega
    refine Ev_succ ?_
    simp only [impl_christoffel.l0]
    exact Ev_false (by omega) Ev_some
  | succ d ih =>
    intro i hi
    have hl := chrTo_len b n i
    have ht := step_test (i := i) (b := b) (n := n) (by omega) hn hb
    refine Ev_succ ?_
    simp only [impl_christoffel.l0]
    have h2 := ih (i + 1) (by omega)
    rw [chrTo_succ] at h2
    refine Ev_true (by omega) (Ev_false (by omega) ?_)
    by_cases h : i * b / n = (i + 1) * b / n
    · rw [if_pos h] at h2
      refine Ev_true (ht.2 h) (Ev_true (by omega) ?_)
      rw [w64 (x := (i : Int) + 1) (by omega) (by omega)]
      exact h2
    · rw [if_neg h] at h2
      refine Ev_false (fun q => h (ht.1 q)) (Ev_true (by omega) ?_)
      rw [w64 (x := (i : Int) + 1) (by omega) (by omega)]
      exact h2
theorem christoffel_ev {a b : Nat} (ha : a ≤ 400) (hb : b ≤ 400) : Ev (fun k => impl_christoffel.f k (a : Int) (b : Int)) (strOfNums (chrW b (a + b))) := by
  unfold impl_christoffel.f
  rw [show wrap64 ((a : Int) + (b : Int)) = ((a + b : Nat) : Int) from (w64 (by omega) (by omega)).trans (by omega)]
  exact christoffel_l0 (by omega) (by omega) (a + b) 0 (by omega)
theorem chrW_bytes (b n : Nat) : bytesOf (strOfNums (chrW b n)) = chrW b n := by
  have h : chrW b n = ((List.range n).map fun i => if i * b / n = (i + 1) * b / n then (97 : UInt8) else 98).map fun x => ((x.toNat : Nat) : Int) := by
    unfold chrW
    rw [List.map_map]
    refine List.map_congr_left fun i _ => ?_
    simp only [Function.comp]
    split <;> rfl
  generalize ((List.range n).map fun i => if i * b / n = (i + 1) * b / n then (97 : UInt8) else 98) = m at h
  rw [h, Go.Lib.Lz.strOfNums_map]
  rfl
theorem isChristoffel_ev {s : ByteArray} (hs : s.size ≤ 400) (hw : (bytesOf s).all (okL 97 98) = true) : Ev (fun k => impl_isChristoffel.f k s) (isChr (bytesOf s)) := by
  have hl := bytesOf_length s
  have hc := cnt_both _ hw
  unfold impl_isChristoffel.f isChr
  rw [counts_eq, hl]
  rw [hl] at hc
  generalize hm : cntL 98 (bytesOf s) = m at hc ⊢
  generalize cntL 97 (bytesOf s) = a at hc ⊢
  refine Ev.bind Ev_some (Ev.bind (divisor_ev (a := a) (b := m) (by omega) (by omega)) ?_)
  rw [show s.size - m = a from by omega, show s.size = a + m from by omega]
  by_cases hg : Nat.gcd a m = 1
  · rw [decide_eq_true hg, Bool.true_and]
    refine Ev_true (by omega) (Ev.bind (christoffel_ev (a := a) (b := m) (by omega) (by omega)) ?_)
    rw [same_bytes, chrW_bytes]
    exact Ev_some
  · rw [decide_eq_false hg, Bool.false_and]
    exact Ev_false (by omega) Ev_some
theorem chSplit_l0 {s : ByteArray} (hs : s.size ≤ 400) (d : Nat) : ∀ i : Nat, i + d = s.size → Ev (fun k => spec_chSplit.l0 k s (i : Int)) ((splitGo (bytesOf s) d i : Nat) : Int) := by
  induction d with
  | zero =>
    intro i hi
    refine Ev_succ ?_
    simp only [spec_chSplit.l0]
    exact Ev_false (by omega) Ev_some
  | succ d ih =>
    intro i hi
    have h1 := chGood_ev (s := s.extract 0 i) (by rw [← bytesOf_length, bytes_take, List.length_take, bytesOf_length]; omega)
    have h2 := chGood_ev (s := s.extract i s.size) (by rw [← bytesOf_length, bytes_drop, List.length_drop, bytesOf_length]; omega)
    rw [bytes_take] at h1
    rw [bytes_drop] at h2
    have h3 := ih (i + 1) (by omega)
    refine Ev_succ ?_
    simp only [spec_chSplit.l0]
    rw [w64 (x := (i : Int) + 1) (by omega) (by omega), Int.toNat_natCast]
    unfold splitGo
    refine Ev_true (by omega) (Ev_true (by omega) (Ev_true (by omega) (Ev.bind h1 ?_)))
    by_cases ha : isChr ((bytesOf s).take i) = true
    · rw [if_pos ha]
      refine Ev_true ha (Ev.bind h2 ?_)
      by_cases hb : isChr ((bytesOf s).drop i) = true
      · rw [if_pos hb]
        exact Ev_true hb Ev_some
      · rw [if_neg hb]
        exact Ev_false hb h3
    · rw [if_neg ha]
      exact Ev_false ha h3
def facAt (s : ByteArray) (k : Nat) : ByteArray × ByteArray × Bool := if k = 0 then ((⟨#[]⟩ : ByteArray), (⟨#[]⟩ : ByteArray), false) else (s.extract 0 k, s.extract k s.size, true)
theorem all_take {l : List Int} {p : Int → Bool} (h : l.all p = true) (i : Nat) : (l.take i).all p = true := by
  rw [List.all_eq_true] at h ⊢
  exact fun x hx => h x (List.mem_of_mem_take hx)
theorem all_drop {l : List Int} {p : Int → Bool} (h : l.all p = true) (i : Nat) : (l.drop i).all p = true := by
  rw [List.all_eq_true] at h ⊢
  exact fun x hx => h x (List.mem_of_mem_drop hx)
theorem factors_l0 {s : ByteArray} (hs : s.size ≤ 400) (hw : (bytesOf s).all (okL 97 98) = true) (d : Nat) : ∀ i : Nat, i + d = s.size → 1 ≤ i → Ev (fun k => impl_FactorsOf.l0 k s (i : Int)) (facAt s (splitGo (bytesOf s) d i)) := by
  induction d with
  | zero =>
    intro i hi _
    refine Ev_succ ?_
    simp only [impl_FactorsOf.l0]
    exact Ev_false (by omega) Ev_some
  | succ d ih =>
    intro i hi hi1
    have h1 := isChristoffel_ev (s := s.extract 0 i) (by rw [← bytesOf_length, bytes_take, List.length_take, bytesOf_length]; omega) (by rw [bytes_take]; exact all_take hw i)
    have h2 := isChristoffel_ev (s := s.extract i s.size) (by rw [← bytesOf_length, bytes_drop, List.length_drop, bytesOf_length]; omega) (by rw [bytes_drop]; exact all_drop hw i)
    rw [bytes_take] at h1
    rw [bytes_drop] at h2
    have h3 := ih (i + 1) (by omega) (by omega)
    refine Ev_succ ?_
    simp only [impl_FactorsOf.l0]
    rw [w64 (x := (i : Int) + 1) (by omega) (by omega), Int.toNat_natCast]
    unfold splitGo
    refine Ev_true (by omega) (Ev_true (by omega) (Ev_true (by omega) (Ev.bind h1 ?_)))
    by_cases ha : isChr ((bytesOf s).take i) = true
    · rw [if_pos ha]
      refine Ev_true ha (Ev.bind h2 ?_)
      by_cases hb : isChr ((bytesOf s).drop i) = true
      · rw [if_pos hb]
        unfold facAt
        rw [if_neg (by omega)]
        exact Ev_true hb Ev_some
      · rw [if_neg hb]
        exact Ev_false hb h3
    · rw [if_neg ha]
      exact Ev_false ha h3
theorem lettersB_all {s : ByteArray} (h : lettersB s = true) : (bytesOf s).all (okL 97 98) = true := by
  unfold lettersB isWordB at h
  rw [Bool.and_eq_true, Bool.and_eq_true] at h
  exact h.2.2
theorem splitL_le : ∀ (l : List Int) (d k : Nat), splitGo l d k < k + d ∨ splitGo l d k = 0
  | _, 0, _ => .inr rfl
  | l, d + 1, k => by
    have ih := splitL_le l d (k + 1)
    unfold splitGo
    repeat' split
    all_goals omega
/-- What both programs' FactorsOf answer. -/
def factorsR (s : ByteArray) : ByteArray × ByteArray × Bool := if (lettersB s && (decide (2 ≤ s.size) && isChr (bytesOf s))) = true then facAt s (splitL (bytesOf s)) else ((⟨#[]⟩ : ByteArray), (⟨#[]⟩ : ByteArray), false)
theorem foFactors_ev (C : ∀ {l : List Int}, l.length ≤ 40 → 2 ≤ l.length → isChr l = true → 1 ≤ splitL l) (s : ByteArray) : Ev (fun k => spec_FactorsOf.f k s) (factorsR s) := by
  have hl := bytesOf_length s
  have hT : Ev (fun k => spec_chTwo.f k s) (lettersB s && (decide (2 ≤ s.size) && isChr (bytesOf s))) := by
    unfold spec_chTwo.f
    refine Ev.bind (chLetters_ev s) ?_
    by_cases h : lettersB s = true
    · rw [h, Bool.true_and]
      have h40 := letters_le h
      by_cases h2 : 2 ≤ s.size
      · rw [decide_eq_true h2, Bool.true_and]
        exact Ev_true rfl (Ev_true (by omega) (Ev.bind (f := fun _ t => some t) (chGood_ev (by omega)) Ev_some))
      · rw [decide_eq_false h2, Bool.false_and]
        exact Ev_true rfl (Ev_false (by omega) Ev_some)
    · rw [Bool.not_eq_true] at h
      rw [h, Bool.false_and]
      exact Ev_false (by simp) Ev_some
  unfold spec_FactorsOf.f factorsR
  refine Ev.bind hT ?_
  by_cases h : (lettersB s && (decide (2 ≤ s.size) && isChr (bytesOf s))) = true
  · rw [if_pos h]
    rw [Bool.and_eq_true, Bool.and_eq_true, decide_eq_true_iff] at h
    obtain ⟨h1, h2, h3⟩ := h
    have h40 := letters_le h1
    have h4 := C (by omega) (by omega) h3
    have h5 := splitL_le (bytesOf s) ((bytesOf s).length - 1) 1
    have hsp := chSplit_l0 (s := s) (by omega) (s.size - 1) 1 (by omega)
    unfold splitL at h4 ⊢
    rw [hl] at h4 h5 ⊢
    refine Ev_true (by rw [h1, h3, decide_eq_true h2]; rfl) (Ev.bind hsp (Ev_true (by omega) (Ev_true (by omega) ?_)))
    rw [Int.toNat_natCast]
    unfold facAt
    rw [if_neg (by omega)]
    exact Ev_some
  · rw [if_neg h]
    exact Ev_false h Ev_some
theorem factors_ev (s : ByteArray) : Ev (fun k => impl_FactorsOf.f k s) (factorsR s) := by
  have hl := bytesOf_length s
  unfold impl_FactorsOf.f factorsR
  rw [isLetters_eq]
  refine Ev.bind Ev_some ?_
  by_cases h : lettersB s = true
  · have h40 := letters_le h
    have hw := lettersB_all h
    refine Ev_true h (Ev.bind (isChristoffel_ev (by omega) hw) (Ev_succ ?_))
    simp only [impl_FactorsOf.j0]
    rw [h, Bool.true_and]
    by_cases hc : isChr (bytesOf s) = true
    · rw [hc, Bool.and_true]
      refine Ev_false (by simp) ?_
      by_cases h2 : 2 ≤ s.size
      · rw [if_pos (decide_eq_true h2)]
        unfold splitL
        rw [hl]
        exact factors_l0 (by omega) hw (s.size - 1) 1 (by omega) (by omega)
      · rw [if_neg (by rw [decide_eq_false h2]; simp)]
        exact factors_l0 (by omega) hw 0 1 (by omega) (by omega)
    · rw [Bool.not_eq_true] at hc
      rw [hc, Bool.and_false]
      exact Ev_true (by simp) Ev_some
  · rw [Bool.not_eq_true] at h
    rw [h, Bool.false_and]
    refine Ev_false (by simp) (Ev_succ ?_)
    simp only [impl_FactorsOf.j0]
    exact Ev_true (by simp) Ev_some
end Go.Proofs.Ytljlplohicffpaa.Q
