/- Christoffel words, as both programs test and cut them. -/
import Derived.Test.YtljlplohicffpaaTx1
import Derived.Test.YtljlplohicffpaaTx2
import Derived.Test.YtljlplohicffpaaTx6
import Derived.Test.YtljlplohicffpaaQChr
namespace Go.Proofs.Ytljlplohicffpaa.Q
open Go.RowKit Go.Proofs.Ytljlplohicffpaa.P Go.Proofs.YtljlplohicffpaaW.PrintWords Go.Proofs.YtljlplohicffpaaW.PrintLast Go.Proofs.Ytljlplohicffpaa.G
theorem toList_eq (s : ByteArray) : s.toList = s.data.toList := by
  unfold ByteArray.toList
  rw [toList_go s s.size 0 [] (by omega)]
  simp
theorem u8_inj {a b : UInt8} (h : ((a.toNat : Nat) : Int) = (b.toNat : Int)) : a = b := UInt8.toNat_inj.1 (by omega)
theorem map_inj_u8 : ∀ {a b : List UInt8}, a.map (fun x => ((x.toNat : Nat) : Int)) = b.map (fun x => (x.toNat : Int)) → a = b
  | [], [], _ => rfl
  | [], _ :: _, h => by simp at h
  | _ :: _, [], h => by simp at h
  | x :: a, y :: b, h => by
    simp only [List.map_cons, List.cons.injEq] at h
    rw [u8_inj h.1, map_inj_u8 h.2]
theorem same_bytes (s t : ByteArray) : (s.toList == t.toList) = decide (bytesOf s = bytesOf t) := by
  rw [toList_eq, toList_eq, Bool.eq_iff_iff, beq_iff_eq, decide_eq_true_iff]
  exact ⟨fun h => by unfold bytesOf; rw [h], fun h => map_inj_u8 h⟩
theorem bytes_append (s t : ByteArray) : bytesOf (s ++ t) = bytesOf s ++ bytesOf t := by
  unfold bytesOf
  rw [ByteArray.data_append, Array.toList_append, List.map_append]
theorem bytes_extract (s : ByteArray) (a b : Nat) : bytesOf (s.extract a b) = ((bytesOf s).take b).drop a := by
  unfold bytesOf
  rw [ByteArray.data_extract, Array.toList_extract, List.drop_take]
  simp [List.extract, List.map_drop, List.map_take]
theorem bytes_take (s : ByteArray) (k : Nat) : bytesOf (s.extract 0 k) = (bytesOf s).take k := by rw [bytes_extract, List.drop_zero]
theorem bytes_drop (s : ByteArray) (k : Nat) : bytesOf (s.extract k s.size) = (bytesOf s).drop k := by
  rw [bytes_extract, List.take_of_length_le (by rw [bytesOf_length]; omega)]
theorem gcd_tmod (a b : Nat) : Int.tmod (a : Int) (b : Int) = ((a % b : Nat) : Int) := by
  rw [Int.tmod_eq_emod_of_nonneg (by omega)]
  omega
theorem foGcd_ev : ∀ (n a b : Nat), b ≤ n → a ≤ 1000 → b ≤ 1000 → Ev (fun k => spec_foGcd.f k (a : Int) (b : Int)) ((Nat.gcd a b : Nat) : Int)
  | 0, a, b, h, h1, h2 => by
    obtain rfl : b = 0 := by omega
    refine Ev_succ ?_
    simp only [spec_foGcd.f]
    refine Ev_true rfl ?_
    unfold spec_l1Abs.f spec_l1Most.f
    rw [w64 (x := -(a : Int)) (by omega) (by omega), Nat.gcd_zero_right]
    by_cases h0 : (a : Int) > -(a : Int)
    · rw [if_pos h0]
      exact Ev_some
    · rw [if_neg h0]
      have : -(a : Int) = a := by omega
      rw [this]
      exact Ev_some
  | n + 1, a, b, h, h1, h2 => by
    by_cases hb : b = 0
    · subst hb
      exact foGcd_ev 0 a 0 (by omega) h1 h2
    · have hlt : a % b < b := Nat.mod_lt _ (by omega)
      refine Ev_succ ?_
      simp only [spec_foGcd.f]
      rw [gcd_tmod, Nat.gcd_comm a b, Nat.gcd_rec b a]
      rw [Nat.gcd_comm]
      exact Ev_false (by omega) (Ev.bind (f := fun _ t => some t) (foGcd_ev n b (a % b) (by omega) h2 (by omega)) Ev_some)
theorem divisor_l0 : ∀ (n a b : Nat), b ≤ n → a ≤ 1000 → b ≤ 1000 → Ev (fun k => impl_divisor.l0 k (a : Int) (b : Int)) ((Nat.gcd a b : Nat) : Int)
  | 0, a, b, h, h1, h2 => by
    obtain rfl : b = 0 := by omega
    refine Ev_succ ?_
    simp only [impl_divisor.l0]
    rw [w64 (x := -(a : Int)) (by omega) (by omega), Nat.gcd_zero_right]
    have : mx (a : Int) (-(a : Int)) = a := by unfold mx; split <;> omega
    rw [this]
    exact Ev_true rfl Ev_some
  | n + 1, a, b, h, h1, h2 => by
    by_cases hb : b = 0
    · subst hb
      exact divisor_l0 0 a 0 (by omega) h1 h2
    · have hlt : a % b < b := Nat.mod_lt _ (by omega)
      refine Ev_succ ?_
      simp only [impl_divisor.l0]
      rw [gcd_tmod, Nat.gcd_comm a b, Nat.gcd_rec b a]
      rw [Nat.gcd_comm]
      exact Ev_false (by omega) (divisor_l0 n b (a % b) (by omega) h2 (by omega))
theorem divisor_ev {a b : Nat} (h1 : a ≤ 1000) (h2 : b ≤ 1000) : Ev (fun k => impl_divisor.f k (a : Int) (b : Int)) ((Nat.gcd a b : Nat) : Int) := divisor_l0 b a b (Nat.le_refl _) h1 h2
theorem cntL_le (c : Int) : ∀ l, cntL c l ≤ l.length
  | [] => Nat.le_refl _
  | x :: l => by
    unfold cntL
    have := cntL_le c l
    split <;> simp only [List.length_cons] <;> omega
theorem cntL_take (c : Int) (l : List Int) {i : Nat} (h : i < l.length) : cntL c (l.drop i) = (if l[i] = c then cntL c (l.drop (i + 1)) + 1 else cntL c (l.drop (i + 1))) := by
  rw [List.drop_eq_getElem_cons h]
  rfl
theorem chMany_l0 {s : ByteArray} (hs : s.size ≤ 1000) (d : Nat) : ∀ (i m : Nat), i + d = s.size → m ≤ i → Ev (fun k => spec_chMany.l0 k s (m : Int) (i : Int)) (((m + cntL 98 ((bytesOf s).drop i) : Nat)) : Int) := by
  have hl := bytesOf_length s
  induction d with
  | zero =>
    intro i m hi hm
    refine Ev_succ ?_
    simp only [spec_chMany.l0]
    rw [List.drop_of_length_le (by omega)]
    exact Ev_false (by omega) Ev_some
  | succ d ih =>
    intro i m hi hm
    have h1 : i < (bytesOf s).length := by omega
    refine Ev_succ ?_
    simp only [spec_chMany.l0]
    rw [bt_at h1, w64 (x := (i : Int) + 1) (by omega) (by omega), w64 (x := (m : Int) + 1) (by omega) (by omega), cntL_take 98 _ h1]
    refine Ev_true (by omega) (Ev_true (by omega) ?_)
    by_cases hb : (bytesOf s)[i] = 98
    · rw [if_pos hb]
      have h := ih (i + 1) (m + 1) (by omega) (by omega)
      rw [show m + (cntL 98 ((bytesOf s).drop (i + 1)) + 1) = m + 1 + cntL 98 ((bytesOf s).drop (i + 1)) from by omega]
      exact Ev_true hb (by simpa using h)
    · rw [if_neg hb]
      have h := ih (i + 1) m (by omega) (by omega)
      exact Ev_false hb (by simpa using h)
theorem chMany_ev {s : ByteArray} (hs : s.size ≤ 1000) : Ev (fun k => spec_chMany.f k s) ((cntL 98 (bytesOf s) : Nat) : Int) := by
  have h := chMany_l0 hs s.size 0 0 (by omega) (by omega)
  rw [List.drop_zero, Nat.zero_add] at h
  exact h
theorem div_cast (a b : Nat) : Int.tdiv (a : Int) (b : Int) = ((a / b : Nat) : Int) := by
  rw [Int.tdiv_eq_ediv_of_nonneg (by omega)]
  omega
theorem step_test {i b n : Nat} (hi : i < n) (hn : n ≤ 1000) (hb : b ≤ 1000) : (wrap64 (Int.tdiv (wrap64 ((i : Int) * (b : Int))) (n : Int)) = wrap64 (Int.tdiv (wrap64 (wrap64 ((i : Int) + 1) * (b : Int))) (n : Int))) ↔ i * b / n = (i + 1) * b / n := by
  have h1 : i * b ≤ 1000 * 1000 := Nat.mul_le_mul (by omega) hb
  have h2 : (i + 1) * b ≤ 1000 * 1000 := Nat.mul_le_mul (by omega) hb
  have h3 : i * b / n ≤ i * b := Nat.div_le_self _ _
  have h4 : (i + 1) * b / n ≤ (i + 1) * b := Nat.div_le_self _ _
  have e1 : (i : Int) * (b : Int) = ((i * b : Nat) : Int) := by simp
  have e2 : ((i : Int) + 1) * (b : Int) = (((i + 1) * b : Nat) : Int) := by simp
  rw [w64 (x := (i : Int) + 1) (by omega) (by omega), e1, e2, w64 (x := ((i * b : Nat) : Int)) (by omega) (by omega), w64 (x := (((i + 1) * b : Nat) : Int)) (by omega) (by omega), div_cast, div_cast]
  generalize i * b / n = q1 at h3 ⊢
  generalize (i + 1) * b / n = q2 at h4 ⊢
  rw [w64 (by omega) (by omega), w64 (by omega) (by omega)]
  omega
def chrTo (b n i : Nat) : List Int := (List.range i).map fun i => if i * b / n = (i + 1) * b / n then 97 else 98
theorem chrTo_succ (b n i : Nat) : chrTo b n (i + 1) = chrTo b n i ++ [if i * b / n = (i + 1) * b / n then 97 else 98] := by simp [chrTo, List.range_succ]
theorem chrTo_len (b n i : Nat) : (chrTo b n i).length = i := by simp [chrTo]
theorem chWord_l0 {b n : Nat} (hn : n ≤ 1000) (hb : b ≤ 1000) (d : Nat) : ∀ (i : Nat) (x : ByteArray), i + d = n → bytesOf x = chrTo b n i → ∃ r, Ev (fun k => spec_chWord.l0 k (b : Int) (n : Int) x (i : Int)) r ∧ bytesOf r = chrW b n := by
  induction d with
  | zero =>
    intro i x hi hx
    obtain rfl : i = n := by omega
    refine ⟨x, Ev_succ ?_, hx⟩
    simp only [spec_chWord.l0]
    exact Ev_false (by omega) Ev_some
  | succ d ih =>
    intro i x hi hx
    have hsz : x.size = i := by rw [← bytesOf_length, hx, chrTo_len]
    have ht := step_test (i := i) (b := b) (n := n) (by omega) hn hb
    by_cases h : i * b / n = (i + 1) * b / n
    · obtain ⟨r, h1, h2⟩ := ih (i + 1) (x ++ ⟨#[97]⟩) (by omega) (by rw [bytes_append, hx, chrTo_succ, if_pos h]; rfl)
      refine ⟨r, Ev_succ ?_, h2⟩
      simp only [spec_chWord.l0]
      refine Ev_true (by omega) (Ev_false (by omega) (Ev_true (ht.2 h) (Ev_true (by omega) ?_)))
      rw [w64 (x := (i : Int) + 1) (by omega) (by omega)]
      exact h1
    · obtain ⟨r, h1, h2⟩ := ih (i + 1) (x ++ ⟨#[98]⟩) (by omega) (by rw [bytes_append, hx, chrTo_succ, if_neg h]; rfl)
      refine ⟨r, Ev_succ ?_, h2⟩
      simp only [spec_chWord.l0]
      refine Ev_true (by omega) (Ev_false (by omega) (Ev_false (fun q => h (ht.1 q)) (Ev_true (by omega) ?_)))
      rw [w64 (x := (i : Int) + 1) (by omega) (by omega)]
      exact h1
theorem chWord_ev {a b : Nat} (ha : a ≤ 400) (hb : b ≤ 400) : ∃ r, Ev (fun k => spec_chWord.f k (a : Int) (b : Int)) r ∧ bytesOf r = chrW b (a + b) := by
  obtain ⟨r, h1, h2⟩ := chWord_l0 (b := b) (n := a + b) (by omega) (by omega) (a + b) 0 ⟨#[]⟩ (by omega) rfl
  refine ⟨r, ?_, h2⟩
  unfold spec_chWord.f
  rw [show wrap64 ((a : Int) + (b : Int)) = ((a + b : Nat) : Int) from (w64 (by omega) (by omega)).trans (by omega)]
  exact h1
theorem chGood_ev {s : ByteArray} (hs : s.size ≤ 400) : Ev (fun k => spec_chGood.f k s) (isChr (bytesOf s)) := by
  have hl := bytesOf_length s
  have hc := cntL_le 98 (bytesOf s)
  unfold spec_chGood.f isChr
  rw [hl]
  refine Ev.bind (chMany_ev (by omega)) ?_
  generalize hm : cntL 98 (bytesOf s) = m at hc ⊢
  rw [show wrap64 ((s.size : Int) - (m : Int)) = ((s.size - m : Nat) : Int) from (w64 (by omega) (by omega)).trans (by omega)]
  refine Ev.bind (foGcd_ev m (s.size - m) m (Nat.le_refl _) (by omega) (by omega)) ?_
  by_cases hg : Nat.gcd (s.size - m) m = 1
  · obtain ⟨r, h1, h2⟩ := chWord_ev (a := s.size - m) (b := m) (by omega) (by omega)
    rw [decide_eq_true hg, Bool.true_and]
    refine Ev_true (by omega) (Ev.bind h1 ?_)
    rw [same_bytes, h2, show s.size - m + m = s.size from by omega]
    exact Ev_some
  · rw [decide_eq_false hg, Bool.false_and]
    exact Ev_false (by omega) Ev_some
end Go.Proofs.Ytljlplohicffpaa.Q
