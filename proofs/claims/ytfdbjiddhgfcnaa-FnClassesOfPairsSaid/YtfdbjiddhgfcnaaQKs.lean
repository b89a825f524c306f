/- All k of pairs up to a bound: an array of marks on one side, a list in order on the other one. -/
import Derived.Test.YtfdbjiddhgfcnaaPx2
import Derived.Test.YtfdbjiddhgfcnaaPx4
import Derived.Test.YtfdbjiddhgfcnaaPx5
import Derived.Test.YtfdbjiddhgfcnaaQPair
namespace Go.Proofs.Ytfdbjiddhgfcnaa.Q
open Go.RowKit Go.Proofs.Ytfdbjiddhgfcnaa.P Go.Proofs.YtfdbjiddhgfcnaaW.PrintWords Go.Proofs.YtfdbjiddhgfcnaaW.PrintLast
/-- The k of a pair. -/
def kofR (x y c : Int) : Int × Bool := if KC ((x * x + y * y + c).tdiv (x * y)) c ∧ Pr ((x * x + y * y + c).tdiv (x * y)) c x y then ((x * x + y * y + c).tdiv (x * y), true) else (0, false)
theorem kof_bounds {x y c : Int} (h0 : 1 ≤ y) (h1 : y ≤ x) (h2 : x ≤ 1000000) (c0 : -1000 ≤ c) (c1 : c ≤ 1000) :
    wrap64 (wrap64 (wrap64 (x * x) + wrap64 (y * y)) + c) = x * x + y * y + c ∧ wrap64 (x * y) = x * y ∧ 1 ≤ x * y ∧ wrap64 ((x * x + y * y + c).tdiv (x * y)) = (x * x + y * y + c).tdiv (x * y) := by
  have a1 : 0 ≤ x * x ∧ x * x ≤ 1000000000000 := ⟨Int.mul_nonneg (by omega) (by omega), by have := Int.mul_le_mul h2 h2 (by omega) (by omega); omega⟩
  have a2 : 0 ≤ y * y ∧ y * y ≤ 1000000000000 := ⟨Int.mul_nonneg (by omega) (by omega), by have := Int.mul_le_mul (show y ≤ 1000000 by omega) (show y ≤ 1000000 by omega) (by omega) (by omega); omega⟩
  have a3 : x * y ≤ 1000000000000 := by have := Int.mul_le_mul h2 (show y ≤ 1000000 by omega) (by omega) (by omega); omega
  have a4 : 1 ≤ x * y := by have := Int.mul_le_mul (show (1 : Int) ≤ x by omega) h0 (by omega) (by omega); omega
  rw [w64 (x := x * x) (by omega) (by omega), w64 (x := y * y) (by omega) (by omega), w64 (x := x * x + y * y) (by omega) (by omega), w64 (x := x * y) (by omega) (by omega)]
  refine ⟨w64 (by omega) (by omega), rfl, a4, ?_⟩
  have h := Int.natAbs_tdiv_le_natAbs (x * x + y * y + c) (x * y)
  exact w64 (by omega) (by omega)
theorem kOf_eq {x y c : Int} (h0 : 1 ≤ y) (h1 : y ≤ x) (h2 : x ≤ 1000000) (c0 : -1000 ≤ c) (c1 : c ≤ 1000) : impl_kOf.f x y c = some (kofR x y c) := by
  obtain ⟨e1, e2, e3, e4⟩ := kof_bounds h0 h1 h2 c0 c1
  unfold impl_kOf.f kofR
  rw [e1, e2, e4, if_neg (by omega), within_eq]
  have hm := Int.tmod_add_mul_tdiv (x * x + y * y + c) (x * y)
  generalize (x * x + y * y + c).tdiv (x * y) = q at hm ⊢
  simp only [Option.bind_some]
  by_cases h : (x * x + y * y + c).tmod (x * y) = 0
  · rw [if_pos h]
    have he : x * x + y * y + c = q * x * y := by rw [← hm, h]; grind
    by_cases hq : 1 ≤ q ∧ q ≤ 1000
    · rw [if_pos (decide_eq_true hq), if_pos ⟨⟨hq, c0, c1⟩, by omega, h1, h2, he⟩]
    · rw [if_neg (by simpa using hq), if_neg (fun p => hq p.1.1)]
  · rw [if_neg h, if_neg]
    intro p
    have he := p.2.2.2.2
    apply h
    have : x * y * q = q * x * y := by grind
    omega
theorem KOfPair_eq (x y c : Int) : impl_KOfPair.f x y c = some (if (1 ≤ y ∧ y ≤ x ∧ x ≤ 1000000) ∧ -1000 ≤ c ∧ c ≤ 1000 then kofR x y c else (0, false)) := by
  unfold impl_KOfPair.f
  rw [within_eq, within_eq, within_eq]
  simp only [Option.bind_some]
  by_cases h1 : 1 ≤ y ∧ y ≤ 1000000
  · rw [if_pos (decide_eq_true h1)]
    by_cases h2 : y ≤ x ∧ x ≤ 1000000
    · rw [if_pos (decide_eq_true h2)]
      by_cases h3 : -1000 ≤ c ∧ c ≤ 1000
      · rw [if_pos (decide_eq_true h3), kOf_eq h1.1 h2.1 h2.2 h3.1 h3.2, if_pos ⟨⟨h1.1, h2⟩, h3⟩]
        rfl
      · rw [if_neg (by simpa using h3), if_neg (fun p => h3 p.2)]
    · rw [if_neg (by simpa using h2), if_neg (fun p => h2 p.1.2)]
  · rw [if_neg (by simpa using h1), if_neg (fun p => h1 ⟨p.1.1, by have := p.1.2; omega⟩)]
theorem foKOfPair_ev (x y c : Int) : Ev (fun j => spec_KOfPair.f j x y c) (if (1 ≤ y ∧ y ≤ x ∧ x ≤ 1000000) ∧ -1000 ≤ c ∧ c ≤ 1000 then kofR x y c else (0, false)) := by
  have hno : Ev (fun j => spec_KOfPair.j0 j x y c true) (0, false) := by
    refine Ev_succ ?_
    simp only [spec_KOfPair.j0]
    exact Ev_true trivial Ev_some
  unfold spec_KOfPair.f
  rw [in_eq, in_eq, in_eq]
  simp only [Option.bind_some]
  by_cases h1 : 1 ≤ x ∧ x ≤ 1000000
  · refine Ev_true (decide_eq_true h1) ?_
    by_cases h2 : 1 ≤ y ∧ y ≤ x
    · refine Ev_true (decide_eq_true h2) ?_
      by_cases h3 : -1000 ≤ c ∧ c ≤ 1000
      · rw [decide_eq_true h3, if_pos ⟨⟨h2.1, h2.2, h1.2⟩, h3⟩]
        obtain ⟨e1, e2, e3, e4⟩ := kof_bounds h2.1 h2.2 h1.2 h3.1 h3.2
        refine Ev_succ ?_
        simp only [spec_KOfPair.j0]
        rw [e1, e2, e4, juGiven_eq]
        simp only [Option.bind_some]
        unfold kofR
        refine Ev_false (by simp) (Ev_false (by omega) ?_)
        generalize (x * x + y * y + c).tdiv (x * y) = q
        by_cases hk : KC q c
        · rw [juGood_eq hk]
          simp only [Option.bind_some]
          refine Ev_true (decide_eq_true hk) ?_
          by_cases hp : Pr q c x y
          · rw [show (if KC q c ∧ Pr q c x y then (q, true) else (0, false)) = (q, true) from if_pos ⟨hk, hp⟩]
            exact Ev_true (decide_eq_true hp) Ev_some
          · rw [show (if KC q c ∧ Pr q c x y then (q, true) else (0, false)) = (0, false) from if_neg (fun p => hp p.2)]
            exact Ev_false (by simpa using hp) Ev_some
        · rw [show (if KC q c ∧ Pr q c x y then (q, true) else (0, false)) = (0, false) from if_neg (fun p => hk p.1)]
          exact Ev_false (by simpa using hk) Ev_some
      · rw [decide_eq_false h3, if_neg (fun p => h3 p.2)]
        exact hno
    · rw [if_neg (fun p => h2 ⟨p.1.1, p.1.2.1⟩)]
      exact Ev_false (by simpa using h2) hno
  · rw [if_neg (fun p => h1 ⟨by have := p.1.1; have := p.1.2.1; omega, p.1.2.2⟩)]
    exact Ev_false (by simpa using h1) hno
/-- A number put into a list in order. -/
def putL (k : Int) : List Int → List Int
  | [] => [k]
  | a :: t => if a < k then a :: putL k t else if a = k then a :: t else k :: a :: t
theorem l1Put_l0 (k : Int) (L : List Int) (hn : L.length ≤ 1000000) : ∀ (d i : Nat), i + d = L.length → Ev (fun j => spec_l1Put.l0 j L k (i : Int)) (L.take i ++ putL k (L.drop i)) := by
  intro d
  induction d with
  | zero =>
    intro i hi
    have hi : i = L.length := by omega
    subst hi
    refine Ev_succ ?_
    simp only [spec_l1Put.l0, Option.bind_some, Int.toNat_natCast, List.length_append, List.length_take, List.length_drop, List.length_nil, List.length_cons, List.nil_append]
    refine Ev_false (by omega) (Ev_true (by omega) (Ev_true (by omega) (Ev_true (by omega) (Ev_true (by omega) (Ev_true (by omega) ?_)))))
    simp only [List.drop_length, List.take_length, putL, List.append_nil]
    exact Ev_some
  | succ d ih =>
    intro i hi
    have h1 : i < L.length := by omega
    have hr : rd L (i : Int) = L[i] := by simp [rd, List.getD_eq_getElem?_getD, List.getElem?_eq_getElem h1]
    have ih : Ev (fun j => spec_l1Put.l0 j L k ((i : Int) + 1)) (L.take i ++ (L[i] :: putL k (L.drop (i + 1)))) := by
      have h := ih (i + 1) (by omega)
      rw [List.take_succ_eq_append_getElem h1, List.append_assoc] at h
      exact h
    refine Ev_succ ?_
    simp only [spec_l1Put.l0, Option.bind_some, Int.toNat_natCast, List.length_append, List.length_take, List.length_drop, List.length_nil, List.length_cons, List.nil_append]
    rw [hr, w64 (x := (i : Int) + 1) (by omega) (by omega), List.drop_eq_getElem_cons h1]
    refine Ev_true (by omega) (Ev_true (by omega) ?_)
    simp only [putL]
    by_cases g1 : L[i] < k
    · rw [if_pos g1]
      exact Ev_true g1 ih
    · rw [if_neg g1]
      refine Ev_false g1 ?_
      by_cases g2 : L[i] = k
      · refine Ev_true g2 ?_
        rw [if_pos g2, ← List.drop_eq_getElem_cons h1, List.take_append_drop]
        exact Ev_some
      · refine Ev_false g2 (Ev_true (by omega) (Ev_true (by omega) (Ev_true (by omega) (Ev_true (by omega) ?_))))
        rw [if_neg g2, ← List.drop_eq_getElem_cons h1, List.append_assoc]
        exact Ev_some
theorem l1Put_ev (k : Int) (L : List Int) (hn : L.length ≤ 1000000) : Ev (fun j => spec_l1Put.f j L k) (putL k L) := by
  have h := l1Put_l0 k L hn L.length 0 (by omega)
  unfold spec_l1Put.f
  simpa using h
/-- The marked numbers from i on. -/
def ksFrom (l : List Bool) : Nat → Nat → List Int
  | 0, _ => []
  | d + 1, i => if l.getD i false = true then (i : Int) :: ksFrom l d (i + 1) else ksFrom l d (i + 1)
theorem ksFrom_out (l : List Bool) : ∀ (d i : Nat), ksOut l i ++ ksFrom l d i = ksOut l (i + d)
  | 0, i => by simp [ksFrom]
  | d + 1, i => by
    have ih := ksFrom_out l d (i + 1)
    rw [show i + (d + 1) = i + 1 + d by omega, ← ih]
    simp only [ksFrom]
    cases h : l.getD i false with
    | true => rw [if_pos rfl, ksOut_yes h, List.append_assoc]; rfl
    | false => rw [if_neg (by decide), ksOut_no h]
theorem ksOut_from (l : List Bool) (n : Nat) : ksOut l n = ksFrom l n 0 := by
  have h := ksFrom_out l n 0
  rw [Nat.zero_add] at h
  rw [← h]
  rfl
theorem ksFrom_far (l : List Bool) (k : Nat) : ∀ (d i : Nat), k < i → ksFrom (l.set k true) d i = ksFrom l d i
  | 0, _, _ => rfl
  | d + 1, i, h => by
    simp only [ksFrom]
    rw [ksFrom_far l k d (i + 1) (by omega), show (l.set k true).getD i false = l.getD i false by simp [List.getD_eq_getElem?_getD, List.getElem?_set_ne (show k ≠ i by omega)]]
theorem ksFrom_ge (l : List Bool) : ∀ (d i : Nat), ∀ z ∈ ksFrom l d i, (i : Int) ≤ z
  | 0, i, z, h => by simp [ksFrom] at h
  | d + 1, i, z, h => by
    simp only [ksFrom] at h
    split at h
    · rcases List.mem_cons.1 h with rfl | h
      · omega
      · have := ksFrom_ge l d (i + 1) z h; omega
    · have := ksFrom_ge l d (i + 1) z h; omega
theorem putL_less (k : Int) : ∀ (L : List Int), (∀ z ∈ L, k < z) → putL k L = k :: L
  | [], _ => rfl
  | a :: t, h => by
    have := h a (by simp)
    simp only [putL]
    rw [if_neg (by omega), if_neg (by omega)]
theorem putL_from (l : List Bool) (k : Nat) : ∀ (d i : Nat), i ≤ k → k < i + d → k < l.length → putL (k : Int) (ksFrom l d i) = ksFrom (l.set k true) d i
  | 0, i, h1, h2, h3 => by omega
  | d + 1, i, h1, h2, h3 => by
    simp only [ksFrom]
    by_cases he : i = k
    · subst he
      rw [ksFrom_far l i d (i + 1) (by omega), show (l.set i true).getD i false = true by simp [List.getD_eq_getElem?_getD, h3], if_pos rfl]
      cases h : l.getD i false with
      | true => rw [if_pos rfl]; simp only [putL]; rw [if_neg (by omega), if_pos trivial]
      | false => rw [if_neg (by decide)]; exact putL_less _ _ (fun z hz => by have := ksFrom_ge l d (i + 1) z hz; omega)
    · have ih := putL_from l k d (i + 1) (by omega) (by omega) h3
      rw [show (l.set k true).getD i false = l.getD i false by simp [List.getD_eq_getElem?_getD, List.getElem?_set_ne (show k ≠ i by omega)]]
      cases h : l.getD i false with
      | true => rw [if_pos rfl, if_pos rfl]; simp only [putL]; rw [if_pos (by omega), ih]
      | false => rw [if_neg (by decide), if_neg (by decide), ih]
theorem putL_out {l : List Bool} (hl : l.length = 1001) {k : Int} (h0 : 0 ≤ k) (h1 : k < 1001) : putL k (ksOut l 1001) = ksOut (l.set k.toNat true) 1001 := by
  obtain ⟨n, rfl⟩ := Int.eq_ofNat_of_zero_le h0
  rw [ksOut_from, ksOut_from, Int.toNat_natCast]
  exact putL_from l n 1001 0 (by omega) (by omega) (by omega)
theorem kofR_lt {x y c : Int} (_h : (kofR x y c).2 = true) : 0 ≤ (kofR x y c).1 ∧ (kofR x y c).1 < 1001 := by
  unfold kofR
  split
  · rename_i p
    have := p.1.1
    exact ⟨by show 0 ≤ (x * x + y * y + c).tdiv (x * y); omega, by show (x * x + y * y + c).tdiv (x * y) < 1001; omega⟩
  · exact ⟨by show (0 : Int) ≤ 0; omega, by show (0 : Int) < 1001; omega⟩
def kB : Nat := 1001
theorem rep_getD (n j : Nat) : (List.replicate n false).getD j false = false := by
  simp only [List.getD_eq_getElem?_getD, List.getElem?_replicate]
  split <;> rfl
def hasRow (c x : Int) : Nat → Int → List Bool → List Bool
  | 0, _, l => l
  | d + 1, y, l => hasRow c x d (y + 1) (if (kofR x y c).2 = true then l.set (kofR x y c).1.toNat true else l)
def hasAll (c : Int) : Nat → Int → List Bool → List Bool
  | 0, _, l => l
  | d + 1, x, l => hasAll c d (x + 1) (hasRow c x x.toNat 1 l)
theorem hasRow_len (c x : Int) : ∀ (d : Nat) (y : Int) (l : List Bool), (hasRow c x d y l).length = l.length
  | 0, _, _ => rfl
  | d + 1, y, l => by
    simp only [hasRow]
    rw [hasRow_len c x d]
    split <;> simp
theorem ksOut_le {B : Nat} (hB : B = 1001) (l : List Bool) : (ksOut l B).length ≤ 1000000 := Nat.le_trans (ksOut_len l B) (by omega)
theorem putL_outB {B : Nat} (hB : B = 1001) {l : List Bool} (hl : l.length = B) {k : Int} (h0 : 0 ≤ k) (h1 : k < 1001) : putL k (ksOut l B) = ksOut (l.set k.toNat true) B := by
  subst hB
  exact putL_out hl h0 h1
section
variable {c : Int} (c0 : -1000 ≤ c) (c1 : c ≤ 1000)
include c0 c1
theorem ks_l1 {x : Int} (hx : x ≤ 200) : ∀ (d : Nat) (y : Int) (l : List Bool), 1 ≤ y → y + d = x + 1 → Ev (fun j => impl_KsUpTo.l1 j c x y l) (hasRow c x d y l)
  | 0, y, l, hy, hd => by
    refine Ev_succ ?_
    simp only [impl_KsUpTo.l1]
    exact Ev_false (by omega) Ev_some
  | d + 1, y, l, hy, hd => by
    refine Ev_succ ?_
    simp only [impl_KsUpTo.l1]
    rw [kOf_eq hy (by omega) (by omega) c0 c1, w64 (x := y + 1) (by omega) (by omega)]
    simp only [Option.bind_some]
    refine Ev_true (by omega) ?_
    simp only [hasRow]
    by_cases hq : (kofR x y c).2 = true
    · have hb := kofR_lt hq
      rw [if_pos hq]
      exact Ev_true hq (Ev_true hb.1 (Ev_true hb.2 (ks_l1 hx d (y + 1) _ (by omega) (by omega))))
    · rw [if_neg hq]
      exact Ev_false hq (ks_l1 hx d (y + 1) _ (by omega) (by omega))
theorem ks_l0 {m : Int} (hm : m ≤ 200) : ∀ (d : Nat) (x : Int) (l : List Bool), 1 ≤ x → x + d = m + 1 → Ev (fun j => impl_KsUpTo.l0 j c m x l) (hasAll c d x l)
  | 0, x, l, hx, hd => by
    refine Ev_succ ?_
    simp only [impl_KsUpTo.l0]
    exact Ev_false (by omega) Ev_some
  | d + 1, x, l, hx, hd => by
    refine Ev_succ ?_
    simp only [impl_KsUpTo.l0, hasAll]
    rw [w64 (x := x + 1) (by omega) (by omega)]
    exact Ev_true (by omega) (Ev.bind (ks_l1 c0 c1 (by omega) x.toNat 1 l (by omega) (by omega)) (ks_l0 hm d (x + 1) _ (by omega) (by omega)))
theorem foKs_l1 {B : Nat} (hB : B = 1001) {m x : Int} (hx : x ≤ 200) {r : List Int × Bool} : ∀ (d : Nat) (y : Int) (l : List Bool), l.length = B → 1 ≤ y → y + d = x + 1 → Ev (fun j => spec_KsUpTo.l0 j c m (ksOut (hasRow c x d y l) B) (x + 1)) r → Ev (fun j => spec_KsUpTo.l1 j c m (ksOut l B) x y) r
  | 0, y, l, hl, hy, hd, h => by
    refine Ev_succ ?_
    simp only [spec_KsUpTo.l1]
    rw [w64 (x := x + 1) (by omega) (by omega)]
    exact Ev_false (by omega) h
  | d + 1, y, l, hl, hy, hd, h => by
    refine Ev_succ ?_
    simp only [spec_KsUpTo.l1]
    rw [w64 (x := y + 1) (by omega) (by omega)]
    refine Ev_true (by omega) ?_
    have hk := foKOfPair_ev x y c
    rw [if_pos ⟨⟨hy, by omega, by omega⟩, c0, c1⟩] at hk
    refine Ev.bind hk ?_
    simp only [hasRow] at h
    by_cases hq : (kofR x y c).2 = true
    · have hb := kofR_lt hq
      rw [if_pos hq] at h
      refine Ev_true hq (Ev.bind (l1Put_ev _ _ (ksOut_le hB l)) ?_)
      rw [putL_outB hB hl hb.1 hb.2]
      exact foKs_l1 hB hx d (y + 1) _ (by rw [List.length_set]; exact hl) (by omega) (by omega) h
    · rw [if_neg hq] at h
      exact Ev_false hq (foKs_l1 hB hx d (y + 1) _ hl (by omega) (by omega) h)
theorem foKs_l0 {B : Nat} (hB : B = 1001) {m : Int} (hm : m ≤ 200) : ∀ (d : Nat) (x : Int) (l : List Bool), l.length = B → 1 ≤ x → x + d = m + 1 → Ev (fun j => spec_KsUpTo.l0 j c m (ksOut l B) x) (ksOut (hasAll c d x l) B, true)
  | 0, x, l, hl, hx, hd => by
    refine Ev_succ ?_
    simp only [spec_KsUpTo.l0]
    exact Ev_false (by omega) Ev_some
  | d + 1, x, l, hl, hx, hd => by
    refine Ev_succ ?_
    simp only [spec_KsUpTo.l0, hasAll]
    exact Ev_true (by omega) (foKs_l1 c0 c1 hB (by omega) x.toNat 1 l hl (by omega) (by omega) (foKs_l0 hB hm d (x + 1) _ (by rw [hasRow_len]; exact hl) (by omega) (by omega)))
end
def ksR (c m : Int) : List Int × Bool := if (-1000 ≤ c ∧ c ≤ 1000) ∧ 0 ≤ m ∧ m ≤ 200 then (ksOut (hasAll c m.toNat 1 (List.replicate 1001 false)) 1001, true) else ([], false)
theorem impl_ks (c m : Int) : Ev (fun j => impl_KsUpTo.f j c m) (ksR c m) := by
  unfold impl_KsUpTo.f ksR
  rw [within_eq, within_eq]
  simp only [Option.bind_some]
  by_cases h1 : -1000 ≤ c ∧ c ≤ 1000
  · refine Ev_true (decide_eq_true h1) ?_
    by_cases h2 : 0 ≤ m ∧ m ≤ 200
    · rw [if_pos ⟨h1, h2⟩]
      exact Ev_true (decide_eq_true h2) (Ev.bind (ks_l0 h1.1 h1.2 h2.2 m.toNat 1 _ (by omega) (by omega)) Ev_some)
    · rw [if_neg (fun p => h2 p.2)]
      exact Ev_false (by simpa using h2) Ev_some
  · rw [if_neg (fun p => h1 p.1)]
    exact Ev_false (by simpa using h1) Ev_some
theorem ksOut_none (m n : Nat) : ksOut (List.replicate m false) n = [] := by
  induction n with
  | zero => rfl
  | succ n ih => rw [ksOut_no (rep_getD _ _), ih]
theorem spec_ks (c m : Int) : Ev (fun j => spec_KsUpTo.f j c m) (ksR c m) := by
  unfold spec_KsUpTo.f ksR spec_juTask.f
  rw [juGiven_eq, in_eq]
  simp only [Option.bind_some]
  by_cases h1 : -1000 ≤ c ∧ c ≤ 1000
  · rw [if_pos (decide_eq_true (show KC 1 c from ⟨by omega, h1⟩))]
    simp only [Option.bind_some]
    by_cases h2 : 0 ≤ m ∧ m ≤ 200
    · rw [if_pos ⟨h1, h2⟩]
      have h := foKs_l0 h1.1 h1.2 (B := kB) rfl h2.2 m.toNat 1 (List.replicate kB false) List.length_replicate (by omega) (by omega)
      rw [ksOut_none] at h
      exact Ev_true (decide_eq_true h2) h
    · rw [if_neg (fun p => h2 p.2)]
      exact Ev_false (by simpa using h2) Ev_some
  · rw [if_neg (by simp [KC]; omega), if_neg (fun p => h1 p.1)]
    simp only [Option.bind_some]
    exact Ev_false (by simp) Ev_some
/-- Where c is 1 no k but 3 is marked. -/
theorem three_all : ∀ x < 201, ∀ y < x + 1, 0 < y → (x * x + y * y + 1) % (x * y) = 0 → (x * x + y * y + 1) / (x * y) = 3 := by decide +kernel
theorem kofR_three {x y : Int} (h0 : 1 ≤ y) (h1 : y ≤ x) (h2 : x ≤ 200) (h : (kofR x y 1).2 = true) : (kofR x y 1).1 = 3 := by
  unfold kofR at h ⊢
  split at h
  · rename_i p
    rw [if_pos p]
    show (x * x + y * y + 1).tdiv (x * y) = 3
    obtain ⟨a, rfl⟩ := Int.eq_ofNat_of_zero_le (show 0 ≤ x by omega)
    obtain ⟨b, rfl⟩ := Int.eq_ofNat_of_zero_le (show 0 ≤ y by omega)
    have he := p.2.2.2.2
    have hq := p.1.1.1
    generalize ((a : Int) * a + b * b + 1).tdiv (a * b) = q at he hq
    obtain ⟨n, rfl⟩ := Int.eq_ofNat_of_zero_le (show 0 ≤ q by omega)
    have he' : a * a + b * b + 1 = n * (a * b) := by
      have : ((a * a + b * b + 1 : Nat) : Int) = ((n * (a * b) : Nat) : Int) := by
        push_cast
        rw [he]
        grind
      exact_mod_cast this
    have hab : 0 < a * b := Nat.mul_pos (by omega) (by omega)
    have h3 := three_all a (by omega) b (by omega) (by omega) (by rw [he']; exact Nat.mul_mod_left _ _)
    rw [he', Nat.mul_div_cancel _ hab] at h3
    rw [h3]; rfl
  · cases h
def Only3 (l : List Bool) : Prop := ∀ j, l.getD j false = true → j = 3
theorem Only3.set {l : List Bool} (h : Only3 l) : Only3 (l.set 3 true) := by
  intro j hj
  by_cases he : j = 3
  · exact he
  · refine h j ?_
    rw [← hj]
    simp [List.getD_eq_getElem?_getD, List.getElem?_set_ne (show 3 ≠ j by omega)]
theorem hasRow_three {x : Int} (hx : x ≤ 200) : ∀ (d : Nat) (y : Int) (l : List Bool), Only3 l → 1 ≤ y → y + d = x + 1 → Only3 (hasRow 1 x d y l)
  | 0, _, _, h, _, _ => h
  | d + 1, y, l, h, hy, hd => by
    simp only [hasRow]
    refine hasRow_three hx d (y + 1) _ ?_ (by omega) (by omega)
    split
    · rename_i hq
      rw [kofR_three hy (by omega) hx hq]
      exact h.set
    · exact h
theorem hasAll_three : ∀ (d : Nat) (x : Int) (l : List Bool), Only3 l → 1 ≤ x → x + d ≤ 201 → Only3 (hasAll 1 d x l)
  | 0, _, _, h, _, _ => h
  | d + 1, x, l, h, hx, hd => by
    simp only [hasAll]
    exact hasAll_three d (x + 1) _ (hasRow_three (by omega) x.toNat 1 l h (by omega) (by omega)) (by omega) (by omega)
theorem ksFrom_only {l : List Bool} (h : Only3 l) : ∀ (d i : Nat), ∀ z ∈ ksFrom l d i, z = 3
  | 0, i, z, hz => by simp [ksFrom] at hz
  | d + 1, i, z, hz => by
    simp only [ksFrom] at hz
    split at hz
    · rename_i hi
      rcases List.mem_cons.1 hz with rfl | hz
      · rw [h i hi]; rfl
      · exact ksFrom_only h d (i + 1) z hz
    · exact ksFrom_only h d (i + 1) z hz
theorem out_three {B : Nat} {m : Int} (h1 : m ≤ 200) : ∀ z ∈ ksOut (hasAll 1 m.toNat 1 (List.replicate B false)) B, z = 3 := by
  intro z hz
  have h0 : ∀ n, Only3 (List.replicate n false) := fun n j hj => by rw [rep_getD] at hj; cases hj
  rw [ksOut_from] at hz
  exact ksFrom_only (hasAll_three m.toNat 1 _ (h0 _) (by omega) (by omega)) _ _ z hz
theorem ksR_three (m : Int) : ∀ z ∈ (ksR 1 m).1, z = 3 := by
  unfold ksR
  split
  · rename_i p
    dsimp only
    exact out_three (B := 1001) p.2.2
  · simp
theorem ksR_len (c m : Int) : (ksR c m).1.length ≤ 1001 := by
  unfold ksR
  split
  · dsimp only
    generalize hasAll c m.toNat 1 (List.replicate 1001 false) = l
    exact ksOut_len l 1001
  · simp
end Go.Proofs.Ytfdbjiddhgfcnaa.Q
