/- All pairs up to a bound come down to least pairs that are told, and the factors for one more are those that the theorem allows. -/
import Derived.Test.YtfdbjiddhgfcnaaPx1
import Derived.Test.YtfdbjiddhgfcnaaPx3
import Derived.Test.YtfdbjiddhgfcnaaPx5
import Derived.Test.YtfdbjiddhgfcnaaPx6
import Derived.Test.YtfdbjiddhgfcnaaPx7
import Derived.Test.YtfdbjiddhgfcnaaQRunP
import Derived.Test.YtfdbjiddhgfcnaaQDrawPair
import Derived.Test.YtfdbjiddhgfcnaaQBig
import Derived.Test.YtfdbjiddhgfcnaaQRd
import Derived.Test.YtfdbjiddhgfcnaaQKs
import Derived.Test.YtfdbjiddhgfcnaaQUpTo
namespace Go.Proofs.Ytfdbjiddhgfcnaa.Pure
open Go.RowKit Go.Proofs.Ytfdbjiddhgfcnaa.P Go.Proofs.YtfdbjiddhgfcnaaW.PrintWords Go.Proofs.YtfdbjiddhgfcnaaW.PrintLast Go.Proofs.Ytfdbjiddhgfcnaa.Q

theorem vPair_eq (x y k c : Int) : laws_vPair.f x y k c = some (decide (KC k c ∧ Pr k c x y)) := by
  unfold laws_vPair.f impl_IsJump.f
  rw [constants_eq]
  simp only [Option.bind_some]
  by_cases hk : KC k c
  · rw [if_pos (decide_eq_true hk), isJump_eq hk]
    by_cases h : Pr k c x y <;> simp [h, hk]
  · rw [if_neg (by simpa using hk)]
    simp [hk]
def big0 (x y : Int) : Nat := (x + y).toNat + 1
def leastR (x y k c : Int) : Int × Int × Bool := if KC k c ∧ Pr k c x y then ((leastP k (big0 x y) x y).1, (leastP k (big0 x y) x y).2, true) else (0, 0, false)
theorem big0_lt {k c x y : Int} (h : Pr k c x y) : x + y < big0 x y := by
  have := h.1
  have := h.2.1
  unfold big0
  omega
theorem impl_least (x y k c : Int) : Ev (fun j => impl_LeastPair.f j x y k c) (leastR x y k c) := by
  unfold impl_LeastPair.f leastR
  rw [isJumper_eq]
  simp only [Option.bind_some]
  by_cases h : KC k c ∧ Pr k c x y
  · rw [if_pos h]
    exact Ev_true (decide_eq_true h) (least_ev h.1 _ _ _ h.2 (big0_lt h.2))
  · rw [if_neg h]
    exact Ev_false (by simpa using h) Ev_some
theorem leastP_le {k c : Int} : ∀ (n : Nat) (x y : Int), Pr k c x y → (leastP k n x y).1 ≤ x
  | 0, x, y, h => Int.le_refl _
  | n + 1, x, y, h => by
    simp only [leastP]
    by_cases hd : 0 ≤ k * y - x ∧ k * y - x < x
    · rw [if_pos hd]
      have := leastP_le n _ _ (h.down hd).1
      have := h.2.1
      omega
    · rw [if_neg hd]
      exact Int.le_refl _
theorem looked_ev {l : List Int} (hl : Bytes l) : ∃ a b c t s, spec_l1Cur_looked.f l 0 0 = some (a, b, c, t, s) := by
  unfold spec_l1Cur_looked.f
  obtain ⟨v, t1, s1, e1, v0, v1, ht, ht'⟩ := pick_eq hl 0 0 8 (by omega) (by omega) (by omega)
  rw [e1]
  simp only [Option.bind_some]
  obtain ⟨u, t2, s2, e2, u0, u1, ht2, ht2'⟩ := pick_eq hl t1 s1 41 (by omega) (by omega) (by omega)
  rw [e2]
  simp only [Option.bind_some]
  obtain ⟨x, t3, s3, e3, x0, x1, ht3, ht3'⟩ := pick_eq hl t2 s2 60 (by omega) (by omega) (by omega)
  rw [e3]
  simp only [Option.bind_some]
  obtain ⟨y, t4, s4, e4, y0, y1, ht4, ht4'⟩ := pick_eq hl t3 s3 14 (by omega) (by omega) (by omega)
  rw [e4]
  simp only [Option.bind_some]
  have am := fun m (hm : 1 ≤ m.length) (hm2 : m.length ≤ 1000000000) => among_eq hl t4 s4 m (by omega) (by omega) hm hm2
  split
  · obtain ⟨z, t5, s5, e5, _⟩ := am [(-1), 0, 1000, 1001] (by simp) (by simp)
    rw [e5]
    exact ⟨_, _, _, _, _, rfl⟩
  split
  · obtain ⟨z, t5, s5, e5, _⟩ := am [(-1001), (-1000), 1000, 1001] (by simp) (by simp)
    rw [e5]
    exact ⟨_, _, _, _, _, rfl⟩
  split
  · obtain ⟨z, t5, s5, e5, _⟩ := am [(-1), 0, 200, 201] (by simp) (by simp)
    rw [e5]
    exact ⟨_, _, _, _, _, rfl⟩
  split
  · obtain ⟨z, t5, s5, e5, _⟩ := am [0, 1, 4, 9] (by simp) (by simp)
    rw [e5]
    exact ⟨_, _, _, _, _, rfl⟩
  · exact ⟨_, _, _, _, _, rfl⟩
theorem rd20 (x y : Int) : rd [x, y] 0 = x := rfl
theorem rd21 (x y : Int) : rd [x, y] 1 = y := rfl
theorem len2 (x y : Int) : (([x, y] : List Int).length : Int) = 2 := rfl
/-- A row that is there is found. -/
theorem vHas_l0 {r : List Int} {L : List (List Int)} (hr : r.length ≤ 1000) (hn : L.length ≤ 1000000) : ∀ (d i : Nat), i + d = L.length → r ∈ L.drop i → Ev (fun j => laws_vHas.l0 j r L (L.length : Int) (i : Int)) true := by
  intro d
  induction d with
  | zero =>
    intro i hi hm
    rw [List.drop_of_length_le (by omega)] at hm
    cases hm
  | succ d ih =>
    intro i hi hm
    have h1 : i < L.length := by omega
    refine Ev_succ ?_
    simp only [laws_vHas.l0]
    rw [rdvRow h1, w64 (x := (i : Int) + 1) (by omega) (by omega)]
    refine Ev_true (by omega) (Ev_true (by omega) (Ev_true (by omega) ?_))
    refine Ev.bind (a := decide (r = L[i])) (vSame_ev (by omega)) ?_
    by_cases e : r = L[i]
    · exact Ev_true (decide_eq_true e) Ev_some
    · refine Ev_false (by simpa using e) (ih (i + 1) (by omega) ?_)
      rw [List.drop_eq_getElem_cons h1] at hm
      rcases List.mem_cons.1 hm with h | h
      · exact absurd h e
      · exact h
theorem vHas_ev {r : List Int} {L : List (List Int)} (hr : r.length ≤ 1000) (hn : L.length ≤ 1000000) (hm : r ∈ L) : Ev (fun j => laws_vHas.f j L r) true := by
  unfold laws_vHas.f
  exact vHas_l0 hr hn L.length 0 (by omega) (by simpa using hm)
theorem vBefore_ev {p q : Int × Int} (h : lexLt p q) : Ev (fun j => laws_vBefore.f j [p.1, p.2] [q.1, q.2]) true := by
  unfold laws_vBefore.f
  refine Ev_succ ?_
  simp only [laws_vBefore.l0, List.length_cons, List.length_nil]
  refine Ev_true (by omega) ?_
  rw [decide_eq_true (show (0 : Int) < ((0 + 1 + 1 : Nat) : Int) by omega)]
  refine Ev_succ ?_
  simp only [laws_vBefore.j1, List.length_cons, List.length_nil]
  rw [rd20, rd20]
  refine Ev_true trivial (Ev_true (by omega) (Ev_true (by omega) (Ev_true (by omega) ?_)))
  rcases h with h | ⟨h, h'⟩
  · refine Ev_false (by omega) ?_
    rw [decide_eq_true h]
    exact Ev_some
  · refine Ev_true h ?_
    rw [w64 (x := (0 : Int) + 1) (by omega) (by omega), show (0 : Int) + 1 = 1 from rfl]
    refine Ev_succ ?_
    simp only [laws_vBefore.l0, List.length_cons, List.length_nil]
    refine Ev_true (by omega) ?_
    rw [decide_eq_true (show (1 : Int) < ((0 + 1 + 1 : Nat) : Int) by omega)]
    refine Ev_succ ?_
    simp only [laws_vBefore.j1, List.length_cons, List.length_nil]
    rw [rd21, rd21]
    refine Ev_true trivial (Ev_true (by omega) (Ev_true (by omega) (Ev_true (by omega) (Ev_false (by omega) ?_))))
    rw [decide_eq_true h']
    exact Ev_some
theorem rows2_get {L : List (Int × Int)} {i : Nat} (h : i < L.length) : (rows2 L)[i]? = some [L[i].1, L[i].2] := by
  simp [rows2, h]
section Up
variable {k c m : Int} (hk : KC k c) (hm : 0 ≤ m ∧ m ≤ 200) (hlen : (allP false k c (m.toNat + 1) 0).length ≤ 1000) (hlen2 : (allP true k c (m.toNat + 1) 0).length ≤ 1000)
include hk hm hlen hlen2
theorem up_l1 : ∀ (d i : Nat), i + d = (allP false k c (m.toNat + 1) 0).length → Ev (fun j => laws_FnClassesOfPairs.l1 j k c m (rows2 (allP false k c (m.toNat + 1) 0)) (rows2 (allP true k c (m.toNat + 1) 0)) (rows2 (allP false k c (m.toNat + 1) 0)) ((rows2 (allP false k c (m.toNat + 1) 0)).length : Int) (i : Int)) true := by
  have hmem := fun p => allP_mem (b := false) (k := k) (c := c) (m.toNat + 1) 0 p (by omega)
  have hmem2 := fun p => allP_mem (b := true) (k := k) (c := c) (m.toNat + 1) 0 p (by omega)
  have hs := allP_sorted false k c (m.toNat + 1) 0 (by omega)
  generalize allP false k c (m.toNat + 1) 0 = L at hmem hs hlen ⊢
  generalize allP true k c (m.toNat + 1) 0 = M at hmem2 hlen2 ⊢
  intro d
  induction d with
  | zero =>
    intro i hi
    refine Ev_succ ?_
    simp only [laws_FnClassesOfPairs.l1]
    exact Ev_false (by rw [rows2_length]; omega) Ev_some
  | succ d ih =>
    intro i hi
    have h1 : i < L.length := by omega
    obtain ⟨e1, e2⟩ := rdRow (rows2_get h1)
    have hp := (hmem L[i]).1 (List.getElem_mem h1)
    have hP := hp.2.2.1
    have ih := ih (i + 1) (by omega)
    have hL : leastR L[i].1 L[i].2 k c = ((leastP k (big0 L[i].1 L[i].2) L[i].1 L[i].2).1, (leastP k (big0 L[i].1 L[i].2) L[i].1 L[i].2).2, true) := by unfold leastR; rw [if_pos ⟨hk, hP⟩]
    obtain ⟨g1, g2⟩ := leastP_pr (big0 L[i].1 L[i].2) L[i].1 L[i].2 hP (big0_lt hP)
    have g3 := leastP_le (big0 L[i].1 L[i].2) L[i].1 L[i].2 hP
    refine Ev_succ ?_
    simp only [laws_FnClassesOfPairs.l1]
    rw [e1, rd20, rd21, vPair_eq, w64 (x := (i : Int) + 1) (by omega) (by omega)]
    refine Ev_true (by omega) (Ev_true (by omega) (Ev_true (by omega) (Ev_true (by rw [len2]; omega) (Ev_true (by rw [len2]; omega) (Ev.bind (impl_least _ _ _ _) ?_)))))
    rw [hL]
    generalize leastP k (big0 L[i].1 L[i].2) L[i].1 L[i].2 = R at g1 g2 g3 ⊢
    refine Ev_true rfl (Ev.bind (a := true) (vHas_ev (by simp) (by rw [rows2_length]; omega) ?_) (Ev_true rfl ?_))
    · have h2 := (hmem2 (R.1, R.2)).2 ⟨by show 0 ≤ R.1; have := g1.1; have := g1.2.1; omega, by show R.1 < 0 + ((m.toNat + 1 : Nat) : Int); omega, g1, fun _ => g2⟩
      exact List.mem_map.2 ⟨(R.1, R.2), h2, rfl⟩
    simp only [Option.bind_some]
    refine Ev_true (decide_eq_true ⟨hk, hP⟩) (Ev_false (by omega) ?_)
    cases i with
    | zero => exact Ev_false (by omega) ih
    | succ i =>
      obtain ⟨f1, f2⟩ := rdRow (rows2_get (show i < L.length by omega))
      rw [show wrap64 (((i + 1 : Nat) : Int) - 1) = ((i : Nat) : Int) from (w64 (by omega) (by omega)).trans (by omega), f1]
      refine Ev_true (by omega) (Ev_true (by omega) (Ev_true (by omega) ?_))
      exact Ev.bind (a := true) (vBefore_ev (List.pairwise_iff_getElem.1 hs i (i + 1) (by omega) h1 (by omega))) (Ev_true rfl ih)
end Up
theorem pairsR_small (b : Bool) (k c m : Int) : (pairsR b k c m).1.length ≤ 1000 ∧ ∀ z ∈ (pairsR b k c m).1, z.length ≤ 2 := by
  unfold pairsR cutR
  split
  · split
    · simp
    · refine ⟨by rw [rows2_length]; omega, fun z hz => ?_⟩
      obtain ⟨p, _, rfl⟩ := List.mem_map.1 hz
      simp
  · simp
theorem law_j5 (k c m : Int) : Ev (fun j => laws_FnClassesOfPairs.j5 j k c m (pairsR false k c m).1 (pairsR false k c m).2 (pairsR true k c m).1 false) true := by
  refine Ev_succ ?_
  simp only [laws_FnClassesOfPairs.j5]
  refine Ev_false (by simp) ?_
  by_cases h : KC k c ∧ 0 ≤ m ∧ m ≤ 200
  · by_cases h2 : (allP false k c (m.toNat + 1) 0).length > 1000
    · have e : pairsR false k c m = ([], false) := by unfold pairsR cutR; rw [if_pos h, if_pos h2]
      rw [e]
      exact Ev_false (by simp) Ev_some
    · have h3 := allP_le k c (m.toNat + 1) 0
      have e : pairsR false k c m = (rows2 (allP false k c (m.toNat + 1) 0), true) := by unfold pairsR cutR; rw [if_pos h, if_neg h2]
      have e' : pairsR true k c m = (rows2 (allP true k c (m.toNat + 1) 0), true) := by unfold pairsR cutR; rw [if_pos h, if_neg (by omega)]
      rw [e, e']
      exact Ev_true rfl (up_l1 h.1 h.2 (by omega) (by omega) (allP false k c (m.toNat + 1) 0).length 0 (Nat.zero_add _))
  · have e : pairsR false k c m = ([], false) := by unfold pairsR; rw [if_neg h]
    rw [e]
    exact Ev_false (by simp) Ev_some
theorem law_j4 {l : List Int} (hl : Bytes l) (k c m : Int) : Ev (fun j => laws_FnClassesOfPairs.j4 j l k c m (pairsR false k c m).1 (pairsR false k c m).2 (pairsR true k c m).1) true := by
  refine Ev_succ ?_
  simp only [laws_FnClassesOfPairs.j4]
  obtain ⟨x, y, q, e, t, s, hd, _, _⟩ := drawJump_at hl
  have hdr : Ev (fun j => spec_DrawKOfPair.f j l) (x, y, e) := by
    unfold spec_DrawKOfPair.f
    exact Ev.bind (f := fun _ (t : Int × Int × Int × Int × Int × Int) => some (t.1, t.2.1, t.2.2.2.1)) hd Ev_some
  refine Ev.bind hdr ?_
  simp only
  rw [KOfPair_eq]
  simp only [Option.bind_some]
  refine Ev.bind (foKOfPair_ev x y e) ?_
  have hj := law_j5 k c m
  by_cases h : (1 ≤ y ∧ y ≤ x ∧ x ≤ 1000000) ∧ -1000 ≤ e ∧ e ≤ 1000
  · rw [if_pos h]
    unfold kofR
    by_cases h2 : KC ((x * x + y * y + e).tdiv (x * y)) e ∧ Pr ((x * x + y * y + e).tdiv (x * y)) e x y
    · rw [if_pos h2, vPair_eq, decide_eq_true h2]
      exact Ev_false (by simp) (Ev_true rfl (Ev_true rfl hj))
    · rw [if_neg h2]
      exact Ev_false (by simp) (Ev_true rfl (Ev_false (by simp) hj))
  · rw [if_neg h]
    exact Ev_false (by simp) (Ev_true rfl (Ev_false (by simp) hj))
theorem law_l0 {l : List Int} (hl : Bytes l) (k c m : Int) {L : List Int} (hL : ∀ z ∈ L, z = 3) (hn : L.length ≤ 1001) : ∀ (d i : Nat), i + d = L.length → Ev (fun j => laws_FnClassesOfPairs.l0 j l k c m (pairsR false k c m).1 (pairsR false k c m).2 (pairsR true k c m).1 L (L.length : Int) (i : Int)) true := by
  intro d
  induction d with
  | zero =>
    intro i hi
    refine Ev_succ ?_
    simp only [laws_FnClassesOfPairs.l0]
    exact Ev_false (by omega) (law_j4 hl k c m)
  | succ d ih =>
    intro i hi
    have h1 : i < L.length := by omega
    refine Ev_succ ?_
    simp only [laws_FnClassesOfPairs.l0]
    rw [rdv h1, hL _ (List.getElem_mem h1), w64 (x := (i : Int) + 1) (by omega) (by omega)]
    exact Ev_true (by omega) (Ev_true (by omega) (Ev_true (by omega) (Ev_true rfl (ih (i + 1) (by omega)))))
theorem law_j0 {l : List Int} (hl : Bytes l) (k c m : Int) : Ev (fun j => laws_FnClassesOfPairs.j0 j l k c m (pairsR false k c m).1 (pairsR false k c m).2 (pairsR true k c m).1 false) true := by
  refine Ev_succ ?_
  simp only [laws_FnClassesOfPairs.j0]
  obtain ⟨a, b, e, t, s, hd⟩ := looked_ev hl
  unfold spec_DrawKsUpTo.f
  rw [hd]
  simp only [Option.bind_some]
  refine Ev_false (by simp) (Ev.bind (impl_ks b e) (Ev.bind (spec_ks b e) (Ev_false (by simp) (Ev.bind (vSame_same (by have := ksR_len b e; omega)) ?_))))
  have h3 := ksR_three e
  have hn := ksR_len b e
  have h1 : ∀ L : List Int, (b = 1 → ∀ z ∈ L, z = 3) → L.length ≤ 1001 → Ev (fun j => laws_FnClassesOfPairs.j2 j l k c m (pairsR false k c m).1 (pairsR false k c m).2 (pairsR true k c m).1 L (b == 1)) true := by
    intro L hL hn
    refine Ev_succ ?_
    simp only [laws_FnClassesOfPairs.j2]
    by_cases hb : b = 1
    · exact Ev_true (by simpa using hb) (law_l0 hl k c m (hL hb) hn L.length 0 (by omega))
    · exact Ev_false (by simpa using hb) (law_j4 hl k c m)
  have h2 : ∀ L : List Int, Ev (fun j => laws_FnClassesOfPairs.j2 j l k c m (pairsR false k c m).1 (pairsR false k c m).2 (pairsR true k c m).1 L false) true := by
    intro L
    refine Ev_succ ?_
    simp only [laws_FnClassesOfPairs.j2]
    exact Ev_false (by simp) (law_j4 hl k c m)
  refine Ev_succ ?_
  simp only [laws_FnClassesOfPairs.j1]
  refine Ev_false (by simp) ?_
  have h3' : b = 1 → ∀ z ∈ (ksR b e).1, z = 3 := by rintro rfl; exact h3
  generalize ksR b e = R at hn h3' ⊢
  by_cases hr : R.2 = true
  · exact Ev_true hr (h1 R.1 h3' hn)
  · exact Ev_false hr (h2 R.1)
theorem FnClassesOfPairs : laws_FnClassesOfPairs.Pure := by
  intro l m hl1 hl2 hl3 hm1 hm2 hm3
  have hl := Bytes.of hl2 hl3
  have hm := Bytes.of hm2 hm3
  refine Ev_out (g := fun k => laws_FnClassesOfPairs.f k l m) ?_
  unfold laws_FnClassesOfPairs.f
  obtain ⟨b, hb⟩ := big_eq l m
  rw [hb]
  simp only [Option.bind_some]
  by_cases h : b = true
  · exact Ev_true h Ev_some
  refine Ev_false h ?_
  obtain ⟨k, c, n, t, s, hd⟩ := looked_ev hl
  unfold spec_DrawPairsUpTo.f
  rw [hd]
  simp only [Option.bind_some]
  have hj := law_j0 hm k c n
  have s1 := pairsR_small false k c n
  have s2 := pairsR_small true k c n
  have h12 : (pairsR false k c n).2 = true → (pairsR true k c n).2 = true := by
    unfold pairsR cutR
    split
    · split
      · intro h; cases h
      · have := allP_le k c (n.toNat + 1) 0
        intro _
        rw [if_neg (by omega)]
    · intro h; cases h
  refine Ev.bind (impl_pairs k c n) (Ev.bind (spec_pairs k c n) (Ev.bind (impl_classes k c n) (Ev.bind (spec_classes k c n) (Ev_false (by simp) ?_))))
  refine Ev.bind (vSameLists_same (by omega) (fun z hz => by have := s1.2 z hz; omega)) (Ev_true rfl (Ev_false (by simp) ?_))
  refine Ev.bind (vSameLists_same (by omega) (fun z hz => by have := s2.2 z hz; omega)) (Ev_true rfl ?_)
  by_cases hp : (pairsR false k c n).2 = true
  · rw [h12 hp]
    exact Ev_true hp hj
  · exact Ev_false hp hj
end Go.Proofs.Ytfdbjiddhgfcnaa.Pure
