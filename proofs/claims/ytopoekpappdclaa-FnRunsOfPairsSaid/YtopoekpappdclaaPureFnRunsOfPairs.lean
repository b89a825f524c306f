/- Each pair comes down to one least pair by falling sums, and goes up by rising ones. -/
import Derived.Test.YtopoekpappdclaaPx1
import Derived.Test.YtopoekpappdclaaPx3
import Derived.Test.YtopoekpappdclaaPx5
import Derived.Test.YtopoekpappdclaaQRunP
import Derived.Test.YtopoekpappdclaaQDrawPair
import Derived.Test.YtopoekpappdclaaQBig
import Derived.Test.YtopoekpappdclaaQRd
namespace Go.Proofs.Ytopoekpappdclaa.Pure
open Go.RowKit Go.Proofs.Ytopoekpappdclaa.P Go.Proofs.YtopoekpappdclaaW.PrintWords Go.Proofs.YtopoekpappdclaaW.PrintLast Go.Proofs.Ytopoekpappdclaa.Q

theorem vPair_eq (x y k c : Int) : laws_vPair.f x y k c = some (decide (KC k c ∧ Pr k c x y)) := by
  unfold laws_vPair.f impl_IsJump.f
  rw [constants_eq]
  simp only [Option.bind_some]
  by_cases hk : KC k c
  · rw [if_pos (decide_eq_true hk), isJump_eq hk]
    by_cases h : Pr k c x y <;> simp [h, hk]
  · rw [if_neg (by simpa using hk)]
    simp [hk]
def big0 (x y : Int) : Nat := (x + y).toNat + 1
def descR (x y k c : Int) : List (List Int) × Bool := if KC k c ∧ Pr k c x y then (if (runP k (big0 x y) x y).length ≤ 1000 then (runP k (big0 x y) x y, true) else ([], false)) else ([], false)
def leastR (x y k c : Int) : Int × Int × Bool := if KC k c ∧ Pr k c x y then ((leastP k (big0 x y) x y).1, (leastP k (big0 x y) x y).2, true) else (0, 0, false)
theorem big0_lt {k c x y : Int} (h : Pr k c x y) : x + y < big0 x y := by
  have := h.1
  have := h.2.1
  unfold big0
  omega
theorem impl_desc (x y k c : Int) : Ev (fun j => impl_DescendPair.f j x y k c) (descR x y k c) := by
  unfold impl_DescendPair.f descR
  rw [isJumper_eq]
  simp only [Option.bind_some]
  by_cases h : KC k c ∧ Pr k c x y
  · rw [if_pos h]
    refine Ev_true (decide_eq_true h) ?_
    have := descend_run h.1 (big0 x y) x y [] h.2 (big0_lt h.2) (by simp)
    refine Ev.bind (f := fun _ (t : List (List Int) × Bool) => some (t.1, t.2)) this ?_
    rw [List.length_nil, Nat.zero_add, List.nil_append]
    exact Ev_some
  · rw [if_neg h]
    exact Ev_false (by simpa using h) Ev_some
theorem spec_desc (x y k c : Int) : Ev (fun j => spec_DescendPair.f j x y k c) (descR x y k c) := by
  unfold spec_DescendPair.f descR
  rw [juGiven_eq]
  simp only [Option.bind_some]
  by_cases hk : KC k c
  · refine Ev_true (decide_eq_true hk) ?_
    rw [juGood_eq hk]
    simp only [Option.bind_some]
    by_cases h : Pr k c x y
    · rw [if_pos ⟨hk, h⟩]
      refine Ev_true (decide_eq_true h) ?_
      have := juRun_run hk (big0 x y) x y [] h (big0_lt h) (by simp)
      refine Ev.bind (f := fun _ (t : List (List Int)) => some (t, decide ((t.length : Int) > 0))) this ?_
      rw [List.length_nil, Nat.zero_add, List.nil_append]
      have hp := runP_pos h (big0_lt h)
      by_cases hl : (runP k (big0 x y) x y).length ≤ 1000
      · rw [if_pos hl, if_pos hl, show decide (((runP k (big0 x y) x y).length : Int) > 0) = true from decide_eq_true (by omega)]
        exact Ev_some
      · rw [if_neg hl, if_neg hl]
        exact Ev_some
    · rw [if_neg (fun q => h q.2)]
      exact Ev_false (by simpa using h) Ev_some
  · rw [if_neg (fun q => hk q.1)]
    exact Ev_false (by simpa using hk) Ev_some
theorem impl_least (x y k c : Int) : Ev (fun j => impl_LeastPair.f j x y k c) (leastR x y k c) := by
  unfold impl_LeastPair.f leastR
  rw [isJumper_eq]
  simp only [Option.bind_some]
  by_cases h : KC k c ∧ Pr k c x y
  · rw [if_pos h]
    exact Ev_true (decide_eq_true h) (least_ev h.1 _ _ _ h.2 (big0_lt h.2))
  · rw [if_neg h]
    exact Ev_false (by simpa using h) Ev_some
theorem spec_least (x y k c : Int) : Ev (fun j => spec_LeastPair.f j x y k c) (leastR x y k c) := by
  have hno : Ev (fun j => spec_LeastPair.j0 j x y k true) (0, 0, false) := by
    refine Ev_succ ?_
    simp only [spec_LeastPair.j0]
    exact Ev_true trivial Ev_some
  unfold spec_LeastPair.f leastR
  rw [juGiven_eq]
  simp only [Option.bind_some]
  by_cases hk : KC k c
  · refine Ev_true (decide_eq_true hk) ?_
    rw [juGood_eq hk]
    simp only [Option.bind_some]
    by_cases h : Pr k c x y
    · rw [if_pos ⟨hk, h⟩, decide_eq_true h]
      refine Ev_succ ?_
      simp only [spec_LeastPair.j0]
      exact Ev_false (by simp) (foLeast_ev hk _ _ _ h (big0_lt h))
    · rw [if_neg (fun q => h q.2), decide_eq_false h]
      exact hno
  · rw [if_neg (fun q => hk q.1)]
    exact Ev_false (by simpa using hk) hno
def ascR (x y k c m : Int) : List (List Int) × Bool := if KC k c ∧ Pr k c x y ∧ 0 ≤ m ∧ m ≤ 40 then upAns [[x, y]] (upL k m.toNat x y) else ([], false)
theorem impl_asc (x y k c m : Int) : Ev (fun j => impl_AscendPair.f j x y k c m) (ascR x y k c m) := by
  have hno : Ev (fun j => impl_AscendPair.j0 j x y k m true) ([], false) := by
    refine Ev_succ ?_
    simp only [impl_AscendPair.j0]
    exact Ev_true trivial Ev_some
  unfold impl_AscendPair.f ascR
  rw [isJumper_eq, within_eq]
  simp only [Option.bind_some]
  by_cases h : KC k c ∧ Pr k c x y
  · refine Ev_true (decide_eq_true h) ?_
    by_cases hm : 0 ≤ m ∧ m ≤ 40
    · rw [if_pos ⟨h.1, h.2, hm⟩, decide_eq_true hm]
      obtain ⟨n, rfl⟩ := Int.eq_ofNat_of_zero_le hm.1
      refine Ev_succ ?_
      simp only [impl_AscendPair.j0]
      exact Ev_false (by simp) (ascend_ev h.1 n x y [[x, y]] n 0 h.2 (by omega) (by omega) (by simp))
    · rw [if_neg (fun q => hm q.2.2), decide_eq_false hm]
      exact hno
  · rw [if_neg (fun q => h ⟨q.1, q.2.1⟩)]
    exact Ev_false (by simpa using h) hno
theorem spec_asc (x y k c m : Int) : Ev (fun j => spec_AscendPair.f j x y k c m) (ascR x y k c m) := by
  have hno : Ev (fun j => spec_AscendPair.j0 j x y k m true) ([], false) := by
    refine Ev_succ ?_
    simp only [spec_AscendPair.j0]
    exact Ev_true trivial Ev_some
  unfold spec_AscendPair.f ascR
  rw [juGiven_eq]
  simp only [Option.bind_some]
  by_cases hk : KC k c
  · refine Ev_true (decide_eq_true hk) ?_
    rw [juGood_eq hk]
    simp only [Option.bind_some]
    by_cases h : Pr k c x y
    · refine Ev_true (decide_eq_true h) ?_
      rw [in_eq]
      simp only [Option.bind_some]
      by_cases hm : 0 ≤ m ∧ m ≤ 40
      · rw [if_pos ⟨hk, h, hm⟩, decide_eq_true hm]
        obtain ⟨n, rfl⟩ := Int.eq_ofNat_of_zero_le hm.1
        refine Ev_succ ?_
        simp only [spec_AscendPair.j0]
        exact Ev_false (by simp) (foAscend_ev hk n x y [[x, y]] h (by simp; omega))
      · rw [if_neg (fun q => hm q.2.2), decide_eq_false hm]
        exact hno
    · rw [if_neg (fun q => h q.2.1)]
      exact Ev_false (by simpa using h) hno
  · rw [if_neg (fun q => hk q.1)]
    exact Ev_false (by simpa using hk) hno
theorem rd20 (x y : Int) : rd [x, y] 0 = x := rfl
theorem rd21 (x y : Int) : rd [x, y] 1 = y := rfl
theorem len2 (x y : Int) : (([x, y] : List Int).length : Int) = 2 := rfl
/-- The way up, pair by pair. -/
theorem up_l1 {k c : Int} (hk : KC k c) {n : Nat} (hn : n ≤ 40) {x y : Int} {L : List (List Int)} (h : Pr k c x y) (e : upL k n x y = some L) : ∀ (d i : Nat), i + d = n → Ev (fun j => laws_FnRunsOfPairs.l1 j k c (n : Int) ([x, y] :: L) ((i + 1 : Nat) : Int)) true := by
  obtain ⟨g1, g2, g3⟩ := upL_at n x y L h e
  intro d
  induction d with
  | zero =>
    intro i hi
    refine Ev_succ ?_
    simp only [laws_FnRunsOfPairs.l1]
    refine Ev_false (by simp only [List.length_cons]; omega) ?_
    rw [show ((([x, y] :: L).length : Nat) : Int) = (n : Int) + 1 by simp [g1], w64 (by omega) (by omega), beq_self_eq_true]
    exact Ev_some
  | succ d ih =>
    intro i hi
    obtain ⟨p, q, u, v, k1, k2, k3, k4⟩ := g3 i (by omega)
    have k2 : ([x, y] :: L)[i + 1]? = some [u, v] := by simpa using k2
    obtain ⟨e1, e2⟩ := rdRow k1
    obtain ⟨f1, f2⟩ := rdRow k2
    have ih := ih (i + 1) (by omega)
    refine Ev_succ ?_
    simp only [laws_FnRunsOfPairs.l1]
    rw [show wrap64 (((i + 1 : Nat) : Int) - 1) = ((i : Nat) : Int) from (w64 (by omega) (by omega)).trans (by omega), e1, f1, rd20, rd21, JumpUp_eq, show UpR p q k c = (u, v, true) from by unfold UpR; rw [if_pos ⟨hk, k3⟩, k4],
      show wrap64 (((i + 1 : Nat) : Int) + 1) = ((i + 1 + 1 : Nat) : Int) from (w64 (by omega) (by omega)).trans (by omega)]
    simp only [Option.bind_some]
    refine Ev_true (by omega) (Ev_true (by omega) (Ev_true (by omega) (Ev_true (by rw [len2]; omega) (Ev_true (by rw [len2]; omega) (Ev_true trivial (Ev_true (by omega) ?_))))))
    exact Ev.bind (a := true) (vSame_same (l := [u, v]) (by simp)) (Ev_true rfl ih)
theorem one_eq {l : List Int} (hl : Bytes l) (t s n : Int) (h0 : 0 ≤ t) (h1 : t ≤ 100000000000000) (hn : n ≤ 1000000000000) : ∃ v t' s', spec_l1Cur_one.f l t s n = some (v, t', s') ∧ t ≤ t' ∧ t' ≤ t + 2 := by
  unfold spec_l1Cur_one.f
  obtain ⟨v, t1, s1, e1, v0, v1, ht, ht'⟩ := pick_eq hl t s n h0 h1 hn
  rw [e1]
  exact ⟨_, _, _, rfl, ht, ht'⟩
theorem law_j4 {l : List Int} (hl : Bytes l) : Ev (fun j => laws_FnRunsOfPairs.j4 j l) true := by
  refine Ev_succ ?_
  simp only [laws_FnRunsOfPairs.j4]
  obtain ⟨⟨x, y, k, c, m⟩, hd⟩ : EvS (fun j => spec_DrawAscendPair.f j l) := by
    unfold spec_DrawAscendPair.f
    obtain ⟨a, b, d, e, t, s, g1, g2, g3⟩ := drawJump_at hl
    refine EvS_bind (EvS_of g1) (fun r hr => ?_)
    obtain rfl := Ev_uniq hr g1
    obtain ⟨v, t2, s2, e2, _, _, ht2, ht2'⟩ := pick_eq hl t s 5 g2 (by omega) (by omega)
    simp only
    rw [e2]
    simp only [Option.bind_some]
    obtain ⟨w, t3, s3, e3, ht3, ht3'⟩ := one_eq hl t2 s2 10 (by omega) (by omega) (by omega)
    rw [e3]
    simp only [Option.bind_some]
    refine EvS_ite (fun _ => ?_) (fun _ => EvS_some)
    obtain ⟨u, t4, s4, e4, _⟩ := among_eq hl t3 s3 ([(-1), 0, 40, 41] : List Int) (by omega) (by omega) (by simp) (by simp)
    rw [e4]
    exact EvS_some
  refine Ev.bind hd (Ev.bind (impl_asc _ _ _ _ _) (Ev.bind (spec_asc _ _ _ _ _) (Ev_false (by simp) ?_)))
  simp only
  unfold ascR
  have hno : Ev (fun j => laws_FnRunsOfPairs.j5 j k c m [] false false) true := by
    refine Ev_succ ?_
    simp only [laws_FnRunsOfPairs.j5]
    exact Ev_false (by simp) (Ev_false (by simp) Ev_some)
  by_cases h : KC k c ∧ Pr k c x y ∧ 0 ≤ m ∧ m ≤ 40
  · rw [if_pos h]
    obtain ⟨n, rfl⟩ := Int.eq_ofNat_of_zero_le h.2.2.1
    rw [Int.toNat_natCast]
    cases e : upL k n x y with
    | none => exact Ev.bind (vSameLists_same (L := []) (by simp) (by simp)) hno
    | some L =>
      obtain ⟨g1, g2, _⟩ := upL_at n x y L h.2.1 e
      refine Ev.bind (vSameLists_same (L := [x, y] :: L) (by simp; omega) (fun z hz => ?_)) (Ev_succ ?_)
      · rcases List.mem_cons.1 hz with rfl | hz
        · simp
        · have := g2 z hz; omega
      · simp only [laws_FnRunsOfPairs.j5]
        exact Ev_false (by simp) (Ev_true rfl (up_l1 h.1 (by omega) h.2.1 e n 0 (by omega)))
  · rw [if_neg h]
    exact Ev.bind (vSameLists_same (L := []) (by simp) (by simp)) hno
theorem law_j3 {l : List Int} (hl : Bytes l) (x y k c : Int) : Ev (fun j => laws_FnRunsOfPairs.j3 j l k c (leastR x y k c).1 (leastR x y k c).2.1 (leastR x y k c).2.2) true := by
  refine Ev_succ ?_
  simp only [laws_FnRunsOfPairs.j3]
  by_cases h : KC k c ∧ Pr k c x y
  · unfold leastR
    rw [if_pos h]
    obtain ⟨g1, g2⟩ := leastP_pr (big0 x y) x y h.2 (big0_lt h.2)
    refine Ev_true rfl ?_
    rw [JumpDown_eq, show DownR (leastP k (big0 x y) x y).1 (leastP k (big0 x y) x y).2 k c = (0, 0, false) from by unfold DownR; rw [if_pos ⟨h.1, g1⟩, downR_neg g2]]
    simp only [Option.bind_some]
    exact Ev_false (by simp) (law_j4 hl)
  · unfold leastR
    rw [if_neg h]
    exact Ev_false (by simp) (law_j4 hl)
section Down
variable {k c x y : Int} (hk : KC k c) (h : Pr k c x y) (hlen : (runP k (big0 x y) x y).length ≤ 1000) {l : List Int} (hl : Bytes l)
include hk h hlen hl
theorem down_l0 : ∀ (d i : Nat), i + 1 + d = (runP k (big0 x y) x y).length → Ev (fun j => laws_FnRunsOfPairs.l0 j l k c (runP k (big0 x y) x y) (leastR x y k c).1 (leastR x y k c).2.1 (leastR x y k c).2.2 ((i + 1 : Nat) : Int)) true := by
  have hj3 := law_j3 hl x y k c
  generalize leastR x y k c = R at hj3 ⊢
  have hat := runP_at (big0 x y) x y h (big0_lt h)
  generalize runP k (big0 x y) x y = L at hlen hat ⊢
  intro d
  induction d with
  | zero =>
    intro i hi
    refine Ev_succ ?_
    simp only [laws_FnRunsOfPairs.l0]
    exact Ev_false (by omega) hj3
  | succ d ih =>
    intro i hi
    obtain ⟨u, v, k1, k2, _, _, k5⟩ := hat (i + 1) (by omega)
    obtain ⟨p, q, m1, m2, m3, m4⟩ := k5 (by omega)
    have ih := ih (i + 1) (by omega)
    obtain ⟨e1, e2⟩ := rdRow m1
    obtain ⟨f1, f2⟩ := rdRow k1
    rw [Nat.add_sub_cancel] at e1 e2
    have b1 := k2.1
    have b2 := k2.2.1
    have b3 := k2.2.2.1
    have b4 := m2.1
    have b5 := m2.2.1
    have b6 := m2.2.2.1
    refine Ev_succ ?_
    simp only [laws_FnRunsOfPairs.l0]
    rw [show wrap64 (((i + 1 : Nat) : Int) - 1) = ((i : Nat) : Int) from (w64 (by omega) (by omega)).trans (by omega), e1, f1, rd20, rd21, JumpDown_eq, show DownR p q k c = (u, v, true) from by unfold DownR; rw [if_pos ⟨hk, m2⟩, m3],
      show wrap64 (((i + 1 : Nat) : Int) + 1) = ((i + 1 + 1 : Nat) : Int) from (w64 (by omega) (by omega)).trans (by omega)]
    simp only [Option.bind_some]
    refine Ev_true (by omega) (Ev_true (by omega) (Ev_true (by omega) (Ev_true (by rw [len2]; omega) (Ev_true (by rw [len2]; omega) (Ev_true trivial (Ev_true (by omega) ?_))))))
    refine Ev.bind (a := true) (vSame_same (l := [u, v]) (by simp)) (Ev_true rfl ?_)
    rw [w64 (x := u + v) (by omega) (by omega), w64 (x := p + q) (by omega) (by omega)]
    exact Ev_false (by omega) ih
theorem down_j0 : Ev (fun j => laws_FnRunsOfPairs.j0 j l x y k c (runP k (big0 x y) x y) true (leastR x y k c).1 (leastR x y k c).2.1 (leastR x y k c).2.2 false) true := by
  have hpos := runP_pos h (big0_lt h)
  have hloop := down_l0 hk h hlen hl ((runP k (big0 x y) x y).length - 1) 0 (by omega)
  have hat := runP_at (big0 x y) x y h (big0_lt h)
  obtain ⟨u, v, k1, _, k3, _, _⟩ := hat 0 (by omega)
  obtain ⟨rfl, rfl⟩ := k3 rfl
  obtain ⟨p, q, m1, _, _, m4, _⟩ := hat ((runP k (big0 u v) u v).length - 1) (by omega)
  obtain ⟨_, m5⟩ := m4 (by omega)
  have hR : leastR u v k c = (p, q, true) := by unfold leastR; rw [if_pos ⟨hk, h⟩, m5]
  rw [hR] at hloop ⊢
  generalize runP k (big0 u v) u v = L at hlen hpos hloop k1 m1 ⊢
  obtain ⟨e1, e2⟩ := rdRow0 k1
  obtain ⟨f1, f2⟩ := rdRow m1
  refine Ev_succ ?_
  simp only [laws_FnRunsOfPairs.j0]
  rw [show wrap64 ((L.length : Int) - 1) = ((L.length - 1 : Nat) : Int) from (w64 (by omega) (by omega)).trans (by omega), e1, f1]
  refine Ev_false (by simp) (Ev_true trivial (Ev_true (by omega) (Ev_true (by omega) (Ev_true (by omega) ?_))))
  refine Ev.bind (a := true) (vSame_same (l := [u, v]) (by simp)) (Ev_true rfl ?_)
  refine Ev.bind (a := true) (vSame_same (l := [p, q]) (by simp)) (Ev_succ ?_)
  simp only [laws_FnRunsOfPairs.j1]
  exact Ev_false (by simp) hloop
end Down
theorem runP_rows (k : Int) : ∀ (n : Nat) (x y : Int), ∀ z ∈ runP k n x y, z.length = 2
  | 0, x, y => by simp [runP]
  | n + 1, x, y => by
    intro z hz
    simp only [runP] at hz
    rcases List.mem_cons.1 hz with rfl | hz
    · rfl
    · split at hz
      · exact runP_rows k n _ _ z hz
      · simp at hz

theorem FnRunsOfPairs : laws_FnRunsOfPairs.Pure := by
  intro l m hl1 hl2 hl3 hm1 hm2 hm3
  have hl := Bytes.of hl2 hl3
  have hm := Bytes.of hm2 hm3
  refine Ev_out (g := fun k => laws_FnRunsOfPairs.f k l m) ?_
  unfold laws_FnRunsOfPairs.f
  obtain ⟨b, hb⟩ := big_eq l m
  rw [hb]
  simp only [Option.bind_some]
  by_cases h : b = true
  · exact Ev_true h Ev_some
  refine Ev_false h ?_
  obtain ⟨⟨x, y, k, c⟩, hd⟩ := drawIsJump_ev hl
  have hdr : Ev (fun j => spec_DrawDescendPair.f j l) (x, y, k, c) := by
    unfold spec_DrawDescendPair.f
    exact Ev.bind (f := fun _ (t : Int × Int × Int × Int) => some (t.1, t.2.1, t.2.2.1, t.2.2.2)) hd Ev_some
  refine Ev.bind hdr (Ev.bind (impl_desc x y k c) (Ev.bind (spec_desc x y k c) (Ev.bind (impl_least x y k c) (Ev.bind (spec_least x y k c) (Ev_false (by simp) ?_)))))
  have hrows : (descR x y k c).1.length ≤ 1000 ∧ ∀ z ∈ (descR x y k c).1, z.length ≤ 2 := by
    unfold descR
    split
    · split
      · rename_i q2
        exact ⟨q2, fun z hz => by have := runP_rows k _ _ _ z hz; omega⟩
      · simp
    · simp
  refine Ev.bind (vSameLists_same (by omega) (fun z hz => by have := hrows.2 z hz; omega)) (Ev_true rfl (Ev_false (by simp) (Ev_true rfl (Ev_true rfl ?_))))
  simp only
  rw [vPair_eq]
  simp only [Option.bind_some]
  have hone : ((leastR x y k c).2.2 != decide (KC k c ∧ Pr k c x y)) = false := by
    unfold leastR
    by_cases h : KC k c ∧ Pr k c x y
    · rw [if_pos h, decide_eq_true h]; rfl
    · rw [if_neg h, decide_eq_false h]; rfl
  rw [hone]
  have hskip : Ev (fun j => laws_FnRunsOfPairs.j0 j m x y k c [] false (leastR x y k c).1 (leastR x y k c).2.1 (leastR x y k c).2.2 false) true := by
    refine Ev_succ ?_
    simp only [laws_FnRunsOfPairs.j0]
    exact Ev_false (by simp) (Ev_false (by simp) (law_j3 hm x y k c))
  unfold descR
  by_cases h : KC k c ∧ Pr k c x y
  · rw [if_pos h]
    by_cases hlen : (runP k (big0 x y) x y).length ≤ 1000
    · rw [if_pos hlen]
      exact down_j0 h.1 h.2 hlen hm
    · rw [if_neg hlen]
      exact hskip
  · rw [if_neg h]
    exact hskip
end Go.Proofs.Ytopoekpappdclaa.Pure
