/- Words and their ranks, of both programs. -/
import Derived.Test.YtnfbkakblnppaaaUx5
import Derived.Test.YtnfbkakblnppaaaUx6
import Derived.Test.YtnfbkakblnppaaaUx11
import Derived.Test.YtnfbkakblnppaaaUx12
import Derived.Test.YtnfbkakblnppaaaUQRiTree
namespace Go.Proofs.Ytnfbkakblnppaaa.Q
open Go.RowKit Go.Proofs.Ytnfbkakblnppaaa.P Go.Proofs.YtnfbkakblnppaaaW.PrintWords Go.Proofs.YtnfbkakblnppaaaW.PrintLast
/-- How many shorter words there are. -/
def sh : Nat → Nat
  | 0 => 0
  | n + 1 => 3 * sh n + 1
theorem sh_pow (n : Nat) : 2 * sh n + 1 = 3 ^ n := by
  induction n with
  | zero => rfl
  | succ n ih => rw [Nat.pow_succ, ← ih]; simp only [sh]; omega
theorem sh_step (n : Nat) : sh (n + 1) = sh n + 3 ^ n := by
  have := sh_pow n
  simp only [sh]
  omega
theorem sh_mono {a b : Nat} (h : a ≤ b) : sh a ≤ sh b := by
  induction h with
  | refl => exact Nat.le_refl _
  | step h ih => simp only [sh]; omega
theorem pow_le {n : Nat} (h : n ≤ 19) : 3 ^ n ≤ 1162261467 := Nat.pow_le_pow_right (by omega) h
theorem sh_le {n : Nat} (h : n ≤ 19) : sh n ≤ 581130733 := sh_mono h
def val (w : List Nat) : Nat := w.foldl (fun x k => 3 * x + k) 0
theorem val_snoc (w : List Nat) (k : Nat) : val (w ++ [k]) = 3 * val w + k := by simp [val]
theorem val_lt (w : List Nat) : Digs w → val w < 3 ^ w.length := by
  refine snoc_ind (P := fun w => Digs w → val w < 3 ^ w.length) (fun _ => by decide) (fun w k ih hd => ?_) w
  have h1 := ih (fun x hx => hd x (by simp [hx]))
  have h2 : k ≤ 2 := hd k (by simp)
  rw [val_snoc, List.length_append, List.length_singleton, Nat.pow_succ]
  omega
/-- The last n digits of a number. -/
def dig : Nat → Nat → List Nat
  | 0, _ => []
  | n + 1, v => dig n (v / 3) ++ [v % 3]
theorem dig_len : ∀ (n v : Nat), (dig n v).length = n
  | 0, _ => rfl
  | n + 1, v => by simp [dig, dig_len n]
theorem dig_digs : ∀ (n v : Nat), Digs (dig n v)
  | 0, _ => fun k hk => by simp [dig] at hk
  | n + 1, v => fun k hk => by
    simp only [dig] at hk
    rcases List.mem_append.1 hk with hk | hk
    · exact dig_digs n _ k hk
    · rw [List.mem_singleton.1 hk]; omega
theorem val_dig : ∀ (n v : Nat), v < 3 ^ n → val (dig n v) = v
  | 0, v, h => by simp at h; subst h; rfl
  | n + 1, v, h => by
    simp only [dig]
    rw [val_snoc, val_dig n (v / 3) (by rw [Nat.pow_succ] at h; omega)]
    omega
theorem dig_val (w : List Nat) : Digs w → dig w.length (val w) = w := by
  refine snoc_ind (P := fun w => Digs w → dig w.length (val w) = w) (fun _ => rfl) (fun w k ih hd => ?_) w
  have h1 := ih (fun x hx => hd x (by simp [hx]))
  have h2 : k ≤ 2 := hd k (by simp)
  rw [val_snoc, List.length_append, List.length_singleton]
  simp only [dig]
  rw [show (3 * val w + k) / 3 = val w by omega, show (3 * val w + k) % 3 = k by omega, h1]
/-! ### The rank of a word -/
def rankR (l : List Int) : Int × Bool := if l.length ≤ 18 ∧ allB 0 2 l = true then (((sh l.length + val (l.map Int.toNat) : Nat) : Int), true) else (0, false)
theorem rank_l0 : ∀ (s v : List Nat), Digs (v ++ s) → (v ++ s).length ≤ 18 → Ev (fun j => impl_RankOfWord.l0 j ((sh v.length : Nat) : Int) ((val v : Nat) : Int) (toI (v ++ s)) ((toI (v ++ s)).length : Int) (v.length : Int)) (((sh (v ++ s).length + val (v ++ s) : Nat) : Int), true)
  | [], v, hd, hn => by
    simp only [List.append_nil] at hd hn ⊢
    have h1 := val_lt v hd
    have h2 := pow_le (n := v.length) (by omega)
    have h3 := sh_le (n := v.length) (by omega)
    refine Ev_succ ?_
    simp only [impl_RankOfWord.l0]
    rw [toI_len, w64 (x := ((sh v.length : Nat) : Int) + ((val v : Nat) : Int)) (by omega) (by omega), show ((sh v.length : Nat) : Int) + ((val v : Nat) : Int) = ((sh v.length + val v : Nat) : Int) by omega]
    exact Ev_false (by omega) Ev_some
  | k :: s, v, hd, hn => by
    have hk : k ≤ 2 := hd k (by simp)
    have hdv : Digs v := fun x hx => hd x (by simp [hx])
    have hl : v.length ≤ 18 := by simp at hn; omega
    have h1 := val_lt v hdv
    have h2 := pow_le (n := v.length) (by omega)
    have h3 := sh_le (n := v.length) (by omega)
    have hr : rd (toI (v ++ k :: s)) (v.length : Int) = (k : Int) := by
      have e : toI (v ++ k :: s) = toI v ++ (k : Int) :: toI s := by simp [toI]
      rw [e, ← toI_len v]
      exact rd_mid _ _ _
    have hlen : (toI (v ++ k :: s)).length = v.length + s.length + 1 := by rw [toI_len]; simp; omega
    have ha : v ++ k :: s = (v ++ [k]) ++ s := by simp
    have ih := rank_l0 s (v ++ [k]) (by rw [← ha]; exact hd) (by rw [← ha]; exact hn)
    rw [← ha, val_snoc, show (v ++ [k]).length = v.length + 1 by simp] at ih
    refine Ev_succ ?_
    simp only [impl_RankOfWord.l0]
    rw [hr, w64 (x := 3 * ((sh v.length : Nat) : Int)) (by omega) (by omega), w64 (x := 3 * ((sh v.length : Nat) : Int) + 1) (by omega) (by omega), w64 (x := 3 * ((val v : Nat) : Int)) (by omega) (by omega), w64 (x := 3 * ((val v : Nat) : Int) + k) (by omega) (by omega), w64 (x := (v.length : Int) + 1) (by omega) (by omega)]
    simp only [sh] at ih
    rw [show ((3 * sh v.length + 1 : Nat) : Int) = 3 * ((sh v.length : Nat) : Int) + 1 by omega, show ((3 * val v + k : Nat) : Int) = 3 * ((val v : Nat) : Int) + k by omega, show ((v.length + 1 : Nat) : Int) = (v.length : Int) + 1 by omega] at ih
    exact Ev_true (by omega) (Ev_true (by omega) (Ev_true (by omega) ih))
theorem isPath18 (l : List Int) : impl_isPath.f l 18 = some (decide (l.length ≤ 18 ∧ allB 0 2 l = true)) := by
  unfold impl_isPath.f
  rw [allWithin_eq]
  by_cases h : l.length ≤ 18
  · rw [if_pos (by omega)]
    simp [h]
  · rw [if_neg (by omega), decide_eq_false (fun p => h p.1)]
theorem impl_rank (l : List Int) : Ev (fun j => impl_RankOfWord.f j l) (rankR l) := by
  unfold impl_RankOfWord.f rankR
  rw [isPath18]
  simp only [Option.bind_some]
  by_cases h : l.length ≤ 18 ∧ allB 0 2 l = true
  · rw [if_pos h]
    obtain ⟨d1, d2⟩ := digs_of h.2
    have g := rank_l0 (l.map Int.toNat) [] d1 (by simpa using h.1)
    rw [List.nil_append, d2, List.length_map] at g
    exact Ev_true (decide_eq_true h) g
  · rw [if_neg h]
    exact Ev_false (by simpa using h) Ev_some
theorem power_l0 : ∀ (d n : Nat), n + d ≤ 20 → Ev (fun j => spec_riPower.l0 j (d : Int) ((3 ^ n : Nat) : Int)) ((3 ^ (n + d) : Nat) : Int)
  | 0, n, h => by
    refine Ev_succ ?_
    simp only [spec_riPower.l0]
    exact Ev_false (by omega) Ev_some
  | d + 1, n, h => by
    have := pow_le (n := n) (by omega)
    have ih := power_l0 d (n + 1) (by omega)
    rw [show n + 1 + d = n + (d + 1) by omega, Nat.pow_succ] at ih
    refine Ev_succ ?_
    simp only [spec_riPower.l0]
    generalize 3 ^ n = p at this ih ⊢
    rw [w64 (x := ((d + 1 : Nat) : Int) - 1) (by omega) (by omega), w64 (x := (p : Int) * 3) (by omega) (by omega), show ((d + 1 : Nat) : Int) - 1 = (d : Int) by omega, show (p : Int) * 3 = ((p * 3 : Nat) : Int) by omega]
    exact Ev_true (by omega) ih
theorem power_ev {n : Nat} (h : n ≤ 20) : Ev (fun j => spec_riPower.f j (n : Int)) ((3 ^ n : Nat) : Int) := by
  have g := power_l0 n 0 (by omega)
  rw [Nat.zero_add] at g
  exact g
theorem half_pow {n : Nat} (h : n ≤ 20) : wrap64 (Int.tdiv (wrap64 (((3 ^ n : Nat) : Int) - 1)) 2) = ((sh n : Nat) : Int) := by
  have h1 := sh_pow n
  have h2 : 3 ^ n ≤ 3486784401 := Nat.pow_le_pow_right (by omega) h
  rw [w64 (x := ((3 ^ n : Nat) : Int) - 1) (by omega) (by omega), show ((3 ^ n : Nat) : Int) - 1 = ((2 * sh n : Nat) : Int) by omega, tdiv2, w64 (by omega) (by omega)]
  omega
theorem foRank_l0 (x : Nat) (hx : x ≤ 600000000) : ∀ (s v : List Nat), Digs (v ++ s) → (v ++ s).length ≤ 18 → Ev (fun j => spec_RankOfWord.l0 j (x : Int) ((val v : Nat) : Int) (toI (v ++ s)) ((toI (v ++ s)).length : Int) (v.length : Int)) (((x + val (v ++ s) : Nat) : Int), true)
  | [], v, hd, hn => by
    simp only [List.append_nil] at hd hn ⊢
    have h1 := val_lt v hd
    have h2 := pow_le (n := v.length) (by omega)
    refine Ev_succ ?_
    simp only [spec_RankOfWord.l0]
    rw [toI_len, w64 (x := (x : Int) + ((val v : Nat) : Int)) (by omega) (by omega), show (x : Int) + ((val v : Nat) : Int) = ((x + val v : Nat) : Int) by omega]
    exact Ev_false (by omega) Ev_some
  | k :: s, v, hd, hn => by
    have hk : k ≤ 2 := hd k (by simp)
    have hdv : Digs v := fun x hx => hd x (by simp [hx])
    have hl : v.length ≤ 18 := by simp at hn; omega
    have h1 := val_lt v hdv
    have h2 := pow_le (n := v.length) (by omega)
    have hr : rd (toI (v ++ k :: s)) (v.length : Int) = (k : Int) := by
      have e : toI (v ++ k :: s) = toI v ++ (k : Int) :: toI s := by simp [toI]
      rw [e, ← toI_len v]
      exact rd_mid _ _ _
    have hlen : (toI (v ++ k :: s)).length = v.length + s.length + 1 := by rw [toI_len]; simp; omega
    have ha : v ++ k :: s = (v ++ [k]) ++ s := by simp
    have ih := foRank_l0 x hx s (v ++ [k]) (by rw [← ha]; exact hd) (by rw [← ha]; exact hn)
    rw [← ha, val_snoc, show (v ++ [k]).length = v.length + 1 by simp] at ih
    refine Ev_succ ?_
    simp only [spec_RankOfWord.l0]
    rw [hr, w64 (x := 3 * ((val v : Nat) : Int)) (by omega) (by omega), w64 (x := 3 * ((val v : Nat) : Int) + k) (by omega) (by omega), w64 (x := (v.length : Int) + 1) (by omega) (by omega)]
    rw [show ((3 * val v + k : Nat) : Int) = 3 * ((val v : Nat) : Int) + k by omega, show ((v.length + 1 : Nat) : Int) = (v.length : Int) + 1 by omega] at ih
    exact Ev_true (by omega) (Ev_true (by omega) (Ev_true (by omega) ih))
theorem spec_rank {l : List Int} (hn : l.length ≤ 1000000000000) : Ev (fun j => spec_RankOfWord.f j l) (rankR l) := by
  have hno : Ev (fun j => spec_RankOfWord.j0 j l true) ((0 : Int), false) := by
    refine Ev_succ ?_
    simp only [spec_RankOfWord.j0]
    exact Ev_true trivial Ev_some
  unfold spec_RankOfWord.f rankR
  by_cases h1 : l.length ≤ 18
  · refine Ev_false (by omega) (Ev.bind (l1All_ev 0 2 hn) ?_)
    by_cases h2 : allB 0 2 l = true
    · rw [if_pos ⟨h1, h2⟩, h2]
      obtain ⟨d1, d2⟩ := digs_of h2
      refine Ev_succ ?_
      simp only [spec_RankOfWord.j0]
      refine Ev_false (by simp) (Ev.bind (power_ev (n := l.length) (by omega)) ?_)
      rw [half_pow (by omega)]
      have g := foRank_l0 (sh l.length) (by have := sh_le (n := l.length) (by omega); omega) (l.map Int.toNat) [] d1 (by simpa using h1)
      rw [List.nil_append, d2] at g
      exact g
    · rw [if_neg (fun p => h2 p.2), Bool.eq_false_iff.2 h2]
      exact hno
  · rw [if_neg (fun p => h1 p.1)]
    exact Ev_true (by omega) hno
/-! ### The word of a rank -/
theorem digits_step (n v : Nat) (C : List Int) (x : Int) (_hx : x = ((v % 3 : Nat) : Int)) : (List.replicate (n + 1) (0 : Int) ++ C).set n x = List.replicate n 0 ++ (x :: C) := by
  rw [List.replicate_succ', List.append_assoc, List.set_append_right _ _ (by simp)]
  simp
theorem tdiv3 (a : Nat) : Int.tdiv (a : Int) 3 = ((a / 3 : Nat) : Int) := by
  rw [Int.tdiv_eq_ediv_of_nonneg (by omega)]
  rfl
theorem word_l1 : ∀ (n v : Nat) (C : List Int), v ≤ 4000000000000000000 → n + C.length ≤ 1000 → Ev (fun j => impl_WordOfRank.l1 j (v : Int) (List.replicate n 0 ++ C) ((n : Int) - 1)) (toI (dig n v) ++ C, true)
  | 0, v, C, hv, hn => by
    refine Ev_succ ?_
    simp only [impl_WordOfRank.l1]
    exact Ev_false (by omega) (by simpa [dig, toI] using Ev_some)
  | n + 1, v, C, hv, hn => by
    have hl : (List.replicate (n + 1) (0 : Int) ++ C).length = n + 1 + C.length := by simp
    refine Ev_succ ?_
    simp only [impl_WordOfRank.l1]
    rw [show ((n + 1 : Nat) : Int) - 1 = (n : Int) by omega, tdiv3, show Int.tmod (v : Int) 3 = ((v % 3 : Nat) : Int) from tmod_nat v 3, w64 (x := ((v / 3 : Nat) : Int)) (by omega) (by omega), w64 (x := (n : Int) - 1) (by omega) (by omega), Int.toNat_natCast, digits_step n v C _ rfl]
    refine Ev_true (by omega) (Ev_true (by omega) (Ev_true (by rw [hl]; omega) ?_))
    have ih := word_l1 n (v / 3) (((v % 3 : Nat) : Int) :: C) (by omega) (by simp only [List.length_cons]; omega)
    rw [show toI (dig (n + 1) v) ++ C = toI (dig n (v / 3)) ++ (((v % 3 : Nat) : Int) :: C) by simp only [dig]; rw [toI_snoc]; simp]
    exact ih
theorem foWord_l1 : ∀ (n v : Nat) (C : List Int), v ≤ 4000000000000000000 → n + C.length ≤ 1000 → Ev (fun j => spec_WordOfRank.l1 j (v : Int) (List.replicate n 0 ++ C) ((n : Int) - 1)) (toI (dig n v) ++ C, true)
  | 0, v, C, hv, hn => by
    refine Ev_succ ?_
    simp only [spec_WordOfRank.l1]
    exact Ev_false (by omega) (by simpa [dig, toI] using Ev_some)
  | n + 1, v, C, hv, hn => by
    have hl : (List.replicate (n + 1) (0 : Int) ++ C).length = n + 1 + C.length := by simp
    refine Ev_succ ?_
    simp only [spec_WordOfRank.l1]
    rw [show ((n + 1 : Nat) : Int) - 1 = (n : Int) by omega, tdiv3, show Int.tmod (v : Int) 3 = ((v % 3 : Nat) : Int) from tmod_nat v 3, w64 (x := ((v / 3 : Nat) : Int)) (by omega) (by omega), w64 (x := (n : Int) - 1) (by omega) (by omega), Int.toNat_natCast, digits_step n v C _ rfl]
    refine Ev_true (by omega) (Ev_true (by omega) (Ev_true (by rw [hl]; omega) ?_))
    have ih := foWord_l1 n (v / 3) (((v % 3 : Nat) : Int) :: C) (by omega) (by simp only [List.length_cons]; omega)
    rw [show toI (dig (n + 1) v) ++ C = toI (dig n (v / 3)) ++ (((v % 3 : Nat) : Int) :: C) by simp only [dig]; rw [toI_snoc]; simp]
    exact ih
/-- The answer: n digits of what is left, where sh n ≤ r < sh (n + 1). -/
def Ans (r : Nat) (q : List Int × Bool) : Prop := ∃ n, n ≤ 18 ∧ sh n ≤ r ∧ r < sh (n + 1) ∧ q = (toI (dig n (r - sh n)), true)
theorem ans_of {r : Nat} (h : r < 581130733) : ∃ n, n ≤ 18 ∧ sh n ≤ r ∧ r < sh (n + 1) := by
  have : ∀ n, n ≤ 19 → r < sh n → ∃ k, k < n ∧ sh k ≤ r ∧ r < sh (k + 1) := by
    intro n
    induction n with
    | zero => intro _ h; simp [sh] at h
    | succ n ih =>
      intro hn h
      by_cases g : r < sh n
      · obtain ⟨k, h1, h2⟩ := ih (by omega) g
        exact ⟨k, by omega, h2⟩
      · exact ⟨n, by omega, by omega, h⟩
  obtain ⟨k, h1, h2⟩ := this 19 (by omega) h
  exact ⟨k, by omega, h2⟩
theorem wordOfRank_go {r n : Nat} (hn : n ≤ 18) (h1 : sh n ≤ r) (h2 : r < sh (n + 1)) : ∀ (d k : Nat), k + d = n → Ev (fun j => impl_WordOfRank.l0 j ((r - sh k : Nat) : Int) (k : Int) ((3 ^ k : Nat) : Int)) (toI (dig n (r - sh n)), true) := by
  have hr : r ≤ 581130733 := by have := sh_le (n := n + 1) (by omega); omega
  intro d
  induction d with
  | zero =>
    intro k hk
    have hk : k = n := by omega
    subst hk
    have hs := sh_step k
    refine Ev_succ ?_
    simp only [impl_WordOfRank.l0]
    refine Ev_false (by omega) (Ev_succ ?_)
    simp only [impl_WordOfRank.j1]
    rw [decide_eq_false (show ¬ (k : Int) > 18 by omega)]
    refine Ev_false (by omega) (Ev_succ ?_)
    simp only [impl_WordOfRank.j2]
    rw [w64 (x := (k : Int) - 1) (by omega) (by omega), Int.toNat_natCast]
    refine Ev_false (by simp) (Ev_true (by omega) (Ev_true (by omega) ?_))
    have h := word_l1 k (r - sh k) [] (by omega) (by simp; omega)
    simpa using h
  | succ d ih =>
    intro k hk
    have hs := sh_step k
    have hm := sh_mono (show k + 1 ≤ n by omega)
    have hp := pow_le (n := k) (by omega)
    have ih := ih (k + 1) (by omega)
    refine Ev_succ ?_
    simp only [impl_WordOfRank.l0]
    rw [Nat.pow_succ] at ih
    generalize 3 ^ k = p at hs hp ih ⊢
    rw [w64 (x := ((r - sh k : Nat) : Int) - (p : Int)) (by omega) (by omega), w64 (x := (k : Int) + 1) (by omega) (by omega), w64 (x := (p : Int) * 3) (by omega) (by omega),
      show ((r - sh k : Nat) : Int) - (p : Int) = ((r - sh (k + 1) : Nat) : Int) by omega, show (p : Int) * 3 = ((p * 3 : Nat) : Int) by omega]
    exact Ev_true (by omega) (Ev_true (by omega) ih)
theorem wordOfRank_far {r : Nat} (h1 : 581130733 ≤ r) (hr : r ≤ 9223372036854775807) : ∀ (d k : Nat), k + d = 19 → Ev (fun j => impl_WordOfRank.l0 j ((r - sh k : Nat) : Int) (k : Int) ((3 ^ k : Nat) : Int)) (([] : List Int), false) := by
  have hj : ∀ x : Int, Ev (fun j => impl_WordOfRank.j1 j x (19 : Nat)) (([] : List Int), false) := by
    intro x
    have h2 : Ev (fun j => impl_WordOfRank.j2 j x (19 : Nat) true) (([] : List Int), false) := by
      refine Ev_succ ?_
      simp only [impl_WordOfRank.j2]
      exact Ev_true trivial Ev_some
    refine Ev_succ ?_
    simp only [impl_WordOfRank.j1]
    rw [decide_eq_true (show ((19 : Nat) : Int) > 18 by omega)]
    by_cases hx : x < 0
    · exact Ev_true hx h2
    · exact Ev_false hx h2
  intro d
  induction d with
  | zero =>
    intro k hk
    have hk : k = 19 := by omega
    subst hk
    refine Ev_succ ?_
    simp only [impl_WordOfRank.l0]
    by_cases hx : ((r - sh 19 : Nat) : Int) ≥ ((3 ^ 19 : Nat) : Int)
    · exact Ev_true hx (Ev_false (by omega) (hj _))
    · exact Ev_false hx (hj _)
  | succ d ih =>
    intro k hk
    have hs := sh_step k
    have hm : sh (k + 1) ≤ 581130733 := sh_le (by omega)
    have hp := pow_le (n := k) (by omega)
    have ih := ih (k + 1) (by omega)
    refine Ev_succ ?_
    simp only [impl_WordOfRank.l0]
    rw [Nat.pow_succ] at ih
    generalize 3 ^ k = p at hs hp ih ⊢
    rw [w64 (x := ((r - sh k : Nat) : Int) - (p : Int)) (by omega) (by omega), w64 (x := (k : Int) + 1) (by omega) (by omega), w64 (x := (p : Int) * 3) (by omega) (by omega),
      show ((r - sh k : Nat) : Int) - (p : Int) = ((r - sh (k + 1) : Nat) : Int) by omega, show (p : Int) * 3 = ((p * 3 : Nat) : Int) by omega]
    exact Ev_true (by omega) (Ev_true (by omega) ih)
theorem wordOfRank_neg {r : Int} (h : r < 0) : Ev (fun j => impl_WordOfRank.f j r) (([] : List Int), false) := by
  unfold impl_WordOfRank.f
  refine Ev_succ ?_
  simp only [impl_WordOfRank.l0]
  refine Ev_false (by omega) (Ev_succ ?_)
  simp only [impl_WordOfRank.j1]
  refine Ev_true h (Ev_succ ?_)
  simp only [impl_WordOfRank.j2]
  exact Ev_true trivial Ev_some
theorem foWord_go {r n : Nat} (hn : n ≤ 18) (h1 : sh n ≤ r) (h2 : r < sh (n + 1)) : ∀ (d k : Nat), k + d = n → Ev (fun j => spec_WordOfRank.l0 j (r : Int) (k : Int)) (toI (dig n (r - sh n)), true) := by
  have hr : r ≤ 581130733 := by have := sh_le (n := n + 1) (by omega); omega
  intro d
  induction d with
  | zero =>
    intro k hk
    have hk : k = n := by omega
    subst hk
    refine Ev_succ ?_
    simp only [spec_WordOfRank.l0]
    have hp1 := power_ev (n := k + 1) (by omega)
    have hp0 := power_ev (n := k) (by omega)
    rw [w64 (x := (k : Int) + 1) (by omega) (by omega), show (k : Int) + 1 = ((k + 1 : Nat) : Int) by omega]
    refine Ev.bind hp1 ?_
    rw [half_pow (by omega)]
    refine Ev_false (by omega) (Ev.bind hp0 ?_)
    rw [half_pow (by omega), w64 (x := (r : Int) - ((sh k : Nat) : Int)) (by omega) (by omega), w64 (x := (k : Int) - 1) (by omega) (by omega), Int.toNat_natCast, show (r : Int) - ((sh k : Nat) : Int) = ((r - sh k : Nat) : Int) by omega]
    refine Ev_true (by omega) (Ev_true (by omega) ?_)
    have h := foWord_l1 k (r - sh k) [] (by omega) (by simp; omega)
    simpa using h
  | succ d ih =>
    intro k hk
    have hm := sh_mono (show k + 1 ≤ n by omega)
    have ih := ih (k + 1) (by omega)
    refine Ev_succ ?_
    simp only [spec_WordOfRank.l0]
    have hp1 := power_ev (n := k + 1) (by omega)
    rw [w64 (x := (k : Int) + 1) (by omega) (by omega), show (k : Int) + 1 = ((k + 1 : Nat) : Int) by omega]
    refine Ev.bind hp1 ?_
    rw [half_pow (by omega)]
    exact Ev_true (by omega) ih
theorem spec_word_no {r : Int} (h : r < 0 ∨ 581130733 ≤ r) : Ev (fun j => spec_WordOfRank.f j r) (([] : List Int), false) := by
  have hj : Ev (fun j => spec_WordOfRank.j0 j r true) (([] : List Int), false) := by
    refine Ev_succ ?_
    simp only [spec_WordOfRank.j0]
    exact Ev_true trivial Ev_some
  unfold spec_WordOfRank.f
  by_cases h0 : r < 0
  · exact Ev_true h0 hj
  · have hp := power_ev (n := 19) (by omega)
    refine Ev_false h0 (Ev.bind hp ?_)
    rw [half_pow (by omega), decide_eq_true (show r ≥ ((sh 19 : Nat) : Int) by have : sh 19 = 581130733 := rfl; omega)]
    exact hj
theorem spec_word_yes {r n : Nat} (hn : n ≤ 18) (h1 : sh n ≤ r) (h2 : r < sh (n + 1)) : Ev (fun j => spec_WordOfRank.f j (r : Int)) (toI (dig n (r - sh n)), true) := by
  have hr := sh_le (n := n + 1) (by omega)
  unfold spec_WordOfRank.f
  have hp := power_ev (n := 19) (by omega)
  refine Ev_false (by omega) (Ev.bind hp ?_)
  rw [half_pow (by omega), decide_eq_false (show ¬ (r : Int) ≥ ((sh 19 : Nat) : Int) by have : sh 19 = 581130733 := rfl; omega)]
  refine Ev_succ ?_
  simp only [spec_WordOfRank.j0]
  exact Ev_false (by simp) (foWord_go hn h1 h2 n 0 (by omega))
theorem impl_word_yes {r n : Nat} (hn : n ≤ 18) (h1 : sh n ≤ r) (h2 : r < sh (n + 1)) : Ev (fun j => impl_WordOfRank.f j (r : Int)) (toI (dig n (r - sh n)), true) := by
  unfold impl_WordOfRank.f
  exact wordOfRank_go hn h1 h2 n 0 (by omega)
theorem impl_word_far {r : Nat} (h1 : 581130733 ≤ r) (hr : r ≤ 9223372036854775807) : Ev (fun j => impl_WordOfRank.f j (r : Int)) (([] : List Int), false) := by
  unfold impl_WordOfRank.f
  exact wordOfRank_far h1 hr 19 0 (by omega)
end Go.Proofs.Ytnfbkakblnppaaa.Q
